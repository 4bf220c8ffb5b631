/-
  Laws of walks through programs, and facts on grammars, trees and queries.
  Conditions: none.
-/
import Derived.Test.YtiefglecbgdaiaaGreatDoorGR1
import Derived.Lib.LaidU8
import Derived.LaidMore
import Derived.Lay
import Derived.Stop.Joined
import Derived.Deep.DeepHandedRow
import Derived.Lib.Mul64
import Derived.Shelf.Spec.BitsCarry
import Derived.Laws.IdiomStrings
import Derived.Stop.IfaceNil
import Derived.Below
import Derived.Lib.ValidU
import Derived.Lib.RuneCount
import Derived.Lib.IndexAny
import Derived.Lib.TrimUEq
import Derived.Test.YtiefglecbgdaiaaGreatDoorChecked
import Derived.Laws.Small
set_option maxRecDepth 20000
set_option linter.unusedVariables false
set_option linter.unusedSimpArgs false
namespace Go.J
open Go
section
variable {n:Nat}{F:Fr}{c:Ctx}{H R:List ay}{T:Act→World→Prop}
theorem St.jU {ι:Sort _}(d:e8)[hd:mT d H](L:ι→List e8)(h:∀ρ,d.f ρ→∃x,∀e∈L x,e.f ρ)(k:∀x,St n F (Mm c ((L x).map aD++H)) T):St n F (Mm c H) T:=by
 intro a w b hw;obtain⟨ρ,hm⟩:=hw.out;obtain⟨x,hx⟩:=h ρ (dJ.1 (hm.dR _ hd.mem));exact k x a w b (Mm.mk (hm.BA (L x) hx))
theorem St.fF (d:e8)(L:List e8)[hd:lG L H](h:∀ρ,(∀e∈L,e.f ρ)→d.f ρ)(k:St n F (Mm c (aD d::H)) T):St n F (Mm c H) T:=
 St.fact d (λρ w hm=>h ρ λe he=>dJ.1 (hm.dR _ (hd.mem e he))) k
def SS {α:Type}(Rr:Rp α)(v:Value)(l:List (List α)):e8:=⟨λρ=>∃vs:List ah,vs.length=l.length∧(sl cr v vs).f ρ∧(Ut Rr vs l).f ρ,
 λρ kK h ⟨vs,h1,a,b⟩=>⟨vs,h1,(sl cr v vs).mono _ _ h a,(Ut Rr vs l).mono _ _ h b⟩⟩
class XJ (v:Value)(H:List ay)(α:outParam Type)(R:outParam (Rp α))(xs:outParam (List (List α))):Prop where
 mem:aD (SS R v xs)∈H
instance (priority:=high) XJ.here {α:Type}(v:Value)(R:Rp α)(xs:List (List α))(H:List ay):XJ v (aD (SS R v xs)::H) α R xs:=⟨aR ..⟩
theorem St.Z3 {α:Type}{Rr:Rp α}{l:List (List α)}(v:Value)[hd:XJ v H α Rr l](k:∀vs:List ah,vs.length=l.length→St n F (Mm c (aD (sl cr v vs)::aD (J.Ut Rr vs l)::H)) T):St n F (Mm c H) T:=by
 intro a w b hw;obtain⟨ρ,hm⟩:=hw.out;obtain⟨vs,h1,d,e⟩:=dJ.1 (hm.dR _ hd.mem);exact k vs h1 a w b (Mm.mk ((hm.fact _ e).fact _ d))
theorem cW {α:Type}{xs:List α}{x:α}:xs.length+1=(xs++ [x]).length:=by rw[cA];rfl
theorem St.ahG {α:Type}{Rr:Rp α}(vs:List ah){iZ:List (List α)}[h1:XK vs H α Rr iZ](g:vs.length=iZ.length)(k:(∀xs∈iZ,∀x∈xs,Rr.wf x)→St n F (Mm c H) T):St n F (Mm c H) T:=by
 intro a w d hw;obtain⟨ρ,hm⟩:=hw.out;refine k (λxs b x hx=> ?_) a w d hw;obtain⟨i,hi,he⟩:=Ar.1 b
 have e:i<vs.length:=by omega
 obtain⟨_,_,_,_,_,f,_⟩:=dJ.1 (hm.dR _ h1.mem) i vs[i] xs (bT e) (by rw[bT hi,he]);exact f x hx
theorem St.gi {α:Type}(Rr:Rp α)(k:St n F (Mm c (aD (sl Rr (.slice none 0 0) [])::H)) T):St n F (Mm c H) T:=St.fact _ (λ_ _ _=>lp Rr _) k
end
section
variable {P:Program}{Q:Exit→Act→World→Prop}{n:Nat}{F:Fr}{c:Ctx}{H Fp:List ay}
theorem SW.split {ops:Array Oper}{r:List ay}{f:Nat}{listed:Array Bool}(k:Nat)(b:Bool)(hk:look F k=some (.bool b))(ht:b=true→SW P ops Q n ((k,.bool true)::F) c Fp r f listed)(a:b=false→SW P ops Q n ((k,.bool false)::F) c Fp r f listed):SW P ops Q n F c Fp r f listed:=by
 cases b with
 |true=>exact SW.slot k (.bool true) hk rfl (ht rfl)
 |false=>exact SW.slot k (.bool false) hk rfl (a rfl)
theorem St.aoB {id:Nat}{l:List Oper}(L:List ay)[b:fE L H Fp](hm:P.follows .mixedOrders=true)
 (h:SW P l.toArray Q n F c Fp L l.length (Array.replicate l.length false)):St n F (Mm c H) ((Code.region id l.toArray true).wp P Q):=by
 intro a w d hw;refine wp_region_any hm ?_
 have h1:=h a d
 have e:Mm c (Fp++L) {w with drawn:=w.drawn+1}:=by
  obtain⟨ρ,k⟩:=((Mm.drawn c H) w hw).out;exact Mm.mk (k.perm (b.perm.trans kf))
 simpa using WR.any (C:=λR=>Mm c (Fp++R)) l.length _ a L _ e h1
end
section
variable {P:Program}{Q:Exit→Act→World→Prop}{n:Nat}{F:Fr}{c:Ctx}{H Fp r:List ay}
theorem St.ef {id:Nat}{l:List Oper}(L:List ay)[d:fE L H Fp](hm:P.follows .mixedOrders=true)
 (h:NP Q→Region.noSelect l.toArray=true→SW P l.toArray Q n F c Fp L l.length (Array.replicate l.length false)) (a:NP Q:=by repeat(first|refine NP.then ?_|refine NP.inBlock ?_|exact NP.body)) (b:Region.noSelect l.toArray=true:=by kernel_rfl):St n F (Mm c H) ((Code.region id l.toArray true).wp P Q):=
 St.aoB L hm (h a b)
theorem St.jm {id:Nat}{l:List Oper}(bs:List Nat)[d:ye bs H r Fp](hm:P.follows .mixedOrders=true)
 (h:NP Q→Region.noSelect l.toArray=true→SW P l.toArray Q n F c Fp r l.length (Array.replicate l.length false)) (a:NP Q:=by repeat(first|refine NP.then ?_|refine NP.inBlock ?_|exact NP.body)) (b:Region.noSelect l.toArray=true:=by kernel_rfl):St n F (Mm c H) ((Code.region id l.toArray true).wp P Q):=
 St.par bs hm (h a b)
end
end Go.J
namespace Go.J
open Go Go.ChangeShapes Go.WideShapes Go.ChangeAt Go.RowKit Go.Deep
section
variable {H:Type}{enc:TypeId×Value→H}{P:Program}{W:World}{α:Type}
end
theorem H6 {P : Program} {W : World} {g3 g4 k s m n : Nat} {o : Array Field} (n3 : P.globalNamed "unicode/utf8.first" = some g3) (n4 : P.globalNamed "unicode/utf8.acceptRanges" = some g4)
 (y3:(P.globals[g3]?).map (·.type)=some k) (y4:(P.globals[g4]?).map (·.type)=some s) (t3:P.underlying k=some (.array 256 m)) (t5:P.underlying m=some (.int .u8)) (t4:P.underlying s=some (.array 16 n)) (v:P.underlying n=some (.struct o))
 (w:∀(i:Nat) (f:Field),o[i]?=some f→P.underlying f.type=some (.int .u8)∧f.offset=i∧P.cellsOf f.type=1) (x:o.size=2) (c5:P.cellsOf m=1) (c3:P.cellsOf k=256) (cs:P.cellsOf n=2)
 {l : List (String × DataW Unit)} (h : laidMetH P l W) (hp : (laidMetH P l W) = laidMet P l W) (m3 : ("unicode/utf8.first", Lib.firstData) ∈ l) (m4 : ("unicode/utf8.acceptRanges", Lib.acceptData) ∈ l) : Lib.Utf8Tabs g3 g4 W := by
 rw[hp]at h
 have y:=Lib.laidMet.reads h m3
 have z:=Lib.laidMet.reads h m4
 refine⟨λc A=> ?_,λi hi=> ?_⟩
 ·obtain⟨g,t,cs,fuel,p,a,r,e,hd⟩:=y
  obtain rfl:=Option.some.inj (n3.symm.trans a);obtain rfl:=Option.some.inj (y3.symm.trans r)
  have j:=Lib.cells_of_tab t3 t5 c5 c3 hd
  have:=World.var?_cell a e c
  rw[this,←Jg,j]
  simp[Lib.firstTab,A]
 ·obtain⟨g,t,cells,fuel,p,a,r,e,hd⟩:=z
  obtain rfl:=Option.some.inj (n4.symm.trans a);obtain rfl:=Option.some.inj (y4.symm.trans r);obtain⟨B,d,q,b,he⟩:=Lib.array_elem t4 hd i hi
  simp only[List.getElem?_map,List.getElem?_range hi,Option.map_some,Option.some.injEq]at b
  subst b;rw[cs]at he
  have j:=Lib.ints_of_struct v w (by rw[cs,x]) he
  have e0:=congrArg (·[0]?) j
  have u:=congrArg (·[1]?) j
  simp only[List.getElem?_take,List.getElem?_drop]at e0 u
  constructor
  ·rw[World.var?_cell a e (2*i),←Jg]
   simpa[Nat.mul_comm]using e0
  ·rw[World.var?_cell a e (2*i+1),←Jg]
   simpa[Nat.mul_comm]using u
theorem yy {W w:World}(h:∀(k:Nat) (o:Obj),W.heap[k]?=some o→w.heap[k]?=some o){g o:Nat}{v:Value}(a:W.cell? ⟨g,o,none⟩=some v):w.cell? ⟨g,o,none⟩=some v:=by
 obtain⟨_,C,e,fr,b,c⟩:=jz a
 rw[cg (h _ _ b)];exact c
theorem Ec {W w:World}{g3 g4:Nat}(h:Lib.Utf8Tabs g3 g4 W)(hw:∀(k:Nat) (o:Obj),W.heap[k]?=some o→w.heap[k]?=some o):Lib.Utf8Tabs g3 g4 w:=
 ⟨λc a=>yy hw (h.1 c a),λi hi=>⟨yy hw (h.2 i hi).1,yy hw (h.2 i hi).2⟩⟩
end Go.J
namespace Go.J
open Go
section
variable {α:Type}
theorem B9 {p:α→Bool}{s:List α}{k:Nat}{d:α}(h:(s.take k).all p=true)(hk:p (s.getD k d)=true):(s.take (k+1)).all p=true:=by
 by_cases a:k<s.length
 ·rw[LO a,List.all_append,h]
  rw[ax,bT a]at hk
  simpa using hk
 ·rw[fZ zE];rwa[fZ zE]at h
theorem sQ {p:α→Bool}{s:List α}{k:Nat}{x:α}(h:(s.take k).all p=true)(hx:s[k]?=some x)(hk:p x=true):(s.take (k+1)).all p=true:=by
 obtain⟨a,rfl⟩:=fj.1 hx;rw[LO a,List.all_append,h]
 simpa using hk
theorem DJ {p:α→Bool}{s:List α}{k:Nat}{d:α}(hk:k<s.length)(h:p (s.getD k d)=false):s.all p=false:=by
 rw[ax,bT hk]at h;rw[List.all_eq_false];exact⟨s[k],gl hk,by simpa using h⟩
theorem FC {p:α→Bool}{s:List α}{k:Nat}(h:(s.take k).all p=true)(hk:s.length≤k):s.all p=true:=by rwa[fZ hk]at h
theorem aF {s:List α}{k:Nat}(h:k<s.length):∃x,s[k]?=some x:=⟨_,bT h⟩
theorem bW {s:List α}{k:Nat}{x:α}(h:s[k]?=some x):s.drop k=x::s.drop (k+1):=by
 obtain⟨a,rfl⟩:=fj.1 h;exact List.drop_eq_getElem_cons a
theorem bO {s:List α}{k:Nat}{x:α}(h:s[k]?=some x):k<s.length:=(fj.1 h).1
theorem ag {s:List α}{k:Nat}{x:α}(h:s[k]?=some x):s.take (k+1)=s.take k++ [x]:=by
 obtain⟨a,rfl⟩:=fj.1 h;exact LO a
end
theorem be {a b:Bool}(h:a=b):qS [Value.bool a]= .bool b:=by rw[h];rfl
theorem ie {a b:Int}(h:a=b):qS [iv a]=iv b:=by rw[h];rfl
def ix {β:Type}(p:β→Bool)(l:List β):Int:=match l.findIdx? p with|some i=>(i:Int)|none=> -1
theorem G0 {β:Type}{p:β→Bool}{l:List β}{k:Nat}{x:β}(h:(l.take k).all (λy=> !p y)=true)(hx:l[k]?=some x)(hp:p x=true):ix p l=k:=by
 obtain⟨a,rfl⟩:=fj.1 hx
 have:l.findIdx? p=some k:=by
  rw[List.findIdx?_eq_some_iff_getElem];refine⟨a,hp,λj b=> ?_⟩;rw[fY]at h
  have h1:=h l[j] (by rw[List.mem_take_iff_getElem];exact⟨j,by omega,rfl⟩)
  simpa using h1
 simp only[ix,this]
theorem KU {β:Type}{p:β→Bool}{l:List β}{k:Nat}(h:(l.take k).all (λy=> !p y)=true)(hk:l.length≤k):ix p l= -1:=by
 rw[fZ hk,fY]at h
 have:l.findIdx? p=none:=by
  rw[List.findIdx?_eq_none_iff];intro x hx
  simpa using h x hx
 simp only[ix,this]
theorem PO {β:Type}(p:β→Bool)(l:List β):(ix p l= -1∧∀x∈l,p x=false)∨∃(k:Nat) (x:β),l[k]?=some x∧p x=true∧ix p l=k∧∀(j:Nat) (y:β),j<k→l[j]?=some y→p y=false:=by
 unfold ix
 cases h:l.findIdx? p with
 |none=>left;exact⟨rfl,by simpa using List.findIdx?_eq_none_iff.1 h⟩
 |some k=>
  right
  obtain⟨b,hp,c⟩:=List.findIdx?_eq_some_iff_getElem.1 h;refine⟨k,l[k],bT b,hp,rfl,λj y a hy=> ?_⟩;obtain⟨d,rfl⟩:=fj.1 hy
  simpa using c j a
theorem CL {β:Type}(p:β→Bool)(l:List β):decide (0≤ix p l)=l.any p:=by
 rcases PO p l with⟨h1,a⟩|⟨k,x,h1,a,b,_⟩
 ·rw[h1];symm;simp[List.any_eq_false];exact a
 ·rw[b]
  have:l.any p=true:=An.2 ⟨x,aY h1,a⟩
  rw[this];simp
def fv (f:Int×Int):Value:= .agg #[iv f.1,iv f.2]
theorem fe {a b:Int}{f:Int×Int}(h:f=(a,b)):qS [.agg #[iv a,iv b]]=fv f:=by rw[h];rfl
def low (c:UInt8):Bool:=decide ((97:Int)≤c.toNat)&&decide ((c.toNat:Int)≤122)
def digit (c:UInt8):Bool:=decide ((48:Int)≤c.toNat)&&decide ((c.toNat:Int)≤57)
def p7 (c:UInt8):Bool:=low c||digit c||decide ((c.toNat:Int)=95)||decide ((c.toNat:Int)=45)
def isName (s:cM):Bool:=decide (0<s.length)&&decide (s.length≤30)&&low (s.getD 0 0)&&s.all p7
theorem Fw {s:cM}(h:((s.length:Int)=0∨30<(s.length:Int))∨((s.getD 0 0).toNat:Int)<97∨122<((s.getD 0 0).toNat:Int)):isName s=false:=by
 simp only[isName,low,Bool.and_eq_false_iff,decide_eq_false_iff_not]
 left;omega
theorem Fx {s:cM}{k:Nat}(hk:k<s.length)(h:p7 (s.getD k 0)=false):isName s=false:=by
 simp only[isName,DJ hk h,Bool.and_false]
theorem Fy {s:cM}(a:0<s.length)(h1:s.length≤30)(b:low (s.getD 0 0)=true)(h:s.all p7=true):isName s=true:=by
 simp only[isName,b,h,Bool.and_true,Bool.and_eq_true,decide_eq_true_eq]
 exact⟨a,h1⟩
abbrev uv (n:Nat):Value:= .int .u64 (n:Int)
abbrev wv (n:Nat):Value:= .agg #[uv (n/18446744073709551616),uv (n%18446744073709551616)]
theorem Ou (a b:Nat):Nat.gcd b (a%b)=Nat.gcd a b:=by
 rw[Nat.gcd_comm a b,Nat.gcd_rec b a,Nat.gcd_comm]
abbrev Pr:=Int×Int
def mD (n d at_:Int):Pr:=
 if n< -1152921504606846976∨1152921504606846976<n∨d<1∨1152921504606846976<d then(3,at_)
 else if Nat.gcd n.natAbs d.toNat=1 then(0,0)else(5,at_)
def ja (x y:Pr):Pr:=if(mD x.1 x.2 (-1)).1=0 then mD y.1 y.2 (-2)else mD x.1 x.2 (-1)
def qM (neg:Bool)(n d:Nat):Pr×Pr:=
 if 1152921504606846976<n∨1152921504606846976<d then((0,0),(18,0))else((if neg then-(n:Int)else n,d),(0,0))
def jS (neg:Bool)(n d:Nat):Pr×Pr:=qM neg (n/Nat.gcd n d) (d/Nat.gcd n d)
def jB (n:Int)(d:Nat):Pr×Pr:=jS (decide (n<0)) n.natAbs d
def oQ (n d:Int):Pr×Pr:=if d=0 then((0,0),(19,-2))else jS (decide (n<0) !=decide (d<0)) n.natAbs d.natAbs
def gX (x y:Pr):Pr×Pr:=jB (x.1*y.2+y.1*x.2) (x.2*y.2).toNat
def Ol (y:Pr):Pr:=(-y.1,y.2)
def qA (x y:Pr):Pr×Pr:=jB (x.1*y.1) (x.2*y.2).toNat
def Oh (y:Pr):Pr:=if y.1<0 then(-y.2,-y.1)else(y.2,y.1)
def lL (k:Nat)(x y:Pr):Pr×Pr:=
 if(ja x y).1=0 then
  match k with
  |0=>gX x y
  |1=>gX x (Ol y)
  |2=>qA x y
  |_=>if y.1=0 then((0,0),(19,-2))else qA x (Oh y)
 else((0,0),ja x y)
def gK (x y:Pr):Int:=if x.1*y.2<y.1*x.2 then-1 else if x.1*y.2=y.1*x.2 then 0 else 1
def jM (x y:Pr):Int×Pr:=if(ja x y).1=0 then(gK x y,(0,0))else(0,ja x y)
structure ij (x:Pr):Prop where
 lo: -1152921504606846976≤x.1
 hi:x.1≤1152921504606846976
 pos:1≤x.2
 big:x.2≤1152921504606846976
 cop:Nat.gcd x.1.natAbs x.2.toNat=1
theorem oy {n d at_:Int}:(mD n d at_).1=0↔ij (n,d):=by
 unfold mD
 split
 ·rename_i h
  constructor
  ·intro h1;simp at h1
  ·rintro ⟨h1,b,c,e,a⟩;simp only at h1 b c e;omega
 ·rename_i h
  split
  ·rename_i h1
   exact⟨λ_=>⟨by simp only;omega,by simp only;omega,by simp only;omega,by simp only;omega,h1⟩,λ_=>rfl⟩
  ·rename_i h1
   constructor
   ·intro h1;simp at h1
   ·rintro ⟨_,_,_,_,a⟩;exact absurd a h1
theorem Oa {n d at_:Int}(h:ij (n,d)):mD n d at_=(0,0):=by
 have h1:=oy (at_:=at_).2 h
 unfold mD at h1⊢
 split
 ·rename_i a;rw[aB a]at h1;simp at h1
 ·rename_i a
  rw[aA a]at h1
  split
  ·rfl
  ·rename_i b;rw[aA b]at h1;simp at h1
theorem mn {x y:Pr}:(ja x y).1=0↔ij x∧ij y:=by
 unfold ja
 split
 ·rename_i h
  rw[oy]at h⊢;exact⟨λk=>⟨h,k⟩,λk=>k.2⟩
 ·rename_i h
  constructor
  ·intro k;exact absurd k h
  ·rintro ⟨k,_⟩;exact absurd (oy.2 k) h
theorem CB {x y:Pr}(hx:ij x)(hy:ij y):ja x y=(0,0):=by
 unfold ja;rw[aB (oy.2 hx),Oa hy]
section
variable {P:Program}{n:Nat}{F:Fr}{A:World→Prop}{ty:TypeId}{x y:Operand}{t u:TypeId}{a b:Nat}
theorem Wz {i:Int}:IntKind.u64.wrap i=i%18446744073709551616:=by
 simp only[IntKind.wrap,IntKind.bits,IntKind.signed];simp
theorem jQ (m:Nat):IntKind.u64.wrap (m:Int)=((m%18446744073709551616:Nat):Int):=by rw[Wz];omega
theorem Ev.Sp (hx:aa F x (uv a))(hy:aa F y (uv b)):Ev P n F A (.binOp .add t x y u) ty (uv ((a+b)%18446744073709551616)):=by
 have:=Ev.XZ (P:=P) (n:=n) (A:=A) (ty:=ty) (t:=t) (u:=u) hx hy;rwa[←Int.natCast_add,jQ]at this
theorem Ev.DF (hx:aa F x (uv a))(hy:aa F y (uv b))(h:a+b<18446744073709551616):Ev P n F A (.binOp .add t x y u) ty (uv (a+b)):=by
 have:=Ev.Sp (P:=P) (n:=n) (A:=A) (ty:=ty) (t:=t) (u:=u) hx hy;rwa[fh h]at this
theorem Ev.ZS (hx:aa F x (uv a))(hy:aa F y (uv b))(h:b≤a+18446744073709551616):Ev P n F A (.binOp .sub t x y u) ty (uv ((a+18446744073709551616-b)%18446744073709551616)):=by
 have:=Ev.ahP (P:=P) (n:=n) (A:=A) (ty:=ty) (t:=t) (u:=u) hx hy
 rw[Wz]at this
 rwa[show((a:Int)-b)%18446744073709551616=(((a+18446744073709551616-b)%18446744073709551616:Nat):Int) by omega]at this
theorem Ev.R7 (hx:aa F x (uv a))(hy:aa F y (uv b))(h:b≤a∧a<18446744073709551616):Ev P n F A (.binOp .sub t x y u) ty (uv (a-b)):=by
 have:=Ev.ZS (P:=P) (n:=n) (A:=A) (ty:=ty) (t:=t) (u:=u) hx hy zE
 rwa[show(a+18446744073709551616-b)%18446744073709551616=a-b by omega]at this
theorem Ev.Iu (hx:aa F x (uv a))(hy:aa F y (uv b)):Ev P n F A (.binOp .mul t x y u) ty (uv (a*b%18446744073709551616)):=by
 have:=Ev.ag0 (P:=P) (n:=n) (A:=A) (ty:=ty) (t:=t) (u:=u) hx hy;rwa[←Int.natCast_mul,jQ]at this
theorem Ev.GJ (hx:aa F x (uv a))(hy:aa F y (uv b))(h:a*b<18446744073709551616):Ev P n F A (.binOp .mul t x y u) ty (uv (a*b)):=by
 have:=Ev.Iu (P:=P) (n:=n) (A:=A) (ty:=ty) (t:=t) (u:=u) hx hy;rwa[fh h]at this
theorem Ev.Q4 (hx:aa F x (uv a))(hy:aa F y (uv b)):Ev P n F A (.binOp .mul t x y u) ty (uv (b*a%18446744073709551616)):=by
 have:=Ev.Iu (P:=P) (n:=n) (A:=A) (ty:=ty) (t:=t) (u:=u) hx hy;rwa[Nat.mul_comm]at this
theorem Ev.tM (hx:aa F x (uv a))(hy:aa F y (uv b))(h:b≠0∧a<18446744073709551616):Ev P n F A (.binOp .quo t x y u) ty (uv (a/b)):=by
 have:=Ev.ahJ (P:=P) (n:=n) (A:=A) (ty:=ty) (t:=t) (u:=u) hx hy zE
 have e:(a:Int).tdiv b=((a/b:Nat):Int):=by rw[Int.tdiv_eq_ediv_of_nonneg zE];simp
 rw[e,jQ,fh (oZ (Nat.div_le_self a b) h.2)]at this;exact this
theorem Ev.QS (hx:aa F x (uv a))(hy:aa F y (uv b))(h:b≠0):Ev P n F A (.binOp .rem t x y u) ty (uv (a%b)):=by
 have:=Ev.rem (P:=P) (n:=n) (A:=A) (ty:=ty) (t:=t) (u:=u) hx hy zE
 have e:(a:Int).tmod b=((a%b:Nat):Int):=by rw[Int.tmod_eq_emod_of_nonneg zE];simp
 rw[e]at this;exact this
theorem Ev.tQ {k:IntKind}{j:Int}(c m:Nat)(hm:2^c=m)(hx:aa F x (uv a))(hy:aa F y (.int k j))(h:j=c∧c≤64):Ev P n F A (.binOp .shr t x y u) ty (uv (a/m)):=by
 subst hm;obtain⟨rfl,d⟩:=h
 have:=Ev.shr (P:=P) (n:=n) (A:=A) (ty:=ty) (t:=t) (u:=u) hx hy zE
 have e:(a:Int).fdiv (2^(min (c:Int).toNat IntKind.u64.bits))=((a/2^c:Nat):Int):=by
  have b:min (c:Int).toNat IntKind.u64.bits=c:=by
   have:IntKind.u64.bits=64:=rfl
   rw[this,xP];omega
  rw[b,Int.fdiv_eq_ediv_of_nonneg _ (Int.le_of_lt (Int.pow_pos zE))]
  simp
 rw[e]at this;exact this
theorem Ev.V2 {k:IntKind}{j:Int}(c m:Nat)(hm:2^c=m)(hx:aa F x (uv a))(hy:aa F y (.int k j))(h:j=c∧c≤64):Ev P n F A (.binOp .shl t x y u) ty (uv (a*m%18446744073709551616)):=by
 subst hm;obtain⟨rfl,d⟩:=h
 have:=Ev.aoF (P:=P) (n:=n) (A:=A) (ty:=ty) (t:=t) (u:=u) hx hy zE
 have e:(a:Int)*2^(min (c:Int).toNat IntKind.u64.bits)=((a*2^c:Nat):Int):=by
  have b:min (c:Int).toNat IntKind.u64.bits=c:=by
   have:IntKind.u64.bits=64:=rfl
   rw[this,xP];omega
  rw[b];simp
 rw[e,jQ]at this;exact this
theorem Ni (c:Nat)(h:a<18446744073709551616)(b:c≤64):bits .and .u64 (a:Int) ((2^c-1:Nat):Int)=((a%2^c:Nat):Int):=by
 have d:2^c-1<2^64:=by have:=Al (n:=2) zE b;have:=Nat.pow_pos (n:=c) (a:=2) zE;omega
 have e:(BitVec.ofInt IntKind.u64.bits (a:Int)&&&BitVec.ofInt IntKind.u64.bits ((2^c-1:Nat):Int)).toNat=a%2^c:=by
  show(BitVec.ofInt 64 (a:Int)&&&BitVec.ofInt 64 ((2^c-1:Nat):Int)).toNat=_
  rw[BitVec.toNat_and,HD,HD,HE,HE,fh h,fh d,Nat.and_two_pow_sub_one_eq_mod]
 simp only[bits,e]
 rw[jQ,fh (oZ (Nat.mod_le a _) h)]
theorem Sz (c:Nat)(h:b<2^c)(d:a*2^c+b<18446744073709551616):bits .or .u64 ((a*2^c:Nat):Int) (b:Int)=((a*2^c+b:Nat):Int):=by
 have e:(BitVec.ofInt IntKind.u64.bits ((a*2^c:Nat):Int)|||BitVec.ofInt IntKind.u64.bits (b:Int)).toNat=a*2^c+b:=by
  show(BitVec.ofInt 64 ((a*2^c:Nat):Int)|||BitVec.ofInt 64 (b:Int)).toNat=_
  rw[BitVec.toNat_or,HD,HD,HE,HE,fh zE,fh zE,Nat.mul_comm a,Nat.two_pow_add_eq_or_of_lt h]
 simp only[bits,e]
 rw[jQ,fh d]
theorem Ev.Hj (c m:Nat)(hm:2^c=m)(hx:aa F x (uv a))(hy:aa F y (uv b))(h:a<18446744073709551616∧b=2^c-1∧c≤64):Ev P n F A (.binOp .and t x y u) ty (uv (a%m)):= .of_run λa' w ha _=>by
 subst hm;obtain⟨h1,rfl,h3⟩:=h
 simp only[execOp,hx.eval ha,hy.eval ha];simp only[go_sem,Ni c h1 h3];simp
theorem Ev.orU (c:Nat)(hx:aa F x (uv (a*2^c)))(hy:aa F y (uv b))(h:b<2^c∧a*2^c+b<18446744073709551616):Ev P n F A (.binOp .or t x y u) ty (uv (a*2^c+b)):= .of_run λa' w ha _=>by
 simp only[execOp,hx.eval ha,hy.eval ha];simp only[go_sem,Sz c h.1 h.2];simp
theorem Ev.mj (m:Nat){i:Int}{s d:TypeId}(hx:aa F x (iv i))(a:(P.underlying s).isSome=true)(hd:P.underlying d=some (.int .u64))(h:i=m∧m<18446744073709551616):Ev P n F A (.convert s d x) ty (uv m):=by
 obtain⟨rfl,h⟩:=h
 have:=Ev.sU (P:=P) (n:=n) (A:=A) (ty:=ty) hx a hd
 rwa[jQ,fh h]at this
theorem Ev.Dh {k:IntKind}{s d:TypeId}(hx:aa F x (.int k (a:Int)))(b:(P.underlying s).isSome=true)(hd:P.underlying d=some (.int .i64))(h:a<9223372036854775808):Ev P n F A (.convert s d x) ty (iv a):=by
 have:=Ev.sU (P:=P) (n:=n) (A:=A) (ty:=ty) hx b hd
 rwa[s8 zE]at this
end
section
variable {P:Program}{n:Nat}{F:Fr}{A:World→Prop}{ty:TypeId}{x y:Operand}{t:TypeId}
theorem Ev.extern {P:Program}{n:Nat}{F:Fr}{A:World→Prop}{ty:TypeId}{f:FuncId}{xs:List Operand}{vs:List Value}{c:Array TypeId}{v:Value}(hx:au F xs vs)
 (h:∀w,(callFunc f vs.toArray).run P w= .ok (.value v) w):Ev P n F A (.call {callee:= .value (.func f),args:=xs.toArray,argTypes:=c}) ty v:= .of_run λa w d _=>by
 have e:xs.map a.eval=vs:=au.eval d hx
 have g:a.eval (.func f)= .func (.func f) #[] #[]:=rfl
 have b:=h w
 rw[←e]at b
 simp[execOp,g,resolve,Deferred.ofValue,invoke,b]
theorem Ev.UL {k:Nat}{i:Int}{kd:IntKind}{s:cM}(hx:aa F x (sv s))(hy:aa F y (.int kd i))(ht:P.underlying t=some .string)(hi:i=k)(b:k<s.length):
 Ev P n F A (.index t x y) ty (.int .u8 (s.getD k 0).toNat):= .of_run λa w c _=>by
 subst hi
 have d:k<(⟨s.toArray⟩:ByteArray).size:=by simpa[ByteArray.size]using b
 have h1:(⟨s.toArray⟩:ByteArray)[k]?=some (s.getD k 0):=by
  rw[ByteArray.getElem?_lt' _ _ d]
  simp[ByteArray.getElem_eq_getElem_data,List.getD_eq_getElem?_getD,List.getElem?_eq_getElem b]
 simp[execOp,hx.eval c,hy.eval c,Instr.index,asIntOf,run_underlying ht,h1]
theorem Ev.acQ {k b:IntKind}{a m:Nat}{s d:TypeId}(hx:aa F x (.int k (a:Int)))(c:(P.underlying s).isSome=true)(hd:P.underlying d=some (.int b))(h:b.wrap (a:Int)=m):Ev P n F A (.convert s d x) ty (.int b (m:Int)):=by
 have:=Ev.sU (P:=P) (n:=n) (A:=A) (ty:=ty) hx c hd
 rwa[h]at this
theorem ah5 {a:Nat}(h:a<256):IntKind.u8.wrap (a:Int)=a:=by
 simp only[IntKind.wrap,IntKind.bits,IntKind.signed];simp;omega
theorem Ev.Vb {f : FuncId} {fn : Func} {xs : List Operand} {d : Array TypeId} {a b c : Nat} (e : P.funcs[f]? = some fn) (g : (fn.name == "runtime.NumGoroutine") = false) (i : fn.body.isNone = true) (j : Extern.findNext fn = none) (he : Extern.find fn = some add64Entry)
 (hx:au F xs [uv a,uv b,uv c]) (h:a<18446744073709551616∧b<18446744073709551616∧c≤1):
 Ev P n F A (.call {callee:= .value (.func f),args:=xs.toArray,argTypes:=d}) ty (.tuple #[uv ((a+b+c)%18446744073709551616),uv ((a+b+c)/18446744073709551616)]):=
 Ev.extern hx λw=>by
  rw[run_callFunc_extern e g i j he,run_add64 a b c zE zE zE zE]
  simp only[Result.andThen]
  congr 5<;>omega
theorem Ev.Kt {f : FuncId} {fn : Func} {xs : List Operand} {d : Array TypeId} {a b c : Nat} (e : P.funcs[f]? = some fn) (g : (fn.name == "runtime.NumGoroutine") = false) (i : fn.body.isNone = true) (j : Extern.findNext fn = none) (he : Extern.find fn = some Go.Proofs.sub64Entry)
 (hx:au F xs [uv a,uv b,uv c]) (h:c≤1):
 Ev P n F A (.call {callee:= .value (.func f),args:=xs.toArray,argTypes:=d}) ty (.tuple #[uv ((a+18446744073709551616-b-c)%18446744073709551616),uv (if a<b+c then 1 else 0)]):=
 Ev.extern hx λw=>by
  rw[run_callFunc_extern e g i j he,Go.Proofs.run_sub64 a b c h];rfl
end
section
variable {P:Program}{n:Nat}{F:Fr}{A:World→Prop}{c:Ctx}{H R:List ay}{T:Act→World→Prop}{v v':Value}
theorem St.qe (b:Nat){e:TypeId}{L:List Value}(L':List Value)[a:mA b H (.cells L.toArray e (0,0)) R](h:L=L')(d:St n F (Mm c (aW b (.cells L'.toArray e (0,0))::R)) T):St n F (Mm c H) T:=by
 subst h
 refine d.oY λw hw=> ?_
 obtain⟨ρ,hm⟩:=hw.out;exact Mm.mk (hm.perm a.perm)
end
theorem ue {a b:Nat}(h:a=b):qS [uv a]=uv b:=by rw[h];rfl
def Lz (r:Pr×Pr):Value:= .tuple #[fv r.1,fv r.2]
theorem fre {a b c d:Int}{r:Pr×Pr}(h:r=((a,b),(c,d))):qS [.agg #[iv a,iv b],.agg #[iv c,iv d]]=Lz r:=by rw[h];rfl
end Go.J
namespace Go.J
open Go Go.RowKit
section
variable {P:Program}{n:Nat}{F:Fr}{A:World→Prop}{c:Ctx}{H R:List ay}{ty t e:TypeId}{x y:Operand}{Q:Exit→Act→World→Prop}{ops:Array Oper}{rest:List Oper}{pos:String}{after:Array Edge}
theorem Ev.Ia {b k N:Nat}{i:Int}{kd:IntKind}(hx:aa F x (tW b))(hy:aa F y (.int kd i))(ht:P.underlying t=some (.array N e))(d:(P.info? e).map (·.size)=some 1)
 (hi:i=k) (hk:k<N):Ev P n F A (.indexAddr t x y) ty (.pointer (some ⟨b,k,none⟩)):= .of_run λa w c hw=>by
 obtain⟨inf,f,g⟩:=eE.1 d;subst hi
 simp[execOp,hx.eval c,hy.eval c,Instr.indexAt,Instr.sureAddr,asIntOf,run_underlying ht,sizeOf,typeInfo,f,g,hk,Addr.add_lit]
theorem St.Ks {b off:Nat}{L:List Value}{v:Value}(L':List Value)[g:mA b H (.cells L.toArray e (0,0)) R](hx:aa F x (.pointer (some ⟨b,off,none⟩)))(hy:aa F y v)(a:L.set off v=L')(d:(P.info? t).map (·.size)=some 1)(h1:v.oneCell'=true)
 (f:off<L.length) (h:St n F (Mm c (aW b (.cells L'.toArray e (0,0))::R)) (wpList P ops Q rest)):
 St n F (Mm c H) (wpList P ops Q ({dst:=none,op:= .store t x y,type:=ty,pos:=pos,after:=after,guard:=none}::rest)):=by
 haveI:Ez L off v L':=⟨a⟩
 exact St.cP hx hy d h1 (Nat.ble_eq_true_of_le f) h
end
theorem JE {P:Program}{t e:TypeId}{N size:Nat}{Z cs:Array Value}{parts:Array (Nat×Value)}{w:World}(ht:P.underlying t=some (.array N e))(hz:(P.info? t).bind (λi=>i.zero.map Value.cells)=some Z)(c:(P.info? e).map (·.size)=some size)
 (d:Instr.fill (λi=>some (i*size,size)) Z parts.toList=some cs):(Instr.build t parts).run P w= .ok (.agg cs) w:=by
 obtain⟨i,hi,f⟩:=oc.1 hz;obtain⟨zv,a,rfl⟩:=eE.1 f;obtain⟨j,g,b⟩:=eE.1 c;subst b
 simp[Instr.build,zeroValue,typeInfo,hi,a,run_underlying ht,sizeOf,g,d]
def e8.of (X:World→Prop):e8:=⟨λρ=>∀w,(∀k o,ρ k=some o→w.heap[k]?=some o)→X w,λ_ _ h k w hw=>k w λb o a=>hw b o (h b o a)⟩
theorem Be.qy {P:Program}{f:FuncId}{args:Array Value}{X:World→Prop}{post:Value→List ay→Prop}(h:∀w,X w→Calls P f args w λe w'=>∃v,e= .returned v∧post v []∧Below w.heap.size w w'):
 Be P f args ([e8.of X].map aD) post:=by
 intro w ρ b
 have hx:X w:=dJ.1 (b.dR (aD (e8.of X)) (aR ..)) w b.fits
 refine(h w hx).mono ?_;rintro e w' ⟨v,rfl,hp,a⟩;refine⟨v,[],rfl,hp,Mm.mk (ρ:=ρ) ⟨a.os,⟨a.tape,λh=>h.elim⟩,a.output,a.size,λk hk _=>a.block k hk,λk o hk=> ?_,Ro.le_refl _,λ_ _ _=>rfl,λ_ h=>by simp at h,λ_ h=>by simp at h,.nil⟩⟩;rw[a.block k (b.Ay hk)];exact b.fits k o hk
theorem kL.qy {P:Program}{f:FuncId}{args:Array Value}{X:World→Prop}{v:Value}(h:∀w,X w→Calls P f args w λe w'=>e= .returned v∧Below w.heap.size w w'):kL P f args [e8.of X] v:=
 Be.qy λw hw=>(h w hw).mono λ_ _ ⟨h1,a⟩=>⟨v,h1,rfl,a⟩
end Go.J
namespace Go.J
open Go Go.ChangeShapes Go.WideShapes Go.ChangeAt Go.RowKit Go.Deep
section
variable {H:Type}{enc:TypeId×Value→H}{P:Program}{W:World}
theorem Nw {nm:String}{g T e n:Nat}{L:List Nat}(d:P.globalNamed nm=some g)(hy:(P.globals[g]?).map (·.type)=some T)(ht:P.underlying T=some (.array n e))(he:P.underlying e=some (.int .u8))(i:P.cellsOf e=1)(b:P.cellsOf T=n)
 (h:Lib.VarReads P W nm (Lib.tabData .u8 (L.map λx:Nat=>(x:Int)))):∀w:World,(∀k o,J.all W k=some o→w.heap[k]?=some o)→∀j,j<L.length→w.cell? ⟨g,j,none⟩=some (.int .u8 (L.getD j 0)):=by
 obtain⟨u,t,cs,fuel,p,c,l,m,hd⟩:=h;obtain rfl:=Option.some.inj (d.symm.trans c);obtain rfl:=Option.some.inj (hy.symm.trans l)
 have q:=Lib.cells_of_tab ht he i b hd
 intro w hw j f
 have a:=World.var?_cell d m j
 rw[←Jg,q]at a
 have a:W.cell? ⟨g,j,none⟩=some (.int .u8 (L.getD j 0)):=by
  rw[a,bJ,bJ,bT f,ax,bT f];rfl
 obtain⟨_,C,v,fr,r,s⟩:=jz a
 rw[cg (hw _ _ r)];exact s
end
end Go.J
namespace Go.J
open Go Go.Lib
def y7:cM:=[32,9,10,40,41,91,93,44,59]
def jC (b:UInt8):Bool:=y7.contains b
theorem MI {b:UInt8}:jC b=true↔b.toNat=32∨b.toNat=9∨b.toNat=10∨b.toNat=40∨b.toNat=41∨b.toNat=91∨b.toNat=93∨b.toNat=44∨b.toNat=59:=by
 unfold jC y7
 simp only[List.contains_cons,List.contains_nil,Bool.or_false,Bool.or_eq_true,beq_iff_eq,←UInt8.toNat_inj]
 exact Iff.rfl
theorem Ib {b:UInt8}(h:128≤b.toNat):jC b=false:=by
 cases a:jC b with
 |false=>rfl
 |true=>have:=MI.1 a;omega
def more (b:Nat):Nat:=if 194≤b∧b≤223 then 1 else if 224≤b∧b≤239 then 2 else if 240≤b∧b≤244 then 3 else 0
def loB (b:Nat):Nat:=if b=224 then 160 else if b=240 then 144 else 128
def hiB (b:Nat):Nat:=if b=237 then 159 else if b=244 then 143 else 191
def bt (s:cM)(i:Nat):Nat:=(s.getD i 0).toNat
def uC (b:Nat):Bool:=decide (128≤b∧more b=0)
def j9 (s:cM)(p k:Nat):Bool:=decide (p+1+k<s.length∧(if k=0 then loB (bt s p)else 128)≤bt s (p+1+k)∧bt s (p+1+k)≤(if k=0 then hiB (bt s p)else 191))
def Zp (s:cM)(p:Nat):Option Nat:=
 if jC (s.getD p 0)then none else if uC (bt s p)then none else if(List.range (more (bt s p))).all (j9 s p)then some (more (bt s p)+1)else none
theorem q8 (s:cM)(i:Nat):bt s i<256:=(s.getD i 0).toNat_lt
theorem vZ (s:cM)(p:Nat):decodeL (s.drop p)=decodeN (s.length-p) (bt s p) (bt s (p+1)) (bt s (p+2)) (bt s (p+3)):=by
 rw[decodeL_N,Aq,getD_dropU,getD_dropU,getD_dropU,getD_dropU,hY];rfl
def C2 (n a b:Nat):Prop:=194≤a∧a≤223∧1<n∧128≤b∧b≤191
def C3 (n a b c:Nat):Prop:=224≤a∧a≤239∧1<n∧128≤b∧b≤191∧(a=224→160≤b)∧(a=237→b≤159)∧2<n∧128≤c∧c≤191
def C4 (n a b c d:Nat):Prop:=240≤a∧a≤244∧1<n∧128≤b∧b≤191∧(a=240→144≤b)∧(a=244→b≤143)∧2<n∧128≤c∧c≤191∧3<n∧128≤d∧d≤191
theorem vY {n a b c d:Nat}(l:a<256)(h1:b<256)(m:c<256)(o:d<256):
 (a<128∧decodeN n a b c d=(a,1))∨(128≤a∧¬C2 n a b∧¬C3 n a b c∧¬C4 n a b c d∧decodeN n a b c d=(65533,1))∨
 (C2 n a b∧∃r,128≤r∧decodeN n a b c d=(r,2))∨(C3 n a b c∧∃r,128≤r∧decodeN n a b c d=(r,3))∨(C4 n a b c d∧∃r,128≤r∧decodeN n a b c d=(r,4)):=by
 unfold C2 C3 C4 decodeN
 by_cases e:a<128
 ·rw[aB e];exact .inl ⟨e,rfl⟩
 ·rw[aA e]
  right
  by_cases g:a/32=6∧(1<n∧b/64=2)
  ·rw[aB g]
   by_cases f:a%32*64+b%64≥128
   ·rw[aB f];exact .inr (.inl ⟨by omega,_,f,rfl⟩)
   ·rw[aA f];exact .inl ⟨by omega,by omega,by omega,by omega,rfl⟩
  ·rw[aA g]
   by_cases h:a/16=14∧(1<n∧b/64=2)∧(2<n∧c/64=2)
   ·rw[aB h]
    by_cases i:a%16*4096+b%64*64+c%64≥2048∧(a%16*4096+b%64*64+c%64<55296∨(57344≤a%16*4096+b%64*64+c%64∧a%16*4096+b%64*64+c%64≤1114111))
    ·rw[aB i];exact .inr (.inr (.inl ⟨by omega,_,by omega,rfl⟩))
    ·rw[aA i];exact .inl ⟨by omega,by omega,by omega,by omega,rfl⟩
   ·rw[aA h]
    by_cases j:a/8=30∧(1<n∧b/64=2)∧(2<n∧c/64=2)∧(3<n∧d/64=2)
    ·rw[aB j]
     by_cases k:a%8*262144+b%64*4096+c%64*64+d%64≥65536∧(a%8*262144+b%64*4096+c%64*64+d%64<55296∨(57344≤a%8*262144+b%64*4096+c%64*64+d%64∧a%8*262144+b%64*4096+c%64*64+d%64≤1114111))
     ·rw[aB k];exact .inr (.inr (.inr ⟨by omega,_,by omega,rfl⟩))
     ·rw[aA k];exact .inl ⟨by omega,by omega,by omega,by omega,rfl⟩
    ·rw[aA j];exact .inl ⟨by omega,by omega,by omega,by omega,rfl⟩
theorem Pj (b:Nat):(b=224∧loB b=160)∨(b=240∧loB b=144)∨(b≠224∧b≠240∧loB b=128):=by
 unfold loB;split
 ·exact .inl ⟨by assumption,rfl⟩
 ·split
  ·exact .inr (.inl ⟨by assumption,rfl⟩)
  ·exact .inr (.inr ⟨by assumption,by assumption,rfl⟩)
theorem P8 (b:Nat):(b=237∧hiB b=159)∨(b=244∧hiB b=143)∨(b≠237∧b≠244∧hiB b=191):=by
 unfold hiB;split
 ·exact .inl ⟨by assumption,rfl⟩
 ·split
  ·exact .inr (.inl ⟨by assumption,rfl⟩)
  ·exact .inr (.inr ⟨by assumption,by assumption,rfl⟩)
theorem MX (b:Nat):(more b=1∧194≤b∧b≤223)∨(more b=2∧224≤b∧b≤239)∨(more b=3∧240≤b∧b≤244)∨(more b=0∧(b<194∨244<b)):=by
 unfold more
 split
 ·exact .inl ⟨rfl,by assumption⟩
 ·split
  ·exact .inr (.inl ⟨rfl,by assumption⟩)
  ·split
   ·exact .inr (.inr (.inl ⟨rfl,by assumption⟩))
   ·exact .inr (.inr (.inr ⟨rfl,by omega⟩))
theorem Bz {s:cM}{p:Nat}:j9 s p 0=true↔p+1<s.length∧loB (bt s p)≤bt s (p+1)∧bt s (p+1)≤hiB (bt s p):=by
 unfold j9;rw[aB rfl,aB rfl,gD]
theorem K8 {s:cM}{p:Nat}:j9 s p 1=true↔p+2<s.length∧128≤bt s (p+2)∧bt s (p+2)≤191:=by
 unfold j9;rw[aA (by decide),aA (by decide),gD]
theorem Vy {s:cM}{p:Nat}:j9 s p 2=true↔p+3<s.length∧128≤bt s (p+3)∧bt s (p+3)≤191:=by
 unfold j9;rw[aA (by decide),aA (by decide),gD]
theorem px {s:cM}{p m:Nat}(a:jC (s.getD p 0)=false)(hm:more (bt s p)=m)(b:¬(128≤bt s p∧m=0)):Zp s p=if(List.range m).all (j9 s p)then some (m+1)else none:=by
 unfold Zp
 have h1:uC (bt s p)=false:=by unfold uC;rw[hm];exact df b
 rw[a,h1,hm];rfl
theorem VU {s:cM}{p:Nat}(hp:p<s.length)(a:jC (s.getD p 0)=false):
 Zp s p=if(decodeL (s.drop p)).1=65533∧(decodeL (s.drop p)).2=1 then none else some (decodeL (s.drop p)).2:=by
 rw[vZ]
 have k:=Pj (bt s p)
 have i:=P8 (bt s p)
 have c:=MX (bt s p)
 have e:(List.range 1).all (j9 s p)=j9 s p 0:=by simp[List.range_succ]
 have f:(List.range 2).all (j9 s p)=(j9 s p 0&&j9 s p 1):=by simp[List.range_succ]
 have g:(List.range 3).all (j9 s p)=(j9 s p 0&&j9 s p 1&&j9 s p 2):=by simp[List.range_succ,Bool.and_assoc]
 rcases vY (n:=s.length-p) (q8 s p) (q8 s (p+1)) (q8 s (p+2)) (q8 s (p+3))with⟨h1,b⟩|⟨h1,j,n3,n4,b⟩|⟨h1,r,h,b⟩|⟨h1,r,h,b⟩|⟨h1,r,h,b⟩<;>rw[b]
 ·rw[aA (by simp only;omega),px a (m:=0) zE zE];rfl
 ·rw[aB (by simp)]
  unfold C2 at j;unfold C3 at n3;unfold C4 at n4
  rcases c with⟨hm,d⟩|⟨hm,d⟩|⟨hm,d⟩|⟨hm,d⟩
  ·rw[px a hm zE,e,aA (by rw[Bz];omega)]
  ·rw[px a hm zE,f,aA (by rw[nQ,Bz,K8];omega)]
  ·rw[px a hm zE,g,aA (by rw[nQ,nQ,Bz,K8,Vy];omega)]
  ·unfold Zp
   rw[a,show uC (bt s p)=true by unfold uC;exact cX ⟨h1,hm⟩];rfl
 ·unfold C2 at h1
  rw[aA (by simp),px a (m:=1) zE zE,e,if_pos (by rw[Bz];omega)]
 ·unfold C3 at h1
  rw[aA (by simp),px a (m:=2) zE zE,f,if_pos (by rw[Bool.and_eq_true,Bz,K8];omega)]
 ·unfold C4 at h1
  rw[aA (by simp),px a (m:=3) zE zE,g,if_pos (by rw[Bool.and_eq_true,Bool.and_eq_true,Bz,K8,Vy];omega)]
theorem rR {s:cM}{p:Nat}(hp:p<s.length):1≤(decodeL (s.drop p)).2∧p+(decodeL (s.drop p)).2≤s.length∧
 ((bt s p<128∧decodeL (s.drop p)=(bt s p,1))∨(128≤(decodeL (s.drop p)).1∧∀j,j<(decodeL (s.drop p)).2→128≤bt s (p+j))):=by
 rw[vZ]
 have e0:bt s (p+0)=bt s p:=rfl
 have c:∀w,(w=1∨(w=2∧128≤bt s (p+1))∨(w=3∧128≤bt s (p+1)∧128≤bt s (p+2))∨(w=4∧128≤bt s (p+1)∧128≤bt s (p+2)∧128≤bt s (p+3)))→128≤bt s p→∀j,j<w→128≤bt s (p+j):=by
  intro w h d j e
  have:j=0∨j=1∨j=2∨j=3:=by omega
  rcases this with rfl|rfl|rfl|rfl
  ·exact d
  ·omega
  ·omega
  ·omega
 rcases vY (n:=s.length-p) (q8 s p) (q8 s (p+1)) (q8 s (p+2)) (q8 s (p+3))with⟨h1,a⟩|⟨h1,f,n3,n4,a⟩|⟨h1,r,b,a⟩|⟨h1,r,b,a⟩|⟨h1,r,b,a⟩<;>rw[a]
 ·exact⟨aU _,(show p+1≤s.length by omega),.inl ⟨h1,rfl⟩⟩
 ·exact⟨aU _,(show p+1≤s.length by omega),.inr ⟨(show 128≤65533 by decide),c 1 (.inl rfl) h1⟩⟩
 ·unfold C2 at h1
  exact⟨(show 1≤2 by decide),(show p+2≤s.length by omega),.inr ⟨b,c 2 zE zE⟩⟩
 ·unfold C3 at h1
  exact⟨(show 1≤3 by decide),(show p+3≤s.length by omega),.inr ⟨b,c 3 zE zE⟩⟩
 ·unfold C4 at h1
  exact⟨(show 1≤4 by decide),(show p+4≤s.length by omega),.inr ⟨b,c 4 zE zE⟩⟩
theorem JH {s:cM}{p:Nat}(hp:p<s.length)(b:jC (s.getD p 0)=false):(s.drop p).any jC=(s.drop (p+(decodeL (s.drop p)).2)).any jC:=by
 obtain⟨h1,f,a⟩:=rR hp
 have a:(decodeL (s.drop p)).2=1∨∀j,j<(decodeL (s.drop p)).2→128≤bt s (p+j):=a.imp (λq=>by rw[q.2]) (λq=>q.2)
 generalize (decodeL (s.drop p)).2=w at*
 have e:s.drop p=(s.drop p).take w++s.drop (p+w):=by rw[←List.drop_drop,nR]
 rw[e,List.any_append]
 have:((s.drop p).take w).any jC=false:=by
  rw[List.any_eq_false];intro x hx;obtain⟨j,c,rfl⟩:=Ar.1 hx;rw[eR,Aq]at c;rw[List.getElem_take,List.getElem_drop]
  have d:s[p+j]'zE=s.getD (p+j) 0:=by rw[ax,bT zE];rfl
  rw[d]
  rcases a with q|q
  ·obtain rfl:j=0:=by omega
   rw[hY,b];decide
  ·rw[Ib (q j zE)];decide
 rw[this,Bool.false_or]
def N2 (s:cM):Nat→Nat→Option Nat
 |0,_=>some 0
 |f+1,p=>if p<s.length then match Zp s p with
  |none=>none
  |some w=>(N2 s f (p+w)).map (· +1)
  else some 0
theorem LG (s:cM):∀(f p:Nat),s.length-p≤f→N2 s f p=if validGoD f (s.drop p)&& !(s.drop p).any jC then some (runeCountFrom ⟨s.toArray⟩ f p)else none
 |0,p,h=>by
  rw[iy zE]
  simp[N2,validGoD,runeCountFrom]
 |f+1,p,h=>by
  by_cases hp:p<s.length
  ·have hd:s.drop p≠ []:=by intro e;have:=congrArg List.length e;rw[Aq,List.length_nil]at this;omega
   have hx:s[p]?=some (s.getD p 0):=wL 0 hp
   rw[N2,aB hp]
   cases a:jC (s.getD p 0)with
   |true=>
    have h1:Zp s p=none:=by unfold Zp;rw[a];rfl
    have g:(s.drop p).any jC=true:=by rw[bW hx,List.any_cons,a];rfl
    rw[h1,g];simp
   |false=>
    rw[VU hp a,validGoD,aA hd];obtain⟨j,k,l⟩:=rR hp
    by_cases b:(decodeL (s.drop p)).1=65533∧(decodeL (s.drop p)).2=1
    ·rw[aB b,aB b];rfl
    ·rw[aA b,aA b,JH hp a,List.drop_drop]
     have i:=LG s f (p+(decodeL (s.drop p)).2) zE
     show Option.map _ _=_
     rw[i,runeCountFrom]
     have c:p<(⟨s.toArray⟩:ByteArray).size:=by show p<s.toArray.size;simpa using hp
     rw[aB c]
     have d:=decodeL_drop ⟨s.toArray⟩ p
     simp only at d
     rw[←d]
     split
     ·simp[Nat.add_comm]
     ·rfl
  ·rw[N2,aA hp,iy zE]
   have c:¬p<(⟨s.toArray⟩:ByteArray).size:=by show ¬p<s.toArray.size;simpa using hp
   simp[validGoD,runeCountFrom,c]
def Wy:Option Nat→Bool
 |some n=>decide (1≤n∧n≤30)
 |none=>false
def isWord (s:cM):Bool:=Wy (N2 s s.length 0)
theorem MJ (s:cM):isWord s=(decide (1≤runeCountL s)&&decide (runeCountL s≤30)&&validD s&& !s.any jC):=by
 unfold isWord;rw[LG s s.length 0 zE,List.drop_zero]
 have:runeCountFrom ⟨s.toArray⟩ s.length 0=runeCountL s:=by unfold runeCountL runeCount;congr 1
 rw[this];unfold validD
 cases validGoD s.length s<;>cases s.any jC<;>simp[Wy]
end Go.J
namespace Go.J
open Go
section
variable {P:Program}{n:Nat}{F:Fr}{A:World→Prop}{c:Ctx}{H R:List ay}{ty:TypeId}{x y:Operand}{v:Value}{Q:Exit→Act→World→Prop}{ops:Array Oper}{rest:List Oper}
 {pos:String} {after:Array Edge} {t e:TypeId} {m k:Nat} {cs:List Value}
theorem Ev.nT {b o cap size:Nat}{i:Int}{kd:IntKind}(d:v= .slice (some ⟨b,o,none⟩) m cap)(hx:aa F x v)(hy:aa F y (.int kd i))(ht:P.underlying t=some (.slice e))(f:(P.info? e).map (·.size)=some size)
 (hi:i=k) (hk:k<m):Ev P n F A (.indexAddr t x y) ty (eL v size k 0):= .of_run λa w c _=>by
 subst d;obtain⟨inf,g,h⟩:=eE.1 f;subst hi
 simp[execOp,hx.eval c,hy.eval c,Instr.indexAt,asIntOf,run_underlying ht,sizeOf,typeInfo,g,h,hk,eJ,Addr.add_lit]
theorem EK {size off:Nat}{u:Value}{ρ:Ro}{w:World}(f:fH c (row v e size m cs::R) ρ w)(hk:k<m)(C:off<size):∃b l,eL v size k off= .pointer (some ⟨b,k*size+off,none⟩)∧v.ownBlock=some b∧
 w.cell? ⟨b,k*size+off,none⟩=some l∧w.frozen? ⟨b,k*size+off,none⟩=false∧fH c (row v e size m (cs.set (k*size+off) u)::R) ρ (w.setCell ⟨b,k*size+off,none⟩ u):=by
 have d:=eQ.1 (f.dR _ (aR ..))
 have n:k*size+off<cs.length:=by
  rw[d.1]
  have:(k+1)*size≤m*size:=fC _ hk
  rw[jK]at this;omega
 obtain⟨b,o,p,a,q⟩:=kV d hk (bT n);refine⟨b,_,o,a,p,q,?_⟩;refine f.alter rfl ⟨rfl,aU _⟩ rfl (by simp) (λj D h=> ?_) (eQ.2 ?_) (λE i=>by rw[eA]at i⊢;exact .inl i)
 ·rw[eA,a]at h
  simp only[World.setCell,Array.getElem?_modify]
  rw[aA (λe=>h (by rw[e]))]
 ·obtain⟨r,s⟩:=d
  refine⟨by rw[ep];exact r,?_⟩
  rcases s with⟨rfl,rfl⟩|⟨g,cap,cur,rfl,t,x,y,z,A,B⟩
  ·omega
  ·simp only[Value.ownBlock,Option.some.injEq]at a
   subst a;refine .inr ⟨_,cap,_,rfl,t,o8 x,y,z,by simp[A],?_⟩;rw[←B,Array.toList_setIfInBounds,List.take_set]
theorem St.Ms {d f:Value}[l:mB v H e 2 m cs R](hx:aa F x (eL v 2 k 0))(hy:aa F y (.agg #[d,f]))(o:(P.info? t).map (·.size)=some 2)(h1:d.oneCell'=true)(p:f.oneCell'=true)
 (hk:k<m) (h:St n F (Mm c (row v e 2 m ((cs.set (k*2) d).set (k*2+1) f)::R)) (wpList P ops Q rest)):
 St n F (Mm c H) (wpList P ops Q ({dst:=none,op:= .store t x y,type:=ty,pos:=pos,after:=after,guard:=none}::rest)):=by
 refine St.nu (K:=λC H'=>H'=row v e 2 m ((cs.set (k*2) d).set (k*2+1) f)::R) ?_ ?_
 ·intro a w ρ g hm
  have q:=hm.perm l.perm
  obtain⟨b,D,r,s,c1,f1,z⟩:=EK (off:=0) (u:=d) q hk zE;obtain⟨E,z2,G,j,c2,f2,A⟩:=EK (off:=1) (u:=f) z hk zE
  rw[s]at j;cases j
  rw[r]at hx;obtain⟨i,hi,B⟩:=eE.1 o;refine⟨.skip,(w.setCell ⟨b,k*2+0,none⟩ d).setCell ⟨b,k*2+1,none⟩ f,ρ,_,?_,⟨_,.inr ⟨rfl,rfl⟩,rfl⟩,A⟩
  simp only[Nat.add_zero]at hx c1 f1 c2 f2⊢
  simp[execOp,hx.eval g,hy.eval g,Instr.storeAt,Instr.sureAddr,storeVar,sizeOf,typeInfo,hi,B,bL,storeCells,run_store P w _ d _ h1,run_store P _ _ f _ p,c1,f1,c2,f2,Addr.add_zero',Addr.add_lit]
 ·rintro _ _ rfl
  exact h
abbrev Gm (α:Type):=ah×List α×Nat
def gR (α:Type):Rp (Gm α):=⟨2,by decide,λx=>[x.1.1,iv (x.2.2:Nat)],λ_=>True,λ_=>rfl,λx u h=>by
 simp at h;rcases h with rfl|rfl
 ·exact x.1.2
 ·rfl⟩
end
def j7 (ds:List e8):e8:=⟨λρ=>∀d∈ds,d.f ρ,λ_ _ h k d hd=>d.mono _ _ h (k d hd)⟩
theorem dK.all {P:Program}{f:FuncId}{args:Array Value}{ds:List e8}{v:Value}(h:dK P f args ds v):dK P f args [j7 ds] v:=by
 intro w ρ st
 have c:∀d∈ds,d.f ρ:=dJ.1 (st.dR (aD (j7 ds)) (by simp))
 have e:jl (ds.map aD)=jl ([j7 ds].map aD):=by
  funext b
  apply propext
  constructor
  ·intro h;exact absurd h (jP ds b)
  ·intro h;exact absurd h (jP [j7 ds] b)
 have a:fH ⟨w,ρ,jl ([j7 ds].map aD),True⟩ [] ρ w:=fH.drop st
 have st2:Start (ds.map aD) ρ w:=by
  have:=a.BA ds c
  rw[ib]at this;unfold Start;rw[e];exact this
 have:=h w ρ st2
 rw[e]at this;exact this
theorem dK.oY {P:Program}{f:FuncId}{args:Array Value}{ds a:List e8}{v:Value}(h:dK P f args ds v)(hi:∀ρ,(∀d∈a,d.f ρ)→∀d∈ds,d.f ρ):dK P f args a v:=by
 intro w ρ st
 have g:∀d∈a,d.f ρ:=λd hd=>dJ.1 (st.dR (aD d) (dh hd))
 have e:jl (ds.map aD)=jl (a.map aD):=by
  funext b
  apply propext
  exact⟨λh=>absurd h (jP ds b),λh=>absurd h (jP a b)⟩
 have c:fH ⟨w,ρ,jl (a.map aD),True⟩ [] ρ w:=by
  have:∀(l:List e8),fH ⟨w,ρ,jl (a.map aD),True⟩ (l.map aD) ρ w→fH ⟨w,ρ,jl (a.map aD),True⟩ [] ρ w:=by
   intro l
   induction l with
   |nil=>exact λh=>h
   |cons d l i=>exact λh=>i h.drop
  exact this a st
 have st2:Start (ds.map aD) ρ w:=by
  have:=c.BA ds (hi ρ g)
  rw[ib]at this;unfold Start;rw[e];exact this
 have:=h w ρ st2
 rw[e]at this;exact this
theorem j4.j7 {c:Ctx}{L R:List ay}{ds:List e8}(h:j4 c L R ds):j4 c L R [J.j7 ds]:=λρ w hm d hd=>by
 rw[ba.1 hd]
 exact λa b=>h ρ w hm a b
theorem eu.j7 {c:Ctx}{H:List ay}{ds:List e8}(h:eu c H ds):eu c H [J.j7 ds]:=λρ w hm d hd=>by
 rw[ba.1 hd]
 exact λa b=>h ρ w hm a b
theorem St.cast {n:Nat}{F:Fr}{c:Ctx}{H H':List ay}{T:Act→World→Prop}(h:H=H')(k:St n F (Mm c H') T):St n F (Mm c H) T:=by rw[h];exact k
section
variable {n:Nat}{F:Fr}{c:Ctx}{H R:List ay}{T:Act→World→Prop}{α:Type}
def aL (f:α→e8)(xs:List α):e8:=⟨λρ=>∀x∈xs,(f x).f ρ,λρ kK h k x hx=>(f x).mono _ _ h (k x hx)⟩
theorem St.bh (f:α→e8)(xs:List α){x:α}[hd:mT (aL f xs) H](hx:x∈xs)(k:St n F (Mm c (aD (f x)::H)) T):St n F (Mm c H) T:=
 St.fF (f x) [aL f xs] (λρ h=>h _ (aR ..) x hx) k
theorem St.dN (f:α→e8)(k:St n F (Mm c (aD (aL f [])::H)) T):St n F (Mm c H) T:=
 St.fact (aL f []) (λρ _ _=>λx hx=>by cases hx) k
theorem St.ou (f:α→e8){xs:List α}{x:α}[hd:mT (aL f xs) H][hx:mT (f x) H](k:St n F (Mm c (aD (aL f (xs++ [x]))::H)) T):St n F (Mm c H) T:=
 St.fF (aL f (xs++ [x])) [aL f xs,f x] (λρ h y hy=>by
  rcases ca.1 hy with hy|hy
  ·exact h _ (aR ..) y hy
  ·rw[ba.1 hy];exact h _ (cO _ (aR ..))) k
theorem St.ml (f:α→e8){xs:List α}{x:α}[hd:mT (aL f xs) H][hx:mT (f x) H](k:St n F (Mm c (aD (aL f (x::xs))::H)) T):St n F (Mm c H) T:=
 St.fF (aL f (x::xs)) [aL f xs,f x] (λρ h y hy=>by
  rcases cN.1 hy with rfl|hy
  ·exact h _ (cO _ (aR ..))
  ·exact h _ (aR ..) y hy) k
end
abbrev nY (s:cM):Prop:=s.length≤140737488351232
structure sD where
 name:cM
 pv:ah
 parents:List Int
structure jh where
 name:cM
 CR:Int
 value:Int
structure dt where
 dE:Int
 tqo:Int
structure db where
 type:Int
 lv:ah
 bA:List dt
structure dC where
 nv:ah
 nodes:List db
inductive fk where
 |mk (base:cM) (av:ah) (args:List fk)
inductive dX where
 |mk (kind:Int) (name:cM) (index:Int) (type:fk) (av:ah) (args:List dX)
inductive bM where
 |mk (rule lex:Int) (kv:ah) (kids:List bM)
def fk.base:fk→cM| .mk b _ _=>b
def fk.av:fk→ah| .mk _ v _=>v
def fk.args:fk→List fk| .mk _ _ l=>l
def dX.kind:dX→Int| .mk k _ _ _ _ _=>k
def dX.name:dX→cM| .mk _ s _ _ _ _=>s
def dX.index:dX→Int| .mk _ _ i _ _ _=>i
def dX.type:dX→fk| .mk _ _ _ t _ _=>t
def dX.av:dX→ah| .mk _ _ _ _ v _=>v
def dX.args:dX→List dX| .mk _ _ _ _ _ l=>l
def bM.rule:bM→Int| .mk r _ _ _=>r
def bM.lex:bM→Int| .mk _ l _ _=>l
def bM.kv:bM→ah| .mk _ _ v _=>v
def bM.kids:bM→List bM| .mk _ _ _ l=>l
structure cK where
 name:cM
 graph:dC
 kids:Int
 weight:Int
 fB:dX
structure fq where
 word:cM
 graph:dC
 weight:Int
 fB:dX
structure eU where
 tv:ah
 types:List sD
 fv:ah
 cJ:List jh
 rv:ah
 rules:List cK
 xv:ah
 aG:List fq
 start:dC
def lW:Rp sD:=⟨2,by decide,λx=>[sv x.name,x.pv.1],λx=>nY x.name,λ_=>rfl,λx u h=>by simp at h;rcases h with rfl|rfl;rfl;exact x.pv.2⟩
def fw:Rp jh:=⟨3,by decide,λx=>[sv x.name,iv x.CR,iv x.value],λx=>nY x.name∧aZ x.CR∧aZ x.value,λ_=>rfl,λx u h=>by simp at h;rcases h with rfl|rfl|rfl<;>rfl⟩
def bC:Rp dt:=⟨2,by decide,λx=>[iv x.dE,iv x.tqo],λx=>aZ x.dE∧aZ x.tqo,λ_=>rfl,λx u h=>by simp at h;rcases h with rfl|rfl<;>rfl⟩
def bz:Rp db:=⟨2,by decide,λx=>[iv x.type,x.lv.1],λx=>aZ x.type,λ_=>rfl,λx u h=>by simp at h;rcases h with rfl|rfl;rfl;exact x.lv.2⟩
def kW:Rp fk:=⟨2,by decide,λx=>[sv x.base,x.av.1],λx=>nY x.base,λ_=>rfl,λx u h=>by simp at h;rcases h with rfl|rfl;rfl;exact x.av.2⟩
abbrev RG (x:dX):List Value:=[iv x.kind,sv x.name,iv x.index,sv x.type.base,x.type.av.1,x.av.1]
theorem eH {u:Value}{L:List Value}(h:u.oneCell'=true)(k:∀v∈L,v.oneCell'=true):∀v∈u::L,v.oneCell'=true:=λv a=>by
 rcases cN.1 a with rfl|a
 ·exact h
 ·exact k v a
theorem Un:∀v∈([]:List Value),v.oneCell'=true:=λv a=>by cases a
theorem wR (x:dX):∀u∈RG x,u.oneCell'=true:=eH rfl (eH rfl (eH rfl (eH rfl (eH x.type.av.2 (eH x.av.2 Un)))))
def cz:Rp dX:=⟨6,by decide,RG,λx=>aZ x.kind∧nY x.name∧aZ x.index∧nY x.type.base,λ_=>rfl,λx u h=>wR x u h⟩
abbrev oA (x:bM):List Value:=[iv x.rule,iv x.lex,x.kv.1]
def bR:Rp bM:=⟨3,by decide,oA,λx=>aZ x.rule∧aZ x.lex,λ_=>rfl,λx u h=>by simp at h;rcases h with rfl|rfl|rfl;rfl;rfl;exact x.kv.2⟩
abbrev AF (x:cK):List Value:=[sv x.name,x.graph.nv.1,iv x.kids,iv x.weight,iv x.fB.kind,sv x.fB.name,iv x.fB.index,sv x.fB.type.base,x.fB.type.av.1,x.fB.av.1]
def bZ:Rp cK:=⟨10,by decide,AF,λx=>nY x.name∧aZ x.kids∧aZ x.weight∧cz.wf x.fB,λ_=>rfl,λx u h=>eH rfl (eH x.graph.nv.2 (eH rfl (eH rfl (wR x.fB)))) u h⟩
abbrev UW (x:fq):List Value:=[sv x.word,x.graph.nv.1,iv x.weight,iv x.fB.kind,sv x.fB.name,iv x.fB.index,sv x.fB.type.base,x.fB.type.av.1,x.fB.av.1]
def cy:Rp fq:=⟨9,by decide,UW,λx=>nY x.word∧aZ x.weight∧cz.wf x.fB,λ_=>rfl,λx u h=>eH rfl (eH x.graph.nv.2 (eH rfl (wR x.fB))) u h⟩
instance (x:sD):gH lW x [sv x.name,x.pv.1]:=⟨rfl⟩
instance (x:jh):gH fw x [sv x.name,iv x.CR,iv x.value]:=⟨rfl⟩
instance (x:dt):gH bC x [iv x.dE,iv x.tqo]:=⟨rfl⟩
instance (x:db):gH bz x [iv x.type,x.lv.1]:=⟨rfl⟩
instance (x:fk):gH kW x [sv x.base,x.av.1]:=⟨rfl⟩
instance (x:dX):gH cz x (RG x):=⟨rfl⟩
instance (x:bM):gH bR x (oA x):=⟨rfl⟩
instance (x:cK):gH bZ x (AF x):=⟨rfl⟩
instance (x:fq):gH cy x (UW x):=⟨rfl⟩
abbrev kR (g:eU):List Value:=[g.tv.1,g.fv.1,g.rv.1,g.xv.1,g.start.nv.1]
inductive sO (ρ:Ro):fk→Prop
 |mk {x:fk} (h:(sl kW x.av.1 x.args).f ρ) (k:∀y∈x.args,sO ρ y):sO ρ x
inductive pP (ρ:Ro):dX→Prop
 |mk {x:dX} (ht:sO ρ x.type) (h:(sl cz x.av.1 x.args).f ρ) (k:∀y∈x.args,pP ρ y):pP ρ x
inductive l3 (ρ:Ro):bM→Prop
 |mk {x:bM} (h:(sl bR x.kv.1 x.kids).f ρ) (k:∀y∈x.kids,l3 ρ y):l3 ρ x
theorem sO.mono {ρ kK:Ro}(h:∀k o,ρ k=some o→kK k=some o){x:fk}(hx:sO ρ x):sO kK x:=by
 induction hx with
 |mk h1 _ a=>exact .mk ((sl _ _ _).mono _ _ h h1) a
theorem pP.mono {ρ kK:Ro}(h:∀k o,ρ k=some o→kK k=some o){x:dX}(hx:pP ρ x):pP kK x:=by
 induction hx with
 |mk ht h1 _ a=>exact .mk (ht.mono h) ((sl _ _ _).mono _ _ h h1) a
theorem l3.mono {ρ kK:Ro}(h:∀k o,ρ k=some o→kK k=some o){x:bM}(hx:l3 ρ x):l3 kK x:=by
 induction hx with
 |mk h1 _ a=>exact .mk ((sl _ _ _).mono _ _ h h1) a
def ez (x:fk):e8:=⟨λρ=>sO ρ x,λ_ _ h k=>k.mono h⟩
def cu (x:dX):e8:=⟨λρ=>pP ρ x,λ_ _ h k=>k.mono h⟩
def ae (x:bM):e8:=⟨λρ=>l3 ρ x,λ_ _ h k=>k.mono h⟩
def s6 (x:sD):e8:=sl aJ x.pv.1 x.parents
def cF (x:db):e8:=sl bC x.lv.1 x.bA
def jb (g:dC):List e8:=[sl bz g.nv.1 g.nodes,aL cF g.nodes]
def aI (g:dC):e8:=j7 (jb g)
def GY (x:cK):List e8:=[aI x.graph,cu x.fB]
def bb (x:cK):e8:=j7 (GY x)
def Pd (x:fq):List e8:=[aI x.graph,cu x.fB]
def dz (x:fq):e8:=j7 (Pd x)
def WJ (tv fv:ah)(a:List sD)(b:List jh):List e8:=[sl lW tv.1 a,aL s6 a,sl fw fv.1 b]
def qO (g:eU):List e8:=[sl lW g.tv.1 g.types,aL s6 g.types,sl fw g.fv.1 g.cJ,sl bZ g.rv.1 g.rules,aL bb g.rules,sl cy g.xv.1 g.aG,aL dz g.aG,aI g.start]
def cj (g:eU):e8:=j7 (qO g)
section
variable {n:Nat}{F:Fr}{c:Ctx}{H R:List ay}{T:Act→World→Prop}
theorem St.ug (x:fk)[hd:mT (ez x) H](k:St n F (Mm c (aD (sl kW x.av.1 x.args)::aD (aL ez x.args)::H)) T):St n F (Mm c H) T:=
 St.jU (ι:=Unit) (ez x) (λ_=>[sl kW x.av.1 x.args,aL ez x.args]) (λρ h=>⟨(),λe he=>by
  cases h with
  |mk h k=>
   simp only[List.mem_cons,List.not_mem_nil,or_false]at he
   rcases he with rfl|rfl
   ·exact h
   ·exact k⟩) λ_=>k
theorem St.GO (x:dX)[hd:mT (cu x) H](k:St n F (Mm c (aD (ez x.type)::aD (sl cz x.av.1 x.args)::aD (aL cu x.args)::H)) T):St n F (Mm c H) T:=
 St.jU (ι:=Unit) (cu x) (λ_=>[ez x.type,sl cz x.av.1 x.args,aL cu x.args]) (λρ h=>⟨(),λe he=>by
  cases h with
  |mk ht h k=>
   simp only[List.mem_cons,List.not_mem_nil,or_false]at he
   rcases he with rfl|rfl|rfl
   ·exact ht
   ·exact h
   ·exact k⟩) λ_=>k
theorem St.kS (x:bM)[hd:mT (ae x) H](k:St n F (Mm c (aD (sl bR x.kv.1 x.kids)::aD (aL ae x.kids)::H)) T):St n F (Mm c H) T:=
 St.jU (ι:=Unit) (ae x) (λ_=>[sl bR x.kv.1 x.kids,aL ae x.kids]) (λρ h=>⟨(),λe he=>by
  cases h with
  |mk h k=>
   simp only[List.mem_cons,List.not_mem_nil,or_false]at he
   rcases he with rfl|rfl
   ·exact h
   ·exact k⟩) λ_=>k
theorem St.Kg (L:List e8)[hd:mT (j7 L) H](k:St n F (Mm c (L.map aD++H)) T):St n F (Mm c H) T:=
 St.jU (j7 L) (λ_:Unit=>L) (λρ h=>⟨(),h⟩) λ_=>k
end
end Go.J
namespace Go.Proofs.YtiefglecbgdaiaaGreatDoor
open Go Go.J Tryz
inductive j0 where
 |mk (base:cM) (args:List j0)
inductive ji where
 |mk (kind:Int) (name:cM) (index:Int) (type:j0) (args:List ji)
inductive dY where
 |mk (rule lex:Int) (kids:List dY)
mutual
def dW:fk→j0
 | .mk b _ l=> .mk b (Ge l)
def Ge:List fk→List j0
 | []=>[]
 |x::l=>dW x::Ge l
end
mutual
def cx:dX→ji
 | .mk k s i t _ l=> .mk k s i (dW t) (AW l)
def AW:List dX→List ji
 | []=>[]
 |x::l=>cx x::AW l
end
mutual
def aN:bM→dY
 | .mk r x _ l=> .mk r x (EV l)
def EV:List bM→List dY
 | []=>[]
 |x::l=>aN x::EV l
end
theorem wI:∀l:List fk,Ge l=l.map dW
 | []=>rfl
 |x::l=>by rw[Ge,wI l];rfl
theorem tT:∀l:List dX,AW l=l.map cx
 | []=>rfl
 |x::l=>by rw[AW,tT l];rfl
theorem tY:∀l:List bM,EV l=l.map aN
 | []=>rfl
 |x::l=>by rw[EV,tY l];rfl
def j0.base:j0→cM| .mk b _=>b
def j0.args:j0→List j0| .mk _ l=>l
def ji.kind:ji→Int| .mk k _ _ _ _=>k
def ji.name:ji→cM| .mk _ s _ _ _=>s
def ji.index:ji→Int| .mk _ _ i _ _=>i
def ji.type:ji→j0| .mk _ _ _ t _=>t
def ji.args:ji→List ji| .mk _ _ _ _ l=>l
def dY.rule:dY→Int| .mk r _ _=>r
def dY.lex:dY→Int| .mk _ l _=>l
def dY.kids:dY→List dY| .mk _ _ l=>l
theorem ri (x:fk):(dW x).base=x.base:=by cases x;rfl
theorem l9 (x:fk):(dW x).args=x.args.map dW:=by cases x;exact wI _
theorem tU (x:dX):(cx x).args=x.args.map cx:=by cases x;exact tT _
abbrev er:=cM×List Int
abbrev pM:=cM×Int×Int
abbrev LV:=Int×List (Int×Int)
abbrev eB:=List LV
structure kM where
 name:cM
 graph:eB
 kids:Int
 weight:Int
 fB:ji
structure Bg where
 word:cM
 graph:eB
 weight:Int
 fB:ji
structure fD where
 types:List er
 cJ:List pM
 rules:List kM
 aG:List Bg
 start:eB
def dG (x:sD):er:=(x.name,x.parents)
def iJ (x:jh):pM:=(x.name,x.CR,x.value)
def fV (x:dt):Int×Int:=(x.dE,x.tqo)
def mQ (x:db):LV:=(x.type,x.bA.map fV)
def bE (g:dC):eB:=g.nodes.map mQ
def iE (x:cK):kM:=⟨x.name,bE x.graph,x.kids,x.weight,cx x.fB⟩
def jg (x:fq):Bg:=⟨x.word,bE x.graph,x.weight,cx x.fB⟩
def bK (g:eU):fD:=⟨g.types.map dG,g.cJ.map iJ,g.rules.map iE,g.aG.map jg,bE g.start⟩
def sJ (i:Int):Int→List Int→Int×Int
 |_,[]=>(0,0)
 |last,p::ps=>if p<0∨i≤p then(3,i)else if p≤last then(13,i)else sJ i p ps
def lu:List cM→Nat→List er→Int×Int
 |_,_,[]=>(0,0)
 |known,i,t::a=>if isName t.1=false then(10,i)else if t.1∈known then(7,i)else if decide (i=0)≠decide (t.2.length=0)then(5,i)
  else if(sJ i (-1) t.2).1≠0 then sJ i (-1) t.2 else lu (known++ [t.1]) (i+1) a
def BW (l:List er):Int×Int:=if l.length=0∨60<l.length then(2,-1)else lu [] 0 l
def Ri (U:List Nat)(i:Nat)(ps:List Int):Nat:=ps.foldl (λu p=>u|||U.getD p.toNat 0) (2^i)
def oC:List Nat→List er→List Nat
 |U,[]=>U
 |U,t::l=>oC (U++ [Ri U U.length t.2]) l
def Ba (l:List er):List Nat:=oC [] l
def iY (l:List er)(i j:Nat):Bool:=((Ba l).getD i 0).testBit j
def comm (l:List er)(a b:Nat):List Nat:=(List.range l.length).filter λi=>iY l i a&&iY l i b
def kZ (l:List er)(a b:Nat):Bool:=match comm l a b with
 | []=>false
 |m::r=>r.any λi=> !iY l i m
def xN (l:List er):Option Nat:=(List.range l.length).find? λb=>(List.range b).any λa=>kZ l a b
def mw (n:Int):List cM→Nat→List pM→Int×Int
 |_,_,[]=>(0,0)
 |known,i,f::a=>if isName f.1=false then(10,i)else if f.1∈known then(7,i)else if f.2.1<0∨n≤f.2.1∨f.2.2<0∨n≤f.2.2 then(3,i)else mw n (known++ [f.1]) (i+1) a
def jk (a:List er)(c:List pM):Int×Int:=
 if 40<c.length then(2,-1)else if(BW a).1≠0 then BW a else match xN a with
  |some b=>(16,b)
  |none=>mw a.length [] 0 c
def BH (nf nn i:Int):Int→List (Int×Int)→Int×Int
 |_,[]=>(0,0)
 |last,x::xs=>if x.1<0∨nf≤x.1∨x.2<0∨nn≤x.2 then(3,i)else if x.1≤last then(13,i)else BH nf nn i x.1 xs
def fJ (nt nf nn:Int):Nat→eB→Int×Int
 |_,[]=>(0,0)
 |i,x::xs=>if x.1<0∨nt≤x.1 then(3,i)else if(BH nf nn i (-1) x.2).1≠0 then BH nf nn i (-1) x.2 else fJ nt nf nn (i+1) xs
def fc (nt nf:Int)(g:eB):Int×Int:=if g.length=0∨60<g.length then(2,-2)else fJ nt nf g.length 0 g
def gq:LV:=(0,[])
def ft0:pM:=([],0,0)
def Jq (a:List er)(b:List pM)(g:eB)(t:Int)(x:Int×Int):Bool:=
 !iY a t.toNat (b.getD x.1.toNat ft0).2.1.toNat|| !iY a (g.getD x.2.toNat gq).1.toNat (b.getD x.1.toNat ft0).2.2.toNat
def uD (a:List er)(b:List pM)(g:eB)(i:Nat):Bool:=(g.getD i gq).2.any (Jq a b g (g.getD i gq).1)
def mm (a:List er)(b:List pM)(g:eB):Option Nat:=(List.range g.length).find? (uD a b g)
def GD (i:Nat)(M:List Bool)(x:Int×Int):List Bool:=if M.getD i false then M.set x.2.toNat true else M
def Wf (g:eB)(M:List Bool)(i:Nat):List Bool:=(g.getD i gq).2.foldl (GD i) M
def pass (g:eB)(M:List Bool):List Bool:=(List.range g.length).foldl (Wf g) M
def eZ (g:eB):Nat→List Bool
 |0=>(List.replicate g.length false).set 0 true
 |k+1=>pass g (eZ g k)
def pZ:List Bool→Int
 | []=> -1
 |b::l=>if b=false then 0 else if pZ l<0 then-1 else pZ l+1
def unr (g:eB):Int:=pZ (eZ g g.length)
def dP (a:List er)(b:List pM)(g:eB):Int×Int:=
 if(fc a.length b.length g).1≠0 then fc a.length b.length g else match mm a b g with
  |some i=>(12,i)
  |none=>if 0≤unr g then(5,unr g)else(0,0)
def nS (g:eB)(k:Int):Int:=match(g.getD 0 gq).2.find? λx=>x.1==k with
 |some x=>x.2
 |none=> -1
def o6 (g:eB)(kids:Int):Bool:=(List.range 4).all λk=>decide (0≤nS g k)==decide ((k:Int)≤kids)
abbrev sE:cM:=[101]
abbrev sT:cM:=[116]
def jn (b:cM)(m:Nat):Bool:=(decide (b=sE)||decide (b=sT))&&decide (m=0)||decide (b=[])&&decide (m=2)
mutual
def mR:j0→Nat→Nat→Nat×Int
 | .mk b l,d,n=>if 200<n+1∨40<d then(n+1,1)else if jn b l.length=false then(n+1,5)else mG l (d+1) (n+1)
def mG:List j0→Nat→Nat→Nat×Int
 | [],_,n=>(n,0)
 |x::l,d,n=>if(mR x d n).2≠0 then mR x d n else mG l d (mR x d n).1
end
def wJ (s:j0):Int:=(mR s 1 0).2
def qB (s:j0):Bool:=decide (s.base=[])&&decide (s.args.length=0)
mutual
def mF:j0→j0→Bool
 | .mk a l,.mk b m=>decide (a=b)&&decide (l.length=m.length)&&oT l m
def oT:List j0→List j0→Bool
 |x::l,y::m=>mF x y&&oT l m
 |_,_=>true
end
def kY (kind:Int)(name:cM)(index:Int)(type:j0)(m:Nat)(bd:Nat):Int:=
 if kind=1 then(if index≠0∨m≠0 then 5 else if isName name=false then 10 else if wJ type≠0 then 12 else 0)
 else if kind=2 then(if name≠ []∨qB type=false∨m≠0 then 5 else if index<0∨(bd:Int)≤index then 15 else 0)
 else if kind=3 then(if name≠ []∨index≠0∨m≠1 then 5 else if wJ type≠0 then 12 else 0)
 else if kind=4 then(if name≠ []∨index≠0∨qB type=false∨m≠2 then 5 else 0)
 else 4
mutual
def mY:ji→Nat→Nat→Nat→Nat×Int×Int
 | .mk k s i t l,d,bd,n=>if 200<n+1∨40<d then(n+1,1,n)else if kY k s i t l.length bd≠0 then(n+1,kY k s i t l.length bd,n)else oW l (d+1) (if k=3 then bd+1 else bd) (n+1)
def oW:List ji→Nat→Nat→Nat→Nat×Int×Int
 | [],_,_,n=>(n,0,0)
 |x::l,d,bd,n=>if(mY x d bd n).2.1≠0 then mY x d bd n else oW l d bd (mY x d bd n).1
end
def Hk:Option j0→Option j0→Option j0
 |some (.mk _ [a,b]),some x=>if mF a x then some b else none
 |_,_=>none
mutual
def y9:ji→List j0→Option j0
 | .mk k _ i t l,c=>if k=1 then some t else if k=2 then c[c.length-1-i.toNat]? else if k=3 then(oB l (c++ [t])).map λb=> .mk [] [t,b]else Hk (oB l c) (EX l c)
def oB:List ji→List j0→Option j0
 |x::_,c=>y9 x c
 | [],_=>none
def EX:List ji→List j0→Option j0
 |_::l,c=>oB l c
 | [],_=>none
end
def rC (t:ji):Int×Int:=if(mY t 1 0 0).2.1≠0 then(mY t 1 0 0).2 else if(y9 t []).isNone then(12,-1)else(0,0)
def qC (a:List er)(b:List pM)(r:kM):Int:=
 if r.kids<1∨3<r.kids∨r.weight<0∨1000000<r.weight then 3 else if(dP a b r.graph).1≠0 then(dP a b r.graph).1 else if o6 r.graph r.kids=false then 5 else(rC r.fB).1
def xw (a:List er)(b:List pM)(x:Bg):Int:=
 if isWord x.word=false then 10 else if x.weight<0∨1000000<x.weight then 3 else if(dP a b x.graph).1≠0 then(dP a b x.graph).1 else(rC x.fB).1
def jw (a:List er)(b:List pM):List cM→Nat→List kM→Int×Int
 |_,_,[]=>(0,0)
 |known,i,r::rs=>if isName r.name=false then(10,i)else if r.name∈known then(7,i)else if qC a b r≠0 then(qC a b r,i)else jw a b (known++ [r.name]) (i+1) rs
def ju (a:List er)(b:List pM):Nat→List Bg→Int×Int
 |_,[]=>(0,0)
 |i,x::xs=>if xw a b x≠0 then(xw a b x,i)else ju a b (i+1) xs
def km (g:fD):Int×Int:=
 if(jk g.types g.cJ).1≠0 then jk g.types g.cJ else if g.cJ.length≤3 then(9,-1)else if 40<g.rules.length∨100<g.aG.length then(2,-1)
 else if(jw g.types g.cJ [] 0 g.rules).1≠0 then jw g.types g.cJ [] 0 g.rules else if(ju g.types g.cJ 0 g.aG).1≠0 then ju g.types g.cJ 0 g.aG
 else if(dP g.types g.cJ g.start).1≠0 then((dP g.types g.cJ g.start).1,-1)else(0,0)
structure HK where
 nodes:Nat
 leaves:Nat
mutual
def oX (rk:List Int)(nl:Int):dY→Nat→Nat→HK→HK×Int×Int
 | .mk r x l,d,ch,s=>
  if 200<s.nodes+1∨48<d then(⟨s.nodes+1,s.leaves⟩,1,s.nodes)
  else if r< -1∨rk.length≤r∨(r= -1∧(x<0∨nl≤x))then(⟨s.nodes+1,s.leaves⟩,3,s.nodes)
  else if 0≤r∧x≠0 then(⟨s.nodes+1,s.leaves⟩,5,s.nodes)
  else if(l.length:Int)≠(if 0≤r then rk.getD r.toNat 0 else 0)then(⟨s.nodes+1,if 0≤r then s.leaves else s.leaves+1⟩,9,s.nodes)
  else if 3<(if l.length=1 then ch+1 else 0)then(⟨s.nodes+1,if 0≤r then s.leaves else s.leaves+1⟩,14,s.nodes)
  else lq rk nl l (d+1) (if l.length=1 then ch+1 else 0) ⟨s.nodes+1,if 0≤r then s.leaves else s.leaves+1⟩
def lq (rk:List Int)(nl:Int):List dY→Nat→Nat→HK→HK×Int×Int
 | [],_,_,s=>(s,0,0)
 |x::l,d,ch,s=>if(oX rk nl x d ch s).2.1≠0 then oX rk nl x d ch s else lq rk nl l d ch (oX rk nl x d ch s).1
end
def lR (g:fD)(t:dY):Int×Int:=
 if(oX (g.rules.map kM.kids) g.aG.length t 1 0 ⟨0,0⟩).2.1≠0 then(oX (g.rules.map kM.kids) g.aG.length t 1 0 ⟨0,0⟩).2
 else if 12<(oX (g.rules.map kM.kids) g.aG.length t 1 0 ⟨0,0⟩).1.leaves then(2,-2)else(0,0)
end Go.Proofs.YtiefglecbgdaiaaGreatDoor
namespace Go.J
open Go
def cZ (u v:Value):e8:=⟨λ_=>u=v,λ_ _ _ h=>h⟩
structure vJ where
 slot:Nat
 gu:List Nat
 K:Value→e8
instance:Inhabited vJ:=⟨⟨0,[],λu=>cZ u u⟩⟩
def vS (bs:List vJ)(e:Nat→Value)(ds:List Nat):Fr:=ds.map λj=>((bs.getD j default).slot,e j)
def qJ (bs:List vJ)(e:Nat→Value)(ds:List Nat):List ay:=ds.map λj=>aD ((bs.getD j default).K (e j))
def rN (c:Ctx)(H:List ay)(slot:Nat)(K:Value→e8)(a:Act)(w:World):Prop:=a.defers=[]∧∃u,a.tmps[slot]?=some u∧Mm c (aD (K u)::H) w
section
variable {P:Program}{ops:Array Oper}{Q:Exit→Act→World→Prop}{n:Nat}{F:Fr}{c:Ctx}{H R:List ay}
class Hd (H H':List ay):Prop where
 eq:∃L,H'=L++H
instance (priority:=high) Hd.here (H:List ay):Hd H H:=⟨[],rfl⟩
instance Hd.there (E:ay)(H H':List ay)[h:Hd H H']:Hd H (E::H'):=⟨let⟨L,e⟩:=h.eq;⟨E::L,by rw[e];rfl⟩⟩
theorem fH.tail {c:Ctx}{L H:List ay}{ρ:Ro}{w:World}(h:fH c (L++H) ρ w):fH c H ρ w:=by
 induction L with
 |nil=>exact h
 |cons E L a=>exact a (fH.drop h)
theorem St.Xi {b:Fr}{H':List ay}{slot:Nat}{K:Value→e8}(u:Value)(g:look b slot=some u)(d:e8)(hd:K u=d)[hi:mT d H'][tl:Hd H H']:St n b (Mm c H') (rN c H slot K):=
 λa w f hw=>⟨f.defers,u,f.slot _ _ g,by
  rw[hd];obtain⟨ρ,hm⟩:=hw.out
  have h:=dJ.1 (hm.dR _ hi.mem)
  obtain⟨L,e⟩:=tl.eq;subst e
  exact Mm.mk (hm.tail.fact d h)⟩
def XG (P:Program)(ops:Array Oper)(Q:Exit→Act→World→Prop)(n:Nat)(F:Fr)(dr:Prop)(H:List ay)(bs:List vJ)(b:vJ)(o:Oper):Prop:=
 ∀(c:Ctx) (e:Nat→Value),(¬dr→¬c.dr)→St n (vS bs e b.gu++F) (Mm c (qJ bs e b.gu++H)) (wpList P ops (Exit.then (rN c H b.slot b.K) Q) [o])
theorem XG.mk {dr:Prop}{bs:List vJ}{slot:Nat}{gu:List Nat}{K:Value→e8}{o:Oper}(a:(Nat→Value)→Fr)(L:(Nat→Value)→List ay)(h1:∀e,vS bs e gu=a e)(b:∀e,qJ bs e gu=L e)
 (k:∀(c:Ctx) (e:Nat→Value),(¬dr→¬c.dr)→St n (a e++F) (Mm c (L e++H)) (wpList P ops (Exit.then (rN c H slot K) Q) [o])):XG P ops Q n F dr H bs ⟨slot,gu,K⟩ o:=λc e hd=>by
 show St n (vS bs e gu++F) (Mm c (qJ bs e gu++H)) _
 rw[h1,b];exact k c e hd
def an (P:Program)(ops:Array Oper)(Q:Exit→Act→World→Prop)(n:Nat)(F:Fr)(dr:Prop)(H:List ay)(bs:List vJ):List vJ→List Oper→Prop
 | [],[]=>True
 |b::l,o::m=>XG P ops Q n F dr H bs b o∧an P ops Q n F dr H bs l m
 |_,_=>False
theorem an.nil {dr:Prop}{bs:List vJ}:an P ops Q n F dr H bs [] []:=trivial
theorem an.cons {dr:Prop}{bs l:List vJ}{b:vJ}{o:Oper}{m:List Oper}(h:XG P ops Q n F dr H bs b o)(k:an P ops Q n F dr H bs l m):an P ops Q n F dr H bs (b::l) (o::m):=⟨h,k⟩
theorem an.at_ {dr:Prop}{bs:List vJ}:∀{l:List vJ} {m:List Oper},an P ops Q n F dr H bs l m→l.length=m.length∧∀(i:Nat) (b:vJ) (o:Oper),l[i]?=some b→m[i]?=some o→XG P ops Q n F dr H bs b o
 | [],[],_=>⟨rfl,λi b o h=>by simp at h⟩
 | [],_::_,h=>h.elim
 |_::_,[],h=>h.elim
 |b::l,o::m,h=>by
  obtain⟨h1,d⟩:=an.at_ h.2;refine⟨by simp[h1],λi e o' a c=> ?_⟩
  cases i with
  |zero=>simp at a c;subst a c;exact h.1
  |succ i=>exact d i e o' (by simpa using a) (by simpa using c)
def Nf (n lo:Nat)(ex:List Nat)(a:List (Nat×List Nat))(hd:List Oper):Bool:=
 (a.zip hd).all (λp=>p.2.guard.isNone&&p.2.dst==some p.1.1&&Nat.ble (p.1.1+1) n&&(Nat.ble lo p.1.1||ex.contains p.1.1)&&p.1.2.all (λj=>Nat.ble (j+1) a.length&&p.2.after.any λe=>Region.binds .any e&&e.on==j))&&
  (a.map (·.1)).Nodup
theorem Zn {o:Oper}{a:Act}{w:World}{K:Act→World→Prop}(h:o.wp P a w K Q):o.wp P a w (λb w'=>K b w'∧((∃v,b=a.put o.dst v)∨b.defers≠ [])) Q:=by
 unfold Oper.wp at*
 generalize (execOp a.eval o).run P w=r at*
 cases r with
 |ok i w'=>
  cases i<;>simp only[Oper.upon]at h⊢
  case value u=>exact⟨h,.inl ⟨u,rfl⟩⟩
  case skip=>exact⟨h,.inl ⟨undef,rfl⟩⟩
  case defer d=>exact⟨h,.inr (by cases o.dst<;>simp[Act.put])⟩
  case enter f args=>
   refine Calls.mono h λe g he=> ?_
   cases e with
   |returned u=>exact⟨he,.inl ⟨u,rfl⟩⟩
   |panicked c=>exact he
   |outgrown=>exact he
  case row j args=>exact Rows.mono h λu g he=>⟨he,.inl ⟨u,rfl⟩⟩
  all_goals exact h
 |halt x w'=>
  cases x<;>simp only[Oper.upon]at h⊢
  all_goals exact h
theorem Cx {i:Nat}{o:Oper}(hi:ops[i]?=some o)(c:o.guard=none){a:Act}{w:World}{K:Act→World→Prop}(h:wpOp P ops Q i K a w):wpOp P ops Q i (λb w'=>K b w'∧((∃v,b=a.put o.dst v)∨b.defers≠ [])) a w:=by
 unfold wpOp at*;rw[hi]at h⊢
 have hw:Region.wanted o (yielded ops a.tmps)=true:=by unfold Region.wanted;rw[c]
 simp only[hw,if_true]at h⊢
 exact h.imp Zn id
theorem I1 {p q:Nat→Bool}{i:Nat}(hp:p i=true)(a:q i=false)(h:∀j,j≠i→p j=q j):∀m,i<m→(List.range m).countP p=(List.range m).countP q+1:=by
 have eq:∀m,m≤i→(List.range m).countP p=(List.range m).countP q:=by
  intro m hm
  refine List.countP_congr λj b=> ?_
  have:=dM.1 b
  rw[h j zE]
 intro m
 induction m with
 |zero=>intro h;omega
 |succ m c=>
  intro hm;rw[vH,List.countP_append,List.countP_append,List.countP_singleton,List.countP_singleton]
  by_cases e:i=m
  ·subst e
   rw[eq i (aU _),hp,a];simp
  ·rw[c zE,h m (Ne.symm e)];omega
def SU (m:Nat)(listed:Array Bool):Nat:=(List.range m).countP λj=> !listed.getD j true
theorem fH.Uy {c:Ctx}{H:List ay}{ρ:Ro}{w:World}(h:fH c H ρ w):fH ⟨w,ρ,jl H,c.dr⟩ H ρ w:=
 ⟨rfl,⟨rfl,λ_=>aU _⟩,rfl,aU _,λ_ _ _=>rfl,h.fits,Ro.le_refl _,λ_ _ _=>rfl,h.dR,λE a b d=>⟨(h.own E a b d).1,.inr ⟨E,a,d⟩⟩,h.FV⟩
theorem G5:∀{F:Fr} {t:Nat} {x:Value},look F t=some x→t∈F.map (·.1)
 | [],_,_,h=>by simp[look]at h
 |(k,u)::F,t,x,h=>by
  simp only[look]at h
  cases a:Nat.beq t k with
  |true=>rw[nL a];simp
  |false=>
   simp only[a,cond_false]at h
   have:=G5 h
   simp only[List.map_cons,List.mem_cons];exact .inr this
def EC (acc:List Nat)(o:Oper):Nat:=o.after.toList.foldl (λu e=>if Region.binds .any e then u|||(2^e.on|||acc.getD e.on 0)else u) 0
def gy:List Oper→List Nat→List Nat
 | [],acc=>acc
 |o::l,acc=>gy l (acc++ [EC acc o])
theorem Ip (acc:List Nat)(o:Oper){j:Nat}(h:(EC acc o).testBit j=true):∃e∈o.after,Region.binds .any e=true∧(e.on=j∨(acc.getD e.on 0).testBit j=true):=by
 have key:∀(l:List Edge) (u:Nat),(l.foldl (λu e=>if Region.binds .any e then u|||(2^e.on|||acc.getD e.on 0)else u) u).testBit j=true→u.testBit j=true∨∃e∈l,Region.binds .any e=true∧(e.on=j∨(acc.getD e.on 0).testBit j=true):=by
  intro l
  induction l with
  |nil=>intro u h;exact .inl h
  |cons e l a=>
   intro u h;rw[jX]at h
   rcases a _ h with h1|⟨b,he,h1⟩
   ·split at h1
    ·rename_i c
     rw[Nat.testBit_or,Nat.testBit_or,Bool.or_eq_true,Bool.or_eq_true,Nat.testBit_two_pow,gD]at h1
     rcases h1 with h1|h1
     ·exact .inl h1
     ·exact .inr ⟨e,aR ..,c,h1⟩
    ·exact .inl h1
   ·exact .inr ⟨b,cO _ he,h1⟩
 rcases key _ _ h with h1|⟨e,he,h1⟩
 ·rw[Nat.zero_testBit]at h1;cases h1
 ·exact⟨e,by simpa using he,h1⟩
theorem pd:∀(l m:List Oper) (acc:List Nat),gy (l++m) acc=gy m (gy l acc)
 | [],_,_=>rfl
 |o::l,m,acc=>by rw[se,gy,gy,pd l m]
theorem vr:∀(l:List Oper) (acc:List Nat),(gy l acc).length=acc.length+l.length
 | [],_=>rfl
 |o::l,acc=>by rw[gy,vr l];simp;omega
theorem vt:∀(l:List Oper) (acc:List Nat) (i:Nat),i<acc.length→(gy l acc)[i]?=acc[i]?
 | [],_,_,_=>rfl
 |o::l,acc,i,h=>by rw[gy,vt l _ i (by simp;omega),rL h]
theorem Py {l:List Oper}{i:Nat}{o:Oper}(h:l[i]?=some o):(gy l []).getD i 0=EC (gy (l.take i) []) o:=by
 have hi:=(fj.1 h).1
 have e:gy l []=gy (l.drop (i+1)) (gy (l.take i) []++ [EC (gy (l.take i) []) o]):=by
  conv=>lhs;rw[←nR i l]
  rw[pd,List.drop_eq_getElem_cons hi,gy];rw[bT hi]at h;rw[Option.some.inj h]
 have a:(gy (l.take i) []).length=i:=by rw[vr,eR];simp;omega
 rw[e,ax,vt _ _ _ (by simp[a]),nO zE,a,gp];rfl
theorem Iq {l:List Oper}{i j:Nat}(h:j<i)(hi:i≤l.length):(gy (l.take i) []).getD j 0=(gy l []).getD j 0:=by
 have e:gy l []=gy (l.drop i) (gy (l.take i) []):=by rw[←pd,nR]
 rw[e,ax,ax,vt (l.drop i) (gy (l.take i) []) j (by rw[vr,eR];simp;omega)]
def rA (l:List Oper)(m:Nat):Bool:=
 ((List.range l.length).all λi=>match l[i]? with
  |some o=>(o.after.all λe=>Nat.ble (e.on+1) i)&&(Nat.ble i m||o.after.any λe=>Region.binds .any e&&e.on==i-1)
  |none=>false)&&(Nat.ble l.length m||(gy l []).getD m 0==2^m-1)
theorem nH {l:List Oper}{m i:Nat}{o:Oper}(h:rA l m=true)(a:l[i]?=some o):∀e∈o.after,e.on<i:=by
 have hi:=(fj.1 a).1
 simp only[rA,Bool.and_eq_true]at h
 have h1:=fY.1 h.1 i (dM.2 hi)
 simp only[a,Bool.and_eq_true]at h1
 intro e he;exact dS ((Array.all_eq_true_iff_forall_mem.1 h1.1) e he)
theorem AV {l:List Oper}{m i:Nat}{o:Oper}(h:rA l m=true)(c:l[i]?=some o)(hm:m<i):∃e∈o.after,Region.binds .any e=true∧e.on=i-1:=by
 have hi:=(fj.1 c).1
 simp only[rA,Bool.and_eq_true]at h
 have h1:=fY.1 h.1 i (dM.2 hi)
 simp only[c,Bool.and_eq_true,Bool.or_eq_true]at h1
 rcases h1.2 with a|a
 ·have:=dS a;omega
 ·obtain⟨e,he,b⟩:=Array.any_eq_true'.1 a
  simp only[Bool.and_eq_true,beq_iff_eq]at b
  exact⟨e,he,b.1,b.2⟩
def yB (l:List Oper)(listed:Array Bool):Prop:=∀i o,l[i]?=some o→listed.getD i false=true→∀e∈o.after,Region.binds .any e=true→listed.getD e.on false=true
theorem yB.all {l:List Oper}{m:Nat}{listed:Array Bool}(g:rA l m=true)(h:yB l listed):∀(i:Nat) (o:Oper),l[i]?=some o→(∀e∈o.after,Region.binds .any e=true→listed.getD e.on false=true)→∀j,((gy l []).getD i 0).testBit j=true→listed.getD j false=true:=by
 intro i
 induction i using Nat.strongRecOn with
 |ind i k=>
  intro o a n j b
  have hi:=(fj.1 a).1
  rw[Py a]at b;obtain⟨e,he,p,h1⟩:=Ip _ _ b
  have c:=nH g a e he
  have d:=n e he p
  rcases h1 with rfl|h1
  ·exact d
  ·rw[Iq c zE]at h1
   have f:l[e.on]?=some l[e.on]:=bT zE
   exact k e.on c _ f (h _ _ f d) j h1
theorem vD {l:List Oper}{m:Nat}(f:rA l m=true):∀(r:List Oper) (k:Nat) (listed:Array Bool) (a:Act) (w:World),m≤k→(∀j:Nat,r[j]?=l[k+j]?)→k+r.length=l.length→Af k listed l.length→
 wpList P l.toArray Q r a w→wpAny P .any l.toArray Q r.length listed a w
 | [],k,listed,a,w,_,_,d,hu,h=>by
  refine⟨?_,h⟩;unfold Region.ready;rw[List.filter_eq_nil_iff];intro i hi
  have p:=dM.1 hi
  simp only[List.size_toArray]at p
  have:listed.getD i true=true:=by rw[hu.getD i true p];simp at d;simp;omega
  simp[this]
 |o::r,k,listed,a,w,x,q,d,hu,h=>by
  have hk:k<l.length:=by simp at d;omega
  have s:l[k]?=some o:=by simpa using (q 0).symm
  have t:l.toArray[k]?=some o:=by simpa using s
  have G:listed.size=l.length:=hu.1
  refine⟨λy=> ?_,λi hi=> ?_⟩
  ·have:k∈Region.ready .any l.toArray listed:=mem_ready.2 ⟨by rw[hu.getD k true hk];simp,o,t,λe he _=>by
    have:=nH f s e he
    rw[hu.getD e.on false zE];simp[this]⟩
   rw[y]at this;cases this
  ·obtain⟨b,z,u,A⟩:=mem_ready.1 hi
   have B:i<l.length:=by have:=(od.1 u).1;simpa using this
   have C:l[i]?=some z:=by simpa using u
   rw[hu.getD i true B]at b
   have D:k≤i:=by simpa using b
   have g:i=k:=by
    rcases dI k i with h1|h1
    ·obtain⟨e,he,E,n⟩:=AV f C zE
     have v:=A e he E
     rw[n,hu.getD (i-1) _ zE]at v
     simp at v;omega
    ·omega
   subst g
   have F:=vD f r (i+1) (listed.setIfInBounds i true)
   have c:∀a w,wpList P l.toArray Q r a w→wpAny P .any l.toArray Q r.length (listed.setIfInBounds i true) a w:=λa w h=>
    F a w zE (λj=>by have:=q (j+1);simpa[Nat.add_assoc,Nat.add_comm 1 j]using this) (by simp at d⊢;omega) hu.set h
   unfold wpOp;rw[t]
   simp only[wpList]at h
   simp only
   split
   ·rename_i hw
    simp only[hw,if_true]at h
    exact h.imp (Oper.wp_mono c) id
   ·rename_i hw
    simp only[hw]at h
    exact c _ _ h
def Xok:Option (Nat×TypeId×Array Value)→Array Bool→(Nat→Value)→List ay→Prop
 |none,_,_,X=>X=[]
 |some (a,c,Z),listed,e,X=>(listed.getD a false=true∧∃b,e a= tW b∧X=[aW b (.cells Z c (0,0))])∨(listed.getD a false=false∧X=[])
structure HP (al:Option (Nat×TypeId×Array Value))(n:Nat)(F:Fr)(c:Ctx)(H:List ay)(bs:List vJ)(listed:Array Bool)(a:Act)(w:World)(e:Nat→Value)(ρ:Ro)(X:List ay):Prop where
 has:Has n a F
 mem:fH c (H++X) ρ w
 xok:Xok al listed e X
 got:∀(i:Nat) (b:vJ),bs[i]?=some b→listed.getD i false=true→a.tmps[b.slot]?=some (e i)∧(b.K (e i)).f ρ
theorem HP.use {al:Option (Nat×TypeId×Array Value)}{X:List ay}{bs:List vJ}{listed:Array Bool}{a:Act}{w:World}{e:Nat→Value}{ρ:Ro}(h:HP al n F c H bs listed a w e ρ X)(ds:List Nat)(hd:∀j∈ds,j<bs.length∧listed.getD j false=true):
 Has n a (vS bs e ds++F)∧fH c (qJ bs e ds++(H++X)) ρ w:=by
 have gd:∀j,j<bs.length→bs[j]?=some (bs.getD j default):=λj f=>by rw[ax,bT f];rfl
 constructor
 ·refine⟨h.has.size,h.has.defers,λt v b=> ?_⟩
  induction ds with
  |nil=>exact h.has.slot t v b
  |cons j ds m=>
   simp only[vS,List.map_cons,List.cons_append,look]at b
   cases g:Nat.beq t (bs.getD j default).slot with
   |true=>
    have i:=nL g
    simp only[g,cond_true,Option.some.injEq]at b
    subst b;obtain⟨h1,l⟩:=hd j (aR ..)
    rw[i];exact(h.got j _ (gd j h1) l).1
   |false=>
    simp only[g,cond_false]at b
    exact m (λk hk=>hd k (cO _ hk)) b
 ·have i:qJ bs e ds=(ds.map λj=>(bs.getD j default).K (e j)).map aD:=by unfold qJ;rw[jJ];rfl
  rw[i]
  refine h.mem.BA _ λd o=> ?_
  obtain⟨j,f,rfl⟩:=cS.1 o;obtain⟨h1,l⟩:=hd j f;exact(h.got j _ (gd j h1) l).2
def aaC (P:Program)(ops:Array Oper)(n:Nat)(bs:List vJ):Option (Nat×TypeId×Array Value)→Prop
 |none=>True
 |some (a,b,Z)=>(∃d ty pos after,ops[a]?=some {dst:=some d,op:= .alloc b,type:=ty,pos:=pos,after:=after,guard:=none}∧Nat.ble (d+1) n=true)∧(P.info? b).bind (λi=>i.zero.map Value.cells)=some Z∧(bs.getD a default).K=(λu=>cZ u u)
def alE (al:Option (Nat×TypeId×Array Value))(e:Nat→Value)(H:List ay)(h:List ay→Prop):Prop:=match al with
 |none=>h H
 |some (a,c,Z)=>∀b,e a= tW b→h (aW b (.cells Z c (0,0))::H)
theorem Xh {al:Option (Nat×TypeId×Array Value)}{bs:List vJ}(hal:aaC P ops n bs al){hd tl:List Oper}{lo:Nat}{ex:List Nat}{sd:List (Nat×List Nat)}(hsd:bs.map (λb=>(b.slot,b.gu))=sd)(hlo:F.all (λp=>Nat.ble (p.1+1) lo&& !(ex.contains p.1))=true)(IY:ops=(hd++tl).toArray)(V:rA (hd++tl) hd.length=true)(M:Nf n lo ex sd hd=true)(hH:an P ops Q n F c.dr H bs bs hd)(Um:List Nat)(WN:Um.all (λj=>Nat.ble (j+1) sd.length)=true)
 (hia:∀C y Z,al=some (C,y,Z)→C<hd.length)
 (afP:∀e,alE al e H λH'=>St n (vS bs e Um++F) (Mm c (qJ bs e Um++H')) (wpList P ops Q tl)):
 ∀(f:Nat) (listed:Array Bool) (a:Act) (w:World) (e:Nat→Value) (ρ:Ro) (X:List ay),listed.size=ops.size→yB (hd++tl) listed→(∀j,hd.length≤j→j<ops.size→listed[j]?=some false)→SU hd.length listed=f→
  HP al n F c H bs listed a w e ρ X→wpAny P .any ops Q (f+tl.length) listed a w:=by
 obtain⟨hlen,U5⟩:=hH.at_
 have hsz:ops.size=hd.length+tl.length:=by rw[IY];simp
 have amR:∀i,i<hd.length→ops[i]?=hd[i]?:=λi hi=>by rw[IY];simp[List.getElem?_append_left hi]
 subst hsd
 simp only[Nf,Bool.and_eq_true,decide_eq_true_eq]at M
 obtain⟨KS,CJ⟩:=M;rw[jJ]at CJ
 change (bs.map (·.slot)).Nodup at CJ
 rw[aO]at WN
 have KS:=fY.1 KS
 have each:∀(i:Nat) (b:vJ) (o:Oper),bs[i]?=some b→hd[i]?=some o→o.guard=none∧o.dst=some b.slot∧b.slot<n∧b.slot∉F.map (·.1)∧∀j∈b.gu,j<bs.length∧∃ed∈o.after,Region.binds .any ed=true∧ed.on=j:=by
  intro i b o l ho
  have h1:=KS ((b.slot,b.gu),o) (aY (i:=i) (by rw[List.getElem?_zip_eq_some];exact⟨by rw[bJ,l];rfl,ho⟩))
  simp only[Bool.and_eq_true,Option.isNone_iff_eq_none,beq_iff_eq,Bool.not_eq_true']at h1
  obtain⟨⟨⟨⟨h1,D⟩,m⟩,h4⟩,h5⟩:=h1
  refine⟨h1,D,dS m,λhm=>(by
   obtain⟨p,hp,he⟩:=cS.1 hm
   have q0:=fY.1 hlo p hp
   simp only[Bool.and_eq_true,Bool.not_eq_true']at q0
   have q1:=dS q0.1
   have q3:p.1=b.slot:=he
   rcases Bool.or_eq_true _ _|>.mp h4 with W|W
   ·have W:=dS W
    omega
   ·rw[q3]at q0;rw[W]at q0;cases q0.2),λj g=> ?_⟩
  have h6:=fY.1 h5 j g
  simp only[Bool.and_eq_true]at h6
  obtain⟨ed,z,s⟩:=Array.any_eq_true'.1 h6.2
  simp only[Bool.and_eq_true,beq_iff_eq]at s
  exact⟨by have:=dS h6.1;rwa[aO]at this,ed,z,s.1,s.2⟩
 intro f
 induction f with
 |zero=>
  intro listed a w e ρ X hs YM htl hu r
  have all:∀j,j<hd.length→listed[j]?=some true:=λj g=>by
   have h1:¬0<SU hd.length listed:=by omega
   unfold SU at h1;rw[List.countP_pos_iff]at h1
   have E:j<listed.size:=by omega
   cases hv:listed[j]? with
   |none=>rw[Array.getElem?_eq_none_iff]at hv;omega
   |some b=>
    cases b with
    |true=>rfl
    |false=>exact absurd ⟨j,dM.2 g,by rw[kp,hv];rfl⟩ h1
  have hup:Af hd.length listed ops.size:=⟨hs,λj g=>by
   rcases dI j hd.length with h|h
   ·rw[all j h];simp[h]
   ·rw[htl j h g];simp[Nat.not_lt.2 h]⟩
  rw[jH];rw[IY]at hup⊢;refine vD V tl hd.length listed a w (aU _) (λj=>by simp[List.getElem?_append_right]) (by simp) (by simpa using hup) ?_;rw[←IY]
  obtain⟨h1,D⟩:=r.use Um λj g=>by
   have m:=dS (fY.1 WN j g)
   exact⟨m,by rw[kp,all j zE];rfl⟩
  have ht:=afP e
  have hx:=r.xok
  cases al with
  |none=>
   have hx:X=[]:=hx
   subst hx;exact ht a w h1 (Mm.mk (by rw[ib]at D;exact D))
  |some q=>
   obtain⟨C,y,Z⟩:=q
   have hl:listed.getD C false=true:=by rw[kp,all C (hia C y Z rfl)];rfl
   rcases hx with⟨_,b,M,rfl⟩|⟨M,_⟩
   ·exact ht b M a w h1 (Mm.mk (D.perm (Cy _ (kf (l₁:=H) (l₂:=[aW b (.cells Z y (0,0))])))))
   ·rw[hl]at M;cases M
 |succ f ih=>
  intro listed a w e ρ X hs YM htl hu r
  have hex:∃j,j<hd.length∧listed.getD j true=false:=by
   have h1:0<SU hd.length listed:=by omega
   unfold SU at h1;rw[List.countP_pos_iff]at h1;obtain⟨j,g,h⟩:=h1;exact⟨j,dM.1 g,by simpa using h⟩
  rw[show f+1+tl.length=(f+tl.length)+1 by omega];refine⟨λh0=> ?_,λi hi=> ?_⟩
  ·obtain⟨j,g,B⟩:=hex
   exact absurd h0 (sW hs (λi o ho=>nH V (by rw[IY]at ho;simpa using ho)) ⟨j,by omega,B⟩)
  ·obtain⟨S,o,G,M7⟩:=mem_ready.1 hi
   have hiN:i<ops.size:=(od.1 G).1
   have him:i<hd.length:=by
    rcases dI i hd.length with h|h
    ·exact h
    ·obtain⟨j,g,B⟩:=hex
     exfalso
     have UC:(hd++tl)[i]?=some o:=by rw[IY]at G;simpa using G
     rcases dI hd.length i with D|D
     ·obtain⟨ed,z,s,he3⟩:=AV V UC D
      have h1:=M7 ed z s
      rw[he3]at h1
      have m:=htl (i-1) zE zE
      rw[kp,m]at h1
      cases h1
     ·obtain rfl:i=hd.length:=by omega
      have aeM:(gy (hd++tl) []).getD hd.length 0=2^hd.length-1:=by
       simp only[rA,Bool.and_eq_true,Bool.or_eq_true]at V
       rcases V.2 with m|m
       ·have:=dS m
        have E:=(fj.1 UC).1
        omega
       ·simpa using m
      have h1:=YM.all V _ o UC (λed z s=>by
       have m:=M7 ed z s
       have E:=nH V UC ed z
       rw[kp,py (show ed.on<listed.size by omega)]at m⊢
       simpa using m) j (by rw[aeM,Nat.testBit_two_pow_sub_one];simpa using g)
      have E:j<listed.size:=by omega
      rw[kp,py E]at h1 B
      simp at h1 B
      rw[h1]at B;cases B
   have hho:hd[i]?=some o:=by rw[←amR i him];exact G
   have l:bs[i]?=some (bs[i]'zE):=bT zE
   generalize bs[i]'zE=b at l
   obtain⟨g1,g2,g3,g4,g5⟩:=each i b o l hho
   have hop:=U5 i b o l hho
   obtain⟨u1,u2⟩:=r.use b.gu λj g=>by
    obtain⟨q1,ed,W,q3,q4⟩:=g5 j g;refine⟨q1,?_⟩
    have h1:=M7 ed W q3
    rw[q4]at h1
    have E:j<listed.size:=by omega
    rw[kp,py E]at h1⊢
    simpa using h1
   have E:i<listed.size:=by omega
   have aeH:SU hd.length (listed.setIfInBounds i true)=f:=by
    have h1:=I1 (p:=λj=> !listed.getD j true) (q:=λj=> !(listed.setIfInBounds i true).getD j true) (i:=i) (by simp[S]) (by simp[Array.getD_eq_getD_getElem?,E]) (λj g=>by
     simp only[Array.getD_eq_getD_getElem?,Array.getElem?_setIfInBounds];rw[aA (Ne.symm g)]) hd.length him
    unfold SU at hu⊢;omega
   have afQ:∀j,hd.length≤j→j<ops.size→(listed.setIfInBounds i true)[j]?=some false:=λj g hjN=>by
    rw[H9,aA zE];exact htl j g hjN
   have other:∀j,j≠i→(listed.setIfInBounds i true).getD j false=listed.getD j false:=λj g=>by
    rw[kp,kp,H9,aA (Ne.symm g)]
   have aeG:yB (hd++tl) (listed.setIfInBounds i true):=λj oj g I ed he M=>by
    have T:ed.on≠i→(listed.setIfInBounds i true).getD ed.on false=listed.getD ed.on false:=λh=>other _ h
    have afI:(listed.setIfInBounds i true).getD i false=true:=by rw[kp,H9,aB rfl,aB E];rfl
    by_cases N:ed.on=i
    ·rw[N];exact afI
    ·rw[T N]
     by_cases e2:j=i
     ·subst e2
      have:oj=o:=by
       have q:(hd++tl)[j]?=some o:=by rw[IY]at G;simpa using G
       rw[q]at g;exact(Option.some.inj g).symm
      subst this
      have m:=M7 ed he M
      have apX:=nH V g ed he
      rw[kp,py (show ed.on<listed.size by omega)]at m⊢
      simpa using m
     ·rw[other _ e2]at I
      exact YM j oj g I ed he M
   have aeD:∀v,Has n (a.put (some b.slot) v) F:=λv=>by
    refine⟨by simp[Act.put,r.has.size],by simp[Act.put,r.has.defers],λt x hx=> ?_⟩
    have T:b.slot≠t:=λh=>g4 (h▸G5 hx)
    simp[Act.put,T,r.has.slot t x hx]
   have acZ:∀(v:Value) (kK:Ro),Ro.le ρ kK→(b.K v).f kK→∀(j:Nat) (Y:vJ),bs[j]?=some Y→(listed.setIfInBounds i true).getD j false=true→
    (a.put (some b.slot) v).tmps[Y.slot]?=some (if j=i then v else e j)∧(Y.K (if j=i then v else e j)).f kK:=λv kK hle hKv j Y U I=>by
    by_cases N:j=i
    ·subst N
     rw[l]at U;cases U
     have hsl:b.slot<a.tmps.size:=by rw[r.has.size];exact g3
     refine⟨by rw[aB rfl];simp[Act.put,hsl],by rw[aB rfl];exact hKv⟩
    ·rw[aA N]
     rw[other j N]at I;obtain⟨k1,k2⟩:=r.got j Y U I;refine⟨?_,(Y.K (e j)).mono ρ kK hle k2⟩
     have T:b.slot≠Y.slot:=λh=>by
      have q1:(bs.map (·.slot))[i]?=some b.slot:=by rw[bJ,l];rfl
      have W:(bs.map (·.slot))[j]?=some Y.slot:=by rw[bJ,U];rfl
      have:=(List.getElem?_inj (i:=i) (j:=j) (by rw[aO];omega) CJ).1 (by rw[q1,W,h])
      exact N this.symm
     simp[Act.put,T,k1]
   have r0:fH ⟨w,ρ,jl H,c.dr⟩ H ρ w:=(r.mem.left).Uy
   by_cases aeB:∃y Z,al=some (i,y,Z)
   ·obtain⟨y,Z,rfl⟩:=aeB
    obtain⟨⟨d0,ty0,aoD,af0,aeT,hd0⟩,hz,hK⟩:=hal;rw[G]at aeT
    have ho:o={dst:=some d0,op:= .alloc y,type:=ty0,pos:=aoD,after:=af0,guard:=none}:=Option.some.inj aeT
    have hd1:d0=b.slot:=by rw[ho]at g2;exact Option.some.inj g2
    have hX0:X=[]:=by
     rcases r.xok with⟨hx,_⟩|⟨_,hx⟩
     ·rw[kp,py E]at S hx
      simp at S hx
      rw[S]at hx;cases hx
     ·exact hx
    subst hX0
    have k1:wpOp P ops Q i (λa' w'=>a'.defers=[]∧∃J,a'.tmps[b.slot]?=some (tW J)∧Mm ⟨w,ρ,jl H,c.dr⟩ (aW J (.cells Z y (0,0))::H) w') a w:=by
     refine St.one (n:=n) (F:=F) (A:=Mm ⟨w,ρ,jl H,c.dr⟩ H) G ?_ a w r.has (Mm.mk r0);rw[ho];refine St.alloc hz hd0 (λJ=>St.nil (St.kC λa' w' ha' hw'=>⟨ha'.defers,J,?_,hw'⟩));rw[←hd1];exact ha'.slot _ _ (by simp[look])
    refine wpOp_mono (λa' w' hk=> ?_) (Cx G g1 k1);obtain⟨⟨hdf,J,L,O⟩,MC⟩:=hk
    rcases MC with⟨v,rfl⟩|YI
    ·obtain⟨kK,O⟩:=O.out
     have PK:fH c (H++ [aW J (.cells Z y (0,0))]) kK w':=by
      have:=fH.step (R:=[]) r.mem O
      rw[ib]at this;exact this.perm (kf (l₁:=[aW J (.cells Z y (0,0))]) (l₂:=H))
     rw[g2]at L⊢
     have huv:v= tW J:=by
      have:b.slot<a.tmps.size:=by rw[r.has.size];exact g3
      simpa[Act.put,this]using L
     have hKb:b.K=λu=>cZ u u:=by
      have:bs.getD i default=b:=by rw[ax,l];rfl
      rw[←this];exact hK
     refine ih (listed.setIfInBounds i true) _ w' (λk=>if k=i then v else e k) kK _ (by simp[hs]) aeG afQ aeH ⟨aeD v,PK,.inl ⟨?_,J,?_,rfl⟩,acZ v kK O.le ?_⟩
     ·rw[kp,H9,aB rfl,aB E];rfl
     ·show(if i=i then v else e i)=_
      rw[aB rfl];exact huv
     ·rw[hKb];exact rfl
    ·exact absurd hdf YI
   ·have k1:=St.one (i:=i) G (hop ⟨w,ρ,jl H,c.dr⟩ e (λh=>h)) a w u1 (Mm.mk (by
     have N:qJ bs e b.gu=(b.gu.map λj=>(bs.getD j default).K (e j)).map aD:=by unfold qJ;rw[jJ];rfl
     rw[N]
     refine r0.BA _ λd hd'=> ?_
     have:=u2.dR (aD d) (ke _ (by rw[N];exact dh hd'))
     exact dJ.1 this))
    refine wpOp_mono (λa' w' hk=> ?_) (Cx G g1 k1);obtain⟨⟨hdf,u,L,O⟩,MC⟩:=hk
    rcases MC with⟨v,rfl⟩|YI
    ·obtain⟨kK,O⟩:=O.out
     have hKu:(b.K u).f kK:=dJ.1 (O.dR _ (aR ..))
     have PK:fH c (H++X) kK w':=fH.step r.mem O.drop
     rw[g2]at L⊢
     have huv:v=u:=by
      have:b.slot<a.tmps.size:=by rw[r.has.size];exact g3
      simpa[Act.put,this]using L
     subst huv;refine ih (listed.setIfInBounds i true) _ w' (λk=>if k=i then v else e k) kK X (by simp[hs]) aeG afQ aeH ⟨aeD v,PK,?_,acZ v kK O.le hKu⟩
     have hx:=r.xok
     cases al with
     |none=>exact hx
     |some q=>
      obtain⟨C,y,Z⟩:=q
      have T:C≠i:=λh=>aeB ⟨y,Z,by rw[h]⟩
      rcases hx with⟨h1,J,D,m⟩|⟨h1,D⟩
      ·refine .inl ⟨by rw[other C T];exact h1,J,?_,m⟩
       show(if C=i then v else e C)=_
       rw[aA T];exact D
      ·exact .inr ⟨by rw[other C T];exact h1,D⟩
    ·exact absurd hdf YI
theorem St.aaV {id:Nat}(al:Option (Nat×TypeId×Array Value))(m lo:Nat)(ex:List Nat){l:List Oper}(bs:List vJ)(g:List (Nat×List Nat))(f:List Nat)(u:aaC P l.toArray n bs al)(h:∀r v Z,al=some (r,v,Z)→r<(l.take m).length)(k:bs.map (λb=>(b.slot,b.gu))=g)(x:F.all (λp=>Nat.ble (p.1+1) lo&& !(ex.contains p.1))=true)(hm:P.follows .mixedOrders=true)(y:rA l (l.take m).length=true)(z:Nf n lo ex g (l.take m)=true)(A:f.all (λj=>Nat.ble (j+1) g.length)=true)
 (hH:an P l.toArray Q n F c.dr H bs bs (l.take m)) (B:∀e,alE al e H λH'=>St n (vS bs e f++F) (Mm c (qJ bs e f++H')) (wpList P l.toArray Q (l.drop m))):
 St n F (Mm c H) ((Code.region id l.toArray true).wp P Q):=by
 intro a w C hw;refine wp_region_any hm ?_
 have D:=(Mm.drawn c H) w hw
 obtain⟨ρ,E⟩:=D.out
 have hlen:l.length=(l.take m).length+(l.drop m).length:=by rw[←cA,nR]
 have no:∀i,(Array.replicate l.length false).getD i false=false:=λi=>by
  rw[kp,Array.getElem?_replicate];split<;>rfl
 have s:=Xh (ops:=l.toArray) (hd:=l.take m) (tl:=l.drop m) u k x (by rw[nR]) (by rw[nR];exact y) z hH f A h B (SU (l.take m).length (Array.replicate l.length false)) (Array.replicate l.length false) a {w with drawn:=w.drawn+1} (λ_=>undef) ρ [] (by simp) (λi _ _ d=>by rw[no]at d;cases d) (λj t o=>by
  rw[Array.getElem?_replicate,aB (by simpa using o)]) rfl ⟨C,by rw[List.append_nil];exact E,by
   cases al with
   |none=>exact rfl
   |some q=>exact .inr ⟨no _,rfl⟩,λi b _ d=>by rw[no]at d;cases d⟩
 have hu:SU (l.take m).length (Array.replicate l.length false)=(l.take m).length:=by
  unfold SU;rw[List.countP_eq_length.2,kF];intro j t
  have:=dM.1 t
  rw[kp,Array.getElem?_replicate,aB zE];rfl
 rw[hu,←hlen]at s
 simpa using s
theorem St.DM {T:Act→World→Prop}{a b d e f:ay}(h:St n F (Mm c (a::b::d::e::f::R)) T):St n F (Mm c ([a,b,d,e,f]++R)) T:=h
theorem St.NZ {T:Act→World→Prop}{a b d e f g:ay}(h:St n F (Mm c (a::b::d::e::f::g::R)) T):St n F (Mm c ([a,b,d,e,f,g]++R)) T:=h
theorem St.Vd {id:Nat}(m lo:Nat)(ex:List Nat){l:List Oper}(bs:List vJ)(a:List (Nat×List Nat))(d:List Nat)(f:bs.map (λb=>(b.slot,b.gu))=a)(k:F.all (λp=>Nat.ble (p.1+1) lo&& !(ex.contains p.1))=true)(hm:P.follows .mixedOrders=true)(o:rA l (l.take m).length=true)(q:Nf n lo ex a (l.take m)=true)(r:d.all (λj=>Nat.ble (j+1) a.length)=true)
 (g:(Nat→Value)→Fr) (i:(Nat→Value)→List ay) (t1:∀e,vS bs e d=g e) (t2:∀e,qJ bs e d=i e)
 (hH:an P l.toArray Q n F c.dr H bs bs (l.take m)) (s:∀e,St n (g e++F) (Mm c (i e++H)) (wpList P l.toArray Q (l.drop m))):
 St n F (Mm c H) ((Code.region id l.toArray true).wp P Q):=St.aaV none m lo ex bs a d trivial (λ_ _ _ h=>by cases h) f k hm o q r hH (λe=>by show St _ _ _ _;rw[t1,t2];exact s e)
theorem St.ajM {id:Nat}(a:Nat){f:TypeId}{Z:Array Value}{d0 s:Nat}{t:String}{d:Array Edge}(m lo:Nat)(ex:List Nat){l:List Oper}(bs:List vJ)(g:List (Nat×List Nat))(k:List Nat)
 (x:l.toArray[a]?=some {dst:=some d0,op:= .alloc f,type:=s,pos:=t,after:=d,guard:=none}) (y:Nat.ble (d0+1) n=true) (hz:(P.info? f).bind (λi=>i.zero.map Value.cells)=some Z) (z:(bs.getD a default).K=(λu=>cZ u u)) (o:Nat.ble (a+1) (l.take m).length=true)
 (q:bs.map (λb=>(b.slot,b.gu))=g) (A:F.all (λp=>Nat.ble (p.1+1) lo&& !(ex.contains p.1))=true) (hm:P.follows .mixedOrders=true) (B:rA l (l.take m).length=true) (r:Nf n lo ex g (l.take m)=true) (C:k.all (λj=>Nat.ble (j+1) g.length)=true)
 (v:(Nat→Value)→Fr) (w:(Nat→Value)→List ay) (t1:∀e,vS bs e k=v e) (t2:∀e,qJ bs e k=w e)
 (hH:an P l.toArray Q n F c.dr H bs bs (l.take m)) (D:∀e b,e a= tW b→St n (v e++F) (Mm c (w e++(aW b (.cells Z f (0,0))::H))) (wpList P l.toArray Q (l.drop m))):
 St n F (Mm c H) ((Code.region id l.toArray true).wp P Q):=
 St.aaV (some (a,f,Z)) m lo ex bs g k ⟨⟨d0,s,t,d,x,y⟩,hz,z⟩ (λi _ _ h=>by cases h;exact dS o) q A hm B r C hH (λe b r=>by rw[t1,t2];exact D e b r)
end
end Go.J
namespace Go.J
open Go Go.Proofs.YtiefglecbgdaiaaGreatDoor
abbrev aV (x:fk):Value:= .agg #[sv x.base,x.av.1]
abbrev cR (x:dX):Value:= .agg #[iv x.kind,sv x.name,iv x.index,sv x.type.base,x.type.av.1,x.av.1]
abbrev dA (x:bM):Value:= .agg #[iv x.rule,iv x.lex,x.kv.1]
abbrev bF (x:dC):Value:= .agg #[x.nv.1]
abbrev sZ (x:cK):Value:= .agg #[sv x.name,x.graph.nv.1,iv x.kids,iv x.weight,iv x.fB.kind,sv x.fB.name,iv x.fB.index,sv x.fB.type.base,x.fB.type.av.1,x.fB.av.1]
abbrev agU (x:fq):Value:= .agg #[sv x.word,x.graph.nv.1,iv x.weight,iv x.fB.kind,sv x.fB.name,iv x.fB.index,sv x.fB.type.base,x.fB.type.av.1,x.fB.av.1]
abbrev eF (g:eU):Value:= .agg #[g.tv.1,g.fv.1,g.rv.1,g.xv.1,g.start.nv.1]
def dL (s:j0)(u:Value):e8:=⟨λρ=>∃x:fk,u=aV x∧dW x=s∧kW.wf x∧sO ρ x,λ_ _ h ⟨x,a,b,c,d⟩=>⟨x,a,b,c,d.mono h⟩⟩
def isTerm (t:ji)(u:Value):e8:=⟨λρ=>∃x:dX,u=cR x∧cx x=t∧cz.wf x∧pP ρ x,λ_ _ h ⟨x,a,b,c,d⟩=>⟨x,a,b,c,d.mono h⟩⟩
def bS (g:eB)(u:Value):e8:=⟨λρ=>∃x:dC,u=bF x∧bE x=g∧(aI x).f ρ,λ_ _ h ⟨x,a,b,c⟩=>⟨x,a,b,(aI x).mono _ _ h c⟩⟩
def fI (r:kM)(u:Value):e8:=⟨λρ=>∃x:cK,u=sZ x∧iE x=r∧bZ.wf x∧(bb x).f ρ,λ_ _ h ⟨x,a,b,c,d⟩=>⟨x,a,b,c,(bb x).mono _ _ h d⟩⟩
def zd (g:fD)(u:Value):e8:=⟨λρ=>∃x:eU,u=eF x∧bK x=g∧(cj x).f ρ,λ_ _ h ⟨x,a,b,c⟩=>⟨x,a,b,(cj x).mono _ _ h c⟩⟩
def mO (e:List ji)(u:Value):e8:=⟨λρ=>u.oneCell'=true∧∃xs:List dX,xs.map cx=e∧(sl cz u xs).f ρ∧(aL cu xs).f ρ,λ_ _ h ⟨a,xs,b,c,d⟩=>⟨a,xs,b,(sl _ _ _).mono _ _ h c,(aL _ _).mono _ _ h d⟩⟩
def pa (rs:List kM)(u:Value):e8:=⟨λρ=>u.oneCell'=true∧∃xs:List cK,xs.map iE=rs∧(sl bZ u xs).f ρ∧(aL bb xs).f ρ,λ_ _ h ⟨a,xs,b,c,d⟩=>⟨a,xs,b,(sl _ _ _).mono _ _ h c,(aL _ _).mono _ _ h d⟩⟩
def fa {α:Type}(R:Rp α)(xs:List α)(u:Value):e8:=⟨λρ=>u.oneCell'=true∧(sl R u xs).f ρ,λ_ _ h ⟨a,b⟩=>⟨a,(sl _ _ _).mono _ _ h b⟩⟩
def fW {α:Type}(R:Rp α)(xs:List (List α))(u:Value):e8:=⟨λρ=>u.oneCell'=true∧(SS R u xs).f ρ,λ_ _ h ⟨a,b⟩=>⟨a,(SS _ _ _).mono _ _ h b⟩⟩
section
variable {n:Nat}{F:Fr}{c:Ctx}{H R:List ay}{T:Act→World→Prop}
theorem St.bm {P:Program}(k:Nat)(u v:Value)[hd:mT (cZ u v) H](hk:look F k=some u)(h:St n ((k,v)::F) (Mm c H) T):St n F (Mm c H) T:=by
 intro a w b hw;obtain⟨ρ,hm⟩:=hw.out
 have e:u=v:=dJ.1 (hm.dR _ hd.mem)
 subst e;refine h a w ⟨b.size,b.defers,λt x hx=> ?_⟩ hw
 simp only[look]at hx
 cases d:Nat.beq t k with
 |true=>
  rw[nL d]
  simp only[d,cond_true,Option.some.injEq]at hx
  subst hx;exact b.slot _ _ hk
 |false=>simp only[d,cond_false]at hx;exact b.slot _ _ hx
theorem St.ud {ι:Sort _}(d:e8)[hd:mT d H](p:ι→Prop)(L:ι→List e8)(h:∀ρ,d.f ρ→∃x,p x∧∀e∈L x,e.f ρ)(k:∀x,p x→St n F (Mm c ((L x).map aD++H)) T):St n F (Mm c H) T:=by
 intro a w b hw;obtain⟨ρ,hm⟩:=hw.out;obtain⟨x,hp,hx⟩:=h ρ (dJ.1 (hm.dR _ hd.mem));exact k x hp a w b (Mm.mk (hm.BA (L x) hx))
theorem St.dL (s:j0)(u:Value)[hd:mT (J.dL s u) H](k:∀x:fk,u=aV x∧dW x=s∧kW.wf x→St n F (Mm c (aD (ez x)::H)) T):St n F (Mm c H) T:=
 St.ud (J.dL s u) _ (λx=>[ez x]) (λρ ⟨x,a,b,c,d⟩=>⟨x,⟨a,b,c⟩,λe he=>by rw[ba.1 he];exact d⟩) k
theorem St.isTerm (t:ji)(u:Value)[hd:mT (J.isTerm t u) H](k:∀x:dX,u=cR x∧cx x=t∧cz.wf x→St n F (Mm c (aD (cu x)::H)) T):St n F (Mm c H) T:=
 St.ud (J.isTerm t u) _ (λx=>[cu x]) (λρ ⟨x,a,b,c,d⟩=>⟨x,⟨a,b,c⟩,λe he=>by rw[ba.1 he];exact d⟩) k
theorem St.bS (g:eB)(u:Value)[hd:mT (J.bS g u) H](k:∀x:dC,u=bF x∧bE x=g→St n F (Mm c (aD (aI x)::H)) T):St n F (Mm c H) T:=
 St.ud (J.bS g u) _ (λx=>[aI x]) (λρ ⟨x,a,b,c⟩=>⟨x,⟨a,b⟩,λe he=>by rw[ba.1 he];exact c⟩) k
theorem St.fI (r:kM)(u:Value)[hd:mT (J.fI r u) H](k:∀x:cK,u=sZ x∧iE x=r∧bZ.wf x→St n F (Mm c (aD (bb x)::H)) T):St n F (Mm c H) T:=
 St.ud (J.fI r u) _ (λx=>[bb x]) (λρ ⟨x,a,b,c,d⟩=>⟨x,⟨a,b,c⟩,λe he=>by rw[ba.1 he];exact d⟩) k
theorem St.zd (g:fD)(u:Value)[hd:mT (J.zd g u) H](k:∀x:eU,u=eF x∧bK x=g→St n F (Mm c (aD (cj x)::H)) T):St n F (Mm c H) T:=
 St.ud (J.zd g u) _ (λx=>[cj x]) (λρ ⟨x,a,b,c⟩=>⟨x,⟨a,b⟩,λe he=>by rw[ba.1 he];exact c⟩) k
theorem St.mO (f:List ji)(u:Value)[hd:mT (J.mO f u) H](k:∀xs:List dX,u.oneCell'=true∧xs.map cx=f→St n F (Mm c (aD (sl cz u xs)::aD (aL cu xs)::H)) T):St n F (Mm c H) T:=
 St.ud (J.mO f u) _ (λxs=>[sl cz u xs,aL cu xs]) (λρ ⟨a,xs,b,c,d⟩=>⟨xs,⟨a,b⟩,λe he=>by
  simp only[List.mem_cons,List.not_mem_nil,or_false]at he
  rcases he with rfl|rfl
  ·exact c
  ·exact d⟩) k
theorem St.pa (f:List kM)(u:Value)[hd:mT (J.pa f u) H](k:∀xs:List cK,u.oneCell'=true∧xs.map iE=f→St n F (Mm c (aD (sl bZ u xs)::aD (aL bb xs)::H)) T):St n F (Mm c H) T:=
 St.ud (J.pa f u) _ (λxs=>[sl bZ u xs,aL bb xs]) (λρ ⟨a,xs,b,c,d⟩=>⟨xs,⟨a,b⟩,λe he=>by
  simp only[List.mem_cons,List.not_mem_nil,or_false]at he
  rcases he with rfl|rfl
  ·exact c
  ·exact d⟩) k
theorem St.fa {α:Type}(Rr:Rp α)(xs:List α)(u:Value)[hd:mT (J.fa Rr xs u) H](k:u.oneCell'=true→St n F (Mm c (aD (sl Rr u xs)::H)) T):St n F (Mm c H) T:=
 St.ud (ι:=Unit) (J.fa Rr xs u) (λ_=>u.oneCell'=true) (λ_=>[sl Rr u xs]) (λρ ⟨a,b⟩=>⟨(),a,λe he=>by rw[ba.1 he];exact b⟩) λ_=>k
theorem St.fW {α:Type}(Rr:Rp α)(xs:List (List α))(u:Value)[hd:mT (J.fW Rr xs u) H](k:u.oneCell'=true→St n F (Mm c (aD (SS Rr u xs)::H)) T):St n F (Mm c H) T:=
 St.ud (ι:=Unit) (J.fW Rr xs u) (λ_=>u.oneCell'=true) (λ_=>[SS Rr u xs]) (λρ ⟨a,b⟩=>⟨(),a,λe he=>by rw[ba.1 he];exact b⟩) λ_=>k
theorem St.ua (b:cM)(u:Value)(hu:u.oneCell'=true)(l:List fk)[h1:mT (sl kW u l) H][a:mT (aL ez l) H](k:St n F (Mm c (aD (ez (.mk b ⟨u,hu⟩ l))::H)) T):St n F (Mm c H) T:=
 St.fF (ez (.mk b ⟨u,hu⟩ l)) [sl kW u l,aL ez l] (λρ h=> .mk (h _ (aR ..)) (h _ (cO _ (aR ..)))) k
theorem St.ED (kd:Int)(nm:cM)(i:Int)(s:fk)(u:Value)(hu:u.oneCell'=true)(l:List dX)[a:mT (ez s) H][h1:mT (sl cz u l) H][b:mT (aL cu l) H](k:St n F (Mm c (aD (cu (.mk kd nm i s ⟨u,hu⟩ l))::H)) T):St n F (Mm c H) T:=
 St.fF (cu (.mk kd nm i s ⟨u,hu⟩ l)) [ez s,sl cz u l,aL cu l] (λρ h=> .mk (h (ez s) (by simp)) (h (sl cz u l) (by simp)) (h (aL cu l) (by simp))) k
theorem St.Wv (x:fk){s:j0}(u:Value)(hu:u=aV x)(a:dW x=s)(hw:kW.wf x)[hd:mT (ez x) H](k:St n F (Mm c (aD (J.dL s u)::H)) T):St n F (Mm c H) T:=
 St.fF (J.dL s u) [ez x] (λρ h=>⟨x,hu,a,hw,h _ (aR ..)⟩) k
theorem St.toTerm (x:dX){s:ji}(u:Value)(hu:u=cR x)(a:cx x=s)(hw:cz.wf x)[hd:mT (cu x) H](k:St n F (Mm c (aD (J.isTerm s u)::H)) T):St n F (Mm c H) T:=
 St.fF (J.isTerm s u) [cu x] (λρ h=>⟨x,hu,a,hw,h _ (aR ..)⟩) k
theorem St.VJ (x:dC){g:eB}(u:Value)(hu:u=bF x)(a:bE x=g)[hd:mT (aI x) H](k:St n F (Mm c (aD (J.bS g u)::H)) T):St n F (Mm c H) T:=
 St.fF (J.bS g u) [aI x] (λρ h=>⟨x,hu,a,h _ (aR ..)⟩) k
theorem St.ZY {α:Type}{Rr:Rp α}{xs:List α}(u:Value)(hu:u.oneCell'=true)[hd:mT (sl Rr u xs) H](k:St n F (Mm c (aD (J.fa Rr xs u)::H)) T):St n F (Mm c H) T:=
 St.fF (J.fa Rr xs u) [sl Rr u xs] (λρ h=>⟨hu,h _ (aR ..)⟩) k
theorem St.apF {α:Type}{Rr:Rp α}{xs:List (List α)}(u:Value)(hu:u.oneCell'=true)[hd:mT (SS Rr u xs) H](k:St n F (Mm c (aD (J.fW Rr xs u)::H)) T):St n F (Mm c H) T:=
 St.fF (J.fW Rr xs u) [SS Rr u xs] (λρ h=>⟨hu,h _ (aR ..)⟩) k
end
abbrev bx:ah:=⟨.slice none 0 0,rfl⟩
end Go.J
namespace Go.J
open Go Go.ChangeShapes Go.WideShapes Go.ChangeAt Go.RowKit Go.Deep Go.Proofs.YtiefglecbgdaiaaGreatDoor
section
variable {H:Type}{enc:TypeId×Value→H}{P:Program}{W:World}{α:Type}
abbrev Tr (enc:TypeId×Value→H)(P:Program)(W:World)(n:Nat)(t:TypeId)(cs:List Value)(y:DataW H×List MemPlace):Prop:=DataW.trod enc P W 0 (λ_=>true) true n t cs=some y
theorem Jd {t:TypeId}{a:Array Field}{ps:List (DataW H)}(ht:P.underlying t=some (.struct a))(h:oD ((DataW.agg ps).weights P t)=true):oD (DataW.weightsEach P (a.toList.map (·.type)) ps)=true:=by
 simpa only[DataW.weights,ht]using h
theorem gU {t:TypeId}{a:Array Field}{n:Nat}{cs:List Value}{y:DataW H×List MemPlace}(ht:P.underlying t=some (.struct a))(h:Tr enc P W n t cs y)(hw:oD (y.1.weights P t)=true):
 ∃m,n=m+1∧∀(i:Nat) (f:Field),a[i]?=some f→∃z,Tr enc P W m f.type ((cs.drop f.offset).take (P.cellsOf f.type)) z∧oD (z.1.weights P f.type)=true:=by
 obtain⟨xs,m,c,hy,_,k,e⟩:=DataW.trod_struct ht h;subst hy;refine⟨m,c,λi f hi=> ?_⟩
 have h1:=e i f hi
 have g:i<a.size:=(od.1 hi).1
 have b:xs[i]?=some (xs[i]'zE):=bT zE
 refine⟨xs[i]'zE,h1.trans b,?_⟩;refine rG (Jd ht hw) (j:=i) (t:=f.type) (d:=(xs[i]'zE).1) ?_ ?_
 ·rw[bJ,Jg,hi];rfl
 ·rw[bJ,b];rfl
theorem cL {a:Array Field}{m:Nat}{cs:List Value}(hp:∀(i:Nat) (f:Field),a[i]?=some f→∃z,Tr enc P W m f.type ((cs.drop f.offset).take (P.cellsOf f.type)) z∧oD (z.1.weights P f.type)=true)
 (i:Nat) {f:Field} {t:TypeId} {o k:Nat} (hi:a[i]?=some f) (ht:f.type=t) (b:f.offset=o) (hk:P.cellsOf t=k):∃z,Tr enc P W m t ((cs.drop o).take k) z∧oD (z.1.weights P t)=true:=by
 subst ht b hk;exact hp i f hi
theorem Mo (R:Rp α){t e:TypeId}{G:List Value}{d:DataW H}{p:List MemPlace}{fuel:Nat}(ht:P.underlying t=some (.slice e))(M:P.cellsOf e=R.size)
 (N:∀(n:Nat),n<fuel→∀(cs:List Value) (y:DataW H×List MemPlace),cs.length=R.size→Tr enc P W n e cs y→oD (y.1.weights P e)=true→∃x:α,cs=R.cells x∧R.wf x)
 (I:oD (d.weights P t)=true) (O:Tr enc P W fuel t G (d,p)):∃(v:Value) (xs:List α),G=[v]∧v.oneCell'=true∧(sl R v xs).f (J.all W)∧((d= .nil∧xs=[])∨∃es sp,d= .slice es sp∧es.length=xs.length):=by
 rcases DataW.trod_slice ht O with⟨q,h⟩|⟨a,len,cap,elems,rest,n,hn,q,h,_,Q,hm,hlen,he,_,_⟩
 ·exact⟨.slice none 0 0,[],q,rfl,lp _ _,.inl ⟨by simpa using (Prod.mk.inj h).1,rfl⟩⟩
 ·refine⟨.slice (some a) len cap,?_⟩
  rw[q]
  suffices r:∃xs:List α,(sl R (.slice (some a) len cap) xs).f (J.all W)∧((d= .nil∧xs=[])∨∃es sp,d= .slice es sp∧es.length=xs.length) by
   obtain⟨xs,h1,l⟩:=r;exact⟨xs,rfl,rfl,h1,l⟩
  rcases Nat.eq_zero_or_pos len with hz|aeU
  ·refine⟨[],⟨_,cap,by rw[hz];rfl,aQ _,hm,(λx hx=>by cases hx),.inl rfl⟩,.inr ⟨_,_,(Prod.mk.inj h).1,by rw[aO,hlen,hz];rfl⟩⟩
  have each:∀i,i<len→∃x:α,R.wf x∧∀k u,k<R.size→(R.cells x)[k]?=some u→W.cell? ((a.add (i*R.size)).add k)=some u:=λi hi=>by
   have c:=he i hi
   rw[bT (show i<elems.length by omega)]at c;obtain⟨cs,h1,l⟩:=oc.1 c;rw[M]at h1;obtain⟨_,s,S⟩:=World.cells?_some h1;obtain⟨x,rfl,hw⟩:=N n zE cs _ s l (Cw ht (by rw[(Prod.mk.inj h).1]at I;exact I) (.inl (dh (gl (show i<elems.length by omega)))));exact⟨x,hw,λk u hk hu=>by rw[S k hk,hu]⟩
  obtain⟨x0,WQ⟩:=each 0 zE
  haveI:Inhabited α:=⟨x0⟩
  obtain⟨X,w⟩:=choose_lt (α:=α) each
  have z:((List.range len).map X).length=len:=by simp
  obtain⟨b,off,spot⟩:=a
  have A:∃u,(R.cells (X 0))[0]?=some u:=by
   have:=R.len (X 0)
   have:=R.pos
   exact⟨_,bT zE⟩
  obtain⟨T,A⟩:=A
  have K:=(w 0 zE).2 0 T R.pos A
  rw[rJ,Deep.add_add]at K;obtain⟨r,C,L,fr,m,_⟩:=jz K
  have U:spot=none:=by simpa[Addr.add]using r
  subst U
  have m:W.heap[b]?=some (.cells C L fr):=by simpa[Addr.add]using m
  refine⟨(List.range len).map X,⟨some ⟨b,off,none⟩,cap,by rw[z],by rw[z];exact Q,hm,?_,.inr ⟨b,off,C,L,fr,rfl,m,?_⟩⟩,.inr ⟨_,_,(Prod.mk.inj h).1,by simp[hlen]⟩⟩
  ·intro x B
   obtain⟨i,hi,rfl⟩:=cS.1 B;exact(w i (dM.1 hi)).1
  ·intro j u V
   obtain⟨i,k,x,h1,l,Y,s⟩:=EL _ _ _ V
   have D:i<((List.range len).map X).length:=(fj.1 h1).1
   rw[z]at D
   have Z:x=X i:=by simpa[D]using h1.symm
   subst Z
   have:=(w i D).2 k u l s
   rw[Deep.add_add,←Y]at this;obtain⟨_,C',E,F,g,o⟩:=jz this
   have g:W.heap[b]?=some (.cells C' E F):=by
    by_cases c:j=0
    ·subst c;simpa[Addr.add]using g
    ·simpa[Addr.add,c]using g
   have o:C'[off+j]?=some u:=by
    by_cases c:j=0
    ·subst c;simpa[Addr.add]using o
    ·simpa[Addr.add,c]using o
   rw[m]at g
   simp only[Option.some.injEq,Obj.cells.injEq]at g
   rw[g.1];exact o
def Rp.with {α:Type}(R:Rp α)(p:α→Prop):Rp α:=⟨R.size,R.pos,R.cells,λx=>R.wf x∧p x,R.len,R.one⟩
theorem V7 {R:Rp α}{p:α→Prop}{v:Value}{xs:List α}{ρ:Ro}(h:(sl (R.with p) v xs).f ρ):(sl R v xs).f ρ∧∀x∈xs,p x:=by
 obtain⟨a,cap,h1,c,d,b,e⟩:=h;exact⟨⟨a,cap,h1,c,d,λx hx=>(b x hx).1,e⟩,λx hx=>(b x hx).2⟩
theorem N5 {t e:TypeId}{es sp:List (DataW H)}(ht:P.underlying t=some (.slice e))(h:oD ((DataW.slice es sp).weights P t)=true):es.length*P.bytesOf e≤140737488351232:=by
 simp only[oD,DataW.weights,ht,List.all_cons,Bool.and_eq_true,decide_eq_true_eq]at h
 have h1:=h.1
 have a:es.length*P.bytesOf e≤(es.length+sp.length)*P.bytesOf e:=fC _ zE
 unfold reachBytes at h1;omega
theorem jE (R:Rp α)(p:α→Prop){t e:TypeId}{h:List Value}{y:DataW H×List MemPlace}{fuel:Nat}(ht:P.underlying t=some (.slice e))(i:P.cellsOf e=R.size)
 (j:∀(n:Nat),n<fuel→∀(cs:List Value) (y:DataW H×List MemPlace),cs.length=R.size→Tr enc P W n e cs y→oD (y.1.weights P e)=true→∃x:α,cs=R.cells x∧R.wf x∧p x)
 (k:Tr enc P W fuel t h y) (c:oD (y.1.weights P t)=true):∃(v:ah) (xs:List α),h=[v.1]∧(sl R v.1 xs).f (J.all W)∧(∀x∈xs,p x)∧xs.length*P.bytesOf e≤140737488351232:=by
 obtain⟨v,xs,h1,l,m,o⟩:=Mo (R.with p) (d:=y.1) (p:=y.2) ht i (λn q cs y g hy hw=>by
  obtain⟨x,a,b⟩:=j n q cs y g hy hw
  exact⟨x,a,b⟩) c k
 obtain⟨r,s⟩:=V7 m;refine⟨⟨v,l⟩,xs,h1,r,s,?_⟩
 rcases o with⟨_,rfl⟩|⟨es,sp,he,g⟩
 ·simp
 ·rw[he]at c
  rw[←g];exact N5 ht c
theorem lC {e:TypeId}(he:P.underlying e=some (.int .i64)){n:Nat}{cs:List Value}{y:DataW H×List MemPlace}(h:Tr enc P W n e cs y):∃x:Int,cs=[iv x]∧aZ x:=by
 obtain⟨z,rfl,_,hw⟩:=DataW.trod_int he h;exact⟨z,rfl,wf_i64 hw⟩
theorem wS {e:TypeId}(he:P.underlying e=some .string){n:Nat}{cs:List Value}{y:DataW H×List MemPlace}(h:Tr enc P W n e cs y)(a:oD (y.1.weights P e)=true):∃x:cM,cs=[sv x]∧nY x:=by
 obtain⟨s,rfl,hy,hw⟩:=DataW.trod_string he h;refine⟨s.data.toList,by rw[Ws],?_⟩;subst hy
 simp only[oD,DataW.weights,reachBytes,List.all_cons,List.all_nil,Bool.and_true]at a
 exact im a
end
end Go.J
namespace Go.J
open Go Go.ChangeShapes Go.WideShapes Go.ChangeAt Go.RowKit Go.Deep
section
variable {H:Type}{enc:TypeId×Value→H}{P:Program}{W:World}{α:Type}
end
end Go.J
namespace Go.Proofs.YtiefglecbgdaiaaGreatDoor
open Go Go.J Tryz
structure Nq where
 no:Nat
 leaf:Bool
 label:cM
 up:Int
 fin:Nat
 frm:Nat
 tqo:Nat
def Yy:Nq:=⟨0,false,[],0,0,0,0⟩
def tm0:ji:= .mk 0 [] 0 (.mk [] []) []
def MW:Bg:=⟨[],[],0,tm0⟩
def nX:kM:=⟨[],[],0,0,tm0⟩
mutual
def Wb:dY→Nat
 | .mk _ _ l=>1+Wa l
def Wa:List dY→Nat
 | []=>0
 |x::l=>Wb x+Wa l
end
mutual
def Yt:dY→Nat
 | .mk r _ l=>(if r<0 then 1 else 0)+Ys l
def Ys:List dY→Nat
 | []=>0
 |x::l=>Yt x+Ys l
end
def an2 (g:fD)(r x:Int):cM:=if r<0 then(g.aG.getD x.toNat MW).word else(g.rules.getD r.toNat nX).name
mutual
def Ul (g:fD):dY→Nat→Int→Nat→List Nq
 | .mk r x l,k,up,w=>⟨k,decide (r<0),an2 g r x,up,k+(1+Wa l),w,w+((if r<0 then 1 else 0)+Ys l)⟩::NA g l (k+1) k (w+(if r<0 then 1 else 0))
def NA (g:fD):List dY→Nat→Int→Nat→List Nq
 | [],_,_,_=>[]
 |x::l,k,up,w=>Ul g x k up w++NA g l (k+Wb x) up (w+Yt x)
end
mutual
def CI (nr nl:Nat):dY→Prop
 | .mk r x l=>(-1≤r∧r<nr)∧(r<0→l=[]∧0≤x∧x<nl)∧(0≤r→l≠ [])∧CH nr nl l
def CH (nr nl:Nat):List dY→Prop
 | []=>True
 |x::l=>CI nr nl x∧CH nr nl l
end
mutual
theorem yR (g:fD):∀(t:dY) (k:Nat) (up:Int) (w:Nat),(Ul g t k up w).length=Wb t
 | .mk r x l,k,up,w=>by rw[Ul,fL,Kf g l,Wb];omega
theorem Kf (g:fD):∀(l:List dY) (k:Nat) (up:Int) (w:Nat),(NA g l k up w).length=Wa l
 | [],_,_,_=>by rw[NA,Wa];rfl
 |x::l,k,up,w=>by rw[NA,cA,yR g x,Kf g l,Wa]
end
mutual
theorem Kb {nr nl:Nat}:∀t:dY,CI nr nl t→0<Yt t
 | .mk r x l,h=>by
  rw[CI]at h;rw[Yt]
  by_cases a:r<0
  ·rw[aB a];omega
  ·have:=Uc l h.2.2.2 (h.2.2.1 zE);omega
theorem Uc {nr nl:Nat}:∀l:List dY,CH nr nl l→l≠ []→0<Ys l
 | [],_,h=>absurd rfl h
 |x::l,h,_=>by
  rw[CH]at h
  have:=Kb x h.1
  rw[Ys];omega
end
def Ji (x y:Nq):Prop:=x.no<y.no∧((y.no<x.fin∧x.frm≤y.frm∧y.tqo≤x.tqo)∨(x.fin≤y.no∧x.tqo≤y.frm))
def aaH (k m w n:Nat)(x:Nq):Prop:=k≤x.no∧x.no<x.fin∧x.fin≤k+m∧w≤x.frm∧x.frm<x.tqo∧x.tqo≤w+n
mutual
theorem QA {nr nl:Nat}(g:fD):∀(t:dY) (k:Nat) (up:Int) (w:Nat),CI nr nl t→(Ul g t k up w).Pairwise Ji∧∀x∈Ul g t k up w,aaH k (Wb t) w (Yt t) x
 | .mk r x l,k,up,w,h=>by
  have hp:=Kb _ h
  rw[CI]at h;obtain⟨h1,a⟩:=Q8 g l (k+1) k (w+(if r<0 then 1 else 0)) h.2.2.2;rw[Ul,Wb];rw[Yt]at hp⊢;refine⟨jq.2 ⟨λy hy=> ?_,h1⟩,λy hy=> ?_⟩
  ·obtain⟨b,a2,a3,a4,a5,c⟩:=a y hy
   refine⟨?_,Or.inl ⟨?_,?_,?_⟩⟩<;>dsimp only<;>omega
  ·rcases cN.1 hy with rfl|hy
   ·refine⟨?_,?_,?_,?_,?_,?_⟩<;>dsimp only<;>omega
   ·obtain⟨b,a2,a3,a4,a5,c⟩:=a y hy
    refine⟨?_,?_,?_,?_,?_,?_⟩<;>omega
theorem Q8 {nr nl:Nat}(g:fD):∀(l:List dY) (k:Nat) (up:Int) (w:Nat),CH nr nl l→(NA g l k up w).Pairwise Ji∧∀x∈NA g l k up w,aaH k (Wa l) w (Ys l) x
 | [],_,_,_,_=>by rw[NA];exact⟨List.Pairwise.nil,λx hx=>by cases hx⟩
 |t::l,k,up,w,h=>by
  rw[CH]at h;obtain⟨h1,a⟩:=QA g t k up w h.1;obtain⟨c,b⟩:=Q8 g l (k+Wb t) up (w+Yt t) h.2;rw[NA,Wa,Ys];refine⟨sq.2 ⟨h1,c,λx hx y hy=> ?_⟩,λy hy=> ?_⟩
  ·obtain⟨d,a2,a3,a4,a5,e⟩:=a x hx
   obtain⟨f,i,j,m,n,o⟩:=b y hy;exact⟨by omega,Or.inr ⟨by omega,by omega⟩⟩
  ·rcases ca.1 hy with hy|hy
   ·obtain⟨d,a2,a3,a4,a5,e⟩:=a y hy
    refine⟨?_,?_,?_,?_,?_,?_⟩<;>omega
   ·obtain⟨f,i,j,m,n,o⟩:=b y hy
    refine⟨?_,?_,?_,?_,?_,?_⟩<;>omega
end
mutual
theorem Q9 (g:fD):∀(t:dY) (k:Nat) (up:Int) (w i:Nat) (x:Nq),(Ul g t k up w)[i]?=some x→x.no=k+i
 | .mk r y l,k,up,w,i,x,h=>by
  rw[Ul]at h
  cases i with
  |zero=>rw[List.getElem?_cons_zero]at h;cases h;rfl
  |succ i=>rw[sg]at h;have:=Q7 g l _ _ _ i x h;omega
theorem Q7 (g:fD):∀(l:List dY) (k:Nat) (up:Int) (w i:Nat) (x:Nq),(NA g l k up w)[i]?=some x→x.no=k+i
 | [],_,_,_,_,_,h=>by rw[NA]at h;simp at h
 |t::l,k,up,w,i,x,h=>by
  rw[NA]at h
  rcases dI i (Wb t)with hi|hi
  ·rw[rL (by rw[yR];exact hi)]at h
   exact Q9 g t k up w i x h
  ·rw[nO (by rw[yR];exact hi),yR]at h
   have:=Q7 g l _ _ _ _ x h
   omega
end
structure Bh (L:List Nq):Prop where
 ahead:L.Pairwise Ji
 no:∀(i:Nat) (x:Nq),L[i]?=some x→x.no=i
 words:∀x∈L,x.frm<x.tqo∧x.no<x.fin
theorem Bh.of {nr nl:Nat}(g:fD){t:dY}(h:CI nr nl t):Bh (Ul g t 0 (-1) 0):=by
 obtain⟨h1,a⟩:=QA g t 0 (-1) 0 h;exact⟨h1,λi x hx=>by have:=Q9 g t 0 (-1) 0 i x hx;omega,λx hx=>by obtain⟨b,a2,a3,a4,a5,c⟩:=a x hx;exact⟨a5,a2⟩⟩
theorem getD_some {L:List Nq}{i:Nat}(h:i<L.length):L[i]?=some (L.getD i Yy):=by
 rw[ax,bT h];rfl
theorem Bh.lt {L:List Nq}(h:Bh L){i j:Nat}(c:i<j)(b:j<L.length):Ji (L.getD i Yy) (L.getD j Yy)∧(L.getD i Yy).no=i∧(L.getD j Yy).no=j:=by
 have h1:=getD_some (show i<L.length by omega)
 have a:=getD_some b
 refine⟨?_,h.no _ _ h1,h.no _ _ a⟩
 have:=List.pairwise_iff_getElem.1 h.ahead i j zE b c
 rw[bT (show i<L.length by omega)]at h1;rw[bT b]at a
 injection h1 with h1;injection a with a
 rw[←h1,←a];exact this
theorem Bh.one {L:List Nq}(h:Bh L){i:Nat}(hi:i<L.length):(L.getD i Yy).frm<(L.getD i Yy).tqo:=(h.words _ (aY (getD_some hi))).1
end Go.Proofs.YtiefglecbgdaiaaGreatDoor
namespace Go.Proofs.YtiefglecbgdaiaaGreatDoor
open Go Go.J Go.ChangeShapes Go.WideShapes Go.ChangeAt Go.RowKit Go.Deep
theorem agN {α:Type}{l:List α}(h:l.length=1):∃a0,l=[a0]:=match l,h with
 | [a0],_=>⟨a0,rfl⟩
theorem G4 {α:Type}{l:List α}(h:l.length=2):∃a0 a,l=[a0,a]:=match l,h with
 | [a0,a],_=>⟨a0,a,rfl⟩
theorem WW {α:Type}{l:List α}(h:l.length=3):∃a0 a a2,l=[a0,a,a2]:=match l,h with
 | [a0,a,a2],_=>⟨a0,a,a2,rfl⟩
theorem agO {α:Type}{l:List α}(h:l.length=5):∃a0 a a2 a3 a4,l=[a0,a,a2,a3,a4]:=match l,h with
 | [a0,a,a2,a3,a4],_=>⟨a0,a,a2,a3,a4,rfl⟩
theorem agP {α:Type}{l:List α}(h:l.length=6):∃a0 a a2 a3 a4 a5,l=[a0,a,a2,a3,a4,a5]:=match l,h with
 | [a0,a,a2,a3,a4,a5],_=>⟨a0,a,a2,a3,a4,a5,rfl⟩
theorem agQ {α:Type}{l:List α}(h:l.length=9):∃a0 a a2 a3 a4 a5 b c d,l=[a0,a,a2,a3,a4,a5,b,c,d]:=match l,h with
 | [a0,a,a2,a3,a4,a5,b,c,d],_=>⟨a0,a,a2,a3,a4,a5,b,c,d,rfl⟩
theorem Ym {α:Type}{l:List α}(h:l.length=10):∃a0 a a2 a3 a4 a5 b c d a9,l=[a0,a,a2,a3,a4,a5,b,c,d,a9]:=match l,h with
 | [a0,a,a2,a3,a4,a5,b,c,d,a9],_=>⟨a0,a,a2,a3,a4,a5,b,c,d,a9,rfl⟩
theorem l5:Tryz.prog.cellsOf 3=1:=by kernel_rfl
theorem qk:Tryz.prog.cellsOf 9=1:=by kernel_rfl
theorem T9:Tryz.prog.cellsOf 22=1:=by kernel_rfl
theorem TA:Tryz.prog.cellsOf 23=1:=by kernel_rfl
theorem TB:Tryz.prog.cellsOf 25=2:=by kernel_rfl
theorem TC:Tryz.prog.cellsOf 26=1:=by kernel_rfl
theorem TD:Tryz.prog.cellsOf 27=1:=by kernel_rfl
theorem TE:Tryz.prog.cellsOf 28=1:=by kernel_rfl
theorem Db:Tryz.prog.cellsOf 30=1:=by kernel_rfl
theorem TF:Tryz.prog.cellsOf 32=5:=by kernel_rfl
theorem TG:Tryz.prog.cellsOf 33=1:=by kernel_rfl
theorem TH:Tryz.prog.cellsOf 35=1:=by kernel_rfl
theorem K1:Tryz.prog.cellsOf 51=3:=by kernel_rfl
theorem TI:Tryz.prog.cellsOf 84=1:=by kernel_rfl
theorem K3:Tryz.prog.cellsOf 86=2:=by kernel_rfl
theorem TJ:Tryz.prog.cellsOf 91=3:=by kernel_rfl
theorem TK:Tryz.prog.cellsOf 92=1:=by kernel_rfl
theorem Dc:Tryz.prog.cellsOf 95=6:=by kernel_rfl
theorem TL:Tryz.prog.cellsOf 98=10:=by kernel_rfl
theorem O6:Tryz.prog.cellsOf 100=9:=by kernel_rfl
theorem O7:Tryz.prog.cellsOf 163=2:=by kernel_rfl
theorem O8:Tryz.prog.cellsOf 164=1:=by kernel_rfl
theorem O9:Tryz.prog.cellsOf 166=2:=by kernel_rfl
theorem OA:Tryz.prog.cellsOf 168=2:=by kernel_rfl
section
variable {H:Type}{enc:TypeId×Value→H}{W:World}
theorem Tf:∀(n:Nat) (cs:List Value) (y:DataW H×List MemPlace),cs.length=2→Tr enc Tryz.prog W n 168 cs y→oD (y.1.weights Tryz.prog 168)=true→∃x:dt,cs=bC.cells x∧bC.wf x∧True:=by
 intro n;intro cs y b h hw;obtain⟨c0,c1,rfl⟩:=G4 b;obtain⟨m,rfl,hp⟩:=gU Tryz.underlying168 h hw;obtain⟨z0,t0,g⟩:=cL hp 0 rfl rfl rfl l5
 have t0:Tr enc Tryz.prog W m 3 [c0] z0:=t0
 obtain⟨x0,e0,c⟩:=lC Tryz.underlying3 t0;obtain⟨d,t1,i⟩:=cL hp 1 rfl rfl rfl l5
 have t1:Tr enc Tryz.prog W m 3 [c1] d:=t1
 obtain⟨e,a,f⟩:=lC Tryz.underlying3 t1
 simp only[List.cons.injEq,and_true]at e0
 subst e0
 simp only[List.cons.injEq,and_true]at a
 subst a;exact⟨⟨x0,e⟩,rfl,⟨c,f⟩,trivial⟩
theorem Tg:∀(n:Nat) (cs:List Value) (y:DataW H×List MemPlace),cs.length=2→Tr enc Tryz.prog W n 166 cs y→oD (y.1.weights Tryz.prog 166)=true→∃x:db,cs=bz.cells x∧bz.wf x∧(cF x).f (J.all W):=by
 intro n;intro cs y b h hw;obtain⟨c0,c1,rfl⟩:=G4 b;obtain⟨m,rfl,hp⟩:=gU Tryz.underlying166 h hw;obtain⟨z0,t0,j⟩:=cL hp 0 rfl rfl rfl l5
 have t0:Tr enc Tryz.prog W m 3 [c0] z0:=t0
 obtain⟨x0,e0,c⟩:=lC Tryz.underlying3 t0;obtain⟨d,t1,e⟩:=cL hp 1 rfl rfl rfl O8
 have t1:Tr enc Tryz.prog W m 164 [c1] d:=t1
 obtain⟨g,i,a,f1,k,s1⟩:=jE bC (λ_=>True) Tryz.underlying164 OA (λn _=>Tf n) t1 e
 simp only[List.cons.injEq,and_true]at e0
 subst e0
 simp only[List.cons.injEq,and_true]at a
 subst a;exact⟨⟨x0,g,i⟩,rfl,c,f1⟩
theorem zG:∀(n:Nat) (cs:List Value) (y:DataW H×List MemPlace),cs.length=1→Tr enc Tryz.prog W n 30 cs y→oD (y.1.weights Tryz.prog 30)=true→∃x:dC,cs=[x.nv.1]∧(aI x).f (J.all W):=by
 intro n;intro cs y a h hw;obtain⟨c0,rfl⟩:=agN a;obtain⟨m,rfl,hp⟩:=gU Tryz.underlying30 h hw;obtain⟨z0,t0,b⟩:=cL hp 0 rfl rfl rfl TE
 have t0:Tr enc Tryz.prog W m 28 [c0] z0:=t0
 obtain⟨x0,l0,e0,f0,c,s0⟩:=jE bz (λx=>(cF x).f (J.all W)) Tryz.underlying28 O9 (λn _=>Tg n) t0 b
 simp only[List.cons.injEq,and_true]at e0
 subst e0
 exact⟨⟨x0,l0⟩,rfl,λd hd=>by
  simp only[jb,List.mem_cons,List.not_mem_nil,or_false]at hd
  rcases hd with rfl|rfl
  ·exact f0
  ·exact c⟩
theorem acS:∀(n:Nat) (cs:List Value) (y:DataW H×List MemPlace),cs.length=2→Tr enc Tryz.prog W n 163 cs y→oD (y.1.weights Tryz.prog 163)=true→∃x:sD,cs=lW.cells x∧lW.wf x∧(s6 x).f (J.all W):=by
 intro n;intro cs y a h hw;obtain⟨c0,c1,rfl⟩:=G4 a;obtain⟨m,rfl,hp⟩:=gU Tryz.underlying163 h hw;obtain⟨z0,t0,c⟩:=cL hp 0 rfl rfl rfl qk
 have t0:Tr enc Tryz.prog W m 9 [c0] z0:=t0
 obtain⟨x0,e0,d⟩:=wS Tryz.underlying9 t0 c;obtain⟨g,t1,i⟩:=cL hp 1 rfl rfl rfl TH
 have t1:Tr enc Tryz.prog W m 35 [c1] g:=t1
 obtain⟨j,k,b,f1,l,s1⟩:=jE aJ (λ_=>True) Tryz.underlying35 l5 (λn _ cs y a h _=>by obtain⟨x,e,w⟩:=lC Tryz.underlying3 h;exact⟨x,e,w,trivial⟩) t1 i
 simp only[List.cons.injEq,and_true]at e0
 subst e0
 simp only[List.cons.injEq,and_true]at b
 subst b;exact⟨⟨x0,j,k⟩,rfl,d,f1⟩
theorem Td:∀(n:Nat) (cs:List Value) (y:DataW H×List MemPlace),cs.length=3→Tr enc Tryz.prog W n 91 cs y→oD (y.1.weights Tryz.prog 91)=true→∃x:jh,cs=fw.cells x∧fw.wf x∧True:=by
 intro n;intro cs y b h hw;obtain⟨c0,c1,c2,rfl⟩:=WW b;obtain⟨m,rfl,hp⟩:=gU Tryz.underlying91 h hw;obtain⟨z0,t0,c⟩:=cL hp 0 rfl rfl rfl qk
 have t0:Tr enc Tryz.prog W m 9 [c0] z0:=t0
 obtain⟨x0,e0,d⟩:=wS Tryz.underlying9 t0 c;obtain⟨e,t1,k⟩:=cL hp 1 rfl rfl rfl l5
 have t1:Tr enc Tryz.prog W m 3 [c1] e:=t1
 obtain⟨f,a,g⟩:=lC Tryz.underlying3 t1;obtain⟨z2,t2,l⟩:=cL hp 2 rfl rfl rfl l5
 have t2:Tr enc Tryz.prog W m 3 [c2] z2:=t2
 obtain⟨i,e2,j⟩:=lC Tryz.underlying3 t2
 simp only[List.cons.injEq,and_true]at e0
 subst e0
 simp only[List.cons.injEq,and_true]at a
 subst a
 simp only[List.cons.injEq,and_true]at e2
 subst e2;exact⟨⟨x0,f,i⟩,rfl,⟨d,g,j⟩,trivial⟩
theorem Y5:∀(n:Nat) (cs:List Value) (y:DataW H×List MemPlace),cs.length=2→Tr enc Tryz.prog W n 86 cs y→oD (y.1.weights Tryz.prog 86)=true→∃x:fk,cs=kW.cells x∧kW.wf x∧sO (J.all W) x:=by
 intro n
 induction n using Nat.strongRecOn with
 |_ n b=>
 intro cs y c h hw;obtain⟨c0,c1,rfl⟩:=G4 c;obtain⟨m,rfl,hp⟩:=gU Tryz.underlying86 h hw;obtain⟨z0,t0,d⟩:=cL hp 0 rfl rfl rfl qk
 have t0:Tr enc Tryz.prog W m 9 [c0] z0:=t0
 obtain⟨x0,e0,e⟩:=wS Tryz.underlying9 t0 d;obtain⟨f,t1,g⟩:=cL hp 1 rfl rfl rfl TI
 have t1:Tr enc Tryz.prog W m 84 [c1] f:=t1
 obtain⟨i,j,a,f1,l,s1⟩:=jE kW (sO (J.all W)) Tryz.underlying84 K3 (λk hk=>b k zE) t1 g
 simp only[List.cons.injEq,and_true]at e0
 subst e0
 simp only[List.cons.injEq,and_true]at a
 subst a;exact⟨.mk x0 i j,rfl,e,.mk f1 l⟩
theorem KB:∀(n:Nat) (cs:List Value) (y:DataW H×List MemPlace),cs.length=6→Tr enc Tryz.prog W n 95 cs y→oD (y.1.weights Tryz.prog 95)=true→∃x:dX,cs=cz.cells x∧cz.wf x∧pP (J.all W) x:=by
 intro n
 induction n using Nat.strongRecOn with
 |_ n c=>
 intro cs y d h hw;obtain⟨c0,c1,c2,c3,e,c5,rfl⟩:=agP d;obtain⟨m,rfl,hp⟩:=gU Tryz.underlying95 h hw;obtain⟨z0,t0,z⟩:=cL hp 0 rfl rfl rfl l5
 have t0:Tr enc Tryz.prog W m 3 [c0] z0:=t0
 obtain⟨x0,e0,f⟩:=lC Tryz.underlying3 t0;obtain⟨g,t1,i⟩:=cL hp 1 rfl rfl rfl qk
 have t1:Tr enc Tryz.prog W m 9 [c1] g:=t1
 obtain⟨j,a,l⟩:=wS Tryz.underlying9 t1 i;obtain⟨z2,t2,A⟩:=cL hp 2 rfl rfl rfl l5
 have t2:Tr enc Tryz.prog W m 3 [c2] z2:=t2
 obtain⟨o,e2,p⟩:=lC Tryz.underlying3 t2;obtain⟨z3,t3,q⟩:=cL hp 3 rfl rfl rfl K3
 have t3:Tr enc Tryz.prog W m 86 [c3,e] z3:=t3
 obtain⟨x3,r,k3,s⟩:=Y5 _ _ _ rfl t3 q;obtain⟨z4,t4,t⟩:=cL hp 4 rfl rfl rfl TK
 have t4:Tr enc Tryz.prog W m 92 [c5] z4:=t4
 obtain⟨u,v,b,f4,w,B⟩:=jE cz (pP (J.all W)) Tryz.underlying92 Dc (λk hk=>c k zE) t4 t
 simp only[List.cons.injEq,and_true]at e0
 subst e0
 simp only[List.cons.injEq,and_true]at a
 subst a
 simp only[List.cons.injEq,and_true]at e2
 subst e2
 cases r
 simp only[List.cons.injEq,and_true]at b
 subst b;exact⟨.mk x0 j o x3 u v,rfl,⟨f,l,p,k3⟩,.mk s f4 w⟩
theorem Ti:∀(n:Nat) (cs:List Value) (y:DataW H×List MemPlace),cs.length=3→Tr enc Tryz.prog W n 51 cs y→oD (y.1.weights Tryz.prog 51)=true→∃x:bM,cs=bR.cells x∧bR.wf x∧l3 (J.all W) x:=by
 intro n
 induction n using Nat.strongRecOn with
 |_ n b=>
 intro cs y c h hw;obtain⟨c0,c1,c2,rfl⟩:=WW c;obtain⟨m,rfl,hp⟩:=gU Tryz.underlying51 h hw;obtain⟨z0,t0,p⟩:=cL hp 0 rfl rfl rfl l5
 have t0:Tr enc Tryz.prog W m 3 [c0] z0:=t0
 obtain⟨x0,e0,d⟩:=lC Tryz.underlying3 t0;obtain⟨e,t1,q⟩:=cL hp 1 rfl rfl rfl l5
 have t1:Tr enc Tryz.prog W m 3 [c1] e:=t1
 obtain⟨f,a,g⟩:=lC Tryz.underlying3 t1;obtain⟨z2,t2,i⟩:=cL hp 2 rfl rfl rfl TG
 have t2:Tr enc Tryz.prog W m 33 [c2] z2:=t2
 obtain⟨j,l,e2,f2,o,s2⟩:=jE bR (l3 (J.all W)) Tryz.underlying33 K1 (λk hk=>b k zE) t2 i
 simp only[List.cons.injEq,and_true]at e0
 subst e0
 simp only[List.cons.injEq,and_true]at a
 subst a
 simp only[List.cons.injEq,and_true]at e2
 subst e2;exact⟨.mk x0 f j l,rfl,⟨d,g⟩,.mk f2 o⟩
theorem Th:∀(n:Nat) (cs:List Value) (y:DataW H×List MemPlace),cs.length=10→Tr enc Tryz.prog W n 98 cs y→oD (y.1.weights Tryz.prog 98)=true→∃x:cK,cs=bZ.cells x∧bZ.wf x∧(bb x).f (J.all W):=by
 intro n;intro cs y b h hw;obtain⟨c0,c1,c2,c3,c,c5,e,g,i,j,rfl⟩:=Ym b;obtain⟨m,rfl,hp⟩:=gU Tryz.underlying98 h hw;obtain⟨z0,t0,k⟩:=cL hp 0 rfl rfl rfl qk
 have t0:Tr enc Tryz.prog W m 9 [c0] z0:=t0
 obtain⟨x0,e0,l⟩:=wS Tryz.underlying9 t0 k;obtain⟨o,t1,p⟩:=cL hp 1 rfl rfl rfl Db
 have t1:Tr enc Tryz.prog W m 30 [c1] o:=t1
 obtain⟨q,r,s⟩:=zG _ _ _ rfl t1 p;obtain⟨z2,t2,C⟩:=cL hp 2 rfl rfl rfl l5
 have t2:Tr enc Tryz.prog W m 3 [c2] z2:=t2
 obtain⟨t,e2,u⟩:=lC Tryz.underlying3 t2;obtain⟨z3,t3,D⟩:=cL hp 3 rfl rfl rfl l5
 have t3:Tr enc Tryz.prog W m 3 [c3] z3:=t3
 obtain⟨x3,a,k3⟩:=lC Tryz.underlying3 t3;obtain⟨z4,t4,v⟩:=cL hp 4 rfl rfl rfl Dc
 have t4:Tr enc Tryz.prog W m 95 [c,c5,e,g,i,j] z4:=t4
 obtain⟨w,z,A,B⟩:=KB _ _ _ rfl t4 v
 simp only[List.cons.injEq,and_true]at e0
 subst e0
 cases r
 simp only[List.cons.injEq,and_true]at e2
 subst e2
 simp only[List.cons.injEq,and_true]at a
 subst a
 cases z
 exact⟨⟨x0,q,t,x3,w⟩,rfl,⟨l,u,k3,A⟩,λd hd=>by
  simp only[GY,List.mem_cons,List.not_mem_nil,or_false]at hd
  rcases hd with rfl|rfl
  ·exact s
  ·exact B⟩
theorem Y4:∀(n:Nat) (cs:List Value) (y:DataW H×List MemPlace),cs.length=9→Tr enc Tryz.prog W n 100 cs y→oD (y.1.weights Tryz.prog 100)=true→∃x:fq,cs=cy.cells x∧cy.wf x∧(dz x).f (J.all W):=by
 intro n;intro cs y a h hw;obtain⟨c0,c1,c2,c3,b,c5,c,e,g,rfl⟩:=agQ a;obtain⟨m,rfl,hp⟩:=gU Tryz.underlying100 h hw;obtain⟨z0,t0,i⟩:=cL hp 0 rfl rfl rfl qk
 have t0:Tr enc Tryz.prog W m 9 [c0] z0:=t0
 obtain⟨x0,e0,j⟩:=wS Tryz.underlying9 t0 i;obtain⟨k,t1,l⟩:=cL hp 1 rfl rfl rfl Db
 have t1:Tr enc Tryz.prog W m 30 [c1] k:=t1
 obtain⟨o,p,q⟩:=zG _ _ _ rfl t1 l;obtain⟨z2,t2,w⟩:=cL hp 2 rfl rfl rfl l5
 have t2:Tr enc Tryz.prog W m 3 [c2] z2:=t2
 obtain⟨r,e2,s⟩:=lC Tryz.underlying3 t2;obtain⟨z3,t3,t⟩:=cL hp 3 rfl rfl rfl Dc
 have t3:Tr enc Tryz.prog W m 95 [c3,b,c5,c,e,g] z3:=t3
 obtain⟨x3,u,k3,v⟩:=KB _ _ _ rfl t3 t
 simp only[List.cons.injEq,and_true]at e0
 subst e0
 cases p
 simp only[List.cons.injEq,and_true]at e2
 subst e2
 cases u
 exact⟨⟨x0,o,r,x3⟩,rfl,⟨j,s,k3⟩,λd hd=>by
  simp only[Pd,List.mem_cons,List.not_mem_nil,or_false]at hd
  rcases hd with rfl|rfl
  ·exact q
  ·exact v⟩
theorem Te:∀(n:Nat) (cs:List Value) (y:DataW H×List MemPlace),cs.length=2→Tr enc Tryz.prog W n 25 cs y→oD (y.1.weights Tryz.prog 25)=true→∃(tv:ah) (b:List sD) (fv:ah) (c:List jh),cs=[tv.1,fv.1]∧∀d∈WJ tv fv b c,d.f (J.all W):=by
 intro n;intro cs y e h hw;obtain⟨c0,c1,rfl⟩:=G4 e;obtain⟨m,rfl,hp⟩:=gU Tryz.underlying25 h hw;obtain⟨z0,t0,g⟩:=cL hp 0 rfl rfl rfl T9
 have t0:Tr enc Tryz.prog W m 22 [c0] z0:=t0
 obtain⟨x0,l0,e0,f0,i,s0⟩:=jE lW (λx=>(s6 x).f (J.all W)) Tryz.underlying22 O7 (λn _=>acS n) t0 g;obtain⟨j,t1,k⟩:=cL hp 1 rfl rfl rfl TA
 have t1:Tr enc Tryz.prog W m 23 [c1] j:=t1
 obtain⟨l,o,a,f1,p,s1⟩:=jE fw (λ_=>True) Tryz.underlying23 TJ (λn _=>Td n) t1 k
 simp only[List.cons.injEq,and_true]at e0
 subst e0
 simp only[List.cons.injEq,and_true]at a
 subst a
 exact⟨x0,l0,l,o,rfl,λd hd=>by
  simp only[WJ,List.mem_cons,List.not_mem_nil,or_false]at hd
  rcases hd with rfl|rfl|rfl
  ·exact f0
  ·exact i
  ·exact f1⟩
theorem Y3:∀(n:Nat) (cs:List Value) (y:DataW H×List MemPlace),cs.length=5→Tr enc Tryz.prog W n 32 cs y→oD (y.1.weights Tryz.prog 32)=true→∃x:eU,cs=kR x∧(cj x).f (J.all W):=by
 intro n cs y e h hw;obtain⟨c0,c1,c2,c3,g,rfl⟩:=agO e;obtain⟨m,rfl,hp⟩:=gU Tryz.underlying32 h hw;obtain⟨z0,t0,i⟩:=cL hp 0 rfl rfl rfl TB
 have t0:Tr enc Tryz.prog W m 25 [c0,c1] z0:=t0
 obtain⟨tv,j,fv,k,e0,a⟩:=Te _ _ _ rfl t0 i;obtain⟨l,t1,o⟩:=cL hp 1 rfl rfl rfl TC
 have t1:Tr enc Tryz.prog W m 26 [c2] l:=t1
 obtain⟨p,q,b,f1,r,_⟩:=jE bZ (λx=>(bb x).f (J.all W)) Tryz.underlying26 TL (λn _=>Th n) t1 o;obtain⟨z2,t2,s⟩:=cL hp 2 rfl rfl rfl TD
 have t2:Tr enc Tryz.prog W m 27 [c3] z2:=t2
 obtain⟨t,u,e2,f2,v,_⟩:=jE cy (λx=>(dz x).f (J.all W)) Tryz.underlying27 O6 (λn _=>Y4 n) t2 s;obtain⟨z3,t3,w⟩:=cL hp 3 rfl rfl rfl Db
 have t3:Tr enc Tryz.prog W m 30 [g] z3:=t3
 obtain⟨x3,c,z⟩:=zG _ _ _ rfl t3 w
 simp only[List.cons.injEq,and_true]at e0 b e2 c
 obtain⟨rfl,rfl⟩:=e0;subst b e2 c;refine⟨⟨tv,j,fv,k,p,q,t,u,x3⟩,rfl,λd hd=> ?_⟩
 have A:=a _ (aR ..)
 have h1:=a _ (cO _ (aR ..))
 have B:=a _ (cO _ (cO _ (aR ..)))
 simp only[qO,List.mem_cons,List.not_mem_nil,or_false]at hd
 rcases hd with rfl|rfl|rfl|rfl|rfl|rfl|rfl|rfl
 ·exact A
 ·exact h1
 ·exact B
 ·exact f1
 ·exact r
 ·exact f2
 ·exact v
 ·exact z
theorem QG {v:Value}{d:DataW H}{p:List MemPlace}{a:Nat}(b:Value.okWide Tryz.prog W .any a 32 v)(hw:oD (d.weights Tryz.prog 32)=true)(h:DataW.Trod enc Tryz.prog W 0 (λ_=>true) true 32 v d p):∃x:eU,v=eF x∧(cj x).f (J.all W):=by
 obtain⟨cs,rfl,c⟩:=okWide_struct Tryz.underlying32 b;obtain⟨fuel,g⟩:=h;obtain⟨x,e,q⟩:=Y3 fuel cs.toList (d,p) (by rw[Array.length_toList,c,TF]) g hw;exact⟨x,congrArg Value.agg (Array.toList_inj.1 e),q⟩
theorem Iw {v:Value}{d:DataW H}{p:List MemPlace}{c:Nat}(e:Value.okWide Tryz.prog W .any c 33 v)(hw:oD (d.weights Tryz.prog 33)=true)(h:DataW.Trod enc Tryz.prog W 0 (λ_=>true) true 33 v d p):∃xs:List bM,(sl bR v xs).f (J.all W)∧(aL ae xs).f (J.all W):=by
 obtain⟨a0,a,b,rfl⟩:=okWide_slice Tryz.underlying33 e;obtain⟨fuel,g⟩:=h;obtain⟨⟨v,k⟩,xs,h1,i,j,_⟩:=jE bR (l3 (J.all W)) Tryz.underlying33 K1 (λn _=>Ti n) g hw
 obtain rfl:Value.slice a0 a b=v:=by simpa[Value.cells]using h1
 exact⟨xs,i,j⟩
end
end Go.Proofs.YtiefglecbgdaiaaGreatDoor
namespace Go.J
open Go
theorem Sq.slot {n:Nat}{F:Fr}{T:Act→Prop}{v:Value}(k:Nat)(v':Value)(hk:look F k=some v)(h:v=v')(d:Sq n ((k,v')::F) T):Sq n F T:=by
 subst h
 refine λa b=>d a ⟨b.size,b.defers,λt u hu=> ?_⟩
 simp only[look]at hu
 cases c:Nat.beq t k with
 |true=>
  have e:=nL c
  subst e
  simp only[c,cond_true,Option.some.injEq]at hu
  subst hu;exact b.slot _ _ hk
 |false=>
  simp only[c,cond_false]at hu
  exact b.slot _ _ hu
theorem Ev.an5 {P:Program}{n:Nat}{F:Fr}{A:World→Prop}{ty:TypeId}{x:Operand}{a:Addr}(hx:aa F x (.pointer (some a))):Ev P n F A (.nilCheck x) ty (.pointer (some a)):= .of_run λac w b _=>by simp[execOp,hx.eval b]
abbrev ints (l:List Nat):List Int:=l.map (λi:Nat=>(i:Int))
section
variable {P:Program}{n:Nat}{F:Fr}{A:World→Prop}{x y:Operand}{ty:TypeId}
theorem Ev.agY {a b:Int}{d:Array TypeId}(hx:aa F x (iv a))(hy:aa F y (iv b)):
 Ev P n F A (.call {callee:= .builtin .min,args:= #[x,y],argTypes:=d}) ty (iv (if b<a then b else a)):= .of_run λa w c _=>by
 simp[execOp,resolve,invoke,builtin,hx.eval c,hy.eval c,run_min_int2,iv]
end
section
variable {P:Program}{n:Nat}{F:Fr}{A:World→Prop}{c:Ctx}{H R:List ay}{ty:TypeId}{x y:Operand}{v:Value}{Q:Exit→Act→World→Prop}{ops:Array Oper}{rest:List Oper}
 {pos:String} {after:Array Edge} {t e:TypeId}
theorem DW {b off:Nat}{L:List Value}{u:Value}{ρ:Ro}{w:World}(d:fH c (aW b (.cells L.toArray e (0,0))::R) ρ w)(h:off<L.length):w.cell? ⟨b,off,none⟩=some L[off]∧w.frozen? ⟨b,off,none⟩=false∧
 fH c (tI b (L.set off u) e::R) ρ (w.setCell ⟨b,off,none⟩ u):=by
 have a:=gO.1 (d.dR _ (aR ..))
 refine⟨by rw[cg a];simp,by simp[World.frozen?,a],?_⟩;refine d.alter rfl ⟨rfl,aU _⟩ rfl (by simp) (λk hk f=> ?_) (gO.2 ?_) (λi g=>by rw[ir]at g⊢;exact .inl g)
 ·rw[ir]at f
  simp only[World.setCell,Array.getElem?_modify]
  rw[aA (λe=>f (by rw[e]))]
 ·rw[o8 a];simp
theorem St.aoG {T:Act→World→Prop}(L:List ay)(a:L.Sublist H)(k:St n F (Mm c L) T):St n F (Mm c H) T:=k.oY λw hw=>by
 obtain⟨ρ,h⟩:=hw.out;exact Mm.mk ⟨h.os,h.tape,h.output,h.size,h.Ax,h.fits,h.le,h.new,λE b=>h.dR E (a.subset b),λE b=>h.own E (a.subset b),h.FV.sublist a⟩
theorem St.R4 {b off:Nat}{L L':List Value}{d:Value}[g:mA b H (.cells L.toArray e (0,0)) R](hx:aa F x (.pointer (some ⟨b,off,none⟩)))(hy:aa F y (.agg #[d]))(j:(P.info? t).map (·.size)=some 1)(h1:d.oneCell'=true)
 (k:Nat.ble (off+1) L.length=true) (l:L.set off d=L') (h:St n F (Mm c (aW b (.cells L'.toArray e (0,0))::R)) (wpList P ops Q rest)):
 St n F (Mm c H) (wpList P ops Q ({dst:=none,op:= .store t x y,type:=ty,pos:=pos,after:=after,guard:=none}::rest)):=by
 subst l;refine St.nu (K:=λu H'=>H'=tI b (L.set off d) e::R) ?_ ?_
 ·intro a w ρ f hm
  have m:=hm.perm g.perm
  obtain⟨c1,f1,o⟩:=DW (u:=d) m (dS k);obtain⟨i,hi,p⟩:=eE.1 j;refine⟨.skip,_,ρ,_,?_,⟨_,.inr ⟨rfl,rfl⟩,rfl⟩,o⟩
  simp[execOp,hx.eval f,hy.eval f,Instr.storeAt,Instr.sureAddr,storeVar,sizeOf,typeInfo,hi,p,bL,storeCells,run_store P w _ d _ h1,c1,f1,Addr.add_zero',Addr.add_lit]
 ·rintro _ _ rfl
  exact h
theorem St.R5 {b off:Nat}{L L':List Value}{d f:Value}[j:mA b H (.cells L.toArray e (0,0)) R](hx:aa F x (.pointer (some ⟨b,off,none⟩)))(hy:aa F y (.agg #[d,f]))(k:(P.info? t).map (·.size)=some 2)(h1:d.oneCell'=true)(l:f.oneCell'=true)
 (m:Nat.ble (off+2) L.length=true) (o:(L.set off d).set (off+1) f=L') (h:St n F (Mm c (aW b (.cells L'.toArray e (0,0))::R)) (wpList P ops Q rest)):
 St n F (Mm c H) (wpList P ops Q ({dst:=none,op:= .store t x y,type:=ty,pos:=pos,after:=after,guard:=none}::rest)):=by
 subst o;refine St.nu (K:=λu H'=>H'=tI b ((L.set off d).set (off+1) f) e::R) ?_ ?_
 ·intro a w ρ g hm
  have p:=hm.perm j.perm
  have v:=dS m
  obtain⟨c1,f1,q⟩:=DW (u:=d) p (show off<L.length by omega);obtain⟨c2,f2,r⟩:=DW (u:=f) q (show off+1<(L.set off d).length by rw[ep];omega);obtain⟨i,hi,s⟩:=eE.1 k;refine⟨.skip,_,ρ,_,?_,⟨_,.inr ⟨rfl,rfl⟩,rfl⟩,r⟩
  simp[execOp,hx.eval g,hy.eval g,Instr.storeAt,Instr.sureAddr,storeVar,sizeOf,typeInfo,hi,s,bL,storeCells,run_store P w _ d _ h1,run_store P _ _ f _ l,c1,f1,c2,f2,Addr.add_zero',Addr.add_lit]
 ·rintro _ _ rfl
  exact h
end
section
variable {P:Program}{n:Nat}{F:Fr}{c:Ctx}{H R:List ay}{ty:TypeId}{x y:Operand}{t e:TypeId}
theorem Ev.jO {b off:Nat}{dd:TypeDesc}{fr:Nat×Nat}{L L':List Value}[f:Bf b H (.cells L.toArray e fr)](m:Nat)(hx:aa F x (.pointer (some ⟨b,off,none⟩)))(ht:P.underlying t=some dd)(g:(match dd with| .struct _| .array _ _=>True|_=>False))
 (h:(P.info? t).map (·.size)=some m) (i:(L.drop off).take m=L') (k:L'.length=m):Ev P n F (Mm c H) (.load t x) ty (.agg L'.toArray):= .of_run λa w l hw=>by
 obtain⟨ρ,hm⟩:=hw.out
 have h1:=gO.1 (hm.dR _ f.mem)
 have o:=eS (P:=P) (w:=w) (b:=b) (off:=off) (L:=L') ht g (by rw[k];exact h) (λj u d=>by
  rw[cg h1];rw[←i,sj]at d
  split at d
  ·rw[Ap]at d;simpa using d
  ·cases d)
 simp[execOp,hx.eval l,Instr.loadAt,Instr.sureAddr,o]
end
theorem fk.ind {p:fk→Prop}(h:∀x,(∀y∈x.args,p y)→p x)(x:fk):p x:=
 fk.rec (motive_1:=p) (motive_2:=λl=>∀y∈l,p y) (λb v l c=>h (.mk b v l) c) (λy hy=>by cases hy) (λa l d e y hy=>by
  rcases cN.1 hy with rfl|hy
  ·exact d
  ·exact e y hy) x
theorem dX.ind {p:dX→Prop}(h:∀x,(∀y∈x.args,p y)→p x)(x:dX):p x:=
 dX.rec (motive_1:=p) (motive_2:=λl=>∀y∈l,p y) (λk s i t v l b=>h (.mk k s i t v l) b) (λy hy=>by cases hy) (λa l c d y hy=>by
  rcases cN.1 hy with rfl|hy
  ·exact c
  ·exact d y hy) x
theorem bM.ind {p:bM→Prop}(h:∀x,(∀y∈x.kids,p y)→p x)(x:bM):p x:=
 bM.rec (motive_1:=p) (motive_2:=λl=>∀y∈l,p y) (λr i v l b=>h (.mk r i v l) b) (λy hy=>by cases hy) (λa l c d y hy=>by
  rcases cN.1 hy with rfl|hy
  ·exact c
  ·exact d y hy) x
end Go.J
namespace Go.J
open Go Go.Proofs Go.Proofs.YtiefglecbgdaiaaGreatDoor
section
variable {P:Program}{n:Nat}{F:Fr}{A:World→Prop}{c:Ctx}{H R:List ay}{ty:TypeId}{x y:Operand}{v:Value}{Q:Exit→Act→World→Prop}{ops:Array Oper}{rest:List Oper}{d size:Nat}
 {pos:String} {after:Array Edge} {t e:TypeId} {m k:Nat} {cs:List Value}
theorem Ev.uJ {off o i b o' cap:Nat}{s:TypeId}(c:v= .slice (some ⟨b,o',none⟩) m cap)(hx:aa F x (eL v size k off))(d:bq P s i=some o):Ev P n F A (.fieldAddr s x i) ty (eL v size k (off+o)):= .of_run λa w e _=>by
 subst c;rw[eJ]at hx
 simp[execOp,hx.eval e,o7 d,eJ,Addr.add_lit,Nat.add_assoc]
end
section
variable {n:Nat}{F:Fr}{c:Ctx}{R:List ay}{T:Act→World→Prop}
end
end Go.J
namespace Go.J
open Go Go.RowKit
section
variable {P:Program}{n:Nat}{F:Fr}{A:World→Prop}{c:Ctx}{H:List ay}{ty t e:TypeId}{x y:Operand}{v:Value}{T:Act→World→Prop}
theorem Ev.yK {b o' cap m size k off j N:Nat}{i:Int}{kd:IntKind}(d:v= .slice (some ⟨b,o',none⟩) m cap)(hx:aa F x (eL v size k off))(hy:aa F y (.int kd i))(ht:P.underlying t=some (.array N e))(f:(P.info? e).map (·.size)=some 1)
 (hi:i=j) (g:j<N):Ev P n F A (.indexAddr t x y) ty (eL v size k (off+j)):= .of_run λa w c hw=>by
 obtain⟨inf,h,l⟩:=eE.1 f;subst hi d;rw[eJ]at hx
 simp[execOp,hx.eval c,hy.eval c,Instr.indexAt,Instr.sureAddr,asIntOf,run_underlying ht,sizeOf,typeInfo,h,l,g,eJ,Addr.add_lit,Nat.add_assoc]
theorem St.Wq {α:Type}{Rr:Rp α}{xs:List α}(v:Value)[hd:vK v H α Rr xs](h:v.oneCell'=true→St n F (Mm c H) T):St n F (Mm c H) T:=by
 intro a w b hw;obtain⟨ρ,hm⟩:=hw.out;obtain⟨ad,cap,rfl,_⟩:=hm.sl hd;exact h rfl a w b hw
end
def ND:Rp (Int×Int):=⟨2,by decide,λx=>[iv x.1,iv x.2],λ_=>True,λ_=>rfl,λx u h=>by
 simp only[List.mem_cons,List.not_mem_nil,or_false]at h
 rcases h with rfl|rfl<;>rfl⟩
def iG (b:Nat)(L:List Value):e8 where
 f ρ:=∃e fr,ρ b=some (.cells L.toArray e fr)
 mono ρ kK h:=by
  rintro ⟨e,fr,h1⟩;exact⟨e,fr,h _ _ h1⟩
class ma (b:Nat)(H:List ay)(L:outParam (List Value)):Prop where
 mem:aD (iG b L)∈H
instance (priority:=high) ma.here (b:Nat)(L:List Value)(H:List ay):ma b (aD (iG b L)::H) L:=⟨aR ..⟩
instance ma.there (b:Nat)(L:List Value)(E:ay)(H:List ay)[h:ma b H L]:ma b (E::H) L:=⟨cO _ h.mem⟩
instance (priority:=low) ma.app (b:Nat)(v:List Value)(L R:List ay)[h:ma b L v]:ma b (L++R) v:=⟨ke _ h.mem⟩
section
variable {P:Program}{n:Nat}{F:Fr}{A:World→Prop}{c:Ctx}{H R:List ay}{ty t e:TypeId}{x y:Operand}{v:Value}{T:Act→World→Prop}
theorem Ev.EB {b:Nat}{d:TypeDesc}{L:List Value}[f:ma b H L](hx:aa F x (tW b))(ht:P.underlying t=some d)(g:(match d with| .struct _| .array _ _=>True|_=>False))
 (h:(P.info? t).map (·.size)=some L.length):Ev P n F (Mm c H) (.load t x) ty (.agg L.toArray):= .of_run λa w i hw=>by
 obtain⟨ρ,hm⟩:=hw.out;obtain⟨e,fr,h1⟩:=dJ.1 (hm.dR _ f.mem)
 have h1:=hm.fits _ _ h1
 have k:=eS (P:=P) (w:=w) (b:=b) (off:=0) (L:=L) ht g h (λj u l=>by rw[cg h1];simpa using l)
 simp[execOp,hx.eval i,Instr.loadAt,Instr.sureAddr,k]
theorem Ev.KX {b off:Nat}{d:TypeDesc}{L L':List Value}[g:ma b H L](m:Nat)(hx:aa F x (.pointer (some ⟨b,off,none⟩)))(ht:P.underlying t=some d)(h:(match d with| .struct _| .array _ _=>True|_=>False))
 (i:(P.info? t).map (·.size)=some m) (k:(L.drop off).take m=L') (l:L'.length=m):Ev P n F (Mm c H) (.load t x) ty (.agg L'.toArray):= .of_run λa w o hw=>by
 obtain⟨ρ,hm⟩:=hw.out;obtain⟨e,fr,h1⟩:=dJ.1 (hm.dR _ g.mem)
 have h1:=hm.fits _ _ h1
 have p:=eS (P:=P) (w:=w) (b:=b) (off:=off) (L:=L') ht h (by rw[l];exact i) (λj u f=>by
  rw[cg h1];rw[←k,sj]at f
  split at f
  ·rw[Ap]at f;simpa using f
  ·cases f)
 simp[execOp,hx.eval o,Instr.loadAt,Instr.sureAddr,p]
theorem eu.ajN {ds:List e8}{b:Nat}{e:TypeId}{fr:Nat×Nat}{L:List Value}(h:eu c H ds)[f:Bf b H (.cells L.toArray e fr)]:eu c H (iG b L::ds):=λρ w d g a=>by
 rcases cN.1 a with rfl|a
 ·exact⟨e,fr,gO.1 (d.dR _ f.mem)⟩
 ·exact h ρ w d g a
theorem St.re (b:Nat){L:List Value}[q:mA b H (.cells L.toArray e (0,0)) R](h:St n F (Mm c (aD (iG b L)::R)) T):St n F (Mm c H) T:=by
 refine h.oY λw hw=> ?_
 obtain⟨ρ,hm⟩:=hw.out
 have hm:=hm.perm q.perm
 have f:=gO.1 (hm.dR _ (aR ..))
 have g:=hm.own _ (aR ..) b (ir _ _)
 have r:b<w.heap.size:=(od.1 f).1
 have i:=jq.1 hm.FV
 refine Mm.mk (ρ:=λk=>if k=b then some (.cells L.toArray e (0,0))else ρ k) ?_
 have hle:Ro.le ρ (λk=>if k=b then some (.cells L.toArray e (0,0))else ρ k):=by
  intro k o hk
  by_cases a:k=b
  ·subst a;rw[g.1]at hk;cases hk
  ·simp only[a,if_false];exact hk
 refine fH.fact ⟨hm.os,hm.tape,hm.output,hm.size,hm.Ax,?_,Ro.le_trans hm.le hle,?_,?_,?_,i.2⟩ _ ?_
 ·intro k o hk
  by_cases a:k=b
  ·subst a;simp only[if_true,Option.some.injEq]at hk;subst hk;exact f
  ·simp only[a,if_false]at hk;exact hm.fits k o hk
 ·intro k hk j
  by_cases a:k=b
  ·subst a
   rcases g.2 with l|l
   ·omega
   ·exact absurd l j
  ·simp only[a,if_false];exact hm.new k hk j
 ·intro E d
  exact E.loc hle (λ_ _=>rfl) (hm.dR E (cO _ d))
 ·intro E d m p
  have h1:=hm.own E (cO _ d) m p
  refine⟨?_,h1.2⟩
  by_cases a:m=b
  ·subst a;exact absurd p (i.1 E d _ (ir _ _))
  ·simp only[a,if_false];exact h1.1
 ·exact⟨e,(0,0),by simp⟩
end
end Go.J
namespace Go.J
open Go
def bX {α:Type}(f:α→List ay)(l:List α):List ay:=l.flatMap f
theorem n5 {α:Type}(f:α→List ay)(a:α)(l:List α):bX f (a::l)=f a++bX f l:=rfl
theorem U2 {α:Type}(f:α→List ay)(l m:List α):bX f (l++m)=bX f l++bX f m:=qF
theorem rZ {α:Type}(f:α→List ay):∀{l:List α} {i:Nat} {a:α},l[i]?=some a→(bX f l).Perm (f a++bX f (l.eraseIdx i))
 | [],_,_,h=>by cases h
 |b::l,0,a,h=>by
  obtain rfl:=Option.some.inj h;exact .refl _
 |b::l,i+1,a,h=>by
  rw[List.eraseIdx_cons_succ,n5,n5];refine((rZ f (l:=l) h).append_left (f b)).trans ?_;rw[←dg,←dg];exact kf.append_right _
theorem vj {α:Type}(f:α→List ay):∀{l:List α} {i:Nat} (a:α),i<l.length→(f a++bX f (l.eraseIdx i)).Perm (bX f (l.set i a))
 | [],_,_,h=>by cases h
 |b::l,0,a,_=> .refl _
 |b::l,i+1,a,h=>by
  rw[List.eraseIdx_cons_succ,HF,n5,n5];refine List.Perm.trans ?_ ((vj f (l:=l) a (Nat.lt_of_succ_lt_succ h)).append_left (f b));rw[←dg,←dg];exact kf.append_right _
class mf (X X' H:List ay)(H':outParam (List ay)):Prop where
 eq:∃L,H=L++X∧H'=L++X'
instance (priority:=high) mf.here (X X':List ay):mf X X' X X':=⟨⟨[],rfl,rfl⟩⟩
instance mf.there (X X' H H':List ay)(E:ay)[h:mf X X' H H']:mf X X' (E::H) (E::H'):=⟨let⟨L,a,b⟩:=h.eq;⟨E::L,by rw[a];rfl,by rw[b];rfl⟩⟩
section
variable {n:Nat}{F:Fr}{c:Ctx}{H H' R:List ay}{T:Act→World→Prop}
theorem St.perm (hp:H.Perm H')(h:St n F (Mm c H') T):St n F (Mm c H) T:=h.oY λ_ hw=>let⟨_,k⟩:=hw.out;Mm.mk (k.perm hp)
theorem St.tail (X X':List ay)(hp:X.Perm X')[t:mf X X' H H'](h:St n F (Mm c H') T):St n F (Mm c H) T:=by
 obtain⟨L,a,b⟩:=t.eq;refine St.perm ?_ h;rw[a,b];exact hp.append_left L
theorem St.pk (r X X':List ay)(hp:(r++X).Perm X')[d:fE r H R][t:mf X X' R H'](h:St n F (Mm c H') T):St n F (Mm c H) T:=by
 obtain⟨L,a,b⟩:=t.eq;refine St.perm (d.perm.trans ?_) h;rw[a,b,←dg];refine(kf.append_right X).trans ?_;rw[dg];exact hp.append_left L
end
theorem iW.bX {α:Type}(f:α→List ay)(b:∀a,iW (f a))(l:List α):iW (J.bX f l):=λE c ρ kK w k=>by
 obtain⟨a,_,h⟩:=List.mem_flatMap.1 c;exact b a E h ρ kK w k
class yd (X H:List ay)(R:outParam (List ay→List ay)):Prop where
 eq:∃L,H=L++X∧∀Y,R Y=L++Y
instance (priority:=high) yd.here (X:List ay):yd X X (λY=>Y):=⟨⟨[],rfl,λ_=>rfl⟩⟩
instance yd.there (X H:List ay)(R:List ay→List ay)(E:ay)[h:yd X H R]:yd X (E::H) (λY=>E::R Y):=⟨let⟨L,a,b⟩:=h.eq;⟨E::L,by rw[a];rfl,λY=>by rw[b];rfl⟩⟩
instance (priority:=high) fE.tail {α β:Type}(f:α→List ay)(g:β→List ay)(l:List α)(m:List β):fE (bX f l++bX g m) (bX f l++bX g m) []:=⟨by rw[ib]⟩
instance fE.aaB {α β:Type}(f:α→List ay)(g:β→List ay)(l:List α)(m:List β)(E:ay)(H R:List ay)[h:fE (bX f l++bX g m) H R]:fE (bX f l++bX g m) (E::H) (E::R):=
 ⟨(h.perm.cons E).trans qH.symm⟩
section
variable {P:Program}{n:Nat}{F:Fr}{c:Ctx}{H H1:List ay}{Q:Exit→Act→World→Prop}{ops:Array Oper}{rest:List Oper}{d:Nat}{ty:TypeId}{pos:String}{after:Array Edge}
theorem St.wh {dr:Prop}{f:FuncId}{xs:List Operand}{g:Array TypeId}{vs:List Value}{ds:List e8}{L X:List ay}{R:List ay→List ay}{post:Value→List ay→List ay→Prop}(i:c.dr→dr)
 (j:DA dr P f vs.toArray (ds.map aD++(L++X)) (λv H'=>∃L' X',H'=L'++X'∧post v L' X')) (l:aK P f) (hx:au F xs vs) (hd:Nat.ble (d+1) n=true) [s:lG ds H] [m:fE L H H1] [o:yd X H1 R]
 (h:∀v L' X',post v L' X'→St n ((d,v)::F) (Mm c (L'++R X')) (wpList P ops Q rest)):
 St n F (Mm c H) (wpList P ops Q ({dst:=some d,op:= .call {callee:= .value (.func f),args:=xs.toArray,argTypes:=g},type:=ty,pos:=pos,after:=after,guard:=none}::rest)):=by
 intro a w b hw;obtain⟨K,p,e2⟩:=o.eq;refine hP rfl (gW (caps:=[]) l (au.cons (aa.mk rfl) hx) b w ?_)
 simp only[List.append_nil]
 have hp:(ds.map aD++H).Perm ((ds.map aD++(L++X))++K):=by
  rw[dg];refine Cy _ (m.perm.trans ?_);rw[p,dg];exact Cy L kf
 obtain⟨_,k⟩:=(hw.nK (ds:=ds)).out;refine(Mm.wh j i (Mm.mk (k.perm hp))).mono ?_;rintro e w' ⟨u,H',rfl,⟨L',X',rfl,q⟩,hm⟩;refine⟨u,rfl,h u L' X' q _ w' (b.put (dS hd) u) ?_⟩;obtain⟨_,r⟩:=hm.out;refine Mm.mk (r.perm ?_);rw[e2,dg];exact Cy L' kf
theorem St.yw {f:FuncId}{xs:List Operand}{a:Array TypeId}{vs:List Value}{ds:List e8}{L X:List ay}{R:List ay→List ay}{post:Value→List ay→List ay→Prop}
 (b:dx P f vs.toArray (ds.map aD++(L++X)) (λv H'=>∃L' X',H'=L'++X'∧post v L' X')) (e:aK P f) (hx:au F xs vs) (hd:Nat.ble (d+1) n=true) [g:lG ds H] [i:fE L H H1] [j:yd X H1 R]
 (h:∀v L' X',post v L' X'→St n ((d,v)::F) (Mm c (L'++R X')) (wpList P ops Q rest)):
 St n F (Mm c H) (wpList P ops Q ({dst:=some d,op:= .call {callee:= .value (.func f),args:=xs.toArray,argTypes:=a},type:=ty,pos:=pos,after:=after,guard:=none}::rest)):=
 St.wh (λ_=>trivial) b e hx hd h
end
section
variable {P:Program}{n:Nat}{F:Fr}{c:Ctx}{H:List ay}{ty t e:TypeId}{x:Operand}{v:Value}{m k:Nat}{α:Type}
theorem Ev.Yj {R:Rp α}{l:List α}{g:α}{dd:TypeDesc}[f:xU v H e R.size m (rows R l)](hx:aa F x (eL v R.size k 0))(h:l[k]?=some g)(ht:P.underlying t=some dd)(r:(match dd with| .struct _| .array _ _=>True|_=>False))
 (s:(P.info? t).map (·.size)=some R.size) (hk:k<m):Ev P n F (Mm c H) (.load t x) ty (.agg (R.cells g).toArray):= .of_run λa w y hw=>by
 obtain⟨ρ,hm⟩:=hw.out
 have i:(rows R l)[k*R.size+0]?=(R.cells g)[0]?:=eo R l k 0 g h R.pos
 have d:0<(R.cells g).length:=by rw[R.len];exact R.pos
 rw[bT d]at i;obtain⟨b,z,c1,A,_⟩:=kV (hm.row f) (off:=0) hk i;rw[z]at hx
 have o:=eS (P:=P) (w:=w) (b:=b) (off:=k*R.size+0) (L:=R.cells g) ht r (by rw[s,R.len]) (λj u p=>by
  have B:j<R.size:=by rw[←R.len g];exact(fj.1 p).1
  have C:(rows R l)[k*R.size+j]?=some u:=by rw[eo R l k j g h B,p]
  obtain⟨D,e2,c2,q,_⟩:=kV (hm.row f) (off:=j) hk C
  rw[A]at q;cases q
  simpa using c2)
 simp at hx o
 simp[execOp,hx.eval y,Instr.loadAt,Instr.sureAddr,o]
theorem CX (R:Rp α):∀(l:List α) (k:Nat),(rows R l).take (k*R.size)=rows R (l.take k)
 | [],k=>by simp[rows]
 |a::l,0=>by simp[rows]
 |a::l,k+1=>by
  have e:(k+1)*R.size=(R.cells a).length+k*R.size:=by rw[R.len,jK];omega
  show(R.cells a++rows R l).take _=R.cells a++rows R (l.take k)
  rw[e,List.take_length_add_append,CX R l k]
theorem uk (R:Rp α)(l:List α)(a:α):(rows R (l++ [a])).take (l.length*R.size)=rows R l:=by rw[CX,List.take_left' rfl]
end
end Go.J
namespace Go.J
open Go Go.Proofs.YtiefglecbgdaiaaGreatDoor
section
variable {P:Program}{n:Nat}{F:Fr}{c:Ctx}{H R:List ay}{ty t e:TypeId}{x y:Operand}{v:Value}{Q:Exit→Act→World→Prop}{ops:Array Oper}{rest:List Oper}{d:Nat}{pos:String}{after:Array Edge}{m k:Nat}{α:Type}
theorem Ev.MR {Rr:Rp α}{xs:List α}{g:α}{dd:TypeDesc}{sz off:Nat}[hd:vK v H α Rr xs](hx:aa F x (eL v Rr.size k off))(hk:xs[k]?=some g)(ht:P.underlying t=some dd)(e:(match dd with| .struct _| .array _ _=>True|_=>False))
 (f:(P.info? t).map (·.size)=some sz) (p:off+sz≤Rr.size) (q:off<Rr.size):Ev P n F (Mm c H) (.load t x) ty (.agg (((Rr.cells g).drop off).take sz).toArray):= .of_run λa w h hw=>by
 obtain⟨ρ,hm⟩:=hw.out;obtain⟨b,o,h1,i⟩:=EN hm hd hk (off:=off);rw[h1]at hx
 have l:=eS (P:=P) (w:=w) (b:=b) (off:=o) (L:=((Rr.cells g).drop off).take sz) ht e (by rw[f,eR,Aq,Rr.len,il zE]) (λj u d=>by
  have m:j<sz:=by
   have:=(fj.1 d).1
   rw[eR]at this;omega
  rw[sj,aB m,Ap]at d
  rw[i j zE];exact d)
 simp[execOp,hx.eval h,Instr.loadAt,Instr.sureAddr,l]
theorem St.yP {Rr:Rp α}{g:α}{sz:Nat}(z:Rr.size=sz){zv:Value}{yu:Nat}{i j:Int}{kl p:IntKind}(hx:aa F x (.int kl i))(hy:aa F y (.int p j))(ht:P.underlying t=some (.slice e))(q:(P.info? e).map (·.size)=some Rr.size)(hz:(P.info? e).bind (·.zero)=some zv)(f:(P.info? e).map (·.bytes)=some yu)
 (hm:i=m) (A:j=m) (B:yu*m≤281474976710656∧m≤9223372036854775807) (h1:zv.cells=(Rr.cells g).toArray) (hd:Nat.ble (d+1) n=true)
 (h:∀b,St n ((d,tO b m m)::F) (Mm c (row (tO b m m) e sz m (rows Rr (List.replicate m g))::H)) (wpList P ops Q rest)):
 St n F (Mm c H) (wpList P ops Q ({dst:=some d,op:= .makeSlice t x y,type:=ty,pos:=pos,after:=after,guard:=none}::rest)):=by
 subst hm A z;refine St.SJ (K:=λu H'=>∃b,u= tO b m m∧H'=row (tO b m m) e Rr.size m (rows Rr (List.replicate m g))::H) ?_ hd ?_
 ·intro a w ρ r C
  obtain⟨i,hi,N⟩:=eE.1 q;obtain⟨D,E,G⟩:=rI q hz f hi
  have s:=run_make (P:=P) w t e i zv ht hi E kl p m m zE zE (by rw[G,←Int.natCast_mul];exact Int.ofNat_le.2 B.1) zE
  have hlen:(rows Rr (List.replicate m g)).length=m*Rr.size:=by rw[gh,mI]
  have I:madeCells zv.cells (m*i.size)=(rows Rr (List.replicate m g)).toArray:=by
   rw[D,h1]
   apply Array.ext
   ·simp[madeCells,hlen]
   ·intro k J O
    have v:k<m*Rr.size:=by simpa[madeCells]using J
    have hp:=Rr.pos
    have L:k/Rr.size<m:=Nat.div_lt_of_lt_mul (by rw[Nat.mul_comm];exact v)
    have o:k%Rr.size<Rr.size:=Nat.mod_lt _ hp
    have l:=eo Rr (List.replicate m g) (k/Rr.size) (k%Rr.size) g (by rw[si,aB L]) o
    have M:k/Rr.size*Rr.size+k%Rr.size=k:=by rw[Nat.mul_comm];exact Nat.div_add_mod k Rr.size
    rw[M,bT (by rw[hlen];exact v),bT (by rw[Rr.len];exact o)]at l
    have l:=Option.some.inj l
    simp only[madeCells,List.getElem_toArray]
    rw[l]
    simp[Rr.len,o]
  simp only[Int.toNat_natCast,I]at s
  refine⟨.value (.slice (some ⟨w.heap.size,0,none⟩) m m),w.alloc (.cells (rows Rr (List.replicate m g)).toArray e),ρ,_,?_,⟨_,.inl rfl,_,rfl,rfl⟩,?_⟩
  ·simp[execOp,hx.eval r,hy.eval r,s]
  ·refine C.GK rfl ⟨rfl,aU _⟩ rfl (by simp) (λk hk=>RowKit.Below.heap_alloc w _ k hk) (eQ.2 ⟨hlen,.inr ⟨w.heap.size,m,_,rfl,aQ _,heap_alloc_new w _,aU _,by unfold maxLen;omega,by simp[hlen],by rw[←hlen];simp⟩⟩) ?_
   intro b f;rw[eA]at f;simp[Value.ownBlock]at f;omega
 ·rintro _ _ ⟨b,rfl,rfl⟩
  exact h b
end
section
variable {P:Program}{n:Nat}{F:Fr}{c:Ctx}{H H' R:List ay}{ty t e:TypeId}{x y:Operand}{v:Value}{Q:Exit→Act→World→Prop}{ops:Array Oper}{rest:List Oper}{d:Nat}{pos:String}{after:Array Edge}{m k:Nat}{α:Type}{T:Act→World→Prop}
theorem Ev.Ig {Rr:Rp α}{l:List α}{g:α}{dd:TypeDesc}{sz off:Nat}[h:xU v H e Rr.size m (rows Rr l)](hx:aa F x (eL v Rr.size k off))(i:l[k]?=some g)(ht:P.underlying t=some dd)(r:(match dd with| .struct _| .array _ _=>True|_=>False))
 (s:(P.info? t).map (·.size)=some sz) (hk:k<m) (E:off+sz≤Rr.size) (o:off<Rr.size):Ev P n F (Mm c H) (.load t x) ty (.agg (((Rr.cells g).drop off).take sz).toArray):= .of_run λa w y hw=>by
 obtain⟨ρ,hm⟩:=hw.out
 have p:(rows Rr l)[k*Rr.size+off]?=(Rr.cells g)[off]?:=eo Rr l k off g i o
 have d:(Rr.cells g)[off]?=some ((Rr.cells g)[off]'(by rw[Rr.len];exact o)):=bT _
 rw[d]at p;obtain⟨b,z,c1,A,_⟩:=kV (hm.row h) (off:=off) hk p;rw[z]at hx
 have B:=eS (P:=P) (w:=w) (b:=b) (off:=k*Rr.size+off) (L:=((Rr.cells g).drop off).take sz) ht r (by rw[s,eR,Aq,Rr.len,il zE]) (λj u f=>by
  have C:j<sz:=by
   have:=(fj.1 f).1
   rw[eR]at this;omega
  rw[sj,aB C,Ap]at f
  have D:(rows Rr l)[k*Rr.size+(off+j)]?=some u:=by rw[eo Rr l k (off+j) g i zE,f]
  obtain⟨G,e2,c2,q,_⟩:=kV (hm.row h) (off:=off+j) hk D
  rw[A]at q;cases q
  rw[vI];exact c2)
 simp[execOp,hx.eval y,Instr.loadAt,Instr.sureAddr,B]
instance (priority:=high) fE.apP {β:Type}(f:β→List ay)(l:List β):fE (bX f l) (bX f l) []:=⟨by rw[ib]⟩
instance fE.Zz {β:Type}(f:β→List ay)(l:List β)(E:ay)(H R:List ay)[h:fE (bX f l) H R]:fE (bX f l) (E::H) (E::R):=
 ⟨(h.perm.cons E).trans qH.symm⟩
theorem Mm.Uu {f:α→List ay}{g:α→e8}(b:∀a H w,Mm c (f a++H) w→Mm c (aD (g a)::H) w):∀(l:List α) (H:List ay) (w:World),Mm c (bX f l++H) w→Mm c (aD (aL g l)::H) w
 | [],H,w,h=>h.fact (aL g []) λρ _ x hx=>by cases hx
 |a::l,H,w,h=>by
  rw[n5,dg]at h
  have h1:=b a _ w h
  obtain⟨n,d⟩:=h1.out
  have e:Mm c (bX f l++(aD (g a)::H)) w:=Mm.mk (d.perm qH.symm)
  have i:=Mm.Uu b l _ w e
  refine(λ(j:Mm c (aD (aL g (a::l))::aD (aL g l)::aD (g a)::H) w)=> ?_) (i.fact _ ?_)
  ·obtain⟨ρ,k⟩:=j.out
   have m:fH c (aD (aL g l)::aD (g a)::aD (aL g (a::l))::H) ρ w:=k.perm ((List.Perm.swap _ _ _).trans ((List.Perm.swap _ _ _).cons _))
   exact Mm.mk m.drop.drop
  ·intro ρ hm x hx
   rcases cN.1 hx with rfl|hx
   ·exact dJ.1 (hm.dR (aD (g x)) (by simp))
   ·exact dJ.1 (hm.dR (aD (aL g l)) (by simp)) x hx
theorem St.Uu {f:α→List ay}(g:α→e8)(l:List α)(d:∀a H w,Mm c (f a++H) w→Mm c (aD (g a)::H) w)[e:mf (bX f l) [] H H'](h:St n F (Mm c (aD (aL g l)::H')) T):St n F (Mm c H) T:=by
 obtain⟨L,a,b⟩:=e.eq
 refine h.oY λw hw=> ?_
 rw[b,ib];refine Mm.Uu d l L w ?_;obtain⟨ρ,k⟩:=hw.out;refine Mm.mk (k.perm ?_);rw[a];exact kf
end
end Go.J
namespace Go.J
open Go Go.RowKit
def AJ:List Value→Nat→List Value→List Value
 |cs,_,[]=>cs
 |cs,p,u::us=>AJ (cs.set p u) (p+1) us
theorem Gc (x:List Value):∀(us rest:List Value) (p:Nat),AJ (x++rest) (x.length+p) us=x++AJ rest p us
 | [],_,_=>rfl
 |u::us,rest,p=>by
  rw[AJ,oE _ _ zE,show x.length+p-x.length=p by omega,AJ,←Gc x us _ (p+1),vI]
theorem Ca:∀(y pre x rest:List Value),x.length=y.length→AJ (pre++(x++rest)) pre.length y=pre++(y++rest)
 | [],pre,x,rest,h=>by
  obtain rfl:x=[]:=ka (by simpa using h);rfl
 |u::us,pre,x,rest,h=>by
  cases x with
  |nil=>cases h
  |cons a x=>
   rw[AJ,oE _ _ (aU _),gp]
   have:=Ca us (pre++ [u]) x rest (by simpa using h)
   rw[cA]at this
   simp only[List.append_assoc,List.cons_append,List.nil_append,List.length_cons,List.length_nil]at this
   simpa using this
theorem CW {α:Type}(Rr:Rp α)(g:α):∀(l:List α) (k:Nat),k<l.length→AJ (rows Rr l) (k*Rr.size) (Rr.cells g)=rows Rr (l.set k g)
 | [],_,h=>by cases h
 |a::l,0,_=>by
  have:=Ca (Rr.cells g) [] (Rr.cells a) (rows Rr l) (by rw[Rr.len,Rr.len])
  rw[rJ,Av];exact this
 |a::l,k+1,h=>by
  have e:(k+1)*Rr.size=(Rr.cells a).length+k*Rr.size:=by rw[Rr.len,jK];omega
  rw[HF]
  show AJ (Rr.cells a++rows Rr l) _ _=Rr.cells a++rows Rr (l.set k g)
  rw[e,Gc,CW Rr g l k (by rw[fL]at h;omega)]
section
variable {P:Program}{n:Nat}{F:Fr}{c:Ctx}{H R:List ay}{ty t e:TypeId}{x y:Operand}{v:Value}{Q:Exit→Act→World→Prop}{ops:Array Oper}{rest:List Oper}{pos:String}{after:Array Edge}{m k size:Nat}
theorem nF {ρ:Ro}{b:Nat}(a:v.ownBlock=some b)(hk:k<m):∀(us:List Value) (j:Nat) (cs:List Value) (w:World),fH c (row v e size m cs::R) ρ w→j+us.length≤size→(∀u∈us,u.oneCell'=true)→
 ∃w',(storeCells ⟨b,k*size,none⟩ us j).run P w= .ok () w'∧fH c (row v e size m (AJ cs (k*size+j) us)::R) ρ w'
 | [],j,cs,w,hm,_,_=>⟨w,rfl,hm⟩
 |u::us,j,cs,w,hm,f,h1=>by
  rw[fL]at f;obtain⟨l,n,o,d,c1,f1,g⟩:=EK (off:=j) (u:=u) hm hk zE
  rw[a]at d;cases d
  obtain⟨w',h,i⟩:=nF a hk us (j+1) _ _ g zE (λz hz=>h1 z (by simp[hz]));refine⟨w',?_,by rw[AJ];exact i⟩;rw[storeCells]
  simp[run_store P w _ u _ (h1 u (by simp)),c1,f1,Addr.add_lit,h]
theorem St.Gk {α:Type}{Rr:Rp α}{l:List α}{sz:Nat}(p:Rr.size=sz)(g:α)[q:mB v H e sz m (rows Rr l) R](hx:aa F x (eL v sz k 0))(hy:aa F y (.agg (Rr.cells g).toArray))(r:(P.info? t).map (·.size)=some sz)(hk:k<m)(d:k<l.length)
 (h:St n F (Mm c (row v e sz m (rows Rr (l.set k g))::R)) (wpList P ops Q rest)):
 St n F (Mm c H) (wpList P ops Q ({dst:=none,op:= .store t x y,type:=ty,pos:=pos,after:=after,guard:=none}::rest)):=by
 subst p;refine St.nu (K:=λC H'=>H'=row v e Rr.size m (rows Rr (l.set k g))::R) ?_ ?_
 ·intro a w ρ f hm
  have j:=hm.perm q.perm
  have s:(rows Rr l)[k*Rr.size+0]?=some ((Rr.cells (l[k]'d))[0]'(by rw[Rr.len];exact Rr.pos)):=by
   rw[eo Rr l k 0 (l[k]'d) (bT d) Rr.pos,bT]
  obtain⟨b,u,_,z,_⟩:=kV (eQ.1 (j.dR _ (aR ..))) hk s;rw[u,hY]at hx;obtain⟨w',A,o⟩:=nF (P:=P) (k:=k) z hk (Rr.cells g) 0 _ w j (by rw[Rr.len];omega) (Rr.one g);rw[hY,CW Rr g l k d]at o;obtain⟨i,hi,B⟩:=eE.1 r;refine⟨.skip,w',ρ,_,?_,⟨_,.inr ⟨rfl,rfl⟩,rfl⟩,o⟩
  simp[execOp,hx.eval f,hy.eval f,Instr.storeAt,Instr.sureAddr,storeVar,sizeOf,typeInfo,hi,B,bL,Rr.len,A]
 ·rintro _ _ rfl
  exact h
end
section
variable {P:Program}{n:Nat}{F:Fr}{c:Ctx}{H R:List ay}{ty t e:TypeId}{x:Operand}{T:Act→World→Prop}
theorem Ev.pb {b off:Nat}{d:TypeDesc}{L:List Value}{u:Value}[f:ma b H L](hx:aa F x (.pointer (some ⟨b,off,none⟩)))(ht:P.underlying t=some d)(g:(match d with| .struct _| .array _ _=>False|_=>True))(hu:L[off]?=some u):
 Ev P n F (Mm c H) (.load t x) ty u:= .of_run λa w h hw=>by
 obtain⟨ρ,hm⟩:=hw.out;obtain⟨e,fr,h1⟩:=dJ.1 (hm.dR _ f.mem)
 have h1:=hm.fits _ _ h1
 simp[execOp,hx.eval h,Instr.loadAt,Instr.sureAddr,fS ht g ((cg h1).trans (by simpa using hu))]
theorem St.Wm {size m:Nat}{cs:List Value}(v:Value)(s:Nat)[a:mB v H e size m cs R](b:size=s)(h:St n F (Mm c (row v e s m cs::R)) T):St n F (Mm c H) T:=by
 subst b
 exact h.oY λw hw=>let⟨_,k⟩:=hw.out;Mm.mk (k.perm a.perm)
variable {y:Operand}{Q:Exit→Act→World→Prop}{ops:Array Oper}{rest:List Oper}{pos:String}{after:Array Edge}{ty:TypeId}
end
end Go.J
namespace Go.J
open Go
section
variable {P:Program}{n:Nat}{F:Fr}{c:Ctx}{H R:List ay}{Q:Exit→Act→World→Prop}{ops:Array Oper}{rest:List Oper}{d:Nat}{ty:TypeId}{pos:String}{after:Array Edge}
theorem Mm.KE {c:Ctx}{w:World}{ds:List e8}{L:List ay}[b:lG ds H][a:fE L H R](hw:Mm c H w):Mm c ((ds.map aD++L)++R) w:=by
 obtain⟨_,k⟩:=(hw.nK (ds:=ds)).out;refine Mm.mk (k.perm ?_);rw[dg];exact Cy _ a.perm
theorem St.Xo {dr:Prop}{f:FuncId}{xs:List Operand}{g:Array TypeId}{vs:List Value}{ds:List e8}{L:List ay}{post:Value→List ay→Prop}(i:c.dr→dr)
 (j:DA dr P f vs.toArray (ds.map aD++L) post) (k:aK P f) (hx:au F xs vs) (hd:Nat.ble (d+1) n=true) [l:lG ds H] [m:fE L H R]
 (h:∀v H',post v H'→St n ((d,v)::F) (Mm c (H'++R)) (wpList P ops Q rest)):
 St n F (Mm c H) (wpList P ops Q ({dst:=some d,op:= .call {callee:= .value (.func f),args:=xs.toArray,argTypes:=g},type:=ty,pos:=pos,after:=after,guard:=none}::rest)):=by
 intro a w b hw;refine hP rfl (gW (caps:=[]) k (au.cons (aa.mk rfl) hx) b w ?_)
 simp only[List.append_nil]
 refine(Mm.wh j i (Mm.KE (ds:=ds) (L:=L) hw)).mono ?_;rintro e w' ⟨u,H',rfl,hp,hm⟩;exact⟨u,rfl,h u H' hp _ w' (b.put (dS hd) u) hm⟩
theorem St.Hv {f:FuncId}{xs:List Operand}{a:Array TypeId}{vs:List Value}{ds:List e8}{L:List ay}{post:Value→List ay→Prop}
 (b:dx P f vs.toArray (ds.map aD++L) post) (e:aK P f) (hx:au F xs vs) (hd:Nat.ble (d+1) n=true) [g:lG ds H] [i:fE L H R]
 (h:∀v H',post v H'→St n ((d,v)::F) (Mm c (H'++R)) (wpList P ops Q rest)):
 St n F (Mm c H) (wpList P ops Q ({dst:=some d,op:= .call {callee:= .value (.func f),args:=xs.toArray,argTypes:=a},type:=ty,pos:=pos,after:=after,guard:=none}::rest)):=
 St.Xo (λ_=>trivial) b e hx hd h
theorem St.nk {dr:Prop}{f:FuncId}{x:Operand}{xs:List Operand}{g:Array TypeId}{vs caps:List Value}{ds:List e8}{L:List ay}{post:Value→List ay→Prop}(i:c.dr→dr)
 (j:DA dr P f (vs++caps).toArray (ds.map aD++L) post) (k:aK P f) (l:aa F x (.func (.func f) #[] caps.toArray)) (hx:au F xs vs) (hd:Nat.ble (d+1) n=true) [m:lG ds H] [o:fE L H R]
 (h:∀v H',post v H'→St n ((d,v)::F) (Mm c (H'++R)) (wpList P ops Q rest)):
 St n F (Mm c H) (wpList P ops Q ({dst:=some d,op:= .call {callee:= .value x,args:=xs.toArray,argTypes:=g},type:=ty,pos:=pos,after:=after,guard:=none}::rest)):=by
 intro a w b hw;refine hP rfl (gW k (au.cons l hx) b w ?_);refine(Mm.wh j i (Mm.KE (ds:=ds) (L:=L) hw)).mono ?_;rintro e w' ⟨u,H',rfl,hp,hm⟩;exact⟨u,rfl,h u H' hp _ w' (b.put (dS hd) u) hm⟩
end
end Go.J
namespace Go.Proofs.YtiefglecbgdaiaaGreatDoor
open Go Go.J Tryz
inductive Reach (g:eB):Nat→Prop where
 |root:Reach g 0
 |step {i:Nat} {x:Int×Int}:Reach g i→x∈(g.getD i gq).2→Reach g x.2.toNat
def pN (M N:List Bool):Prop:=M.length=N.length∧∀x:Nat,M[x]?=some true→N[x]?=some true
theorem pN.refl (M:List Bool):pN M M:=⟨rfl,λ_ h=>h⟩
theorem pN.trans {A B C:List Bool}(h:pN A B)(k:pN B C):pN A C:=⟨h.1.trans k.1,λx hx=>k.2 x (h.2 x hx)⟩
theorem pN.aaM {A B:List Bool}(h:pN A B)(k:pN B A):A=B:=by
 refine nN λi=> ?_
 rcases dI i A.length with hi|hi
 ·have a:i<B.length:=by rw[←h.1];exact hi
  rw[bT hi,bT a]
  have h1:=h.2 i
  have b:=k.2 i
  rw[bT hi,bT a]at h1 b
  cases c:A[i]<;>cases e2:B[i]<;>simp_all
 ·rw[iR hi,iR (by rw[←h.1];exact hi)]
theorem pN.set (M:List Bool)(i:Nat):pN M (M.set i true):=⟨by rw[ep],λx hx=>by
 by_cases e:i=x
 ·subst e;rw[ic (bO hx)]
 ·rw[iz e];exact hx⟩
theorem pN.mark (i:Nat)(M:List Bool)(x:Int×Int):pN M (GD i M x):=by
 unfold GD;split
 ·exact pN.set _ _
 ·exact pN.refl _
theorem pN.fold {γ:Type}{f:List Bool→γ→List Bool}(h:∀M c,pN M (f M c)):∀(l:List γ) (M:List Bool),pN M (l.foldl f M)
 | [],M=>pN.refl M
 |c::l,M=>(h M c).trans (pN.fold h l (f M c))
theorem zN {γ:Type}{f:List Bool→γ→List Bool}(h:∀M c,pN M (f M c)):∀(l:List γ) (M:List Bool),l.foldl f M=M→∀c∈l,f M c=M
 | [],_,_,c,a=>by cases a
 |c::l,M,he,d,hd=>by
  rw[jX]at he
  have h1:f M c=M:=pN.aaM (by have:=pN.fold h l (f M c);rw[he]at this;exact this) (h M c)
  rcases cN.1 hd with rfl|hd
  ·exact h1
  ·rw[h1]at he;exact zN h l M he d hd
theorem pN.node (g:eB)(M:List Bool)(i:Nat):pN M (Wf g M i):=pN.fold (λM x=>pN.mark i M x) _ M
theorem pN.pass (g:eB)(M:List Bool):pN M (pass g M):=pN.fold (λM i=>pN.node g M i) _ M
def qK (M:List Bool):Nat:=M.countP λb=>b
theorem OH:∀{A B:List Bool},pN A B→qK A≤qK B∧(qK B≤qK A→A=B)
 | [],[],_=>⟨aU _,λ_=>rfl⟩
 | [],_::_,h=>absurd h.1 (by simp)
 |_::_,[],h=>absurd h.1 (by simp)
 |a::A,b::B,h=>by
  have ht:pN A B:=⟨by simpa using h.1,λx hx=>by have:=h.2 (x+1) (by simpa using hx);simpa using this⟩
  have c:=h.2 0
  obtain⟨i1,i2⟩:=OH ht;unfold qK at*
  cases a<;>cases b<;>simp_all<;>omega
theorem Dg (M:List Bool):qK M≤M.length:=List.countP_le_length
theorem nD (g:eB):∀k,(eZ g k).length=g.length
 |0=>by simp[eZ]
 |k+1=>by rw[eZ,←(pN.pass g _).1,nD g k]
theorem A0 {g:eB}(b:0<g.length):∀k,pass g (eZ g k)=eZ g k∨k+1≤qK (eZ g k)
 |0=>by
  refine .inr ?_
  obtain⟨n,c⟩:∃n,g.length=n+1:=⟨g.length-1,by omega⟩
  simp[eZ,qK,c,List.replicate_succ]
 |k+1=>by
  rcases A0 b k with h|h
  ·left;rw[eZ,h,h]
  ·by_cases e:pass g (eZ g (k+1))=eZ g (k+1)
   ·exact .inl e
   ·right
    have h1:=OH (pN.pass g (eZ g k))
    rw[eZ]
    rcases dI (qK (eZ g k)) (qK (pass g (eZ g k)))with a|a
    ·omega
    ·have:=h1.2 a
     exact absurd (by rw[eZ,←this,←this]) e
theorem Ix {g:eB}(a:0<g.length):pass g (eZ g g.length)=eZ g g.length:=by
 rcases A0 a g.length with h|h
 ·exact h
 ·have:=Dg (eZ g g.length)
  rw[nD]at this;omega
theorem I5 {g:eB}{M:List Bool}(b:M.length=g.length)(h:pass g M=M){i:Nat}(hi:M[i]?=some true){x:Int×Int}(hx:x∈(g.getD i gq).2)(c:x.2.toNat<g.length):M[x.2.toNat]?=some true:=by
 have h1:=zN (λM i=>pN.node g M i) _ M h i (dM.2 (by rw[←b];exact bO hi))
 have a:=zN (λM x=>pN.mark i M x) _ M h1 x hx
 unfold GD at a;rw[aB (by rw[ax,hi];rfl)]at a;rw[←a,ic (by rw[b];exact c)]
def B8 (g:eB)(M:List Bool):Prop:=∀x:Nat,M[x]?=some true→Reach g x
theorem B8.set {g:eB}{M:List Bool}(h:B8 g M){i:Nat}(hi:Reach g i):B8 g (M.set i true):=λx hx=>by
 by_cases e:i=x
 ·subst e;exact hi
 ·rw[iz e]at hx;exact h x hx
theorem B8.fold {γ:Type}{g:eB}{f:List Bool→γ→List Bool}:∀(l:List γ) (M:List Bool),(∀M,∀c∈l,B8 g M→B8 g (f M c))→B8 g M→B8 g (l.foldl f M)
 | [],_,_,h=>h
 |c::l,M,a,h=>B8.fold l _ (λM d hd=>a M d (cO _ hd)) (a M c (aR ..) h)
theorem B8.pass {g:eB}{M:List Bool}(h:B8 g M):B8 g (pass g M):=
 B8.fold _ _ (λM i _ a=>B8.fold _ _ (λM x hx a=>by
  unfold GD
  split
  ·rename_i hi
   refine a.set (Reach.step (a i ?_) hx);rw[ax]at hi
   cases e:M[i]? with
   |none=>rw[e]at hi;cases hi
   |some b=>rw[e]at hi;simp at hi;rw[hi]
  ·exact a) a) h
theorem B8.eZ (g:eB):∀k,B8 g (eZ g k)
 |0=>λx hx=>by
  by_cases e:0=x
  ·subst e;exact Reach.root
  ·rw[Proofs.YtiefglecbgdaiaaGreatDoor.eZ,iz e,si]at hx
   split at hx<;>simp at hx
 |k+1=>(B8.eZ g k).pass
def tu (g:eB):Prop:=0<g.length∧∀n∈g,∀x∈n.2,0≤x.1∧0≤x.2∧x.2.toNat<g.length
theorem tu.at_ {g:eB}(h:tu g){i:Nat}{x:Int×Int}(hx:x∈(g.getD i gq).2):0≤x.1∧0≤x.2∧x.2.toNat<g.length:=by
 rcases dI i g.length with hi|hi
 ·refine h.2 _ (gl hi) x ?_
  rw[ax,bT hi]at hx;exact hx
 ·rw[ax,iR hi]at hx;cases hx
theorem o4 {g:eB}(h:0<g.length):∀k,(eZ g k)[0]?=some true
 |0=>by rw[eZ,ic (by simp;exact h)]
 |k+1=>(pN.pass g _).2 0 (o4 h k)
theorem uh {g:eB}(h:tu g){x:Nat}:Reach g x↔(eZ g g.length)[x]?=some true:=by
 refine⟨λa=> ?_,B8.eZ g _ x⟩
 induction a with
 |root=>exact o4 h.1 _
 |step _ hx b=>exact I5 (nD g _) (Ix h.1) b hx (h.at_ hx).2.2
structure Sa (g:eB)(M:List Bool)(st:List Nat):Prop where
 len:M.length=g.length
 snd:B8 g M
 root:M[0]?=some true
 ZP:∀i∈st,M[i]?=some true
 cls:∀i,M[i]?=some true→i∉st→∀x∈(g.getD i gq).2,M[x.2.toNat]?=some true
theorem Sa.start {g:eB}(h:0<g.length):Sa g ((List.replicate g.length false).set 0 true) [0]:=by
 refine⟨by simp,B8.eZ g 0,o4 h 0,λi hi=>by rw[List.mem_singleton.1 hi];exact o4 h 0,λi hm hi=> ?_⟩;rw[iz (λe=>hi (ba.2 e.symm)),si]at hm
 split at hm<;>simp at hm
theorem Sa.fin {g:eB}(a:tu g){M:List Bool}(h:Sa g M []):M=eZ g g.length:=by
 refine pN.aaM ⟨by rw[h.len,nD],λx hx=>(uh a).1 (h.snd x hx)⟩ ⟨by rw[h.len,nD],λx hx=> ?_⟩
 have:=(uh a).2 hx
 clear hx
 induction this with
 |root=>exact h.root
 |step _ hx b=>exact h.cls _ b (by simp) _ hx
structure sM (g:eB)(i k:Nat)(M:List Bool)(st:List Nat):Prop where
 len:M.length=g.length
 snd:B8 g M
 root:M[0]?=some true
 me:M[i]?=some true
 ZP:∀j∈st,M[j]?=some true
 cls:∀j,M[j]?=some true→j≠i→j∉st→∀x∈(g.getD j gq).2,M[x.2.toNat]?=some true
 upto:∀x∈(g.getD i gq).2.take k,M[x.2.toNat]?=some true
theorem Sa.pop {g:eB}{M:List Bool}{st:List Nat}{i:Nat}(h:Sa g M (st++ [i])):sM g i 0 M st:=
 ⟨h.len,h.snd,h.root,h.ZP i (by simp),λj a=>h.ZP j (by simp[a]),λj hm b a=>h.cls j hm (by simp[a,b]),λx hx=>by simp at hx⟩
theorem sM.done {g:eB}{M:List Bool}{st:List Nat}{i:Nat}(h:sM g i (g.getD i gq).2.length M st):Sa g M st:=
 ⟨h.len,h.snd,h.root,h.ZP,λj hm a=>by
  by_cases e:j=i
  ·subst e;intro x hx;exact h.upto x (by rw[iT];exact hx)
  ·exact h.cls j hm e a⟩
theorem sM.Ax {g:eB}{M:List Bool}{st:List Nat}{i k:Nat}{x:Int×Int}(h:sM g i k M st)(hx:(g.getD i gq).2[k]?=some x)(hm:M[x.2.toNat]?=some true):sM g i (k+1) M st:=
 ⟨h.len,h.snd,h.root,h.me,h.ZP,h.cls,λy hy=>by
  rw[ag hx]at hy
  rcases ca.1 hy with hy|hy
  ·exact h.upto y hy
  ·rw[ba.1 hy];exact hm⟩
theorem sM.new {g:eB}(d:tu g){M:List Bool}{st:List Nat}{i k:Nat}{x:Int×Int}(h:sM g i k M st)(hx:(g.getD i gq).2[k]?=some x):sM g i (k+1) (M.set x.2.toNat true) (st++ [x.2.toNat]):=by
 have c:=aY hx
 have f:=(d.at_ c).2.2
 have mono:=(pN.set M x.2.toNat).2
 have new:(M.set x.2.toNat true)[x.2.toNat]?=some true:=ic (by rw[h.len];exact f)
 refine⟨by rw[ep];exact h.len,h.snd.set (Reach.step (h.snd i h.me) c),mono _ h.root,mono _ h.me,λj a=> ?_,λj hm l a y hy=> ?_,λy hy=> ?_⟩
 ·rcases ca.1 a with a|a
  ·exact mono _ (h.ZP j a)
  ·rw[ba.1 a];exact new
 ·have b:j∉st∧j≠x.2.toNat:=by simpa using a
  rw[iz (λe=>b.2 e.symm)]at hm;exact mono _ (h.cls j hm l b.1 y hy)
 ·rw[ag hx]at hy
  rcases ca.1 hy with hy|hy
  ·exact mono _ (h.upto y hy)
  ·rw[ba.1 hy];exact new
theorem TT {M:List Bool}{i:Nat}(h:M[i]?=some false):qK (M.set i true)=qK M+1:=by
 induction M generalizing i with
 |nil=>cases h
 |cons b M a=>
  cases i with
  |zero=>simp at h;subst h;simp[qK]
  |succ i=>
   have:=a (i:=i) (by simpa using h)
   unfold qK at*
   cases b<;>simp_all<;>omega
abbrev lE:=List (Int×Int)
def vu:Nat→lE→lE→lE
 |0,xs,a=>xs++a
 |_+1,[],a=>a
 |_+1,x::xs,[]=>x::xs
 |f+1,x::xs,y::a=>if x.1<y.1 then x::vu f xs (y::a)else if y.1<x.1 then y::vu f (x::xs) a else x::vu f xs a
def xz:Nat→lE→lE→List (Int×Int)
 |0,_,_=>[]
 |_+1,[],_=>[]
 |_+1,_::_,[]=>[]
 |f+1,x::xs,y::a=>if x.1<y.1 then xz f xs (y::a)else if y.1<x.1 then xz f (x::xs) a else(x.2,y.2)::xz f xs a
def BK (xs a:lE):lE:=vu (xs.length+a.length) xs a
def EH (xs a:lE):List (Int×Int):=xz (xs.length+a.length) xs a
theorem zr (f:Nat)(a:lE):vu f [] a=a:=by cases f<;>rfl
theorem vw (f:Nat)(xs:lE):vu f xs []=xs:=by cases f<;>cases xs<;>simp[vu]
theorem A3 (f:Nat)(a:lE):xz f [] a=[]:=by cases f<;>rfl
theorem wC (f:Nat)(xs:lE):xz f xs []=[]:=by cases f<;>cases xs<;>rfl
theorem mW:∀(f g:Nat) (xs a:lE),xs.length+a.length≤f→xs.length+a.length≤g→vu f xs a=vu g xs a
 |f,g,[],a,_,_=>by rw[zr,zr]
 |f,g,x::xs,[],_,_=>by rw[vw,vw]
 |f+1,g+1,x::xs,y::a,b,c=>by
  simp only[List.length_cons]at b c
  rw[vu,vu,mW f g xs (y::a) (by simp only[List.length_cons];omega) (by simp only[List.length_cons];omega),mW f g (x::xs) a (by simp only[List.length_cons];omega) (by simp only[List.length_cons];omega),mW f g xs a zE zE]
 |0,_,_::_,_::_,h,_=>by simp only[List.length_cons]at h;omega
 |_+1,0,_::_,_::_,_,h=>by simp only[List.length_cons]at h;omega
theorem mX:∀(f g:Nat) (xs a:lE),xs.length+a.length≤f→xs.length+a.length≤g→xz f xs a=xz g xs a
 |f,g,[],a,_,_=>by rw[A3,A3]
 |f,g,x::xs,[],_,_=>by rw[wC,wC]
 |f+1,g+1,x::xs,y::a,b,c=>by
  simp only[List.length_cons]at b c
  rw[xz,xz,mX f g xs (y::a) (by simp only[List.length_cons];omega) (by simp only[List.length_cons];omega),mX f g (x::xs) a (by simp only[List.length_cons];omega) (by simp only[List.length_cons];omega),mX f g xs a zE zE]
 |0,_,_::_,_::_,h,_=>by simp only[List.length_cons]at h;omega
 |_+1,0,_::_,_::_,_,h=>by simp only[List.length_cons]at h;omega
theorem ub (a:lE):BK [] a=a:=zr _ _
theorem qv (xs:lE):BK xs []=xs:=vw _ _
theorem EI (a:lE):EH [] a=[]:=A3 _ _
theorem A4 (xs:lE):EH xs []=[]:=wC _ _
theorem gB (x y:Int×Int)(xs a:lE):BK (x::xs) (y::a)=if x.1<y.1 then x::BK xs (y::a)else if y.1<x.1 then y::BK (x::xs) a else x::BK xs a:=by
 have e:(x::xs).length+(y::a).length=(xs.length+a.length+1)+1:=by simp only[List.length_cons];omega
 show vu _ _ _=_
 rw[e,vu,mW _ (xs.length+(y::a).length) xs (y::a) (by simp only[List.length_cons];omega) (aU _),mW _ ((x::xs).length+a.length) (x::xs) a (by simp only[List.length_cons];omega) (aU _),mW _ (xs.length+a.length) xs a zE (aU _)];rfl
theorem kU (x y:Int×Int)(xs a:lE):EH (x::xs) (y::a)=if x.1<y.1 then EH xs (y::a)else if y.1<x.1 then EH (x::xs) a else(x.2,y.2)::EH xs a:=by
 have e:(x::xs).length+(y::a).length=(xs.length+a.length+1)+1:=by simp only[List.length_cons];omega
 show xz _ _ _=_
 rw[e,xz,mX _ (xs.length+(y::a).length) xs (y::a) (by simp only[List.length_cons];omega) (aU _),mX _ ((x::xs).length+a.length) (x::xs) a (by simp only[List.length_cons];omega) (aU _),mX _ (xs.length+a.length) xs a zE (aU _)];rfl
theorem o3 {C:lE→lE→Prop}(h1:∀a,C [] a)(b:∀x xs,C (x::xs) [])(d:∀x xs y a,x.1<y.1→C xs (y::a)→C (x::xs) (y::a))(e:∀x xs y a,y.1<x.1→C (x::xs) a→C (x::xs) (y::a))(f:∀x xs y a,x.1=y.1→C xs a→C (x::xs) (y::a)):∀(n:Nat) (xs a:lE),xs.length+a.length≤n→C xs a
 |_,[],a,_=>h1 a
 |_,x::xs,[],_=>b x xs
 |n+1,x::xs,y::a,h=>by
  simp only[List.length_cons]at h
  rcases Int.lt_trichotomy x.1 y.1 with c|c|c
  ·exact d _ _ _ _ c (o3 h1 b d e f n xs (y::a) (by simp only[List.length_cons];omega))
  ·exact f _ _ _ _ c (o3 h1 b d e f n xs a zE)
  ·exact e _ _ _ _ c (o3 h1 b d e f n (x::xs) a (by simp only[List.length_cons];omega))
 |0,_::_,_::_,h=>by simp only[List.length_cons]at h;omega
theorem Ug (xs a:lE):(BK xs a).length+(EH xs a).length=xs.length+a.length:=by
 refine o3 (C:=λxs a=>(BK xs a).length+(EH xs a).length=xs.length+a.length) ?_ ?_ ?_ ?_ ?_ _ xs a (aU _)
 ·intro a;rw[ub,EI];simp
 ·intro x xs;rw[qv,A4]
 ·intro x xs y a h b;rw[gB,kU,aB h,aB h];simp only[List.length_cons]at b⊢;omega
 ·intro x xs y a h b
  have c:¬x.1<y.1:=by omega
  rw[gB,kU,aA c,aA c,aB h,aB h];simp only[List.length_cons]at b⊢;omega
 ·intro x xs y a h b
  have c:¬x.1<y.1:=by omega
  have d:¬y.1<x.1:=by omega
  rw[gB,kU,aA c,aA c,aA d,aA d];simp only[List.length_cons]at b⊢;omega
theorem yQ {z:Int×Int}(xs a:lE):z∈BK xs a→z∈xs∨z∈a:=by
 refine o3 (C:=λxs a=>z∈BK xs a→z∈xs∨z∈a) ?_ ?_ ?_ ?_ ?_ _ xs a (aU _)
 ·intro a h;rw[ub]at h;exact .inr h
 ·intro x xs h;rw[qv]at h;exact .inl h
 ·intro x xs y a h b hz;rw[gB,aB h]at hz
  rcases cN.1 hz with rfl|hz
  ·exact .inl (by simp)
  ·rcases b hz with h|h
   ·exact .inl (by simp[h])
   ·exact .inr h
 ·intro x xs y a h b hz;rw[gB,aA zE,aB h]at hz
  rcases cN.1 hz with rfl|hz
  ·exact .inr (by simp)
  ·rcases b hz with h|h
   ·exact .inl h
   ·exact .inr (by simp[h])
 ·intro x xs y a h b hz;rw[gB,aA zE,aA zE]at hz
  rcases cN.1 hz with rfl|hz
  ·exact .inl (by simp)
  ·rcases b hz with h|h
   ·exact .inl (by simp[h])
   ·exact .inr (by simp[h])
theorem Uf {z:Int×Int}(xs a:lE):z∈EH xs a→(∃x∈xs,z.1=x.2)∧∃y∈a,z.2=y.2:=by
 refine o3 (C:=λxs a=>z∈EH xs a→(∃x∈xs,z.1=x.2)∧∃y∈a,z.2=y.2) ?_ ?_ ?_ ?_ ?_ _ xs a (aU _)
 ·intro a h;rw[EI]at h;cases h
 ·intro x xs h;rw[A4]at h;cases h
 ·intro x xs y a h b hz;rw[kU,aB h]at hz
  obtain⟨⟨u,hu,e⟩,c⟩:=b hz;exact⟨⟨u,by simp[hu],e⟩,c⟩
 ·intro x xs y a h b hz;rw[kU,aA zE,aB h]at hz
  obtain⟨c,⟨u,hu,e⟩⟩:=b hz;exact⟨c,⟨u,by simp[hu],e⟩⟩
 ·intro x xs y a h b hz;rw[kU,aA zE,aA zE]at hz
  rcases cN.1 hz with rfl|hz
  ·exact⟨⟨x,by simp,rfl⟩,⟨y,by simp,rfl⟩⟩
  ·obtain⟨⟨u,hu,e⟩,⟨v,d,e2⟩⟩:=b hz
   exact⟨⟨u,by simp[hu],e⟩,⟨v,by simp[d],e2⟩⟩
def mN (l:lE):List Int:=l.map (·.1)
theorem KM {k:Int}(xs b:lE):k∈mN xs∨k∈mN b→k∈mN (BK xs b):=by
 refine o3 (C:=λxs b=>k∈mN xs∨k∈mN b→k∈mN (BK xs b)) ?_ ?_ ?_ ?_ ?_ _ xs b (aU _)
 ·intro b h;rw[ub];rcases h with h|h
  ·cases h
  ·exact h
 ·intro x xs h;rw[qv];rcases h with h|h
  ·exact h
  ·cases h
 ·intro x xs y b h a hk;rw[gB,aB h]
  simp only[mN,List.map_cons,List.mem_cons]at hk a⊢
  rcases hk with(hk|hk)|hk
  ·exact .inl hk
  ·exact .inr (a (.inl hk))
  ·exact .inr (a (.inr hk))
 ·intro x xs y b h a hk;rw[gB,aA zE,aB h]
  simp only[mN,List.map_cons,List.mem_cons]at hk a⊢
  rcases hk with hk|hk|hk
  ·exact .inr (a (.inl hk))
  ·exact .inl hk
  ·exact .inr (a (.inr hk))
 ·intro x xs y b h a hk;rw[gB,aA zE,aA zE]
  simp only[mN,List.map_cons,List.mem_cons]at hk a⊢
  rcases hk with(hk|hk)|hk|hk
  ·exact .inl hk
  ·exact .inr (a (.inl hk))
  ·exact .inl zE
  ·exact .inr (a (.inr hk))
def sx (l:lE):Prop:=l.Pairwise λx y=>x.1<y.1
theorem Sv (xs a:lE):sx xs→sx a→sx (BK xs a):=by
 refine o3 (C:=λxs a=>sx xs→sx a→sx (BK xs a)) ?_ ?_ ?_ ?_ ?_ _ xs a (aU _)
 ·intro a _ h;rw[ub];exact h
 ·intro x xs h _;rw[qv];exact h
 ·intro x xs y a h b hx hy;rw[gB,aB h]
  obtain⟨h1,d⟩:=jq.1 hx;obtain⟨c,e⟩:=jq.1 hy;refine jq.2 ⟨λz hz=> ?_,b d hy⟩
  rcases yQ _ _ hz with hz|hz
  ·exact h1 z hz
  ·rcases cN.1 hz with rfl|hz
   ·exact h
   ·have:=c z hz;omega
 ·intro x xs y a h b hx hy;rw[gB,aA zE,aB h]
  obtain⟨h1,d⟩:=jq.1 hx;obtain⟨c,e⟩:=jq.1 hy;refine jq.2 ⟨λz hz=> ?_,b hx e⟩
  rcases yQ _ _ hz with hz|hz
  ·rcases cN.1 hz with rfl|hz
   ·exact h
   ·have:=h1 z hz;omega
  ·exact c z hz
 ·intro x xs y a h b hx hy;rw[gB,aA zE,aA zE]
  obtain⟨h1,d⟩:=jq.1 hx;obtain⟨c,e⟩:=jq.1 hy;refine jq.2 ⟨λz hz=> ?_,b d e⟩
  rcases yQ _ _ hz with hz|hz
  ·exact h1 z hz
  ·have:=c z hz;omega
def gQ (f:Nat→Nat):Nat→Nat
 |0=>0
 |n+1=>gQ f n+f n
theorem AQ {f g:Nat→Nat}:∀{n:Nat},(∀i,i<n→f i=g i)→gQ f n=gQ g n
 |0,_=>rfl
 |n+1,h=>by rw[gQ,gQ,AQ λi hi=>h i zE,h n zE]
theorem AR {f g:Nat→Nat}{a:Nat}:∀{n:Nat},(∀i,i<n→i≠a→f i=g i)→a<n→gQ f n+g a=gQ g n+f a
 |0,_,h=>by omega
 |n+1,h,c=>by
  rw[gQ,gQ]
  by_cases e:a=n
  ·subst e
   rw[AQ λi hi=>h i zE zE];omega
  ·have:=AR (n:=n) (λi hi b=>h i zE b) zE
   rw[h n zE (λx=>e x.symm)];omega
structure Pl where
 ro:List Nat
 ty:List Int
 lk:List lE
def Pl.rt (p:Pl)(i:Nat):Nat:=p.ro.getD i 0
def Pl.tt (p:Pl)(i:Nat):Int:=p.ty.getD i 0
def Pl.ll (p:Pl)(i:Nat):lE:=p.lk.getD i []
def Pl.put (p:Pl)(a b m:Nat):Pl:=⟨p.ro.map λx=>if x=b then a else x,p.ty.set a m,p.lk.set a (BK (p.ll a) (p.ll b))⟩
def jT (mt:Nat→Nat→Option Nat):Nat→Pl→List (Int×Int)→Option Pl
 |0,_,_=>none
 |_+1,p,[]=>some p
 |f+1,p,x::w=>
  if p.rt x.1.toNat=p.rt x.2.toNat then jT mt f p w
  else match mt (p.tt (p.rt x.1.toNat)).toNat (p.tt (p.rt x.2.toNat)).toNat with
   |none=>none
   |some m=>jT mt f (p.put (p.rt x.1.toNat) (p.rt x.2.toNat) m) ((EH (p.ll (p.rt x.1.toNat)) (p.ll (p.rt x.2.toNat))).reverse++w)
def Pl.left (p:Pl):Nat:=gQ (λi=>if p.rt i=i then(p.ll i).length else 0) p.ro.length
def Pl.mu (p:Pl)(w:List (Int×Int)):Nat:=p.left+w.length+1
structure mc (nt nf n:Nat)(p:Pl):Prop where
 lr:p.ro.length=n
 lt:p.ty.length=n
 ll:p.lk.length=n
 Ay:∀i,i<n→p.rt i<n
 Wp:∀i,i<n→p.rt (p.rt i)=p.rt i
 tys:∀t∈p.ty,0≤t∧t<nt
 SR:∀l∈p.lk,∀x∈l,(0≤x.1∧x.1<nf)∧0≤x.2∧x.2<n
 Zv:∀l∈p.lk,sx l
theorem mc.tt {nt nf n:Nat}{p:Pl}(h:mc nt nf n p){i:Nat}(hi:i<n):0≤p.tt i∧p.tt i<nt:=by
 unfold Pl.tt;rw[ax,bT (by rw[h.lt];exact hi)];exact h.tys _ (gl _)
theorem mc.lm {nt nf n:Nat}{p:Pl}(h:mc nt nf n p){i:Nat}(hi:i<n):p.ll i∈p.lk:=by
 unfold Pl.ll;rw[ax,bT (by rw[h.ll];exact hi)];exact gl _
theorem Pl.J6 {p:Pl}{a b m i:Nat}(hi:i<p.ro.length):(p.put a b m).rt i=if p.rt i=b then a else p.rt i:=by
 unfold Pl.rt Pl.put
 simp only[List.getD_eq_getElem?_getD,List.getElem?_map,List.getElem?_eq_getElem hi,Option.map_some,Option.getD_some]
theorem Pl.QQ {p:Pl}{a b m i:Nat}(c:a<p.lk.length):(p.put a b m).ll i=if i=a then BK (p.ll a) (p.ll b)else p.ll i:=by
 unfold Pl.ll Pl.put
 simp only[List.getD_eq_getElem?_getD]
 by_cases e:i=a
 ·subst e;rw[ic c,aB rfl];rfl
 ·rw[iz (λh=>e h.symm),aA e]
theorem mc.put {nt nf n:Nat}{p:Pl}(h:mc nt nf n p){a b m:Nat}(d:a<n)(g:b<n)(j:p.rt a=a)(hm:m<nt)(k:a≠b):mc nt nf n (p.put a b m):=by
 have f:∀i,i<n→(p.put a b m).rt i=if p.rt i=b then a else p.rt i:=λi hi=>Pl.J6 (by rw[h.lr];exact hi)
 refine⟨by simp[Pl.put,h.lr],by simp[Pl.put,h.lt],by simp[Pl.put,h.ll],λi hi=> ?_,λi hi=> ?_,λt ht=> ?_,λl c=> ?_,λl c=> ?_⟩
 ·rw[f i hi];split
  ·exact d
  ·exact h.Ay i hi
 ·rw[f i hi];split
  ·rw[f a d,j,aA k]
  ·rename_i e
   rw[f _ (h.Ay i hi),h.Wp i hi,aA e]
 ·rcases lV ht with ht|ht
  ·exact h.tys t ht
  ·subst ht;exact⟨by omega,by omega⟩
 ·rcases lV c with c|c
  ·exact h.SR l c
  ·subst c
   intro x hx
   rcases yQ _ _ hx with hx|hx
   ·exact h.SR _ (h.lm d) x hx
   ·exact h.SR _ (h.lm g) x hx
 ·rcases lV c with c|c
  ·exact h.Zv l c
  ·subst c
   exact Sv _ _ (h.Zv _ (h.lm d)) (h.Zv _ (h.lm g))
theorem mc.left {nt nf n:Nat}{p:Pl}(h:mc nt nf n p){a b m:Nat}(d:a<n)(q:b<n)(r:p.rt a=a)(j:p.rt b=b)(k:a≠b):(p.put a b m).left+(EH (p.ll a) (p.ll b)).length=p.left:=by
 have l:∀i,i<n→(p.put a b m).rt i=if p.rt i=b then a else p.rt i:=λi hi=>Pl.J6 (by rw[h.lr];exact hi)
 have o:∀i,(p.put a b m).ll i=if i=a then BK (p.ll a) (p.ll b)else p.ll i:=λi=>Pl.QQ (by rw[h.ll];exact d)
 have hlen:=Ug (p.ll a) (p.ll b)
 unfold Pl.left
 have s:(p.put a b m).ro.length=n:=by simp[Pl.put,h.lr]
 rw[s,h.lr]
 -- in t:b is no root any more
 have s1:=AR (n:=n) (a:=b) (f:=λi=>if i=b then 0 else if p.rt i=i then(p.ll i).length else 0) (g:=λi=>if p.rt i=i then(p.ll i).length else 0) (λi _ hi=>aA hi) q
 have s2:=AR (n:=n) (a:=a) (f:=λi=>if(p.put a b m).rt i=i then((p.put a b m).ll i).length else 0) (g:=λi=>if i=b then 0 else if p.rt i=i then(p.ll i).length else 0) (λi hi c=>by
  rw[l i hi,o i,aA c]
  by_cases e:p.rt i=b
  ·rw[aB e,aA (λh=>c h.symm)]
   by_cases e2:i=b
   ·rw[aB e2]
   ·rw[aA e2,aA (λh=>e2 (by rw[←e,h]))]
  ·rw[aA e,aA (show i≠b from λu=>e (by rw[u,j]))]) d
 rw[aB rfl,aB j]at s1;rw[l a d,r,aA k,aB rfl,o a,aB rfl,aA k,aB rfl]at s2;omega
def Pl.of (x y:eB):Pl:=⟨List.range (x.length+y.length),x.map (·.1)++y.map (·.1),x.map (·.2)++y.map λn=>n.2.map λl=>(l.1,(x.length:Int)+l.2)⟩
def qN (p:Pl):eB:=(List.range p.ro.length).map λi=>(p.tt i,if p.rt i=i then(p.ll i).map (λl=>(l.1,(p.rt l.2.toNat:Int)))else [])
def lU (g:eB):Nat→List Nat→Nat→List Nat
 |0,o,_=>o
 |f+1,o,i=>if i∈o then o else(g.getD i gq).2.foldl (λo x=>lU g f o x.2.toNat) (o++ [i])
def iH (g:eB)(r:Nat):eB:=let o:=lU g (g.length+1) [] r;o.map λi=>((g.getD i gq).1,(g.getD i gq).2.map λx=>(x.1,(o.idxOf x.2.toNat:Int)))
def dT (mt:Nat→Nat→Option Nat)(x:eB)(node:Nat)(y:eB):Option eB:=
 (jT mt ((Pl.of x y).mu [((node:Int),(x.length:Int))]) (Pl.of x y) [((node:Int),(x.length:Int))]).map λp=>iH (qN p) (p.rt 0)
end Go.Proofs.YtiefglecbgdaiaaGreatDoor
