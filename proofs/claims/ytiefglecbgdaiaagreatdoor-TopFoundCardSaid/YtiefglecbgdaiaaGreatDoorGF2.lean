/-
  Laws of walks through programs, and facts on grammars, trees and queries.
  Conditions: none.
-/
import Derived.Test.YtiefglecbgdaiaaGreatDoorGF1
import Derived.Lib.Mul64
import Derived.Shelf.Spec.BitsCarry
import Derived.Laws.IdiomStrings
import Derived.Stop.IfaceNil
import Derived.Below
import Derived.Lib.ValidU
import Derived.Lib.RuneCount
import Derived.Lib.IndexAny
import Derived.Lib.TrimUEq
import Derived.Test.YtiefglecbgdaiaaGreatDoorChecked
import Derived.Sort.Walk0
import Derived.Shelf.SlSortCmp.NoneTotal
set_option maxRecDepth 20000
set_option linter.unusedVariables false
set_option linter.unusedSimpArgs false
namespace Go.J
open Go
section
variable {α:Type}
theorem Aa {p:α→Bool}{s:List α}{k:Nat}{d:α}(h:(s.take k).all p=true)(hk:p (s.getD k d)=true):(s.take (k+1)).all p=true:=by
 by_cases a:k<s.length
 ·rw[HW a,List.all_append,h]
  rw[aZ,aj a]at hk
  simpa using hk
 ·rw[dV zE];rwa[dV zE]at h
theorem kO {p:α→Bool}{s:List α}{k:Nat}{x:α}(h:(s.take k).all p=true)(hx:s[k]?=some x)(hk:p x=true):(s.take (k+1)).all p=true:=by
 obtain⟨a,rfl⟩:=eh.1 hx;rw[HW a,List.all_append,h]
 simpa using hk
theorem Ct {p:α→Bool}{s:List α}{k:Nat}{d:α}(hk:k<s.length)(h:p (s.getD k d)=false):s.all p=false:=by
 rw[aZ,aj hk]at h;rw[List.all_eq_false];exact⟨s[k],fq hk,by simpa using h⟩
theorem Eh {p:α→Bool}{s:List α}{k:Nat}(h:(s.take k).all p=true)(hk:s.length≤k):s.all p=true:=by rwa[dV hk]at h
theorem aF {s:List α}{k:Nat}(h:k<s.length):∃x,s[k]?=some x:=⟨_,aj h⟩
theorem bA {s:List α}{k:Nat}{x:α}(h:s[k]?=some x):s.drop k=x::s.drop (k+1):=by
 obtain⟨a,rfl⟩:=eh.1 h;exact List.drop_eq_getElem_cons a
theorem ag {s:List α}{k:Nat}{x:α}(h:s[k]?=some x):k<s.length:=(eh.1 h).1
theorem aO {s:List α}{k:Nat}{x:α}(h:s[k]?=some x):s.take (k+1)=s.take k++ [x]:=by
 obtain⟨a,rfl⟩:=eh.1 h;exact HW a
theorem Db {s:List α}{k:Nat}{x d:α}(h:s[k]?=some x):s.getD k d=x:=by rw[aZ,h];rfl
end
theorem be {a b:Bool}(h:a=b):GZ [Value.bool a]= .bool b:=by rw[h];rfl
theorem ie {a b:Int}(h:a=b):GZ [iv a]=iv b:=by rw[h];rfl
def ix {β:Type}(p:β→Bool)(l:List β):Int:=match l.findIdx? p with|some i=>(i:Int)|none=> -1
theorem Fl {β:Type}{p:β→Bool}{l:List β}{k:Nat}{x:β}(h:(l.take k).all (λy=> !p y)=true)(hx:l[k]?=some x)(hp:p x=true):ix p l=k:=by
 obtain⟨a,rfl⟩:=eh.1 hx
 have:l.findIdx? p=some k:=by
  rw[List.findIdx?_eq_some_iff_getElem];refine⟨a,hp,λj b=> ?_⟩;rw[j8]at h
  have h1:=h l[j] (by rw[List.mem_take_iff_getElem];exact⟨j,by omega,rfl⟩)
  simpa using h1
 simp only[ix,this]
theorem L5 {β:Type}{p:β→Bool}{l:List β}{k:Nat}(h:(l.take k).all (λy=> !p y)=true)(hk:l.length≤k):ix p l= -1:=by
 rw[dV hk,j8]at h
 have:l.findIdx? p=none:=by
  rw[List.findIdx?_eq_none_iff];intro x hx
  simpa using h x hx
 simp only[ix,this]
theorem z8 {β:Type}(p:β→Bool)(l:List β):(ix p l= -1∧∀x∈l,p x=false)∨∃(k:Nat) (x:β),l[k]?=some x∧p x=true∧ix p l=k∧∀(j:Nat) (y:β),j<k→l[j]?=some y→p y=false:=by
 unfold ix
 cases h:l.findIdx? p with
 |none=>left;exact⟨rfl,by simpa using List.findIdx?_eq_none_iff.1 h⟩
 |some k=>
  right
  obtain⟨a,hp,b⟩:=List.findIdx?_eq_some_iff_getElem.1 h;refine⟨k,l[k],aj a,hp,rfl,λj y c hy=> ?_⟩;obtain⟨d,rfl⟩:=eh.1 hy
  simpa using b j c
theorem Bf {β:Type}(p:β→Bool)(l:List β):decide (0≤ix p l)=l.any p:=by
 rcases z8 p l with⟨h1,a⟩|⟨k,x,h1,a,b,_⟩
 ·rw[h1];symm;simp[List.any_eq_false];exact a
 ·rw[b]
  have:l.any p=true:=uq.2 ⟨x,aa h1,a⟩
  rw[this];simp
def fv (f:Int×Int):Value:= .agg #[iv f.1,iv f.2]
theorem fe {a b:Int}{f:Int×Int}(h:f=(a,b)):GZ [.agg #[iv a,iv b]]=fv f:=by rw[h];rfl
def low (c:UInt8):Bool:=decide ((97:Int)≤c.toNat)&&decide ((c.toNat:Int)≤122)
def digit (c:UInt8):Bool:=decide ((48:Int)≤c.toNat)&&decide ((c.toNat:Int)≤57)
def oK (c:UInt8):Bool:=low c||digit c||decide ((c.toNat:Int)=95)||decide ((c.toNat:Int)=45)
def isName (s:ab):Bool:=decide (0<s.length)&&decide (s.length≤30)&&low (s.getD 0 0)&&s.all oK
theorem Fg {s:ab}(h:((s.length:Int)=0∨30<(s.length:Int))∨((s.getD 0 0).toNat:Int)<97∨122<((s.getD 0 0).toNat:Int)):isName s=false:=by
 simp only[isName,low,Bool.and_eq_false_iff,decide_eq_false_iff_not]
 left;omega
theorem Fh {s:ab}{k:Nat}(hk:k<s.length)(h:oK (s.getD k 0)=false):isName s=false:=by
 simp only[isName,Ct hk h,Bool.and_false]
theorem Fj {s:ab}(a:0<s.length)(h1:s.length≤30)(b:low (s.getD 0 0)=true)(h:s.all oK=true):isName s=true:=by
 simp only[isName,b,h,Bool.and_true,Bool.and_eq_true,decide_eq_true_eq]
 exact⟨a,h1⟩
abbrev uv (n:Nat):Value:= .int .u64 (n:Int)
abbrev wv (n:Nat):Value:= .agg #[uv (n/18446744073709551616),uv (n%18446744073709551616)]
section
variable {P:Program}{n:Nat}{F:Fr}{A:World→Prop}{ty:TypeId}{x y:Operand}{t u:TypeId}{a b:Nat}
theorem agF {i:Int}:IntKind.u64.wrap i=i%18446744073709551616:=by
 simp only[IntKind.wrap,IntKind.bits,IntKind.signed];simp
theorem oe (m:Nat):IntKind.u64.wrap (m:Int)=((m%18446744073709551616:Nat):Int):=by rw[agF];omega
theorem Ev.Rf {k:IntKind}{j:Int}(c m:Nat)(hm:2^c=m)(hx:aX F x (uv a))(hy:aX F y (.int k j))(h:j=c∧c≤64):Ev P n F A (.binOp .shr t x y u) ty (uv (a/m)):=by
 subst hm;obtain⟨rfl,d⟩:=h
 have:=Ev.shr (P:=P) (n:=n) (A:=A) (ty:=ty) (t:=t) (u:=u) hx hy zE
 have e:(a:Int).fdiv (2^(min (c:Int).toNat IntKind.u64.bits))=((a/2^c:Nat):Int):=by
  have b:min (c:Int).toNat IntKind.u64.bits=c:=by
   have:IntKind.u64.bits=64:=rfl
   rw[this,CY];omega
  rw[b,Int.fdiv_eq_ediv_of_nonneg _ (Int.le_of_lt (Int.pow_pos zE))]
  simp
 rw[e]at this;exact this
theorem Ev.ajJ {k:IntKind}{j:Int}(c m:Nat)(hm:2^c=m)(hx:aX F x (uv a))(hy:aX F y (.int k j))(h:j=c∧c≤64):Ev P n F A (.binOp .shl t x y u) ty (uv (a*m%18446744073709551616)):=by
 subst hm;obtain⟨rfl,d⟩:=h
 have:=Ev.ajK (P:=P) (n:=n) (A:=A) (ty:=ty) (t:=t) (u:=u) hx hy zE
 have e:(a:Int)*2^(min (c:Int).toNat IntKind.u64.bits)=((a*2^c:Nat):Int):=by
  have b:min (c:Int).toNat IntKind.u64.bits=c:=by
   have:IntKind.u64.bits=64:=rfl
   rw[this,CY];omega
  rw[b];simp
 rw[e,oe]at this;exact this
theorem Oa (c:Nat)(h:a<18446744073709551616)(b:c≤64):bits .and .u64 (a:Int) ((2^c-1:Nat):Int)=((a%2^c:Nat):Int):=by
 have d:2^c-1<2^64:=by have:=AG (n:=2) zE b;have:=Nat.pow_pos (n:=c) (a:=2) zE;omega
 have e:(BitVec.ofInt IntKind.u64.bits (a:Int)&&&BitVec.ofInt IntKind.u64.bits ((2^c-1:Nat):Int)).toNat=a%2^c:=by
  show(BitVec.ofInt 64 (a:Int)&&&BitVec.ofInt 64 ((2^c-1:Nat):Int)).toNat=_
  rw[BitVec.toNat_and,Nu,Nu,Nv,Nv,mT h,mT d,Nat.and_two_pow_sub_one_eq_mod]
 simp only[bits,e]
 rw[oe,mT (sy (Nat.mod_le a _) h)]
theorem Ev.aa9 (c m:Nat)(hm:2^c=m)(hx:aX F x (uv a))(hy:aX F y (uv b))(h:a<18446744073709551616∧b=2^c-1∧c≤64):Ev P n F A (.binOp .and t x y u) ty (uv (a%m)):= .of_run λa' w ha _=>by
 subst hm;obtain⟨h1,rfl,h3⟩:=h
 simp only[execOp,hx.eval ha,hy.eval ha];simp only[go_sem,Oa c h1 h3];simp
theorem Ev.IM (m:Nat){i:Int}{s d:TypeId}(hx:aX F x (iv i))(a:(P.underlying s).isSome=true)(hd:P.underlying d=some (.int .u64))(h:i=m∧m<18446744073709551616):Ev P n F A (.convert s d x) ty (uv m):=by
 obtain⟨rfl,h⟩:=h
 have:=Ev.tZ (P:=P) (n:=n) (A:=A) (ty:=ty) hx a hd
 rwa[oe,mT h]at this
theorem Ev.IP {k:IntKind}{s d:TypeId}(hx:aX F x (.int k (a:Int)))(b:(P.underlying s).isSome=true)(hd:P.underlying d=some (.int .i64))(h:a<9223372036854775808):Ev P n F A (.convert s d x) ty (iv a):=by
 have:=Ev.tZ (P:=P) (n:=n) (A:=A) (ty:=ty) hx b hd
 rwa[uj zE]at this
end
section
variable {P:Program}{n:Nat}{F:Fr}{A:World→Prop}{ty:TypeId}{x y:Operand}{t:TypeId}
end
section
variable {P:Program}{n:Nat}{F:Fr}{A:World→Prop}{c:Ctx}{H R:List ai}{T:Act→World→Prop}{v v':Value}
theorem St.jq (b:Nat){e:TypeId}{L:List Value}(L':List Value)[a:mn b H (.cells L.toArray e (0,0)) R](h:L=L')(d:St n F (Mm c (aU b (.cells L'.toArray e (0,0))::R)) T):St n F (Mm c H) T:=by
 subst h
 refine d.ny λw hw=> ?_
 obtain⟨ρ,hm⟩:=hw.out;exact Mm.mk (hm.perm a.perm)
end
end Go.J
namespace Go.J
open Go Go.RowKit
section
variable {P:Program}{n:Nat}{F:Fr}{A:World→Prop}{c:Ctx}{H R:List ai}{ty t e:TypeId}{x y:Operand}{Q:Exit→Act→World→Prop}{ops:Array Oper}{rest:List Oper}{pos:String}{after:Array Edge}
theorem Ev.Iz {b k N:Nat}{i:Int}{kd:IntKind}(hx:aX F x (tW b))(hy:aX F y (.int kd i))(ht:P.underlying t=some (.array N e))(d:(P.info? e).map (·.size)=some 1)
 (f:i=k) (hk:k<N):Ev P n F A (.indexAddr t x y) ty (.pointer (some ⟨b,k,none⟩)):= .of_run λa w c hw=>by
 obtain⟨inf,g,h⟩:=dX.1 d;subst f
 simp[execOp,hx.eval c,hy.eval c,Instr.indexAt,Instr.sureAddr,asIntOf,run_underlying ht,sizeOf,typeInfo,g,h,hk,Addr.add_lit]
theorem St.Le {b off:Nat}{L:List Value}{v:Value}(L':List Value)[g:mn b H (.cells L.toArray e (0,0)) R](hx:aX F x (.pointer (some ⟨b,off,none⟩)))(hy:aX F y v)(a:L.set off v=L')(d:(P.info? t).map (·.size)=some 1)(h1:v.oneCell'=true)
 (f:off<L.length) (h:St n F (Mm c (aU b (.cells L'.toArray e (0,0))::R)) (wpList P ops Q rest)):
 St n F (Mm c H) (wpList P ops Q ({dst:=none,op:= .store t x y,type:=ty,pos:=pos,after:=after,guard:=none}::rest)):=by
 haveI:Ed L off v L':=⟨a⟩
 exact St.bL hx hy d h1 (Nat.ble_eq_true_of_le f) h
end
theorem Jb {P:Program}{t e:TypeId}{N size:Nat}{Z cs:Array Value}{parts:Array (Nat×Value)}{w:World}(ht:P.underlying t=some (.array N e))(hz:(P.info? t).bind (λi=>i.zero.map Value.cells)=some Z)(c:(P.info? e).map (·.size)=some size)
 (d:Instr.fill (λi=>some (i*size,size)) Z parts.toList=some cs):(Instr.build t parts).run P w= .ok (.agg cs) w:=by
 obtain⟨i,f,a⟩:=o6.1 hz;obtain⟨k,g,rfl⟩:=dX.1 a;obtain⟨j,h,b⟩:=dX.1 c;subst b
 simp[Instr.build,zeroValue,typeInfo,f,g,run_underlying ht,sizeOf,h,d]
def dQ.of (X:World→Prop):dQ:=⟨λρ=>∀w,(∀k o,ρ k=some o→w.heap[k]?=some o)→X w,λ_ _ h k w hw=>k w λb o a=>hw b o (h b o a)⟩
theorem AK.qd {P:Program}{f:FuncId}{args:Array Value}{X:World→Prop}{post:Value→List ai→Prop}(h:∀w,X w→Calls P f args w λe w'=>∃v,e= .returned v∧post v []∧Below w.heap.size w w'):
 AK P f args ([dQ.of X].map aD) post:=by
 intro w ρ b
 have hx:X w:=dK.1 (b.dC (aD (dQ.of X)) (aV ..)) w b.fits
 refine(h w hx).mono ?_;rintro e w' ⟨v,rfl,hp,a⟩;refine⟨v,[],rfl,hp,Mm.mk (ρ:=ρ) ⟨a.os,⟨a.tape,λh=>h.elim⟩,a.output,a.size,λk hk _=>a.block k hk,λk o hk=> ?_,Ro.le_refl _,λ_ _ _=>rfl,λ_ h=>by simp at h,λ_ h=>by simp at h,.nil⟩⟩;rw[a.block k (b.AP hk)];exact b.fits k o hk
theorem kC.qd {P:Program}{f:FuncId}{args:Array Value}{X:World→Prop}{v:Value}(h:∀w,X w→Calls P f args w λe w'=>e= .returned v∧Below w.heap.size w w'):kC P f args [dQ.of X] v:=
 AK.qd λw hw=>(h w hw).mono λ_ _ ⟨h1,a⟩=>⟨v,h1,rfl,a⟩
end Go.J
namespace Go.J
open Go Go.ChangeShapes Go.WideShapes Go.ChangeAt Go.RowKit Go.Deep
section
variable {H:Type}{enc:TypeId×Value→H}{P:Program}{W:World}
theorem Ov {nm:String}{g T e n:Nat}{L:List Nat}(d:P.globalNamed nm=some g)(hy:(P.globals[g]?).map (·.type)=some T)(ht:P.underlying T=some (.array n e))(he:P.underlying e=some (.int .u8))(i:P.cellsOf e=1)(b:P.cellsOf T=n)
 (h:Lib.VarReads P W nm (Lib.tabData .u8 (L.map λx:Nat=>(x:Int)))):∀w:World,(∀k o,J.all W k=some o→w.heap[k]?=some o)→∀j,j<L.length→w.cell? ⟨g,j,none⟩=some (.int .u8 (L.getD j 0)):=by
 obtain⟨u,t,cs,fuel,p,c,l,m,hd⟩:=h;obtain rfl:=Option.some.inj (d.symm.trans c);obtain rfl:=Option.some.inj (hy.symm.trans l)
 have q:=Lib.cells_of_tab ht he i b hd
 intro w hw j f
 have a:=World.var?_cell d m j
 rw[←KD,q]at a
 have a:W.cell? ⟨g,j,none⟩=some (.int .u8 (L.getD j 0)):=by
  rw[a,aw,aw,aj f,aZ,aj f];rfl
 obtain⟨_,C,v,fr,r,s⟩:=jI a
 rw[cG (hw _ _ r)];exact s
end
end Go.J
namespace Go.J
open Go Go.Lib
def xU:ab:=[32,9,10,40,41,91,93,44,59]
def iT (b:UInt8):Bool:=xU.contains b
theorem Mw {b:UInt8}:iT b=true↔b.toNat=32∨b.toNat=9∨b.toNat=10∨b.toNat=40∨b.toNat=41∨b.toNat=91∨b.toNat=93∨b.toNat=44∨b.toNat=59:=by
 unfold iT xU
 simp only[List.contains_cons,List.contains_nil,Bool.or_false,Bool.or_eq_true,beq_iff_eq,←UInt8.toNat_inj]
 exact Iff.rfl
theorem J3 {b:UInt8}(h:128≤b.toNat):iT b=false:=by
 cases a:iT b with
 |false=>rfl
 |true=>have:=Mw.1 a;omega
def more (b:Nat):Nat:=if 194≤b∧b≤223 then 1 else if 224≤b∧b≤239 then 2 else if 240≤b∧b≤244 then 3 else 0
def loB (b:Nat):Nat:=if b=224 then 160 else if b=240 then 144 else 128
def hiB (b:Nat):Nat:=if b=237 then 159 else if b=244 then 143 else 191
def bt (s:ab)(i:Nat):Nat:=(s.getD i 0).toNat
def tR (b:Nat):Bool:=decide (128≤b∧more b=0)
def iQ (s:ab)(p k:Nat):Bool:=decide (p+1+k<s.length∧(if k=0 then loB (bt s p)else 128)≤bt s (p+1+k)∧bt s (p+1+k)≤(if k=0 then hiB (bt s p)else 191))
def wst (s:ab)(p:Nat):Option Nat:=
 if iT (s.getD p 0)then none else if tR (bt s p)then none else if(List.range (more (bt s p))).all (iQ s p)then some (more (bt s p)+1)else none
theorem pZ (s:ab)(i:Nat):bt s i<256:=(s.getD i 0).toNat_lt
theorem vI (s:ab)(p:Nat):decodeL (s.drop p)=decodeN (s.length-p) (bt s p) (bt s (p+1)) (bt s (p+2)) (bt s (p+3)):=by
 rw[decodeL_N,ur,getD_dropU,getD_dropU,getD_dropU,getD_dropU,fU];rfl
def C2 (n a b:Nat):Prop:=194≤a∧a≤223∧1<n∧128≤b∧b≤191
def C3 (n a b c:Nat):Prop:=224≤a∧a≤239∧1<n∧128≤b∧b≤191∧(a=224→160≤b)∧(a=237→b≤159)∧2<n∧128≤c∧c≤191
def C4 (n a b c d:Nat):Prop:=240≤a∧a≤244∧1<n∧128≤b∧b≤191∧(a=240→144≤b)∧(a=244→b≤143)∧2<n∧128≤c∧c≤191∧3<n∧128≤d∧d≤191
theorem vH {n a b c d:Nat}(l:a<256)(h1:b<256)(m:c<256)(o:d<256):
 (a<128∧decodeN n a b c d=(a,1))∨(128≤a∧¬C2 n a b∧¬C3 n a b c∧¬C4 n a b c d∧decodeN n a b c d=(65533,1))∨
 (C2 n a b∧∃r,128≤r∧decodeN n a b c d=(r,2))∨(C3 n a b c∧∃r,128≤r∧decodeN n a b c d=(r,3))∨(C4 n a b c d∧∃r,128≤r∧decodeN n a b c d=(r,4)):=by
 unfold C2 C3 C4 decodeN
 by_cases e:a<128
 ·rw[aB e];exact .inl ⟨e,rfl⟩
 ·rw[aA e]
  right
  by_cases g:a/32=6∧(1<n∧b/64=2)
  ·rw[aB g]
   by_cases f:a%32*64+b%64≥128
   ·rw[aB f];exact .inr (.inl ⟨by omega,_,f,rfl⟩)
   ·rw[aA f];exact .inl ⟨by omega,by omega,by omega,by omega,rfl⟩
  ·rw[aA g]
   by_cases h:a/16=14∧(1<n∧b/64=2)∧(2<n∧c/64=2)
   ·rw[aB h]
    by_cases i:a%16*4096+b%64*64+c%64≥2048∧(a%16*4096+b%64*64+c%64<55296∨(57344≤a%16*4096+b%64*64+c%64∧a%16*4096+b%64*64+c%64≤1114111))
    ·rw[aB i];exact .inr (.inr (.inl ⟨by omega,_,by omega,rfl⟩))
    ·rw[aA i];exact .inl ⟨by omega,by omega,by omega,by omega,rfl⟩
   ·rw[aA h]
    by_cases j:a/8=30∧(1<n∧b/64=2)∧(2<n∧c/64=2)∧(3<n∧d/64=2)
    ·rw[aB j]
     by_cases k:a%8*262144+b%64*4096+c%64*64+d%64≥65536∧(a%8*262144+b%64*4096+c%64*64+d%64<55296∨(57344≤a%8*262144+b%64*4096+c%64*64+d%64∧a%8*262144+b%64*4096+c%64*64+d%64≤1114111))
     ·rw[aB k];exact .inr (.inr (.inr ⟨by omega,_,by omega,rfl⟩))
     ·rw[aA k];exact .inl ⟨by omega,by omega,by omega,by omega,rfl⟩
    ·rw[aA j];exact .inl ⟨by omega,by omega,by omega,by omega,rfl⟩
theorem QO (b:Nat):(b=224∧loB b=160)∨(b=240∧loB b=144)∨(b≠224∧b≠240∧loB b=128):=by
 unfold loB;split
 ·exact .inl ⟨by assumption,rfl⟩
 ·split
  ·exact .inr (.inl ⟨by assumption,rfl⟩)
  ·exact .inr (.inr ⟨by assumption,by assumption,rfl⟩)
theorem Po (b:Nat):(b=237∧hiB b=159)∨(b=244∧hiB b=143)∨(b≠237∧b≠244∧hiB b=191):=by
 unfold hiB;split
 ·exact .inl ⟨by assumption,rfl⟩
 ·split
  ·exact .inr (.inl ⟨by assumption,rfl⟩)
  ·exact .inr (.inr ⟨by assumption,by assumption,rfl⟩)
theorem NB (b:Nat):(more b=1∧194≤b∧b≤223)∨(more b=2∧224≤b∧b≤239)∨(more b=3∧240≤b∧b≤244)∨(more b=0∧(b<194∨244<b)):=by
 unfold more
 split
 ·exact .inl ⟨rfl,by assumption⟩
 ·split
  ·exact .inr (.inl ⟨rfl,by assumption⟩)
  ·split
   ·exact .inr (.inr (.inl ⟨rfl,by assumption⟩))
   ·exact .inr (.inr (.inr ⟨rfl,by omega⟩))
theorem BT {s:ab}{p:Nat}:iQ s p 0=true↔p+1<s.length∧loB (bt s p)≤bt s (p+1)∧bt s (p+1)≤hiB (bt s p):=by
 unfold iQ;rw[aB rfl,aB rfl,eJ]
theorem Kh {s:ab}{p:Nat}:iQ s p 1=true↔p+2<s.length∧128≤bt s (p+2)∧bt s (p+2)≤191:=by
 unfold iQ;rw[aA (by decide),aA (by decide),eJ]
theorem X2 {s:ab}{p:Nat}:iQ s p 2=true↔p+3<s.length∧128≤bt s (p+3)∧bt s (p+3)≤191:=by
 unfold iQ;rw[aA (by decide),aA (by decide),eJ]
theorem pU {s:ab}{p m:Nat}(a:iT (s.getD p 0)=false)(hm:more (bt s p)=m)(b:¬(128≤bt s p∧m=0)):wst s p=if(List.range m).all (iQ s p)then some (m+1)else none:=by
 unfold wst
 have h1:tR (bt s p)=false:=by unfold tR;rw[hm];exact e9 b
 rw[a,h1,hm];rfl
theorem WG {s:ab}{p:Nat}(hp:p<s.length)(a:iT (s.getD p 0)=false):
 wst s p=if(decodeL (s.drop p)).1=65533∧(decodeL (s.drop p)).2=1 then none else some (decodeL (s.drop p)).2:=by
 rw[vI]
 have i:=QO (bt s p)
 have j:=Po (bt s p)
 have c:=NB (bt s p)
 have e:(List.range 1).all (iQ s p)=iQ s p 0:=by simp[List.range_succ]
 have f:(List.range 2).all (iQ s p)=(iQ s p 0&&iQ s p 1):=by simp[List.range_succ]
 have g:(List.range 3).all (iQ s p)=(iQ s p 0&&iQ s p 1&&iQ s p 2):=by simp[List.range_succ,Bool.and_assoc]
 rcases vH (n:=s.length-p) (pZ s p) (pZ s (p+1)) (pZ s (p+2)) (pZ s (p+3))with⟨h1,b⟩|⟨h1,k,n3,n4,b⟩|⟨h1,r,h,b⟩|⟨h1,r,h,b⟩|⟨h1,r,h,b⟩<;>rw[b]
 ·rw[aA (by simp only;omega),pU a (m:=0) zE zE];rfl
 ·rw[aB (by simp)]
  unfold C2 at k;unfold C3 at n3;unfold C4 at n4
  rcases c with⟨hm,d⟩|⟨hm,d⟩|⟨hm,d⟩|⟨hm,d⟩
  ·rw[pU a hm zE,e,aA (by rw[BT];omega)]
  ·rw[pU a hm zE,f,aA (by rw[pV,BT,Kh];omega)]
  ·rw[pU a hm zE,g,aA (by rw[pV,pV,BT,Kh,X2];omega)]
  ·unfold wst
   rw[a,show tR (bt s p)=true by unfold tR;exact dI ⟨h1,hm⟩];rfl
 ·unfold C2 at h1
  rw[aA (by simp),pU a (m:=1) zE zE,e,if_pos (by rw[BT];omega)]
 ·unfold C3 at h1
  rw[aA (by simp),pU a (m:=2) zE zE,f,if_pos (by rw[Bool.and_eq_true,BT,Kh];omega)]
 ·unfold C4 at h1
  rw[aA (by simp),pU a (m:=3) zE zE,g,if_pos (by rw[Bool.and_eq_true,Bool.and_eq_true,BT,Kh,X2];omega)]
theorem r4 {s:ab}{p:Nat}(hp:p<s.length):1≤(decodeL (s.drop p)).2∧p+(decodeL (s.drop p)).2≤s.length∧
 ((bt s p<128∧decodeL (s.drop p)=(bt s p,1))∨(128≤(decodeL (s.drop p)).1∧∀j,j<(decodeL (s.drop p)).2→128≤bt s (p+j))):=by
 rw[vI]
 have e:bt s (p+0)=bt s p:=rfl
 have c:∀w,(w=1∨(w=2∧128≤bt s (p+1))∨(w=3∧128≤bt s (p+1)∧128≤bt s (p+2))∨(w=4∧128≤bt s (p+1)∧128≤bt s (p+2)∧128≤bt s (p+3)))→128≤bt s p→∀j,j<w→128≤bt s (p+j):=by
  intro w h d j f
  have:j=0∨j=1∨j=2∨j=3:=by omega
  rcases this with rfl|rfl|rfl|rfl
  ·exact d
  ·omega
  ·omega
  ·omega
 rcases vH (n:=s.length-p) (pZ s p) (pZ s (p+1)) (pZ s (p+2)) (pZ s (p+3))with⟨h1,a⟩|⟨h1,g,n3,n4,a⟩|⟨h1,r,b,a⟩|⟨h1,r,b,a⟩|⟨h1,r,b,a⟩<;>rw[a]
 ·exact⟨aQ _,(show p+1≤s.length by omega),.inl ⟨h1,rfl⟩⟩
 ·exact⟨aQ _,(show p+1≤s.length by omega),.inr ⟨(show 128≤65533 by decide),c 1 (.inl rfl) h1⟩⟩
 ·unfold C2 at h1
  exact⟨(show 1≤2 by decide),(show p+2≤s.length by omega),.inr ⟨b,c 2 zE zE⟩⟩
 ·unfold C3 at h1
  exact⟨(show 1≤3 by decide),(show p+3≤s.length by omega),.inr ⟨b,c 3 zE zE⟩⟩
 ·unfold C4 at h1
  exact⟨(show 1≤4 by decide),(show p+4≤s.length by omega),.inr ⟨b,c 4 zE zE⟩⟩
theorem Jf {s:ab}{p:Nat}(hp:p<s.length)(c:iT (s.getD p 0)=false):(s.drop p).any iT=(s.drop (p+(decodeL (s.drop p)).2)).any iT:=by
 obtain⟨h1,f,a⟩:=r4 hp
 have a:(decodeL (s.drop p)).2=1∨∀j,j<(decodeL (s.drop p)).2→128≤bt s (p+j):=a.imp (λq=>by rw[q.2]) (λq=>q.2)
 generalize (decodeL (s.drop p)).2=w at*
 have e:s.drop p=(s.drop p).take w++s.drop (p+w):=by rw[←List.drop_drop,jN]
 rw[e,List.any_append]
 have:((s.drop p).take w).any iT=false:=by
  rw[List.any_eq_false];intro x hx;obtain⟨j,d,rfl⟩:=lB.1 hx;rw[cy,ur]at d;rw[List.getElem_take,List.getElem_drop]
  have b:s[p+j]'zE=s.getD (p+j) 0:=by rw[aZ,aj zE];rfl
  rw[b]
  rcases a with q|q
  ·obtain rfl:j=0:=by omega
   rw[fU,c];decide
  ·rw[J3 (q j zE)];decide
 rw[this,Bool.false_or]
def Nl (s:ab):Nat→Nat→Option Nat
 |0,_=>some 0
 |f+1,p=>if p<s.length then match wst s p with
  |none=>none
  |some w=>(Nl s f (p+w)).map (· +1)
  else some 0
theorem M1 (s:ab):∀(f p:Nat),s.length-p≤f→Nl s f p=if validGoD f (s.drop p)&& !(s.drop p).any iT then some (runeCountFrom ⟨s.toArray⟩ f p)else none
 |0,p,h=>by
  rw[fS zE]
  simp[Nl,validGoD,runeCountFrom]
 |f+1,p,h=>by
  by_cases hp:p<s.length
  ·have hd:s.drop p≠ []:=by intro e;have:=congrArg List.length e;rw[ur,List.length_nil]at this;omega
   have hx:s[p]?=some (s.getD p 0):=dm 0 hp
   rw[Nl,aB hp]
   cases a:iT (s.getD p 0)with
   |true=>
    have h1:wst s p=none:=by unfold wst;rw[a];rfl
    have g:(s.drop p).any iT=true:=by rw[bA hx,List.any_cons,a];rfl
    rw[h1,g];simp
   |false=>
    rw[WG hp a,validGoD,aA hd];obtain⟨j,k,l⟩:=r4 hp
    by_cases b:(decodeL (s.drop p)).1=65533∧(decodeL (s.drop p)).2=1
    ·rw[aB b,aB b];rfl
    ·rw[aA b,aA b,Jf hp a,List.drop_drop]
     have i:=M1 s f (p+(decodeL (s.drop p)).2) zE
     show Option.map _ _=_
     rw[i,runeCountFrom]
     have c:p<(⟨s.toArray⟩:ByteArray).size:=by show p<s.toArray.size;simpa using hp
     rw[aB c]
     have d:=decodeL_drop ⟨s.toArray⟩ p
     simp only at d
     rw[←d]
     split
     ·simp[Nat.add_comm]
     ·rfl
  ·rw[Nl,aA hp,fS zE]
   have c:¬p<(⟨s.toArray⟩:ByteArray).size:=by show ¬p<s.toArray.size;simpa using hp
   simp[validGoD,runeCountFrom,c]
def Xh:Option Nat→Bool
 |some n=>decide (1≤n∧n≤30)
 |none=>false
def isWord (s:ab):Bool:=Xh (Nl s s.length 0)
theorem Mx (s:ab):isWord s=(decide (1≤runeCountL s)&&decide (runeCountL s≤30)&&validD s&& !s.any iT):=by
 unfold isWord;rw[M1 s s.length 0 zE,List.drop_zero]
 have:runeCountFrom ⟨s.toArray⟩ s.length 0=runeCountL s:=by unfold runeCountL runeCount;congr 1
 rw[this];unfold validD
 cases validGoD s.length s<;>cases s.any iT<;>simp[Xh]
end Go.J
namespace Go.J
open Go
section
variable {P:Program}{n:Nat}{F:Fr}{A:World→Prop}{c:Ctx}{H R:List ai}{ty:TypeId}{x y:Operand}{v:Value}{Q:Exit→Act→World→Prop}{ops:Array Oper}{rest:List Oper}
 {pos:String} {after:Array Edge} {t e:TypeId} {m k:Nat} {cs:List Value}
theorem Ev.kF {b o cap size:Nat}{i:Int}{kd:IntKind}(d:v= .slice (some ⟨b,o,none⟩) m cap)(hx:aX F x v)(hy:aX F y (.int kd i))(ht:P.underlying t=some (.slice e))(f:(P.info? e).map (·.size)=some size)
 (g:i=k) (hk:k<m):Ev P n F A (.indexAddr t x y) ty (gx v size k 0):= .of_run λa w c _=>by
 subst d;obtain⟨inf,h,j⟩:=dX.1 f;subst g
 simp[execOp,hx.eval c,hy.eval c,Instr.indexAt,asIntOf,run_underlying ht,sizeOf,typeInfo,h,j,hk,dY,Addr.add_lit]
theorem E3 {size off:Nat}{u:Value}{ρ:Ro}{w:World}(f:fN c (row v e size m cs::R) ρ w)(hk:k<m)(C:off<size):∃b l,gx v size k off= .pointer (some ⟨b,k*size+off,none⟩)∧v.ownBlock=some b∧
 w.cell? ⟨b,k*size+off,none⟩=some l∧w.frozen? ⟨b,k*size+off,none⟩=false∧fN c (row v e size m (cs.set (k*size+off) u)::R) ρ (w.setCell ⟨b,k*size+off,none⟩ u):=by
 have d:=dP.1 (f.dC _ (aV ..))
 have n:k*size+off<cs.length:=by
  rw[d.1]
  have:(k+1)*size≤m*size:=fJ _ hk
  rw[ji]at this;omega
 obtain⟨b,o,p,a,q⟩:=jY d hk (aj n);refine⟨b,_,o,a,p,q,?_⟩;refine f.alter rfl ⟨rfl,aQ _⟩ rfl (by simp) (λj D h=> ?_) (dP.2 ?_) (λE i=>by rw[dF]at i⊢;exact .inl i)
 ·rw[dF,a]at h
  simp only[World.setCell,Array.getElem?_modify]
  rw[aA (λe=>h (by rw[e]))]
 ·obtain⟨r,s⟩:=d
  refine⟨by rw[eC];exact r,?_⟩
  rcases s with⟨rfl,rfl⟩|⟨g,cap,cur,rfl,t,x,y,z,A,B⟩
  ·omega
  ·simp only[Value.ownBlock,Option.some.injEq]at a
   subst a;refine .inr ⟨_,cap,_,rfl,t,qi x,y,z,by simp[A],?_⟩;rw[←B,Array.toList_setIfInBounds,List.take_set]
theorem St.NY {d f:Value}[l:jH v H e 2 m cs R](hx:aX F x (gx v 2 k 0))(hy:aX F y (.agg #[d,f]))(o:(P.info? t).map (·.size)=some 2)(h1:d.oneCell'=true)(p:f.oneCell'=true)
 (hk:k<m) (h:St n F (Mm c (row v e 2 m ((cs.set (k*2) d).set (k*2+1) f)::R)) (wpList P ops Q rest)):
 St n F (Mm c H) (wpList P ops Q ({dst:=none,op:= .store t x y,type:=ty,pos:=pos,after:=after,guard:=none}::rest)):=by
 refine St.p9 (K:=λD H'=>H'=row v e 2 m ((cs.set (k*2) d).set (k*2+1) f)::R) ?_ ?_
 ·intro a w ρ g hm
  have q:=hm.perm l.perm
  obtain⟨b,E,r,s,c1,f1,z⟩:=E3 (off:=0) (u:=d) q hk zE;obtain⟨G,z2,I,j,c2,f2,A⟩:=E3 (off:=1) (u:=f) z hk zE
  rw[s]at j;cases j
  rw[r]at hx;obtain⟨i,B,C⟩:=dX.1 o;refine⟨.skip,(w.setCell ⟨b,k*2+0,none⟩ d).setCell ⟨b,k*2+1,none⟩ f,ρ,_,?_,⟨_,.inr ⟨rfl,rfl⟩,rfl⟩,A⟩
  simp only[Nat.add_zero]at hx c1 f1 c2 f2⊢
  simp[execOp,hx.eval g,hy.eval g,Instr.storeAt,Instr.sureAddr,storeVar,sizeOf,typeInfo,B,C,bS,storeCells,run_store P w _ d _ h1,run_store P _ _ f _ p,c1,f1,c2,f2,Addr.add_zero',Addr.add_lit]
 ·rintro _ _ rfl
  exact h
abbrev Gm (α:Type):=aY×List α×Nat
def gR (α:Type):Rp (Gm α):=⟨2,by decide,λx=>[x.1.1,iv (x.2.2:Nat)],λ_=>True,λ_=>rfl,λx u h=>by
 simp at h;rcases h with rfl|rfl
 ·exact x.1.2
 ·rfl⟩
end
def eY (ds:List dQ):dQ:=⟨λρ=>∀d∈ds,d.f ρ,λ_ _ h k d hd=>d.mono _ _ h (k d hd)⟩
theorem cX.all {P:Program}{f:FuncId}{args:Array Value}{ds:List dQ}{v:Value}(h:cX P f args ds v):cX P f args [eY ds] v:=by
 intro w ρ st
 have a:∀d∈ds,d.f ρ:=dK.1 (st.dC (aD (eY ds)) (by simp))
 have e:j0 (ds.map aD)=j0 ([eY ds].map aD):=by
  funext b
  apply propext
  constructor
  ·intro h;exact absurd h (ia ds b)
  ·intro h;exact absurd h (ia [eY ds] b)
 have c:fN ⟨w,ρ,j0 ([eY ds].map aD),True⟩ [] ρ w:=fN.drop st
 have st2:Start (ds.map aD) ρ w:=by
  have:=c.FF ds a
  rw[fV]at this;unfold Start;rw[e];exact this
 have:=h w ρ st2
 rw[e]at this;exact this
theorem cX.ny {P:Program}{f:FuncId}{args:Array Value}{ds a:List dQ}{v:Value}(h:cX P f args ds v)(c:∀ρ,(∀d∈a,d.f ρ)→∀d∈ds,d.f ρ):cX P f args a v:=by
 intro w ρ st
 have g:∀d∈a,d.f ρ:=λd hd=>dK.1 (st.dC (aD d) (di hd))
 have e:j0 (ds.map aD)=j0 (a.map aD):=by
  funext b
  apply propext
  exact⟨λh=>absurd h (ia ds b),λh=>absurd h (ia a b)⟩
 have i:fN ⟨w,ρ,j0 (a.map aD),True⟩ [] ρ w:=by
  have:∀(l:List dQ),fN ⟨w,ρ,j0 (a.map aD),True⟩ (l.map aD) ρ w→fN ⟨w,ρ,j0 (a.map aD),True⟩ [] ρ w:=by
   intro l
   induction l with
   |nil=>exact λh=>h
   |cons d l j=>exact λh=>j h.drop
  exact this a st
 have st2:Start (ds.map aD) ρ w:=by
  have:=i.FF ds (c ρ g)
  rw[fV]at this;unfold Start;rw[e];exact this
 have:=h w ρ st2
 rw[e]at this;exact this
theorem eF.eY {c:Ctx}{L R:List ai}{ds:List dQ}(h:eF c L R ds):eF c L R [J.eY ds]:=λρ w hm d hd=>by
 rw[bN.1 hd]
 exact λa b=>h ρ w hm a b
theorem cm.eY {c:Ctx}{H:List ai}{ds:List dQ}(h:cm c H ds):cm c H [J.eY ds]:=λρ w hm d hd=>by
 rw[bN.1 hd]
 exact λa b=>h ρ w hm a b
theorem St.cast {n:Nat}{F:Fr}{c:Ctx}{H H':List ai}{T:Act→World→Prop}(h:H=H')(k:St n F (Mm c H') T):St n F (Mm c H) T:=by rw[h];exact k
section
variable {n:Nat}{F:Fr}{c:Ctx}{H R:List ai}{T:Act→World→Prop}{α:Type}
def aL (f:α→dQ)(xs:List α):dQ:=⟨λρ=>∀x∈xs,(f x).f ρ,λρ mY h k x hx=>(f x).mono _ _ h (k x hx)⟩
theorem St.cN (f:α→dQ)(xs:List α){x:α}[hd:tH (aL f xs) H](hx:x∈xs)(k:St n F (Mm c (aD (f x)::H)) T):St n F (Mm c H) T:=
 St.gW (f x) [aL f xs] (λρ h=>h _ (aV ..) x hx) k
theorem St.ea (f:α→dQ)(k:St n F (Mm c (aD (aL f [])::H)) T):St n F (Mm c H) T:=
 St.fact (aL f []) (λρ _ _=>λx hx=>by cases hx) k
theorem St.yi (f:α→dQ){xs:List α}{x:α}[hd:tH (aL f xs) H][hx:tH (f x) H](k:St n F (Mm c (aD (aL f (xs++ [x]))::H)) T):St n F (Mm c H) T:=
 St.gW (aL f (xs++ [x])) [aL f xs,f x] (λρ h y hy=>by
  rcases cI.1 hy with hy|hy
  ·exact h _ (aV ..) y hy
  ·rw[bN.1 hy];exact h _ (bV _ (aV ..))) k
theorem St.FE (f:α→dQ){xs:List α}{x:α}[hd:tH (aL f xs) H][hx:tH (f x) H](k:St n F (Mm c (aD (aL f (x::xs))::H)) T):St n F (Mm c H) T:=
 St.gW (aL f (x::xs)) [aL f xs,f x] (λρ h y hy=>by
  rcases bT.1 hy with rfl|hy
  ·exact h _ (bV _ (aV ..))
  ·exact h _ (aV ..) y hy) k
end
abbrev vt (s:ab):Prop:=s.length≤140737488351232
structure yK where
 name:ab
 pv:aY
 parents:List Int
structure jG where
 name:ab
 EU:Int
 value:Int
structure dq where
 cu:Int
 tqo:Int
structure dy where
 type:Int
 lv:aY
 aW:List dq
structure ct where
 nv:aY
 nodes:List dy
inductive fy where
 |mk (base:ab) (av:aY) (args:List fy)
inductive dg where
 |mk (kind:Int) (name:ab) (index:Int) (type:fy) (av:aY) (args:List dg)
inductive bH where
 |mk (rule lex:Int) (kv:aY) (kids:List bH)
def fy.base:fy→ab| .mk b _ _=>b
def fy.av:fy→aY| .mk _ v _=>v
def fy.args:fy→List fy| .mk _ _ l=>l
def dg.kind:dg→Int| .mk k _ _ _ _ _=>k
def dg.name:dg→ab| .mk _ s _ _ _ _=>s
def dg.index:dg→Int| .mk _ _ i _ _ _=>i
def dg.type:dg→fy| .mk _ _ _ t _ _=>t
def dg.av:dg→aY| .mk _ _ _ _ v _=>v
def dg.args:dg→List dg| .mk _ _ _ _ _ l=>l
def bH.rule:bH→Int| .mk r _ _ _=>r
def bH.lex:bH→Int| .mk _ l _ _=>l
def bH.kv:bH→aY| .mk _ _ v _=>v
def bH.kids:bH→List bH| .mk _ _ _ l=>l
structure dL where
 name:ab
 graph:ct
 kids:Int
 weight:Int
 fY:dg
structure km where
 word:ab
 graph:ct
 weight:Int
 fY:dg
structure ei where
 tv:aY
 types:List yK
 fv:aY
 bh:List jG
 rv:aY
 rules:List dL
 xv:aY
 aK:List km
 start:ct
def pj:Rp yK:=⟨2,by decide,λx=>[sv x.name,x.pv.1],λx=>vt x.name,λ_=>rfl,λx u h=>by simp at h;rcases h with rfl|rfl;rfl;exact x.pv.2⟩
def gD:Rp jG:=⟨3,by decide,λx=>[sv x.name,iv x.EU,iv x.value],λx=>vt x.name∧bR x.EU∧bR x.value,λ_=>rfl,λx u h=>by simp at h;rcases h with rfl|rfl|rfl<;>rfl⟩
def an:Rp dq:=⟨2,by decide,λx=>[iv x.cu,iv x.tqo],λx=>bR x.cu∧bR x.tqo,λ_=>rfl,λx u h=>by simp at h;rcases h with rfl|rfl<;>rfl⟩
def cD:Rp dy:=⟨2,by decide,λx=>[iv x.type,x.lv.1],λx=>bR x.type,λ_=>rfl,λx u h=>by simp at h;rcases h with rfl|rfl;rfl;exact x.lv.2⟩
def mf:Rp fy:=⟨2,by decide,λx=>[sv x.base,x.av.1],λx=>vt x.base,λ_=>rfl,λx u h=>by simp at h;rcases h with rfl|rfl;rfl;exact x.av.2⟩
abbrev S6 (x:dg):List Value:=[iv x.kind,sv x.name,iv x.index,sv x.type.base,x.type.av.1,x.av.1]
theorem dv {u:Value}{L:List Value}(h:u.oneCell'=true)(k:∀v∈L,v.oneCell'=true):∀v∈u::L,v.oneCell'=true:=λv a=>by
 rcases bT.1 a with rfl|a
 ·exact h
 ·exact k v a
theorem VS:∀v∈([]:List Value),v.oneCell'=true:=λv a=>by cases a
theorem w9 (x:dg):∀u∈S6 x,u.oneCell'=true:=dv rfl (dv rfl (dv rfl (dv rfl (dv x.type.av.2 (dv x.av.2 VS)))))
def nI:Rp dg:=⟨6,by decide,S6,λx=>bR x.kind∧vt x.name∧bR x.index∧vt x.type.base,λ_=>rfl,λx u h=>w9 x u h⟩
abbrev sK (x:bH):List Value:=[iv x.rule,iv x.lex,x.kv.1]
def bP:Rp bH:=⟨3,by decide,sK,λx=>bR x.rule∧bR x.lex,λ_=>rfl,λx u h=>by simp at h;rcases h with rfl|rfl|rfl;rfl;rfl;exact x.kv.2⟩
abbrev zj (x:dL):List Value:=[sv x.name,x.graph.nv.1,iv x.kids,iv x.weight,iv x.fY.kind,sv x.fY.name,iv x.fY.index,sv x.fY.type.base,x.fY.type.av.1,x.fY.av.1]
def bX:Rp dL:=⟨10,by decide,zj,λx=>vt x.name∧bR x.kids∧bR x.weight∧nI.wf x.fY,λ_=>rfl,λx u h=>dv rfl (dv x.graph.nv.2 (dv rfl (dv rfl (w9 x.fY)))) u h⟩
abbrev aeX (x:km):List Value:=[sv x.word,x.graph.nv.1,iv x.weight,iv x.fY.kind,sv x.fY.name,iv x.fY.index,sv x.fY.type.base,x.fY.type.av.1,x.fY.av.1]
def dT:Rp km:=⟨9,by decide,aeX,λx=>vt x.word∧bR x.weight∧nI.wf x.fY,λ_=>rfl,λx u h=>dv rfl (dv x.graph.nv.2 (dv rfl (w9 x.fY))) u h⟩
instance (x:yK):gX pj x [sv x.name,x.pv.1]:=⟨rfl⟩
instance (x:jG):gX gD x [sv x.name,iv x.EU,iv x.value]:=⟨rfl⟩
instance (x:dq):gX an x [iv x.cu,iv x.tqo]:=⟨rfl⟩
instance (x:dy):gX cD x [iv x.type,x.lv.1]:=⟨rfl⟩
instance (x:fy):gX mf x [sv x.base,x.av.1]:=⟨rfl⟩
instance (x:dg):gX nI x (S6 x):=⟨rfl⟩
instance (x:bH):gX bP x (sK x):=⟨rfl⟩
instance (x:dL):gX bX x (zj x):=⟨rfl⟩
instance (x:km):gX dT x (aeX x):=⟨rfl⟩
abbrev jj (g:ei):List Value:=[g.tv.1,g.fv.1,g.rv.1,g.xv.1,g.start.nv.1]
inductive tM (ρ:Ro):fy→Prop
 |mk {x:fy} (h:(sl mf x.av.1 x.args).f ρ) (k:∀y∈x.args,tM ρ y):tM ρ x
inductive qM (ρ:Ro):dg→Prop
 |mk {x:dg} (ht:tM ρ x.type) (h:(sl nI x.av.1 x.args).f ρ) (k:∀y∈x.args,qM ρ y):qM ρ x
inductive oz (ρ:Ro):bH→Prop
 |mk {x:bH} (h:(sl bP x.kv.1 x.kids).f ρ) (k:∀y∈x.kids,oz ρ y):oz ρ x
theorem tM.mono {ρ mY:Ro}(h:∀k o,ρ k=some o→mY k=some o){x:fy}(hx:tM ρ x):tM mY x:=by
 induction hx with
 |mk h1 _ a=>exact .mk ((sl _ _ _).mono _ _ h h1) a
theorem qM.mono {ρ mY:Ro}(h:∀k o,ρ k=some o→mY k=some o){x:dg}(hx:qM ρ x):qM mY x:=by
 induction hx with
 |mk ht h1 _ a=>exact .mk (ht.mono h) ((sl _ _ _).mono _ _ h h1) a
theorem oz.mono {ρ mY:Ro}(h:∀k o,ρ k=some o→mY k=some o){x:bH}(hx:oz ρ x):oz mY x:=by
 induction hx with
 |mk h1 _ a=>exact .mk ((sl _ _ _).mono _ _ h h1) a
def fZ (x:fy):dQ:=⟨λρ=>tM ρ x,λ_ _ h k=>k.mono h⟩
def iV (x:dg):dQ:=⟨λρ=>qM ρ x,λ_ _ h k=>k.mono h⟩
def ae (x:bH):dQ:=⟨λρ=>oz ρ x,λ_ _ h k=>k.mono h⟩
def wj (x:yK):dQ:=sl aI x.pv.1 x.parents
def cE (x:dy):dQ:=sl an x.lv.1 x.aW
def jV (g:ct):List dQ:=[sl cD g.nv.1 g.nodes,aL cE g.nodes]
def aJ (g:ct):dQ:=eY (jV g)
def LV (x:dL):List dQ:=[aJ x.graph,iV x.fY]
def cR (x:dL):dQ:=eY (LV x)
def VD (x:km):List dQ:=[aJ x.graph,iV x.fY]
def eO (x:km):dQ:=eY (VD x)
def XA (tv fv:aY)(a:List yK)(b:List jG):List dQ:=[sl pj tv.1 a,aL wj a,sl gD fv.1 b]
def Af (g:ei):List dQ:=[sl pj g.tv.1 g.types,aL wj g.types,sl gD g.fv.1 g.bh,sl bX g.rv.1 g.rules,aL cR g.rules,sl dT g.xv.1 g.aK,aL eO g.aK,aJ g.start]
def eD (g:ei):dQ:=eY (Af g)
section
variable {n:Nat}{F:Fr}{c:Ctx}{H R:List ai}{T:Act→World→Prop}
theorem St.uH (x:fy)[hd:tH (fZ x) H](k:St n F (Mm c (aD (sl mf x.av.1 x.args)::aD (aL fZ x.args)::H)) T):St n F (Mm c H) T:=
 St.gG (ι:=Unit) (fZ x) (λ_=>[sl mf x.av.1 x.args,aL fZ x.args]) (λρ h=>⟨(),λe he=>by
  cases h with
  |mk h k=>
   simp only[List.mem_cons,List.not_mem_nil,or_false]at he
   rcases he with rfl|rfl
   ·exact h
   ·exact k⟩) λ_=>k
theorem St.GN (x:dg)[hd:tH (iV x) H](k:St n F (Mm c (aD (fZ x.type)::aD (sl nI x.av.1 x.args)::aD (aL iV x.args)::H)) T):St n F (Mm c H) T:=
 St.gG (ι:=Unit) (iV x) (λ_=>[fZ x.type,sl nI x.av.1 x.args,aL iV x.args]) (λρ h=>⟨(),λe he=>by
  cases h with
  |mk ht h k=>
   simp only[List.mem_cons,List.not_mem_nil,or_false]at he
   rcases he with rfl|rfl|rfl
   ·exact ht
   ·exact h
   ·exact k⟩) λ_=>k
theorem St.oL (x:bH)[hd:tH (ae x) H](k:St n F (Mm c (aD (sl bP x.kv.1 x.kids)::aD (aL ae x.kids)::H)) T):St n F (Mm c H) T:=
 St.gG (ι:=Unit) (ae x) (λ_=>[sl bP x.kv.1 x.kids,aL ae x.kids]) (λρ h=>⟨(),λe he=>by
  cases h with
  |mk h k=>
   simp only[List.mem_cons,List.not_mem_nil,or_false]at he
   rcases he with rfl|rfl
   ·exact h
   ·exact k⟩) λ_=>k
theorem St.LO (L:List dQ)[hd:tH (eY L) H](k:St n F (Mm c (L.map aD++H)) T):St n F (Mm c H) T:=
 St.gG (eY L) (λ_:Unit=>L) (λρ h=>⟨(),h⟩) λ_=>k
end
end Go.J
namespace Go.Proofs.YtiefglecbgdaiaaGreatDoor
open Go Go.J Tryz
inductive jQ where
 |mk (base:ab) (args:List jQ)
inductive lN where
 |mk (kind:Int) (name:ab) (index:Int) (type:jQ) (args:List lN)
inductive dA where
 |mk (rule lex:Int) (kids:List dA)
mutual
def dw:fy→jQ
 | .mk b _ l=> .mk b (Gl l)
def Gl:List fy→List jQ
 | []=>[]
 |x::l=>dw x::Gl l
end
mutual
def dx:dg→lN
 | .mk k s i t _ l=> .mk k s i (dw t) (zz l)
def zz:List dg→List lN
 | []=>[]
 |x::l=>dx x::zz l
end
mutual
def aM:bH→dA
 | .mk r x _ l=> .mk r x (ED l)
def ED:List bH→List dA
 | []=>[]
 |x::l=>aM x::ED l
end
theorem vm:∀l:List fy,Gl l=l.map dw
 | []=>rfl
 |x::l=>by rw[Gl,vm l];rfl
theorem sm:∀l:List dg,zz l=l.map dx
 | []=>rfl
 |x::l=>by rw[zz,sm l];rfl
theorem jE:∀l:List bH,ED l=l.map aM
 | []=>rfl
 |x::l=>by rw[ED,jE l];rfl
def jQ.base:jQ→ab| .mk b _=>b
def jQ.args:jQ→List jQ| .mk _ l=>l
def lN.kind:lN→Int| .mk k _ _ _ _=>k
def lN.name:lN→ab| .mk _ s _ _ _=>s
def lN.index:lN→Int| .mk _ _ i _ _=>i
def lN.type:lN→jQ| .mk _ _ _ t _=>t
def lN.args:lN→List lN| .mk _ _ _ _ l=>l
def dA.rule:dA→Int| .mk r _ _=>r
def dA.lex:dA→Int| .mk _ l _=>l
def dA.kids:dA→List dA| .mk _ _ l=>l
theorem rD (x:fy):(dw x).base=x.base:=by cases x;rfl
theorem kJ (x:fy):(dw x).args=x.args.map dw:=by cases x;exact vm _
theorem sq (x:dg):(dx x).args=x.args.map dx:=by cases x;exact sm _
abbrev eM:=ab×List Int
abbrev o7:=ab×Int×Int
abbrev Nw:=Int×List (Int×Int)
abbrev de:=List Nw
structure ry where
 name:ab
 graph:de
 kids:Int
 weight:Int
 fY:lN
structure Eb where
 word:ab
 graph:de
 weight:Int
 fY:lN
structure ep where
 types:List eM
 bh:List o7
 rules:List ry
 aK:List Eb
 start:de
def cn (x:yK):eM:=(x.name,x.parents)
def gj (x:jG):o7:=(x.name,x.EU,x.value)
def fB (x:dq):Int×Int:=(x.cu,x.tqo)
def lR (x:dy):Nw:=(x.type,x.aW.map fB)
def ao (g:ct):de:=g.nodes.map lR
def l8 (x:dL):ry:=⟨x.name,ao x.graph,x.kids,x.weight,dx x.fY⟩
def qD (x:km):Eb:=⟨x.word,ao x.graph,x.weight,dx x.fY⟩
def dG (g:ei):ep:=⟨g.types.map cn,g.bh.map gj,g.rules.map l8,g.aK.map qD,ao g.start⟩
def rX (i:Int):Int→List Int→Int×Int
 |_,[]=>(0,0)
 |last,p::ps=>if p<0∨i≤p then(3,i)else if p≤last then(13,i)else rX i p ps
def kz:List ab→Nat→List eM→Int×Int
 |_,_,[]=>(0,0)
 |known,i,t::a=>if isName t.1=false then(10,i)else if t.1∈known then(7,i)else if decide (i=0)≠decide (t.2.length=0)then(5,i)
  else if(rX i (-1) t.2).1≠0 then rX i (-1) t.2 else kz (known++ [t.1]) (i+1) a
def B6 (l:List eM):Int×Int:=if l.length=0∨60<l.length then(2,-1)else kz [] 0 l
def SZ (U:List Nat)(i:Nat)(ps:List Int):Nat:=ps.foldl (λu p=>u|||U.getD p.toNat 0) (2^i)
def nM:List Nat→List eM→List Nat
 |U,[]=>U
 |U,t::l=>nM (U++ [SZ U U.length t.2]) l
def BB (l:List eM):List Nat:=nM [] l
def gp (l:List eM)(i j:Nat):Bool:=((BB l).getD i 0).testBit j
def comm (l:List eM)(a b:Nat):List Nat:=(List.range l.length).filter λi=>gp l i a&&gp l i b
def je (l:List eM)(a b:Nat):Bool:=match comm l a b with
 | []=>false
 |m::r=>r.any λi=> !gp l i m
def x8 (l:List eM):Option Nat:=(List.range l.length).find? λb=>(List.range b).any λa=>je l a b
def mA (n:Int):List ab→Nat→List o7→Int×Int
 |_,_,[]=>(0,0)
 |known,i,f::a=>if isName f.1=false then(10,i)else if f.1∈known then(7,i)else if f.2.1<0∨n≤f.2.1∨f.2.2<0∨n≤f.2.2 then(3,i)else mA n (known++ [f.1]) (i+1) a
def ig (a:List eM)(c:List o7):Int×Int:=
 if 40<c.length then(2,-1)else if(B6 a).1≠0 then B6 a else match x8 a with
  |some b=>(16,b)
  |none=>mA a.length [] 0 c
def Am (nf nn i:Int):Int→List (Int×Int)→Int×Int
 |_,[]=>(0,0)
 |last,x::xs=>if x.1<0∨nf≤x.1∨x.2<0∨nn≤x.2 then(3,i)else if x.1≤last then(13,i)else Am nf nn i x.1 xs
def eW (nt nf nn:Int):Nat→de→Int×Int
 |_,[]=>(0,0)
 |i,x::xs=>if x.1<0∨nt≤x.1 then(3,i)else if(Am nf nn i (-1) x.2).1≠0 then Am nf nn i (-1) x.2 else eW nt nf nn (i+1) xs
def fE (nt nf:Int)(g:de):Int×Int:=if g.length=0∨60<g.length then(2,-2)else eW nt nf g.length 0 g
def gu:Nw:=(0,[])
def ft0:o7:=([],0,0)
def KP (a:List eM)(b:List o7)(g:de)(t:Int)(x:Int×Int):Bool:=
 !gp a t.toNat (b.getD x.1.toNat ft0).2.1.toNat|| !gp a (g.getD x.2.toNat gu).1.toNat (b.getD x.1.toNat ft0).2.2.toNat
def tS (a:List eM)(b:List o7)(g:de)(i:Nat):Bool:=(g.getD i gu).2.any (KP a b g (g.getD i gu).1)
def lu (a:List eM)(b:List o7)(g:de):Option Nat:=(List.range g.length).find? (tS a b g)
def G7 (i:Nat)(M:List Bool)(x:Int×Int):List Bool:=if M.getD i false then M.set x.2.toNat true else M
def XR (g:de)(M:List Bool)(i:Nat):List Bool:=(g.getD i gu).2.foldl (G7 i) M
def pass (g:de)(M:List Bool):List Bool:=(List.range g.length).foldl (XR g) M
def eH (g:de):Nat→List Bool
 |0=>(List.replicate g.length false).set 0 true
 |k+1=>pass g (eH g k)
def pD:List Bool→Int
 | []=> -1
 |b::l=>if b=false then 0 else if pD l<0 then-1 else pD l+1
def unr (g:de):Int:=pD (eH g g.length)
def dB (a:List eM)(b:List o7)(g:de):Int×Int:=
 if(fE a.length b.length g).1≠0 then fE a.length b.length g else match lu a b g with
  |some i=>(12,i)
  |none=>if 0≤unr g then(5,unr g)else(0,0)
def rZ (g:de)(k:Int):Int:=match(g.getD 0 gu).2.find? λx=>x.1==k with
 |some x=>x.2
 |none=> -1
def nD (g:de)(kids:Int):Bool:=(List.range 4).all λk=>decide (0≤rZ g k)==decide ((k:Int)≤kids)
abbrev sE:ab:=[101]
abbrev sT:ab:=[116]
def j7 (b:ab)(m:Nat):Bool:=(decide (b=sE)||decide (b=sT))&&decide (m=0)||decide (b=[])&&decide (m=2)
mutual
def lL:jQ→Nat→Nat→Nat×Int
 | .mk b l,d,n=>if 200<n+1∨40<d then(n+1,1)else if j7 b l.length=false then(n+1,5)else lA l (d+1) (n+1)
def lA:List jQ→Nat→Nat→Nat×Int
 | [],_,n=>(n,0)
 |x::l,d,n=>if(lL x d n).2≠0 then lL x d n else lA l d (lL x d n).1
end
def vn (s:jQ):Int:=(lL s 1 0).2
def pd (s:jQ):Bool:=decide (s.base=[])&&decide (s.args.length=0)
mutual
def l9:jQ→jQ→Bool
 | .mk a l,.mk b m=>decide (a=b)&&decide (l.length=m.length)&&nj l m
def nj:List jQ→List jQ→Bool
 |x::l,y::m=>l9 x y&&nj l m
 |_,_=>true
end
def jd (kind:Int)(name:ab)(index:Int)(type:jQ)(m:Nat)(bd:Nat):Int:=
 if kind=1 then(if index≠0∨m≠0 then 5 else if isName name=false then 10 else if vn type≠0 then 12 else 0)
 else if kind=2 then(if name≠ []∨pd type=false∨m≠0 then 5 else if index<0∨(bd:Int)≤index then 15 else 0)
 else if kind=3 then(if name≠ []∨index≠0∨m≠1 then 5 else if vn type≠0 then 12 else 0)
 else if kind=4 then(if name≠ []∨index≠0∨pd type=false∨m≠2 then 5 else 0)
 else 4
mutual
def lW:lN→Nat→Nat→Nat→Nat×Int×Int
 | .mk k s i t l,d,bd,n=>if 200<n+1∨40<d then(n+1,1,n)else if jd k s i t l.length bd≠0 then(n+1,jd k s i t l.length bd,n)else nk l (d+1) (if k=3 then bd+1 else bd) (n+1)
def nk:List lN→Nat→Nat→Nat→Nat×Int×Int
 | [],_,_,n=>(n,0,0)
 |x::l,d,bd,n=>if(lW x d bd n).2.1≠0 then lW x d bd n else nk l d bd (lW x d bd n).1
end
def I4:Option jQ→Option jQ→Option jQ
 |some (.mk _ [a,b]),some x=>if l9 a x then some b else none
 |_,_=>none
mutual
def xV:lN→List jQ→Option jQ
 | .mk k _ i t l,c=>if k=1 then some t else if k=2 then c[c.length-1-i.toNat]? else if k=3 then(nK l (c++ [t])).map λb=> .mk [] [t,b]else I4 (nK l c) (EG l c)
def nK:List lN→List jQ→Option jQ
 |x::_,c=>xV x c
 | [],_=>none
def EG:List lN→List jQ→Option jQ
 |_::l,c=>nK l c
 | [],_=>none
end
def qo (t:lN):Int×Int:=if(lW t 1 0 0).2.1≠0 then(lW t 1 0 0).2 else if(xV t []).isNone then(12,-1)else(0,0)
def nE (a:List eM)(b:List o7)(r:ry):Int:=
 if r.kids<1∨3<r.kids∨r.weight<0∨1000000<r.weight then 3 else if(dB a b r.graph).1≠0 then(dB a b r.graph).1 else if nD r.graph r.kids=false then 5 else(qo r.fY).1
def uA (a:List eM)(b:List o7)(x:Eb):Int:=
 if isWord x.word=false then 10 else if x.weight<0∨1000000<x.weight then 3 else if(dB a b x.graph).1≠0 then(dB a b x.graph).1 else(qo x.fY).1
def gz (a:List eM)(b:List o7):List ab→Nat→List ry→Int×Int
 |_,_,[]=>(0,0)
 |known,i,r::rs=>if isName r.name=false then(10,i)else if r.name∈known then(7,i)else if nE a b r≠0 then(nE a b r,i)else gz a b (known++ [r.name]) (i+1) rs
def gy (a:List eM)(b:List o7):Nat→List Eb→Int×Int
 |_,[]=>(0,0)
 |i,x::xs=>if uA a b x≠0 then(uA a b x,i)else gy a b (i+1) xs
def kq (g:ep):Int×Int:=
 if(ig g.types g.bh).1≠0 then ig g.types g.bh else if g.bh.length≤3 then(9,-1)else if 40<g.rules.length∨100<g.aK.length then(2,-1)
 else if(gz g.types g.bh [] 0 g.rules).1≠0 then gz g.types g.bh [] 0 g.rules else if(gy g.types g.bh 0 g.aK).1≠0 then gy g.types g.bh 0 g.aK
 else if(dB g.types g.bh g.start).1≠0 then((dB g.types g.bh g.start).1,-1)else(0,0)
structure HZ where
 nodes:Nat
 leaves:Nat
mutual
def nu (rk:List Int)(nl:Int):dA→Nat→Nat→HZ→HZ×Int×Int
 | .mk r x l,d,ch,s=>
  if 200<s.nodes+1∨48<d then(⟨s.nodes+1,s.leaves⟩,1,s.nodes)
  else if r< -1∨rk.length≤r∨(r= -1∧(x<0∨nl≤x))then(⟨s.nodes+1,s.leaves⟩,3,s.nodes)
  else if 0≤r∧x≠0 then(⟨s.nodes+1,s.leaves⟩,5,s.nodes)
  else if(l.length:Int)≠(if 0≤r then rk.getD r.toNat 0 else 0)then(⟨s.nodes+1,if 0≤r then s.leaves else s.leaves+1⟩,9,s.nodes)
  else if 3<(if l.length=1 then ch+1 else 0)then(⟨s.nodes+1,if 0≤r then s.leaves else s.leaves+1⟩,14,s.nodes)
  else kX rk nl l (d+1) (if l.length=1 then ch+1 else 0) ⟨s.nodes+1,if 0≤r then s.leaves else s.leaves+1⟩
def kX (rk:List Int)(nl:Int):List dA→Nat→Nat→HZ→HZ×Int×Int
 | [],_,_,s=>(s,0,0)
 |x::l,d,ch,s=>if(nu rk nl x d ch s).2.1≠0 then nu rk nl x d ch s else kX rk nl l d ch (nu rk nl x d ch s).1
end
def jv (g:ep)(t:dA):Int×Int:=
 if(nu (g.rules.map ry.kids) g.aK.length t 1 0 ⟨0,0⟩).2.1≠0 then(nu (g.rules.map ry.kids) g.aK.length t 1 0 ⟨0,0⟩).2
 else if 12<(nu (g.rules.map ry.kids) g.aK.length t 1 0 ⟨0,0⟩).1.leaves then(2,-2)else(0,0)
end Go.Proofs.YtiefglecbgdaiaaGreatDoor
namespace Go.J
open Go
def eqD (u v:Value):dQ:=⟨λ_=>u=v,λ_ _ _ h=>h⟩
structure KG where
 slot:Nat
 FI:List Nat
 K:Value→dQ
instance:Inhabited KG:=⟨⟨0,[],λu=>eqD u u⟩⟩
def YK (bs:List KG)(e:Nat→Value)(ds:List Nat):Fr:=ds.map λj=>((bs.getD j default).slot,e j)
def YJ (bs:List KG)(e:Nat→Value)(ds:List Nat):List ai:=ds.map λj=>aD ((bs.getD j default).K (e j))
def KH (c:Ctx)(H:List ai)(slot:Nat)(K:Value→dQ)(a:Act)(w:World):Prop:=a.defers=[]∧∃u,a.tmps[slot]?=some u∧Mm c (aD (K u)::H) w
section
variable {P:Program}{ops:Array Oper}{Q:Exit→Act→World→Prop}{n:Nat}{F:Fr}{c:Ctx}{H R:List ai}
theorem fN.tail {c:Ctx}{L H:List ai}{ρ:Ro}{w:World}(h:fN c (L++H) ρ w):fN c H ρ w:=by
 induction L with
 |nil=>exact h
 |cons E L a=>exact a (fN.drop h)
def Hop (P:Program)(ops:Array Oper)(Q:Exit→Act→World→Prop)(n:Nat)(F:Fr)(dr:Prop)(H:List ai)(bs:List KG)(b:KG)(o:Oper):Prop:=
 ∀(c:Ctx) (e:Nat→Value),(¬dr→¬c.dr)→St n (YK bs e b.FI++F) (Mm c (YJ bs e b.FI++H)) (wpList P ops (Exit.then (KH c H b.slot b.K) Q) [o])
theorem Hop.mk {dr:Prop}{bs:List KG}{slot:Nat}{FI:List Nat}{K:Value→dQ}{o:Oper}(a:(Nat→Value)→Fr)(L:(Nat→Value)→List ai)(h1:∀e,YK bs e FI=a e)(b:∀e,YJ bs e FI=L e)
 (k:∀(c:Ctx) (e:Nat→Value),(¬dr→¬c.dr)→St n (a e++F) (Mm c (L e++H)) (wpList P ops (Exit.then (KH c H slot K) Q) [o])):Hop P ops Q n F dr H bs ⟨slot,FI,K⟩ o:=λc e hd=>by
 show St n (YK bs e FI++F) (Mm c (YJ bs e FI++H)) _
 rw[h1,b];exact k c e hd
def Cj (P:Program)(ops:Array Oper)(Q:Exit→Act→World→Prop)(n:Nat)(F:Fr)(dr:Prop)(H:List ai)(bs:List KG):List KG→List Oper→Prop
 | [],[]=>True
 |b::l,o::m=>Hop P ops Q n F dr H bs b o∧Cj P ops Q n F dr H bs l m
 |_,_=>False
theorem Cj.nil {dr:Prop}{bs:List KG}:Cj P ops Q n F dr H bs [] []:=trivial
theorem Cj.cons {dr:Prop}{bs l:List KG}{b:KG}{o:Oper}{m:List Oper}(h:Hop P ops Q n F dr H bs b o)(k:Cj P ops Q n F dr H bs l m):Cj P ops Q n F dr H bs (b::l) (o::m):=⟨h,k⟩
theorem Cj.at_ {dr:Prop}{bs:List KG}:∀{l:List KG} {m:List Oper},Cj P ops Q n F dr H bs l m→l.length=m.length∧∀(i:Nat) (b:KG) (o:Oper),l[i]?=some b→m[i]?=some o→Hop P ops Q n F dr H bs b o
 | [],[],_=>⟨rfl,λi b o h=>by simp at h⟩
 | [],_::_,h=>h.elim
 |_::_,[],h=>h.elim
 |b::l,o::m,h=>by
  obtain⟨h1,d⟩:=Cj.at_ h.2;refine⟨by simp[h1],λi e o' a c=> ?_⟩
  cases i with
  |zero=>simp at a c;subst a c;exact h.1
  |succ i=>exact d i e o' (by simpa using a) (by simpa using c)
def Dp (acc:List Nat)(o:Oper):Nat:=o.after.toList.foldl (λu e=>if Region.binds .any e then u|||(2^e.on|||acc.getD e.on 0)else u) 0
def gZ:List Oper→List Nat→List Nat
 | [],acc=>acc
 |o::l,acc=>gZ l (acc++ [Dp acc o])
theorem JC (acc:List Nat)(o:Oper){j:Nat}(h:(Dp acc o).testBit j=true):∃e∈o.after,Region.binds .any e=true∧(e.on=j∨(acc.getD e.on 0).testBit j=true):=by
 have key:∀(l:List Edge) (u:Nat),(l.foldl (λu e=>if Region.binds .any e then u|||(2^e.on|||acc.getD e.on 0)else u) u).testBit j=true→u.testBit j=true∨∃e∈l,Region.binds .any e=true∧(e.on=j∨(acc.getD e.on 0).testBit j=true):=by
  intro l
  induction l with
  |nil=>intro u h;exact .inl h
  |cons e l a=>
   intro u h;rw[im]at h
   rcases a _ h with h1|⟨b,he,h1⟩
   ·split at h1
    ·rename_i c
     rw[Nat.testBit_or,Nat.testBit_or,Bool.or_eq_true,Bool.or_eq_true,Nat.testBit_two_pow,eJ]at h1
     rcases h1 with h1|h1
     ·exact .inl h1
     ·exact .inr ⟨e,aV ..,c,h1⟩
    ·exact .inl h1
   ·exact .inr ⟨b,bV _ he,h1⟩
 rcases key _ _ h with h1|⟨e,he,h1⟩
 ·rw[Nat.zero_testBit]at h1;cases h1
 ·exact⟨e,by simpa using he,h1⟩
theorem pJ:∀(l m:List Oper) (acc:List Nat),gZ (l++m) acc=gZ m (gZ l acc)
 | [],_,_=>rfl
 |o::l,m,acc=>by rw[jg,gZ,gZ,pJ l m]
theorem vT:∀(l:List Oper) (acc:List Nat),(gZ l acc).length=acc.length+l.length
 | [],_=>rfl
 |o::l,acc=>by rw[gZ,vT l];simp;omega
theorem vU:∀(l:List Oper) (acc:List Nat) (i:Nat),i<acc.length→(gZ l acc)[i]?=acc[i]?
 | [],_,_,_=>rfl
 |o::l,acc,i,h=>by rw[gZ,vU l _ i (by simp;omega),oh h]
theorem Qb {l:List Oper}{i:Nat}{o:Oper}(h:l[i]?=some o):(gZ l []).getD i 0=Dp (gZ (l.take i) []) o:=by
 have a:=(eh.1 h).1
 have e:gZ l []=gZ (l.drop (i+1)) (gZ (l.take i) []++ [Dp (gZ (l.take i) []) o]):=by
  conv=>lhs;rw[←jN i l]
  rw[pJ,List.drop_eq_getElem_cons a,gZ];rw[aj a]at h;rw[Option.some.inj h]
 have b:(gZ (l.take i) []).length=i:=by rw[vT,cy];simp;omega
 rw[e,aZ,vU _ _ _ (by simp[b]),jM zE,b,eX];rfl
theorem JD {l:List Oper}{i j:Nat}(h:j<i)(a:i≤l.length):(gZ (l.take i) []).getD j 0=(gZ l []).getD j 0:=by
 have e:gZ l []=gZ (l.drop i) (gZ (l.take i) []):=by rw[←pJ,jN]
 rw[e,aZ,aZ,vU (l.drop i) (gZ (l.take i) []) j (by rw[vT,cy];simp;omega)]
def S3 (l:List Oper)(m:Nat):Bool:=
 ((List.range l.length).all λi=>match l[i]? with
  |some o=>(o.after.all λe=>Nat.ble (e.on+1) i)&&(Nat.ble i m||o.after.any λe=>Region.binds .any e&&e.on==i-1)
  |none=>false)&&(Nat.ble l.length m||(gZ l []).getD m 0==2^m-1)
theorem Ju {l:List Oper}{m i:Nat}{o:Oper}(h:S3 l m=true)(a:l[i]?=some o):∀e∈o.after,e.on<i:=by
 have b:=(eh.1 a).1
 simp only[S3,Bool.and_eq_true]at h
 have h1:=j8.1 h.1 i (cU.2 b)
 simp only[a,Bool.and_eq_true]at h1
 intro e he;exact eI ((Array.all_eq_true_iff_forall_mem.1 h1.1) e he)
def KI (l:List Oper)(listed:Array Bool):Prop:=∀i o,l[i]?=some o→listed.getD i false=true→∀e∈o.after,Region.binds .any e=true→listed.getD e.on false=true
theorem KI.all {l:List Oper}{m:Nat}{listed:Array Bool}(g:S3 l m=true)(h:KI l listed):∀(i:Nat) (o:Oper),l[i]?=some o→(∀e∈o.after,Region.binds .any e=true→listed.getD e.on false=true)→∀j,((gZ l []).getD i 0).testBit j=true→listed.getD j false=true:=by
 intro i
 induction i using Nat.strongRecOn with
 |ind i k=>
  intro o a n j b
  have q:=(eh.1 a).1
  rw[Qb a]at b;obtain⟨e,he,p,h1⟩:=JC _ _ b
  have c:=Ju g a e he
  have d:=n e he p
  rcases h1 with rfl|h1
  ·exact d
  ·rw[JD c zE]at h1
   have f:l[e.on]?=some l[e.on]:=aj zE
   exact k e.on c _ f (h _ _ f d) j h1
theorem St.yP {T:Act→World→Prop}{a b d e f:ai}(h:St n F (Mm c (a::b::d::e::f::R)) T):St n F (Mm c ([a,b,d,e,f]++R)) T:=h
theorem St.YD {T:Act→World→Prop}{a b d e f g:ai}(h:St n F (Mm c (a::b::d::e::f::g::R)) T):St n F (Mm c ([a,b,d,e,f,g]++R)) T:=h
end
end Go.J
namespace Go.J
open Go Go.Proofs.YtiefglecbgdaiaaGreatDoor
abbrev uV (x:fy):Value:= .agg #[sv x.base,x.av.1]
abbrev wh (x:dg):Value:= .agg #[iv x.kind,sv x.name,iv x.index,sv x.type.base,x.type.av.1,x.av.1]
abbrev eG (x:bH):Value:= .agg #[iv x.rule,iv x.lex,x.kv.1]
abbrev au (x:ct):Value:= .agg #[x.nv.1]
abbrev XZ (x:dL):Value:= .agg #[sv x.name,x.graph.nv.1,iv x.kids,iv x.weight,iv x.fY.kind,sv x.fY.name,iv x.fY.index,sv x.fY.type.base,x.fY.type.av.1,x.fY.av.1]
abbrev aeY (x:km):Value:= .agg #[sv x.word,x.graph.nv.1,iv x.weight,iv x.fY.kind,sv x.fY.name,iv x.fY.index,sv x.fY.type.base,x.fY.type.av.1,x.fY.av.1]
abbrev gK (g:ei):Value:= .agg #[g.tv.1,g.fv.1,g.rv.1,g.xv.1,g.start.nv.1]
def cY (g:de)(u:Value):dQ:=⟨λρ=>∃x:ct,u=au x∧ao x=g∧(aJ x).f ρ,λ_ _ h ⟨x,a,b,c⟩=>⟨x,a,b,(aJ x).mono _ _ h c⟩⟩
section
variable {n:Nat}{F:Fr}{c:Ctx}{H R:List ai}{T:Act→World→Prop}
theorem St.afB {ι:Sort _}(d:dQ)[hd:tH d H](p:ι→Prop)(L:ι→List dQ)(h:∀ρ,d.f ρ→∃x,p x∧∀e∈L x,e.f ρ)(k:∀x,p x→St n F (Mm c ((L x).map aD++H)) T):St n F (Mm c H) T:=by
 intro a w b hw;obtain⟨ρ,hm⟩:=hw.out;obtain⟨x,hp,hx⟩:=h ρ (dK.1 (hm.dC _ hd.mem));exact k x hp a w b (Mm.mk (hm.FF (L x) hx))
theorem St.cY (g:de)(u:Value)[hd:tH (J.cY g u) H](k:∀x:ct,u=au x∧ao x=g→St n F (Mm c (aD (aJ x)::H)) T):St n F (Mm c H) T:=
 St.afB (J.cY g u) _ (λx=>[aJ x]) (λρ ⟨x,a,b,c⟩=>⟨x,⟨a,b⟩,λe he=>by rw[bN.1 he];exact c⟩) k
theorem St.G9 (b:ab)(u:Value)(hu:u.oneCell'=true)(l:List fy)[h1:tH (sl mf u l) H][a:tH (aL fZ l) H](k:St n F (Mm c (aD (fZ (.mk b ⟨u,hu⟩ l))::H)) T):St n F (Mm c H) T:=
 St.gW (fZ (.mk b ⟨u,hu⟩ l)) [sl mf u l,aL fZ l] (λρ h=> .mk (h _ (aV ..)) (h _ (bV _ (aV ..)))) k
end
abbrev cF:aY:=⟨.slice none 0 0,rfl⟩
end Go.J
namespace Go.J
open Go Go.ChangeShapes Go.WideShapes Go.ChangeAt Go.RowKit Go.Deep Go.Proofs.YtiefglecbgdaiaaGreatDoor
section
variable {H:Type}{enc:TypeId×Value→H}{P:Program}{W:World}{α:Type}
abbrev Tr (enc:TypeId×Value→H)(P:Program)(W:World)(n:Nat)(t:TypeId)(cs:List Value)(y:DataW H×List MemPlace):Prop:=DataW.trod enc P W 0 (λ_=>true) true n t cs=some y
theorem KA {t:TypeId}{a:Array Field}{ps:List (DataW H)}(ht:P.underlying t=some (.struct a))(h:ml ((DataW.agg ps).weights P t)=true):ml (DataW.weightsEach P (a.toList.map (·.type)) ps)=true:=by
 simpa only[DataW.weights,ht]using h
theorem gO {t:TypeId}{a:Array Field}{n:Nat}{cs:List Value}{y:DataW H×List MemPlace}(ht:P.underlying t=some (.struct a))(h:Tr enc P W n t cs y)(hw:ml (y.1.weights P t)=true):
 ∃m,n=m+1∧∀(i:Nat) (f:Field),a[i]?=some f→∃z,Tr enc P W m f.type ((cs.drop f.offset).take (P.cellsOf f.type)) z∧ml (z.1.weights P f.type)=true:=by
 obtain⟨xs,m,e,hy,_,l,g⟩:=DataW.trod_struct ht h;subst hy;refine⟨m,e,λi f b=> ?_⟩
 have h1:=g i f b
 have k:i<a.size:=(wI.1 b).1
 have c:xs[i]?=some (xs[i]'zE):=aj zE
 refine⟨xs[i]'zE,h1.trans c,?_⟩;refine qs (KA ht hw) (j:=i) (t:=f.type) (d:=(xs[i]'zE).1) ?_ ?_
 ·rw[aw,KD,b];rfl
 ·rw[aw,c];rfl
theorem cT {a:Array Field}{m:Nat}{cs:List Value}(hp:∀(i:Nat) (f:Field),a[i]?=some f→∃z,Tr enc P W m f.type ((cs.drop f.offset).take (P.cellsOf f.type)) z∧ml (z.1.weights P f.type)=true)
 (i:Nat) {f:Field} {t:TypeId} {o k:Nat} (b:a[i]?=some f) (ht:f.type=t) (c:f.offset=o) (hk:P.cellsOf t=k):∃z,Tr enc P W m t ((cs.drop o).take k) z∧ml (z.1.weights P t)=true:=by
 subst ht c hk;exact hp i f b
theorem NT (R:Rp α){t e:TypeId}{I:List Value}{d:DataW H}{p:List MemPlace}{fuel:Nat}(ht:P.underlying t=some (.slice e))(N:P.cellsOf e=R.size)
 (O:∀(n:Nat),n<fuel→∀(cs:List Value) (y:DataW H×List MemPlace),cs.length=R.size→Tr enc P W n e cs y→ml (y.1.weights P e)=true→∃x:α,cs=R.cells x∧R.wf x)
 (K:ml (d.weights P t)=true) (Q:Tr enc P W fuel t I (d,p)):∃(v:Value) (xs:List α),I=[v]∧v.oneCell'=true∧(sl R v xs).f (J.all W)∧((d= .nil∧xs=[])∨∃es sp,d= .slice es sp∧es.length=xs.length):=by
 rcases DataW.trod_slice ht Q with⟨r,l⟩|⟨a,len,cap,elems,rest,n,hn,r,l,_,S,hm,hlen,he,_,_⟩
 ·exact⟨.slice none 0 0,[],r,rfl,j1 _ _,.inl ⟨by simpa using (Prod.mk.inj l).1,rfl⟩⟩
 ·refine⟨.slice (some a) len cap,?_⟩
  rw[r]
  suffices s:∃xs:List α,(sl R (.slice (some a) len cap) xs).f (J.all W)∧((d= .nil∧xs=[])∨∃es sp,d= .slice es sp∧es.length=xs.length) by
   obtain⟨xs,h1,m⟩:=s;exact⟨xs,rfl,rfl,h1,m⟩
  rcases Nat.eq_zero_or_pos len with hz|ad5
  ·refine⟨[],⟨_,cap,by rw[hz];rfl,aP _,hm,(λx hx=>by cases hx),.inl rfl⟩,.inr ⟨_,_,(Prod.mk.inj l).1,by rw[aR,hlen,hz];rfl⟩⟩
  have each:∀i,i<len→∃x:α,R.wf x∧∀k u,k<R.size→(R.cells x)[k]?=some u→W.cell? ((a.add (i*R.size)).add k)=some u:=λi w=>by
   have c:=he i w
   rw[aj (show i<elems.length by omega)]at c;obtain⟨cs,h1,m⟩:=o6.1 c;rw[N]at h1;obtain⟨_,z,T⟩:=World.cells?_some h1;obtain⟨x,rfl,hw⟩:=O n zE cs _ z m (CX ht (by rw[(Prod.mk.inj l).1]at K;exact K) (.inl (di (fq (show i<elems.length by omega)))));exact⟨x,hw,λk u hk hu=>by rw[T k hk,hu]⟩
  obtain⟨x0,V1⟩:=each 0 zE
  haveI:Inhabited α:=⟨x0⟩
  obtain⟨X,A⟩:=choose_lt (α:=α) each
  have B:((List.range len).map X).length=len:=by simp
  obtain⟨b,off,spot⟩:=a
  have g:∃u,(R.cells (X 0))[0]?=some u:=by
   have:=R.len (X 0)
   have:=R.pos
   exact⟨_,aj zE⟩
  obtain⟨U,g⟩:=g
  have L:=(A 0 zE).2 0 U R.pos g
  rw[Nat.zero_mul,Deep.add_add]at L;obtain⟨s,C,M,fr,o,_⟩:=jI L
  have V:spot=none:=by simpa[Addr.add]using s
  subst V
  have o:W.heap[b]?=some (.cells C M fr):=by simpa[Addr.add]using o
  refine⟨(List.range len).map X,⟨some ⟨b,off,none⟩,cap,by rw[B],by rw[B];exact S,hm,?_,.inr ⟨b,off,C,M,fr,rfl,o,?_⟩⟩,.inr ⟨_,_,(Prod.mk.inj l).1,by simp[hlen]⟩⟩
  ·intro x D
   obtain⟨i,w,rfl⟩:=cA.1 D;exact(A i (cU.1 w)).1
  ·intro j u Y
   obtain⟨i,k,x,h1,m,Z,z⟩:=E4 _ _ _ Y
   have E:i<((List.range len).map X).length:=(eh.1 h1).1
   rw[B]at E
   have Z5:x=X i:=by simpa[E]using h1.symm
   subst Z5
   have:=(A i E).2 k u m z
   rw[Deep.add_add,←Z]at this;obtain⟨_,C',F,G,h,q⟩:=jI this
   have h:W.heap[b]?=some (.cells C' F G):=by
    by_cases c:j=0
    ·subst c;simpa[Addr.add]using h
    ·simpa[Addr.add,c]using h
   have q:C'[off+j]?=some u:=by
    by_cases c:j=0
    ·subst c;simpa[Addr.add]using q
    ·simpa[Addr.add,c]using q
   rw[o]at h
   simp only[Option.some.injEq,Obj.cells.injEq]at h
   rw[h.1];exact q
def Rp.with {α:Type}(R:Rp α)(p:α→Prop):Rp α:=⟨R.size,R.pos,R.cells,λx=>R.wf x∧p x,R.len,R.one⟩
theorem Vp {R:Rp α}{p:α→Prop}{v:Value}{xs:List α}{ρ:Ro}(h:(sl (R.with p) v xs).f ρ):(sl R v xs).f ρ∧∀x∈xs,p x:=by
 obtain⟨a,cap,h1,c,d,b,e⟩:=h;exact⟨⟨a,cap,h1,c,d,λx hx=>(b x hx).1,e⟩,λx hx=>(b x hx).2⟩
theorem Ns {t e:TypeId}{es sp:List (DataW H)}(ht:P.underlying t=some (.slice e))(h:ml ((DataW.slice es sp).weights P t)=true):es.length*P.bytesOf e≤140737488351232:=by
 simp only[ml,DataW.weights,ht,List.all_cons,Bool.and_eq_true,decide_eq_true_eq]at h
 have h1:=h.1
 have a:es.length*P.bytesOf e≤(es.length+sp.length)*P.bytesOf e:=fJ _ zE
 unfold reachBytes at h1;omega
theorem jZ (R:Rp α)(p:α→Prop){t e:TypeId}{h:List Value}{y:DataW H×List MemPlace}{fuel:Nat}(ht:P.underlying t=some (.slice e))(i:P.cellsOf e=R.size)
 (j:∀(n:Nat),n<fuel→∀(cs:List Value) (y:DataW H×List MemPlace),cs.length=R.size→Tr enc P W n e cs y→ml (y.1.weights P e)=true→∃x:α,cs=R.cells x∧R.wf x∧p x)
 (k:Tr enc P W fuel t h y) (c:ml (y.1.weights P t)=true):∃(v:aY) (xs:List α),h=[v.1]∧(sl R v.1 xs).f (J.all W)∧(∀x∈xs,p x)∧xs.length*P.bytesOf e≤140737488351232:=by
 obtain⟨v,xs,h1,l,m,o⟩:=NT (R.with p) (d:=y.1) (p:=y.2) ht i (λn q cs y g hy hw=>by
  obtain⟨x,a,b⟩:=j n q cs y g hy hw
  exact⟨x,a,b⟩) c k
 obtain⟨r,s⟩:=Vp m;refine⟨⟨v,l⟩,xs,h1,r,s,?_⟩
 rcases o with⟨_,rfl⟩|⟨es,sp,he,g⟩
 ·simp
 ·rw[he]at c
  rw[←g];exact Ns ht c
theorem mR {e:TypeId}(he:P.underlying e=some (.int .i64)){n:Nat}{cs:List Value}{y:DataW H×List MemPlace}(h:Tr enc P W n e cs y):∃x:Int,cs=[iv x]∧bR x:=by
 obtain⟨z,rfl,_,hw⟩:=DataW.trod_int he h;exact⟨z,rfl,wf_i64 hw⟩
theorem wA {e:TypeId}(he:P.underlying e=some .string){n:Nat}{cs:List Value}{y:DataW H×List MemPlace}(h:Tr enc P W n e cs y)(a:ml (y.1.weights P e)=true):∃x:ab,cs=[sv x]∧vt x:=by
 obtain⟨s,rfl,hy,hw⟩:=DataW.trod_string he h;refine⟨s.data.toList,by rw[Rx],?_⟩;subst hy
 simp only[ml,DataW.weights,reachBytes,List.all_cons,List.all_nil,Bool.and_true]at a
 exact gU a
end
end Go.J
namespace Go.J
open Go Go.ChangeShapes Go.WideShapes Go.ChangeAt Go.RowKit Go.Deep
section
variable {H:Type}{enc:TypeId×Value→H}{P:Program}{W:World}{α:Type}
end
end Go.J
namespace Go.Proofs.YtiefglecbgdaiaaGreatDoor
open Go Go.J Tryz
structure Nq where
 no:Nat
 leaf:Bool
 label:ab
 up:Int
 fin:Nat
 frm:Nat
 tqo:Nat
def ux:Nq:=⟨0,false,[],0,0,0,0⟩
def tm0:lN:= .mk 0 [] 0 (.mk [] []) []
def LI:Eb:=⟨[],[],0,tm0⟩
def mc:ry:=⟨[],[],0,0,tm0⟩
mutual
def GL:dA→Nat
 | .mk _ _ l=>1+uG l
def uG:List dA→Nat
 | []=>0
 |x::l=>GL x+uG l
end
mutual
def AM:dA→Nat
 | .mk r _ l=>(if r<0 then 1 else 0)+pI l
def pI:List dA→Nat
 | []=>0
 |x::l=>AM x+pI l
end
def N6 (g:ep)(r x:Int):ab:=if r<0 then(g.aK.getD x.toNat LI).word else(g.rules.getD r.toNat mc).name
mutual
def rS (g:ep):dA→Nat→Int→Nat→List Nq
 | .mk r x l,k,up,w=>⟨k,decide (r<0),N6 g r x,up,k+(1+uG l),w,w+((if r<0 then 1 else 0)+pI l)⟩::sB g l (k+1) k (w+(if r<0 then 1 else 0))
def sB (g:ep):List dA→Nat→Int→Nat→List Nq
 | [],_,_,_=>[]
 |x::l,k,up,w=>rS g x k up w++sB g l (k+GL x) up (w+AM x)
end
mutual
def jU (nr nl:Nat):dA→Prop
 | .mk r x l=>(-1≤r∧r<nr)∧(r<0→l=[]∧0≤x∧x<nl)∧(0≤r→l≠ [])∧mC nr nl l
def mC (nr nl:Nat):List dA→Prop
 | []=>True
 |x::l=>jU nr nl x∧mC nr nl l
end
mutual
theorem r9 (g:ep):∀(t:dA) (k:Nat) (up:Int) (w:Nat),(rS g t k up w).length=GL t
 | .mk r x l,k,up,w=>by rw[rS,eU,Dr g l,GL];omega
theorem Dr (g:ep):∀(l:List dA) (k:Nat) (up:Int) (w:Nat),(sB g l k up w).length=uG l
 | [],_,_,_=>by rw[sB,uG];rfl
 |x::l,k,up,w=>by rw[sB,bJ,r9 g x,Dr g l,uG]
end
mutual
theorem LG {nr nl:Nat}:∀t:dA,jU nr nl t→0<AM t
 | .mk r x l,h=>by
  rw[jU]at h;rw[AM]
  by_cases a:r<0
  ·rw[aB a];omega
  ·have:=VI l h.2.2.2 (h.2.2.1 zE);omega
theorem VI {nr nl:Nat}:∀l:List dA,mC nr nl l→l≠ []→0<pI l
 | [],_,h=>absurd rfl h
 |x::l,h,_=>by
  rw[mC]at h
  have:=LG x h.1
  rw[pI];omega
end
def KE (x y:Nq):Prop:=x.no<y.no∧((y.no<x.fin∧x.frm≤y.frm∧y.tqo≤x.tqo)∨(x.fin≤y.no∧x.tqo≤y.frm))
def aa3 (k m w n:Nat)(x:Nq):Prop:=k≤x.no∧x.no<x.fin∧x.fin≤k+m∧w≤x.frm∧x.frm<x.tqo∧x.tqo≤w+n
mutual
theorem Qi {nr nl:Nat}(g:ep):∀(t:dA) (k:Nat) (up:Int) (w:Nat),jU nr nl t→(rS g t k up w).Pairwise KE∧∀x∈rS g t k up w,aa3 k (GL t) w (AM t) x
 | .mk r x l,k,up,w,h=>by
  have hp:=LG _ h
  rw[jU]at h;obtain⟨h1,a⟩:=Qg g l (k+1) k (w+(if r<0 then 1 else 0)) h.2.2.2;rw[rS,GL];rw[AM]at hp⊢;refine⟨fw.2 ⟨λy hy=> ?_,h1⟩,λy hy=> ?_⟩
  ·obtain⟨b,a2,a3,a4,a5,c⟩:=a y hy
   refine⟨?_,Or.inl ⟨?_,?_,?_⟩⟩<;>dsimp only<;>omega
  ·rcases bT.1 hy with rfl|hy
   ·refine⟨?_,?_,?_,?_,?_,?_⟩<;>dsimp only<;>omega
   ·obtain⟨b,a2,a3,a4,a5,c⟩:=a y hy
    refine⟨?_,?_,?_,?_,?_,?_⟩<;>omega
theorem Qg {nr nl:Nat}(g:ep):∀(l:List dA) (k:Nat) (up:Int) (w:Nat),mC nr nl l→(sB g l k up w).Pairwise KE∧∀x∈sB g l k up w,aa3 k (uG l) w (pI l) x
 | [],_,_,_,_=>by rw[sB];exact⟨List.Pairwise.nil,λx hx=>by cases hx⟩
 |t::l,k,up,w,h=>by
  rw[mC]at h;obtain⟨h1,a⟩:=Qi g t k up w h.1;obtain⟨c,b⟩:=Qg g l (k+GL t) up (w+AM t) h.2;rw[sB,uG,pI];refine⟨qx.2 ⟨h1,c,λx hx y hy=> ?_⟩,λy hy=> ?_⟩
  ·obtain⟨d,a2,a3,a4,a5,e⟩:=a x hx
   obtain⟨f,i,j,m,n,o⟩:=b y hy;exact⟨by omega,Or.inr ⟨by omega,by omega⟩⟩
  ·rcases cI.1 hy with hy|hy
   ·obtain⟨d,a2,a3,a4,a5,e⟩:=a y hy
    refine⟨?_,?_,?_,?_,?_,?_⟩<;>omega
   ·obtain⟨f,i,j,m,n,o⟩:=b y hy
    refine⟨?_,?_,?_,?_,?_,?_⟩<;>omega
end
mutual
theorem Qh (g:ep):∀(t:dA) (k:Nat) (up:Int) (w i:Nat) (x:Nq),(rS g t k up w)[i]?=some x→x.no=k+i
 | .mk r y l,k,up,w,i,x,h=>by
  rw[rS]at h
  cases i with
  |zero=>rw[List.getElem?_cons_zero]at h;cases h;rfl
  |succ i=>rw[CZ]at h;have:=Qf g l _ _ _ i x h;omega
theorem Qf (g:ep):∀(l:List dA) (k:Nat) (up:Int) (w i:Nat) (x:Nq),(sB g l k up w)[i]?=some x→x.no=k+i
 | [],_,_,_,_,_,h=>by rw[sB]at h;simp at h
 |t::l,k,up,w,i,x,h=>by
  rw[sB]at h
  rcases cJ i (GL t)with a|a
  ·rw[oh (by rw[r9];exact a)]at h
   exact Qh g t k up w i x h
  ·rw[jM (by rw[r9];exact a),r9]at h
   have:=Qf g l _ _ _ _ x h
   omega
end
structure gl where
 name:ab
 kind:Int
 label:ab
structure kR where
 kind:Int
 a:Int
 b:Int
def s6 (v:gl)(x:Nq):Bool:=
 if v.kind=2 then !x.leaf&&decide (x.label=v.label)else if v.kind=3 then x.leaf&&decide (x.label=v.label)else if v.kind=4 then x.leaf else true
def zG (L:List Nq)(k:Int)(a b:Nat):Bool:=
 if k=1 then decide ((L.getD b ux).up=(a:Int))else if k=2 then decide (a<b)&&decide (b<(L.getD a ux).fin)
 else if k=3 then decide ((L.getD a ux).tqo≤(L.getD b ux).frm)else if k=4 then decide ((L.getD a ux).tqo=(L.getD b ux).frm)
 else decide (a≠b)&&decide ((L.getD a ux).up=(L.getD b ux).up)
def wY (L:List Nq)(p:List Nat)(x:kR):Bool:= !decide (max x.a x.b=(p.length:Int)-1)||zG L x.kind (p.getD x.a.toNat 0) (p.getD x.b.toNat 0)
def okB (L:List Nq)(ks:List kR)(p:List Nat):Bool:=ks.all (wY L p)
def Nx (L:List Nq)(ks:List kR)(v:gl)(p:List Nat)(i:Nat):Bool:=s6 v (L.getD i ux)&&okB L ks (p++ [i])
def qU (L:List Nq)(ks:List kR):List gl→List Nat→List (List Nat)
 | [],p=>[p]
 |v::vs,p=>(List.range L.length).flatMap λi=>if Nx L ks v p i then qU L ks vs (p++ [i])else []
def B5 (L:List Nq)(ks:List kR):List gl→List Nat→List (List Nat)→List (List Nat)
 | [],p,O=>O++ [p]
 |v::vs,p,O=>(List.range L.length).foldl (λO i=>if 500<O.length then O else if Nx L ks v p i then B5 L ks vs (p++ [i]) O else O) O
def gQ:List ab→Nat→List gl→Int×Int
 |_,_,[]=>(0,0)
 |known,i,v::vs=>if v.kind<1∨4<v.kind then(4,i)else if isName v.name=false∨(v.kind=2∧isName v.label=false)∨(v.kind=3∧isWord v.label=false)then(10,i)
  else if v.name∈known then(7,i)else if(v.kind=1∨v.kind=4)∧v.label≠ []then(5,i)else gQ (known++ [v.name]) (i+1) vs
def jC (n:Int):Nat→List kR→Int×Int
 |_,[]=>(0,0)
 |i,l::ls=>if l.kind<1∨5<l.kind then(4,i)else if l.a<0∨n≤l.a∨l.b<0∨n≤l.b then(3,i)else if l.a=l.b then(5,i)else jC n (i+1) ls
def uN (vs:List gl)(ks:List kR):Int×Int:=if 4<vs.length∨8<ks.length then(2,-1)else if vs.length=0 then(9,-1)else if(gQ [] 0 vs).1≠0 then gQ [] 0 vs else jC vs.length vs.length ks
theorem Az {α:Type}(A B:List α)(n:Nat):(A.take n++B).take n=(A++B).take n:=by
 rcases cJ A.length n with h|h
 ·rw[dV (l:=A) zE]
 ·rw[List.take_append_of_le_length (by rw[cy];omega),List.take_take,Nat.min_self,List.take_append_of_le_length h]
theorem EE (L:List Nq)(ks:List kR):∀(vs:List gl) (p:List Nat) (O:List (List Nat)),O.length≤501→(vs=[]→O.length≤500)→B5 L ks vs p O=(O++qU L ks vs p).take 501
 | [],p,O,_,h=>by
  have:=h rfl
  rw[B5,qU,dV]
  rw[bJ];simp only[List.length_cons,List.length_nil];omega
 |v::vs,p,O,h,c=>by
  clear c
  rw[B5,qU]
  generalize List.range L.length=is
  induction is generalizing O with
  |nil=>rw[List.foldl_nil,List.flatMap_nil,fV,dV h]
  |cons i is b=>
   rw[im,iE]
   by_cases hO:500<O.length
   ·rw[aB hO,b O h,List.take_append_of_le_length zE,List.take_append_of_le_length zE]
   ·rw[aA hO]
    by_cases a:Nx L ks v p i=true
    ·rw[aB a,aB a,EE L ks vs (p++ [i]) O h (λ_=>by omega),b _ (by rw[cy];omega),Az,cr]
    ·rw[aA a,aA a,b O h,nQ]
mutual
theorem SJ {rk:List Int}{nl:Nat}(hk:∀k∈rk,1≤k):∀(t:dA) (d ch:Nat) (s:HZ),(nu rk nl t d ch s).2.1=0→jU rk.length nl t∧(nu rk nl t d ch s).1.nodes=s.nodes+GL t∧(nu rk nl t d ch s).1.nodes≤200∧(nu rk nl t d ch s).1.leaves=s.leaves+AM t
 | .mk r x l,d,ch,s,h=>by
  rw[nu]at h⊢
  by_cases h1:200<s.nodes+1∨48<d
  ·rw[aB h1]at h;exact absurd h (by simp)
  rw[aA h1]at h⊢
  by_cases c:r< -1∨rk.length≤r∨(r= -1∧(x<0∨nl≤x))
  ·rw[aB c]at h;exact absurd h (by simp)
  rw[aA c]at h⊢
  by_cases e:0≤r∧x≠0
  ·rw[aB e]at h;exact absurd h (by simp)
  rw[aA e]at h⊢
  by_cases a:(l.length:Int)≠(if 0≤r then rk.getD r.toNat 0 else 0)
  ·rw[aB a]at h;exact absurd h (by simp)
  rw[aA a]at h⊢
  by_cases f:3<(if l.length=1 then ch+1 else 0)
  ·rw[aB f]at h;exact absurd h (by simp)
  rw[aA f]at h⊢;obtain⟨i,j,k3,m⟩:=Lt hk l _ _ _ h (show s.nodes+1≤200 by omega);refine⟨?_,by rw[j,GL];dsimp only;omega,k3,?_⟩
  ·rw[jU]
   refine⟨by omega,λb=> ?_,λb n=> ?_,i⟩
   ·rw[aA zE]at a
    refine⟨gg zE,by omega,by omega⟩
   ·rw[aB b,n]at a
    have g:r.toNat<rk.length:=by omega
    have:=hk (rk.getD r.toNat 0) (by rw[aZ,aj g];exact fq g)
    simp only[List.length_nil]at a
    omega
  ·rw[m,AM]
   dsimp only
   by_cases b:0≤r
   ·rw[aB b,aA zE];omega
   ·rw[aA b,aB zE];omega
theorem Lt {rk:List Int}{nl:Nat}(hk:∀k∈rk,1≤k):∀(l:List dA) (d ch:Nat) (s:HZ),(kX rk nl l d ch s).2.1=0→s.nodes≤200→mC rk.length nl l∧(kX rk nl l d ch s).1.nodes=s.nodes+uG l∧(kX rk nl l d ch s).1.nodes≤200∧(kX rk nl l d ch s).1.leaves=s.leaves+pI l
 | [],d,ch,s,_,a=>by rw[kX,mC,uG,pI];exact⟨trivial,rfl,a,rfl⟩
 |x::l,d,ch,s,h,a=>by
  rw[kX]at h⊢
  by_cases h1:(nu rk nl x d ch s).2.1≠0
  ·rw[aB h1]at h;exact absurd h h1
  rw[aA h1]at h⊢;obtain⟨b,a2,a3,a4⟩:=SJ hk x d ch s (fK.1 h1);obtain⟨c,f,e,g⟩:=Lt hk l d ch _ h a3;rw[mC,uG,pI];exact⟨⟨b,c⟩,by omega,e,by omega⟩
end
mutual
def lwT (g:ep):dA→List ab
 | .mk r x l=>(if r<0 then [(g.aK.getD x.toNat LI).word]else [])++TL g l
def TL (g:ep):List dA→List ab
 | []=>[]
 |x::l=>lwT g x++TL g l
end
theorem JV (w a b:Nat):List.range' w a++List.range' (w+a) b=List.range' w (a+b):=by
 have:=List.range'_append (s:=w) (m:=a) (n:=b) (step:=1)
 rw[nz]at this;exact this
mutual
theorem GF {nr nl:Nat}(g:ep):∀(t:dA) (k:Nat) (up:Int) (w:Nat),jU nr nl t→((rS g t k up w).filter (·.leaf)).map Nq.label=lwT g t∧((rS g t k up w).filter (·.leaf)).map Nq.frm=List.range' w (AM t)∧∀x∈rS g t k up w,x.leaf=true→x.tqo=x.frm+1
 | .mk r x l,k,up,w,h=>by
  rw[jU]at h;rw[rS,lwT,AM]
  by_cases a:r<0
  ·obtain⟨rfl,_,_⟩:=h.2.1 a
   rw[sB,TL,pI,aB a,aB a,List.filter_cons_of_pos (by simpa using a),List.filter_nil];refine⟨by simp[N6,a],by simp,λy hy _=> ?_⟩;rw[bN.1 hy]
  ·obtain⟨b,c,k3⟩:=GD g l (k+1) k (w+(if r<0 then 1 else 0)) h.2.2.2
   rw[aA a,aA a,List.filter_cons_of_neg (by simpa using a),nQ];rw[aA a,fU]at b c;rw[aA a]at k3;refine⟨b,by rw[fU,iW];exact c,λy hy d=> ?_⟩
   rcases bT.1 hy with rfl|hy
   ·simp[a]at d
   ·exact k3 y hy d
theorem GD {nr nl:Nat}(g:ep):∀(l:List dA) (k:Nat) (up:Int) (w:Nat),mC nr nl l→((sB g l k up w).filter (·.leaf)).map Nq.label=TL g l∧((sB g l k up w).filter (·.leaf)).map Nq.frm=List.range' w (pI l)∧∀x∈sB g l k up w,x.leaf=true→x.tqo=x.frm+1
 | [],k,up,w,_=>by rw[sB,TL,pI];exact⟨rfl,rfl,λx hx=>by cases hx⟩
 |t::l,k,up,w,h=>by
  rw[mC]at h;obtain⟨a,a2,a3⟩:=GF g t k up w h.1;obtain⟨b,c,d⟩:=GD g l (k+GL t) up (w+AM t) h.2;rw[sB,TL,pI,List.filter_append,cL,cL,a,b,a2,c,JV];exact⟨rfl,rfl,λx hx=>(cI.1 hx).elim (a3 x) (d x)⟩
end
theorem Kq {α β:Type}(p:α→Bool)(f:α→β):∀l:List α,l.flatMap (λa=>if p a then [f a]else [])=(l.filter p).map f
 | []=>rfl
 |a::l=>by
  rw[iE,Kq p f l,List.filter_cons]
  by_cases h:p a=true
  ·rw[aB h,aB h];rfl
  ·rw[aA h,aA h];rfl
theorem ahV (L:List Nq)(v:gl):qU L [] [v] []=((List.range L.length).filter λi=>s6 v (L.getD i ux)).map λi=>[i]:=by
 have e:∀i,Nx L [] v [] i=s6 v (L.getD i ux):=λi=>by unfold Nx okB;rw[List.all_nil,Bool.and_true]
 simp only[qU,e,List.nil_append]
 exact Kq _ _ _
structure BF (L:List Nq):Prop where
 ahead:L.Pairwise KE
 no:∀(i:Nat) (x:Nq),L[i]?=some x→x.no=i
 words:∀x∈L,x.frm<x.tqo∧x.no<x.fin
theorem BF.of {nr nl:Nat}(g:ep){t:dA}(h:jU nr nl t):BF (rS g t 0 (-1) 0):=by
 obtain⟨h1,a⟩:=Qi g t 0 (-1) 0 h;exact⟨h1,λi x hx=>by have:=Qh g t 0 (-1) 0 i x hx;omega,λx hx=>by obtain⟨b,a2,a3,a4,a5,c⟩:=a x hx;exact⟨a5,a2⟩⟩
theorem getD_some {L:List Nq}{i:Nat}(h:i<L.length):L[i]?=some (L.getD i ux):=by
 rw[aZ,aj h];rfl
theorem BF.lt {L:List Nq}(h:BF L){i j:Nat}(c:i<j)(b:j<L.length):KE (L.getD i ux) (L.getD j ux)∧(L.getD i ux).no=i∧(L.getD j ux).no=j:=by
 have h1:=getD_some (show i<L.length by omega)
 have a:=getD_some b
 refine⟨?_,h.no _ _ h1,h.no _ _ a⟩
 have:=List.pairwise_iff_getElem.1 h.ahead i j zE b c
 rw[aj (show i<L.length by omega)]at h1;rw[aj b]at a
 injection h1 with h1;injection a with a
 rw[←h1,←a];exact this
theorem BF.one {L:List Nq}(h:BF L){i:Nat}(a:i<L.length):(L.getD i ux).frm<(L.getD i ux).tqo:=(h.words _ (aa (getD_some a))).1
def jx (s w:ab):gl:=⟨s,3,w⟩
def lsF (L:List Nq):List Nat:=(List.range L.length).filter λi=>(L.getD i ux).leaf
theorem GX (L:List Nq):(List.range L.length).map (λi=>L.getD i ux)=L:=by
 refine jh λi=> ?_
 rw[aw]
 rcases cJ i L.length with h|h
 ·rw[jy h,getD_some h];rfl
 ·rw[fT (by rw[db];exact h),fT h];rfl
theorem ZN {β:Type}(L:List Nq)(f:Nq→β):(lsF L).map (λi=>f (L.getD i ux))=(L.filter (·.leaf)).map f:=by
 have e:L.filter (·.leaf)=(lsF L).map (λi=>L.getD i ux):=by
  conv=>lhs;rw[←GX L]
  rw[List.filter_map];rfl
 rw[e,iX];rfl
theorem ym (L:List Nq)(s w:ab):qU L [] [jx s w] []=((List.range L.length).filter λi=>(L.getD i ux).leaf&&decide ((L.getD i ux).label=w)).map λi=>[i]:=ahV L (jx s w)
theorem ZO {L:List Nq}{i:Nat}(h:i∈lsF L):i<L.length∧(L.getD i ux).leaf=true:=by
 unfold lsF at h;rw[po]at h;exact⟨cU.1 h.1,h.2⟩
end Go.Proofs.YtiefglecbgdaiaaGreatDoor
namespace Go.J
open Go Go.Proofs.YtiefglecbgdaiaaGreatDoor
def ui:Rp gl:=⟨3,by decide,λx=>[sv x.name,iv x.kind,sv x.label],λx=>vt x.name∧bR x.kind∧vt x.label,λ_=>rfl,λx u h=>by simp at h;rcases h with rfl|rfl|rfl<;>rfl⟩
def vc:Rp kR:=⟨3,by decide,λx=>[iv x.kind,iv x.a,iv x.b],λx=>bR x.kind∧bR x.a∧bR x.b,λ_=>rfl,λx u h=>by simp at h;rcases h with rfl|rfl|rfl<;>rfl⟩
def j4:Rp Nq:=⟨6,by decide,λx=>[.bool x.leaf,sv x.label,iv x.up,iv (x.fin:Int),iv (x.frm:Int),iv (x.tqo:Int)],λ_=>True,λ_=>rfl,λx u h=>by simp at h;rcases h with rfl|rfl|rfl|rfl|rfl|rfl<;>rfl⟩
instance (x:gl):gX ui x [sv x.name,iv x.kind,sv x.label]:=⟨rfl⟩
instance (x:kR):gX vc x [iv x.kind,iv x.a,iv x.b]:=⟨rfl⟩
instance (x:Nq):gX j4 x [.bool x.leaf,sv x.label,iv x.up,iv (x.fin:Int),iv (x.frm:Int),iv (x.tqo:Int)]:=⟨rfl⟩
structure Cn where
 vv:aY
 vars:List gl
 kv:aY
 aW:List kR
abbrev E2 (q:Cn):Value:= .agg #[q.vv.1,q.kv.1]
def JU (q:Cn):List dQ:=[sl ui q.vv.1 q.vars,sl vc q.kv.1 q.aW]
def nh (q:Cn):dQ:=eY (JU q)
end Go.J
namespace Go.Proofs.YtiefglecbgdaiaaGreatDoor
open Go Go.J Go.ChangeShapes Go.WideShapes Go.ChangeAt Go.RowKit Go.Deep
theorem aeP {α:Type}{l:List α}(h:l.length=1):∃a0,l=[a0]:=match l,h with
 | [a0],_=>⟨a0,rfl⟩
theorem Fw {α:Type}{l:List α}(h:l.length=2):∃a0 a,l=[a0,a]:=match l,h with
 | [a0,a],_=>⟨a0,a,rfl⟩
theorem aeQ {α:Type}{l:List α}(h:l.length=3):∃a0 a a2,l=[a0,a,a2]:=match l,h with
 | [a0,a,a2],_=>⟨a0,a,a2,rfl⟩
theorem aeR {α:Type}{l:List α}(h:l.length=5):∃a0 a a2 a3 a4,l=[a0,a,a2,a3,a4]:=match l,h with
 | [a0,a,a2,a3,a4],_=>⟨a0,a,a2,a3,a4,rfl⟩
theorem aeS {α:Type}{l:List α}(h:l.length=6):∃a0 a a2 a3 a4 a5,l=[a0,a,a2,a3,a4,a5]:=match l,h with
 | [a0,a,a2,a3,a4,a5],_=>⟨a0,a,a2,a3,a4,a5,rfl⟩
theorem aeT {α:Type}{l:List α}(h:l.length=9):∃a0 a a2 a3 a4 a5 b c d,l=[a0,a,a2,a3,a4,a5,b,c,d]:=match l,h with
 | [a0,a,a2,a3,a4,a5,b,c,d],_=>⟨a0,a,a2,a3,a4,a5,b,c,d,rfl⟩
theorem ZG {α:Type}{l:List α}(h:l.length=10):∃a0 a a2 a3 a4 a5 b c d a9,l=[a0,a,a2,a3,a4,a5,b,c,d,a9]:=match l,h with
 | [a0,a,a2,a3,a4,a5,b,c,d,a9],_=>⟨a0,a,a2,a3,a4,a5,b,c,d,a9,rfl⟩
theorem lq:Tryz.prog.cellsOf 3=1:=by kernel_rfl
theorem qS:Tryz.prog.cellsOf 9=1:=by kernel_rfl
theorem Ty:Tryz.prog.cellsOf 22=1:=by kernel_rfl
theorem Tz:Tryz.prog.cellsOf 23=1:=by kernel_rfl
theorem U0:Tryz.prog.cellsOf 25=2:=by kernel_rfl
theorem U1:Tryz.prog.cellsOf 26=1:=by kernel_rfl
theorem U2:Tryz.prog.cellsOf 27=1:=by kernel_rfl
theorem U3:Tryz.prog.cellsOf 28=1:=by kernel_rfl
theorem D8:Tryz.prog.cellsOf 30=1:=by kernel_rfl
theorem U4:Tryz.prog.cellsOf 32=5:=by kernel_rfl
theorem U6:Tryz.prog.cellsOf 35=1:=by kernel_rfl
theorem U7:Tryz.prog.cellsOf 84=1:=by kernel_rfl
theorem Ka:Tryz.prog.cellsOf 86=2:=by kernel_rfl
theorem U8:Tryz.prog.cellsOf 91=3:=by kernel_rfl
theorem U9:Tryz.prog.cellsOf 92=1:=by kernel_rfl
theorem D9:Tryz.prog.cellsOf 95=6:=by kernel_rfl
theorem UA:Tryz.prog.cellsOf 98=10:=by kernel_rfl
theorem P9:Tryz.prog.cellsOf 100=9:=by kernel_rfl
theorem PA:Tryz.prog.cellsOf 163=2:=by kernel_rfl
theorem PB:Tryz.prog.cellsOf 164=1:=by kernel_rfl
theorem PD:Tryz.prog.cellsOf 166=2:=by kernel_rfl
theorem PE:Tryz.prog.cellsOf 168=2:=by kernel_rfl
section
variable {H:Type}{enc:TypeId×Value→H}{W:World}
theorem UW:∀(n:Nat) (cs:List Value) (y:DataW H×List MemPlace),cs.length=2→Tr enc Tryz.prog W n 168 cs y→ml (y.1.weights Tryz.prog 168)=true→∃x:dq,cs=an.cells x∧an.wf x∧True:=by
 intro n;intro cs y c h hw;obtain⟨d,c1,rfl⟩:=Fw c;obtain⟨m,rfl,hp⟩:=gO Tryz.underlying168 h hw;obtain⟨z0,t0,j⟩:=cT hp 0 rfl rfl rfl lq
 have t0:Tr enc Tryz.prog W m 3 [d] z0:=t0
 obtain⟨x0,a,e⟩:=mR Tryz.underlying3 t0;obtain⟨f,t1,k⟩:=cT hp 1 rfl rfl rfl lq
 have t1:Tr enc Tryz.prog W m 3 [c1] f:=t1
 obtain⟨g,b,i⟩:=mR Tryz.underlying3 t1
 simp only[List.cons.injEq,and_true]at a
 subst a
 simp only[List.cons.injEq,and_true]at b
 subst b;exact⟨⟨x0,g⟩,rfl,⟨e,i⟩,trivial⟩
theorem UX:∀(n:Nat) (cs:List Value) (y:DataW H×List MemPlace),cs.length=2→Tr enc Tryz.prog W n 166 cs y→ml (y.1.weights Tryz.prog 166)=true→∃x:dy,cs=cD.cells x∧cD.wf x∧(cE x).f (J.all W):=by
 intro n;intro cs y c h hw;obtain⟨d,c1,rfl⟩:=Fw c;obtain⟨m,rfl,hp⟩:=gO Tryz.underlying166 h hw;obtain⟨z0,t0,l⟩:=cT hp 0 rfl rfl rfl lq
 have t0:Tr enc Tryz.prog W m 3 [d] z0:=t0
 obtain⟨x0,a,e⟩:=mR Tryz.underlying3 t0;obtain⟨g,t1,i⟩:=cT hp 1 rfl rfl rfl PB
 have t1:Tr enc Tryz.prog W m 164 [c1] g:=t1
 obtain⟨j,k,b,f1,o,s1⟩:=jZ an (λ_=>True) Tryz.underlying164 PE (λn _=>UW n) t1 i
 simp only[List.cons.injEq,and_true]at a
 subst a
 simp only[List.cons.injEq,and_true]at b
 subst b;exact⟨⟨x0,j,k⟩,rfl,e,f1⟩
theorem yj:∀(n:Nat) (cs:List Value) (y:DataW H×List MemPlace),cs.length=1→Tr enc Tryz.prog W n 30 cs y→ml (y.1.weights Tryz.prog 30)=true→∃x:ct,cs=[x.nv.1]∧(aJ x).f (J.all W):=by
 intro n;intro cs y b h hw;obtain⟨c,rfl⟩:=aeP b;obtain⟨m,rfl,hp⟩:=gO Tryz.underlying30 h hw;obtain⟨z0,t0,e⟩:=cT hp 0 rfl rfl rfl U3
 have t0:Tr enc Tryz.prog W m 28 [c] z0:=t0
 obtain⟨x0,l0,a,f0,g,s0⟩:=jZ cD (λx=>(cE x).f (J.all W)) Tryz.underlying28 PD (λn _=>UX n) t0 e
 simp only[List.cons.injEq,and_true]at a
 subst a
 exact⟨⟨x0,l0⟩,rfl,λd hd=>by
  simp only[jV,List.mem_cons,List.not_mem_nil,or_false]at hd
  rcases hd with rfl|rfl
  ·exact f0
  ·exact g⟩
theorem ac7:∀(n:Nat) (cs:List Value) (y:DataW H×List MemPlace),cs.length=2→Tr enc Tryz.prog W n 163 cs y→ml (y.1.weights Tryz.prog 163)=true→∃x:yK,cs=pj.cells x∧pj.wf x∧(wj x).f (J.all W):=by
 intro n;intro cs y a h hw;obtain⟨d,c1,rfl⟩:=Fw a;obtain⟨m,rfl,hp⟩:=gO Tryz.underlying163 h hw;obtain⟨z0,t0,g⟩:=cT hp 0 rfl rfl rfl qS
 have t0:Tr enc Tryz.prog W m 9 [d] z0:=t0
 obtain⟨x0,b,i⟩:=wA Tryz.underlying9 t0 g;obtain⟨j,t1,k⟩:=cT hp 1 rfl rfl rfl U6
 have t1:Tr enc Tryz.prog W m 35 [c1] j:=t1
 obtain⟨l,o,c,f1,p,s1⟩:=jZ aI (λ_=>True) Tryz.underlying35 lq (λn _ cs y a h _=>by obtain⟨x,e,w⟩:=mR Tryz.underlying3 h;exact⟨x,e,w,trivial⟩) t1 k
 simp only[List.cons.injEq,and_true]at b
 subst b
 simp only[List.cons.injEq,and_true]at c
 subst c;exact⟨⟨x0,l,o⟩,rfl,i,f1⟩
theorem US:∀(n:Nat) (cs:List Value) (y:DataW H×List MemPlace),cs.length=3→Tr enc Tryz.prog W n 91 cs y→ml (y.1.weights Tryz.prog 91)=true→∃x:jG,cs=gD.cells x∧gD.wf x∧True:=by
 intro n;intro cs y c h hw;obtain⟨d,c1,c2,rfl⟩:=aeQ c;obtain⟨m,rfl,hp⟩:=gO Tryz.underlying91 h hw;obtain⟨z0,t0,e⟩:=cT hp 0 rfl rfl rfl qS
 have t0:Tr enc Tryz.prog W m 9 [d] z0:=t0
 obtain⟨x0,a,f⟩:=wA Tryz.underlying9 t0 e;obtain⟨g,t1,o⟩:=cT hp 1 rfl rfl rfl lq
 have t1:Tr enc Tryz.prog W m 3 [c1] g:=t1
 obtain⟨i,b,j⟩:=mR Tryz.underlying3 t1;obtain⟨z2,t2,p⟩:=cT hp 2 rfl rfl rfl lq
 have t2:Tr enc Tryz.prog W m 3 [c2] z2:=t2
 obtain⟨k,e2,l⟩:=mR Tryz.underlying3 t2
 simp only[List.cons.injEq,and_true]at a
 subst a
 simp only[List.cons.injEq,and_true]at b
 subst b
 simp only[List.cons.injEq,and_true]at e2
 subst e2;exact⟨⟨x0,i,k⟩,rfl,⟨f,j,l⟩,trivial⟩
theorem Yc:∀(n:Nat) (cs:List Value) (y:DataW H×List MemPlace),cs.length=2→Tr enc Tryz.prog W n 86 cs y→ml (y.1.weights Tryz.prog 86)=true→∃x:fy,cs=mf.cells x∧mf.wf x∧tM (J.all W) x:=by
 intro n
 induction n using Nat.strongRecOn with
 |_ n c=>
 intro cs y d h hw;obtain⟨e,c1,rfl⟩:=Fw d;obtain⟨m,rfl,hp⟩:=gO Tryz.underlying86 h hw;obtain⟨z0,t0,f⟩:=cT hp 0 rfl rfl rfl qS
 have t0:Tr enc Tryz.prog W m 9 [e] z0:=t0
 obtain⟨x0,a,g⟩:=wA Tryz.underlying9 t0 f;obtain⟨i,t1,j⟩:=cT hp 1 rfl rfl rfl U7
 have t1:Tr enc Tryz.prog W m 84 [c1] i:=t1
 obtain⟨l,o,b,f1,p,s1⟩:=jZ mf (tM (J.all W)) Tryz.underlying84 Ka (λk hk=>c k zE) t1 j
 simp only[List.cons.injEq,and_true]at a
 subst a
 simp only[List.cons.injEq,and_true]at b
 subst b;exact⟨.mk x0 l o,rfl,g,.mk f1 p⟩
theorem Kl:∀(n:Nat) (cs:List Value) (y:DataW H×List MemPlace),cs.length=6→Tr enc Tryz.prog W n 95 cs y→ml (y.1.weights Tryz.prog 95)=true→∃x:dg,cs=nI.cells x∧nI.wf x∧qM (J.all W) x:=by
 intro n
 induction n using Nat.strongRecOn with
 |_ n d=>
 intro cs y e h hw;obtain⟨f,c1,c2,c3,g,c5,rfl⟩:=aeS e;obtain⟨m,rfl,hp⟩:=gO Tryz.underlying95 h hw;obtain⟨z0,t0,B⟩:=cT hp 0 rfl rfl rfl lq
 have t0:Tr enc Tryz.prog W m 3 [f] z0:=t0
 obtain⟨x0,a,i⟩:=mR Tryz.underlying3 t0;obtain⟨j,t1,l⟩:=cT hp 1 rfl rfl rfl qS
 have t1:Tr enc Tryz.prog W m 9 [c1] j:=t1
 obtain⟨o,b,p⟩:=wA Tryz.underlying9 t1 l;obtain⟨z2,t2,C⟩:=cT hp 2 rfl rfl rfl lq
 have t2:Tr enc Tryz.prog W m 3 [c2] z2:=t2
 obtain⟨q,e2,r⟩:=mR Tryz.underlying3 t2;obtain⟨z3,t3,s⟩:=cT hp 3 rfl rfl rfl Ka
 have t3:Tr enc Tryz.prog W m 86 [c3,g] z3:=t3
 obtain⟨x3,t,k3,u⟩:=Yc _ _ _ rfl t3 s;obtain⟨z4,t4,v⟩:=cT hp 4 rfl rfl rfl U9
 have t4:Tr enc Tryz.prog W m 92 [c5] z4:=t4
 obtain⟨w,z,c,f4,A,D⟩:=jZ nI (qM (J.all W)) Tryz.underlying92 D9 (λk hk=>d k zE) t4 v
 simp only[List.cons.injEq,and_true]at a
 subst a
 simp only[List.cons.injEq,and_true]at b
 subst b
 simp only[List.cons.injEq,and_true]at e2
 subst e2
 cases t
 simp only[List.cons.injEq,and_true]at c
 subst c;exact⟨.mk x0 o q x3 w z,rfl,⟨i,p,r,k3⟩,.mk u f4 A⟩
theorem UY:∀(n:Nat) (cs:List Value) (y:DataW H×List MemPlace),cs.length=10→Tr enc Tryz.prog W n 98 cs y→ml (y.1.weights Tryz.prog 98)=true→∃x:dL,cs=bX.cells x∧bX.wf x∧(cR x).f (J.all W):=by
 intro n;intro cs y c h hw;obtain⟨e,c1,c2,c3,g,c5,i,j,k,l,rfl⟩:=ZG c;obtain⟨m,rfl,hp⟩:=gO Tryz.underlying98 h hw;obtain⟨z0,t0,o⟩:=cT hp 0 rfl rfl rfl qS
 have t0:Tr enc Tryz.prog W m 9 [e] z0:=t0
 obtain⟨x0,a,p⟩:=wA Tryz.underlying9 t0 o;obtain⟨q,t1,r⟩:=cT hp 1 rfl rfl rfl D8
 have t1:Tr enc Tryz.prog W m 30 [c1] q:=t1
 obtain⟨s,t,u⟩:=yj _ _ _ rfl t1 r;obtain⟨z2,t2,E⟩:=cT hp 2 rfl rfl rfl lq
 have t2:Tr enc Tryz.prog W m 3 [c2] z2:=t2
 obtain⟨v,e2,w⟩:=mR Tryz.underlying3 t2;obtain⟨z3,t3,F⟩:=cT hp 3 rfl rfl rfl lq
 have t3:Tr enc Tryz.prog W m 3 [c3] z3:=t3
 obtain⟨x3,b,k3⟩:=mR Tryz.underlying3 t3;obtain⟨z4,t4,z⟩:=cT hp 4 rfl rfl rfl D9
 have t4:Tr enc Tryz.prog W m 95 [g,c5,i,j,k,l] z4:=t4
 obtain⟨A,B,C,D⟩:=Kl _ _ _ rfl t4 z
 simp only[List.cons.injEq,and_true]at a
 subst a
 cases t
 simp only[List.cons.injEq,and_true]at e2
 subst e2
 simp only[List.cons.injEq,and_true]at b
 subst b
 cases B
 exact⟨⟨x0,s,v,x3,A⟩,rfl,⟨p,w,k3,C⟩,λd hd=>by
  simp only[LV,List.mem_cons,List.not_mem_nil,or_false]at hd
  rcases hd with rfl|rfl
  ·exact u
  ·exact D⟩
theorem Yb:∀(n:Nat) (cs:List Value) (y:DataW H×List MemPlace),cs.length=9→Tr enc Tryz.prog W n 100 cs y→ml (y.1.weights Tryz.prog 100)=true→∃x:km,cs=dT.cells x∧dT.wf x∧(eO x).f (J.all W):=by
 intro n;intro cs y b h hw;obtain⟨c,c1,c2,c3,e,c5,g,i,j,rfl⟩:=aeT b;obtain⟨m,rfl,hp⟩:=gO Tryz.underlying100 h hw;obtain⟨z0,t0,k⟩:=cT hp 0 rfl rfl rfl qS
 have t0:Tr enc Tryz.prog W m 9 [c] z0:=t0
 obtain⟨x0,a,l⟩:=wA Tryz.underlying9 t0 k;obtain⟨o,t1,p⟩:=cT hp 1 rfl rfl rfl D8
 have t1:Tr enc Tryz.prog W m 30 [c1] o:=t1
 obtain⟨q,r,s⟩:=yj _ _ _ rfl t1 p;obtain⟨z2,t2,A⟩:=cT hp 2 rfl rfl rfl lq
 have t2:Tr enc Tryz.prog W m 3 [c2] z2:=t2
 obtain⟨t,e2,u⟩:=mR Tryz.underlying3 t2;obtain⟨z3,t3,v⟩:=cT hp 3 rfl rfl rfl D9
 have t3:Tr enc Tryz.prog W m 95 [c3,e,c5,g,i,j] z3:=t3
 obtain⟨x3,w,k3,z⟩:=Kl _ _ _ rfl t3 v
 simp only[List.cons.injEq,and_true]at a
 subst a
 cases r
 simp only[List.cons.injEq,and_true]at e2
 subst e2
 cases w
 exact⟨⟨x0,q,t,x3⟩,rfl,⟨l,u,k3⟩,λd hd=>by
  simp only[VD,List.mem_cons,List.not_mem_nil,or_false]at hd
  rcases hd with rfl|rfl
  ·exact s
  ·exact z⟩
theorem UU:∀(n:Nat) (cs:List Value) (y:DataW H×List MemPlace),cs.length=2→Tr enc Tryz.prog W n 25 cs y→ml (y.1.weights Tryz.prog 25)=true→∃(tv:aY) (c:List yK) (fv:aY) (e:List jG),cs=[tv.1,fv.1]∧∀d∈XA tv fv c e,d.f (J.all W):=by
 intro n;intro cs y g h hw;obtain⟨i,c1,rfl⟩:=Fw g;obtain⟨m,rfl,hp⟩:=gO Tryz.underlying25 h hw;obtain⟨z0,t0,j⟩:=cT hp 0 rfl rfl rfl Ty
 have t0:Tr enc Tryz.prog W m 22 [i] z0:=t0
 obtain⟨x0,l0,a,f0,k,s0⟩:=jZ pj (λx=>(wj x).f (J.all W)) Tryz.underlying22 PA (λn _=>ac7 n) t0 j;obtain⟨l,t1,o⟩:=cT hp 1 rfl rfl rfl Tz
 have t1:Tr enc Tryz.prog W m 23 [c1] l:=t1
 obtain⟨p,q,b,f1,r,s1⟩:=jZ gD (λ_=>True) Tryz.underlying23 U8 (λn _=>US n) t1 o
 simp only[List.cons.injEq,and_true]at a
 subst a
 simp only[List.cons.injEq,and_true]at b
 subst b
 exact⟨x0,l0,p,q,rfl,λd hd=>by
  simp only[XA,List.mem_cons,List.not_mem_nil,or_false]at hd
  rcases hd with rfl|rfl|rfl
  ·exact f0
  ·exact k
  ·exact f1⟩
theorem Ya:∀(n:Nat) (cs:List Value) (y:DataW H×List MemPlace),cs.length=5→Tr enc Tryz.prog W n 32 cs y→ml (y.1.weights Tryz.prog 32)=true→∃x:ei,cs=jj x∧(eD x).f (J.all W):=by
 intro n cs y g h hw;obtain⟨i,c1,c2,c3,j,rfl⟩:=aeR g;obtain⟨m,rfl,hp⟩:=gO Tryz.underlying32 h hw;obtain⟨z0,t0,k⟩:=cT hp 0 rfl rfl rfl U0
 have t0:Tr enc Tryz.prog W m 25 [i,c1] z0:=t0
 obtain⟨tv,l,fv,o,b,a⟩:=UU _ _ _ rfl t0 k;obtain⟨p,t1,q⟩:=cT hp 1 rfl rfl rfl U1
 have t1:Tr enc Tryz.prog W m 26 [c2] p:=t1
 obtain⟨r,s,c,f1,t,_⟩:=jZ bX (λx=>(cR x).f (J.all W)) Tryz.underlying26 UA (λn _=>UY n) t1 q;obtain⟨z2,t2,u⟩:=cT hp 2 rfl rfl rfl U2
 have t2:Tr enc Tryz.prog W m 27 [c3] z2:=t2
 obtain⟨v,w,e2,f2,z,_⟩:=jZ dT (λx=>(eO x).f (J.all W)) Tryz.underlying27 P9 (λn _=>Yb n) t2 u;obtain⟨z3,t3,A⟩:=cT hp 3 rfl rfl rfl D8
 have t3:Tr enc Tryz.prog W m 30 [j] z3:=t3
 obtain⟨x3,e,B⟩:=yj _ _ _ rfl t3 A
 simp only[List.cons.injEq,and_true]at b c e2 e
 obtain⟨rfl,rfl⟩:=b;subst c e2 e;refine⟨⟨tv,l,fv,o,r,s,v,w,x3⟩,rfl,λd hd=> ?_⟩
 have C:=a _ (aV ..)
 have h1:=a _ (bV _ (aV ..))
 have D:=a _ (bV _ (bV _ (aV ..)))
 simp only[Af,List.mem_cons,List.not_mem_nil,or_false]at hd
 rcases hd with rfl|rfl|rfl|rfl|rfl|rfl|rfl|rfl
 ·exact C
 ·exact h1
 ·exact D
 ·exact f1
 ·exact t
 ·exact f2
 ·exact z
 ·exact B
theorem Qs {v:Value}{d:DataW H}{p:List MemPlace}{a:Nat}(b:Value.okWide Tryz.prog W .any a 32 v)(hw:ml (d.weights Tryz.prog 32)=true)(h:DataW.Trod enc Tryz.prog W 0 (λ_=>true) true 32 v d p):∃x:ei,v=gK x∧(eD x).f (J.all W):=by
 obtain⟨cs,rfl,c⟩:=okWide_struct Tryz.underlying32 b;obtain⟨fuel,g⟩:=h;obtain⟨x,e,q⟩:=Ya fuel cs.toList (d,p) (by rw[Array.length_toList,c,U4]) g hw;exact⟨x,congrArg Value.agg (Array.toList_inj.1 e),q⟩
end
end Go.Proofs.YtiefglecbgdaiaaGreatDoor
namespace Go.J
open Go
theorem mO:∀a:ab,Op.bytesLess a a=false
 | []=>rfl
 |x::a=>by simp[Op.bytesLess,mO a]
theorem lV:∀{a b c:ab},Op.bytesLess a b=true→Op.bytesLess b c=true→Op.bytesLess a c=true
 |_,_,[],_,h=>by cases ‹ab› <;>simp[Op.bytesLess]at h
 | [],_,_::_,_,_=>rfl
 |_::_,[],_::_,h,_=>by simp[Op.bytesLess]at h
 |x::a,y::b,z::c,h,k=>by
  simp only[Op.bytesLess,Bool.or_eq_true,decide_eq_true_eq,Bool.and_eq_true,beq_iff_eq]at h k⊢
  rcases h with h|⟨rfl,h⟩<;>rcases k with k|⟨rfl,k⟩
  ·exact .inl (UInt8.lt_trans h k)
  ·exact .inl h
  ·exact .inl k
  ·exact .inr ⟨rfl,lV h k⟩
theorem E9:∀a b:ab,Op.bytesLess a b=true∨a=b∨Op.bytesLess b a=true
 | [],[]=> .inr (.inl rfl)
 | [],_::_=> .inl rfl
 |_::_,[]=> .inr (.inr rfl)
 |x::a,y::b=>by
  simp only[Op.bytesLess,Bool.or_eq_true,decide_eq_true_eq,Bool.and_eq_true,beq_iff_eq,List.cons.injEq]
  rcases Nat.lt_trichotomy x.toNat y.toNat with h|h|h
  ·exact .inl (.inl h)
  ·obtain rfl:x=y:=UInt8.toNat_inj.1 h
   rcases E9 a b with q|q|q
   ·exact .inl (.inr ⟨rfl,q⟩)
   ·exact .inr (.inl ⟨rfl,q⟩)
   ·exact .inr (.inr (.inr ⟨rfl,q⟩))
  ·exact .inr (.inr (.inl h))
theorem vu {a b:ab}(h:Op.bytesLess a b=true):Op.bytesLess b a=false:=by
 cases k:Op.bytesLess b a with
 |false=>rfl
 |true=>have:=lV h k;rw[mO]at this;cases this
def CV:List ab→List ab→Bool
 |_,[]=>false
 | [],_::_=>true
 |x::a,y::b=>Op.bytesLess x y||(x==y&&CV a b)
theorem CW:∀{a b c:List ab},CV a b=true→CV b c=true→CV a c=true
 |_,_,[],_,h=>by cases ‹List ab› <;>simp[CV]at h
 | [],_,_::_,_,_=>rfl
 |_::_,[],_::_,h,_=>by simp[CV]at h
 |x::a,y::b,z::c,h,k=>by
  simp only[CV,Bool.or_eq_true,Bool.and_eq_true,beq_iff_eq]at h k⊢
  rcases h with h|⟨rfl,h⟩<;>rcases k with k|⟨rfl,k⟩
  ·exact .inl (lV h k)
  ·exact .inl h
  ·exact .inl k
  ·exact .inr ⟨rfl,CW h k⟩
theorem M7:∀a b:List ab,CV a b=true∨a=b∨CV b a=true
 | [],[]=> .inr (.inl rfl)
 | [],_::_=> .inl rfl
 |_::_,[]=> .inr (.inr rfl)
 |x::a,y::b=>by
  simp only[CV,Bool.or_eq_true,Bool.and_eq_true,beq_iff_eq,List.cons.injEq]
  rcases E9 x y with h|rfl|h
  ·exact .inl (.inl h)
  ·rcases M7 a b with q|q|q
   ·exact .inl (.inr ⟨rfl,q⟩)
   ·exact .inr (.inl ⟨rfl,q⟩)
   ·exact .inr (.inr (.inr ⟨rfl,q⟩))
  ·exact .inr (.inr (.inl h))
def eb:List Int→List Int→Bool
 | [],[]=>false
 | [],_::_=>true
 |_::_,[]=>false
 |a::x,b::y=>decide (a<b)||(decide (a=b)&&eb x y)
theorem fQ:∀x:List Int,eb x x=false
 | []=>rfl
 |a::x=>by simp[eb,fQ x]
theorem ef:∀{x y z:List Int},eb x y=true→eb y z=true→eb x z=true
 | [],[],_,h,_=>by simp[eb]at h
 | [],_::_,[],_,h=>by simp[eb]at h
 | [],_::_,_::_,_,_=>rfl
 |_::_,[],_,h,_=>by simp[eb]at h
 |_::_,_::_,[],_,h=>by simp[eb]at h
 |a::x,b::y,c::z,h,k=>by
  simp only[eb,Bool.or_eq_true,Bool.and_eq_true,decide_eq_true_eq]at h k⊢
  rcases h with h|⟨h,d⟩
  ·left;rcases k with k|⟨k,_⟩<;>omega
  ·rcases k with k|⟨k,e⟩
   ·left;omega
   ·right;exact⟨by omega,ef d e⟩
theorem iD:∀(x y:List Int),eb x y=true∨x=y∨eb y x=true
 | [],[]=> .inr (.inl rfl)
 | [],_::_=> .inl rfl
 |_::_,[]=> .inr (.inr rfl)
 |a::x,b::y=>by
  simp only[eb,Bool.or_eq_true,Bool.and_eq_true,decide_eq_true_eq,List.cons.injEq]
  rcases Int.lt_trichotomy a b with h|h|h
  ·exact .inl (.inl h)
  ·rcases iD x y with k|k|k
   ·exact .inl (.inr ⟨h,k⟩)
   ·exact .inr (.inl ⟨h,k⟩)
   ·exact .inr (.inr (.inr ⟨h.symm,k⟩))
  ·exact .inr (.inr (.inl h))
theorem oJ {x y:List Int}(h:eb x y=true):eb y x=false:=by
 cases k:eb y x with
 |false=>rfl
 |true=>have:=ef h k;rw[fQ]at this;cases this
theorem QN {x y:List Int}(h:eb x y=true):x≠y:=by rintro rfl;rw[fQ]at h;cases h
theorem pG:∀{x y u v:List Int},(x.length=y.length∨(x.length<y.length∧u=[])∨(y.length<x.length∧v=[]))→eb (x++u) (y++v)=(eb x y||(decide (x=y)&&eb u v))
 | [],[],u,v,_=>by simp[eb]
 | [],b::y,u,v,h=>by
  rcases h with h|⟨_,h⟩|⟨h,_⟩
  ·simp at h
  ·subst h;simp[eb]
  ·simp at h
 |a::x,[],u,v,h=>by
  rcases h with h|⟨h,_⟩|⟨_,h⟩
  ·simp at h
  ·simp at h
  ·subst h;simp[eb]
 |a::x,b::y,u,v,h=>by
  have d:= @pG x y u v (by simpa using h)
  simp only[List.cons_append,eb,d,List.cons.injEq]
  by_cases h1:a<b
  ·have:a≠b:=by omega
   simp[h1]
  ·by_cases c:a=b
   ·subst c;simp
   ·simp[h1,c]
section
variable (p:List Int)
def pre (L i:Nat):List Int:=(p.drop i).take L
theorem ej (L i:Nat):(pre p L i).length=min L (p.length-i):=by simp[pre]
theorem xx (L M i:Nat):pre p (L+M) i=pre p L i++pre p M (i+L):=by
 unfold pre;rw[List.take_add,List.drop_drop]
theorem rA {L i:Nat}(h:p.length≤i):pre p L i=[]:=by unfold pre;rw[fS h];simp
theorem JQ {L i j:Nat}:eb (pre p (L+L) i) (pre p (L+L) j)=(eb (pre p L i) (pre p L j)||(decide (pre p L i=pre p L j)&&eb (pre p L (i+L)) (pre p L (j+L)))):=by
 rw[xx,xx];refine pG ?_;rw[ej,ej]
 by_cases h1:min L (p.length-i)=min L (p.length-j)
 ·exact .inl h1
 ·rcases Nat.lt_or_gt_of_ne h1 with h|h
  ·exact .inr (.inl ⟨h,rA p zE⟩)
  ·exact .inr (.inr ⟨h,rA p zE⟩)
theorem Ar {L i j:Nat}(c:i<p.length)(d:j<p.length):pre p (L+L) i=pre p (L+L) j↔pre p L i=pre p L j∧pre p L (i+L)=pre p L (j+L):=by
 rw[xx,xx]
 constructor
 ·intro h
  have a:=congrArg List.length h
  simp only[List.length_append,ej]at a
  exact List.append_inj h (by rw[ej,ej];omega)
 ·rintro ⟨h1,b⟩;rw[h1,b]
structure Ck (L:Nat)(jD:Nat→Int):Prop where
 lt:∀i j,i<p.length→j<p.length→(jD i<jD j↔eb (pre p L i) (pre p L j)=true)
 eq:∀i j,i<p.length→j<p.length→(jD i=jD j↔pre p L i=pre p L j)
 pos:∀i,i<p.length→0≤jD i∧jD i<p.length
def second (L:Nat)(jD:Nat→Int)(i:Nat):Int:=if i+L<p.length then jD (i+L)else-1
variable {p}
theorem vk {L:Nat}{jD:Nat→Int}(e:0<L)(h:Ck p L jD)(i j:Nat):second p L jD i<second p L jD j↔eb (pre p L (i+L)) (pre p L (j+L))=true:=by
 unfold second
 by_cases c:i+L<p.length
 ·by_cases b:j+L<p.length
  ·rw[aB c,aB b];exact h.lt _ _ c b
  ·rw[aB c,aA b,rA p (show p.length≤j+L by omega)]
   have:=(h.pos _ c).1
   constructor
   ·intro k;omega
   ·intro k;cases hx:pre p L (i+L)<;>rw[hx]at k<;>simp[eb]at k
 ·by_cases b:j+L<p.length
  ·rw[aA c,aB b,rA p (show p.length≤i+L by omega)]
   have:=(h.pos _ b).1
   constructor
   ·intro _
    cases hx:pre p L (j+L)with
    |nil=>
     have d:=congrArg List.length hx
     rw[ej]at d
     simp only[List.length_nil]at d
     omega
    |cons a x=>rfl
   ·intro _;omega
  ·rw[aA c,aA b,rA p (show p.length≤i+L by omega),rA p (show p.length≤j+L by omega)];simp[eb]
def zm (a b:Int):Int:=if a<b then-1 else if b<a then 1 else 0
theorem E5 {a b:Int}:zm a b<0↔a<b:=by unfold zm;split<;>(try split)<;>constructor<;>intro h<;>omega
theorem mM {a b:Int}:zm a b=0↔a=b:=by unfold zm;split<;>(try split)<;>constructor<;>intro h<;>omega
structure nT (n:Nat)(key:Nat→List Int)(cf:Nat→Nat→Int):Prop where
 lt:∀i j,i<n→j<n→(cf i j<0↔eb (key i) (key j)=true)
 eq:∀i j,i<n→j<n→(cf i j=0↔key i=key j)
def YQ (p:List Int)(L:Nat)(jD:Nat→Int)(i j:Nat):Int:=if zm (jD i) (jD j)≠0 then zm (jD i) (jD j)else zm (second p L jD i) (second p L jD j)
theorem Kc {L:Nat}{jD:Nat→Int}(e:0<L)(h:Ck p L jD):nT p.length (pre p (L+L)) (YQ p L jD) where
 lt i j b c:=by
  rw[JQ]
  have f:=h.lt i j b c
  have e2:=h.eq i j b c
  have a:=vk e h i j
  unfold YQ
  simp only[Bool.or_eq_true,Bool.and_eq_true,decide_eq_true_eq]
  by_cases k:jD i=jD j
  ·rw[aA (by simpa using mM.2 k),E5,a]
   constructor
   ·intro m;exact .inr ⟨e2.1 k,m⟩
   ·rintro (m|m)
    ·have:=f.2 m;omega
    ·exact m.2
  ·rw[aB (λm=>k (mM.1 m)),E5,f]
   constructor
   ·exact .inl
   ·rintro (m|m)
    ·exact m
    ·exact absurd (e2.2 m.1) k
 eq i j b c:=by
  rw[Ar p b c]
  have e2:=h.eq i j b c
  have a:=vk e h i j
  have d:=vk e h j i
  unfold YQ
  by_cases k:jD i=jD j
  ·rw[aA (by simpa using mM.2 k),mM]
   constructor
   ·intro m
    refine⟨e2.1 k,?_⟩
    rcases iD (pre p L (i+L)) (pre p L (j+L))with q|q|q
    ·have:=a.2 q;omega
    ·exact q
    ·have:=d.2 q;omega
   ·rintro ⟨_,m⟩
    rw[m]at a d;rw[fQ]at a d
    simp only[Bool.false_eq_true,iff_false,Int.not_lt]at a d
    omega
  ·rw[aB (λm=>k (mM.1 m))]
   constructor
   ·intro m;exact absurd (mM.1 m) k
   ·rintro ⟨m,_⟩;exact absurd (e2.2 m) k
theorem xy (i:Nat)(a:i<p.length):pre p 1 i=[p.getD i 0]:=by
 unfold pre;rw[List.drop_eq_getElem_cons a,List.take_succ_cons,nR,aZ,aj a];rfl
theorem Kb:nT p.length (pre p 1) (λi j=>zm (p.getD i 0) (p.getD j 0)) where
 lt i j a b:=by rw[xy i a,xy j b,E5];simp[eb]
 eq i j a b:=by rw[xy i a,xy j b,mM];simp
end
def lK (cf:Nat→Nat→Int)(l:List Nat):Nat→Nat
 |0=>0
 |k+1=>if cf (l.getD k 0) (l.getD (k+1) 0)=0 then lK cf l k else k+1
section
variable {n:Nat}{key:Nat→List Int}{cf:Nat→Nat→Int}{l:List Nat}
theorem uP:∀k,lK cf l k≤k
 |0=>aQ _
 |k+1=>by
  unfold lK
  split
  ·exact Nat.le_succ_of_le (uP k)
  ·exact aQ _
theorem ib (hp:l.Perm (List.range n)){k:Nat}(hk:k<n):l.getD k 0<n:=by
 have a:l.length=n:=by rw[hp.length_eq,db]
 have:l.getD k 0∈l:=by rw[aZ,aj zE];exact fq _
 exact cU.1 (hp.mem_iff.1 this)
theorem zV (hp:l.Perm (List.range n)):l.Nodup:=hp.nodup_iff.2 List.nodup_range
theorem qf (hp:l.Perm (List.range n)){j k:Nat}(b:j<n)(hk:k<n)(h:l.getD j 0=l.getD k 0):j=k:=by
 have c:l.length=n:=by rw[hp.length_eq,db]
 have a:=zV hp
 rw[aZ,aj (show j<l.length by omega),aZ,aj (show k<l.length by omega)]at h
 simp only[Option.getD_some]at h
 exact(List.getElem_inj a).1 h
theorem xw (hp:l.Perm (List.range n)){i:Nat}(a:i<n):∃k,k<n∧l.getD k 0=i:=by
 have b:l.length=n:=by rw[hp.length_eq,db]
 have:=hp.mem_iff.2 (cU.2 a)
 obtain⟨k,hk,rfl⟩:=lB.1 this;exact⟨k,by omega,by rw[aZ,aj hk];rfl⟩
def nU (cf:Nat→Nat→Int)(l:List Nat):Prop:=∀j k,j<k→k<l.length→¬cf (l.getD k 0) (l.getD j 0)<0
theorem uO (a:nT n key cf)(hp:l.Perm (List.range n))(g:nU cf l):∀k j,k<n→j≤k→(key (l.getD j 0)=key (l.getD k 0)∧lK cf l j=lK cf l k)∨(eb (key (l.getD j 0)) (key (l.getD k 0))=true∧lK cf l j<lK cf l k)
 |0,j,_,m=>by
  obtain rfl:j=0:=by omega
  exact .inl ⟨rfl,rfl⟩
 |k+1,j,hk,m=>by
  have p:l.length=n:=by rw[hp.length_eq,db]
  rcases cJ j (k+1)with h1|h1
  ·have c:=ib hp (show k<n by omega)
   have d:=ib hp hk
   have h:=uO a hp g k j zE zE
   by_cases b:cf (l.getD k 0) (l.getD (k+1) 0)=0
   ·have o:=(a.eq _ _ c d).1 b
    have e:lK cf l (k+1)=lK cf l k:=by rw[lK,aB b]
    rw[e,←o];exact h
   ·have e:lK cf l (k+1)=k+1:=by rw[lK,aA b]
    have i:eb (key (l.getD k 0)) (key (l.getD (k+1) 0))=true:=by
     rcases iD (key (l.getD k 0)) (key (l.getD (k+1) 0))with q|q|q
     ·exact q
     ·exact absurd ((a.eq _ _ c d).2 q) b
     ·exact absurd ((a.lt _ _ d c).2 q) (g k (k+1) zE zE)
    right
    refine⟨?_,by rw[e];exact sy (uP j) h1⟩
    rcases h with⟨f,_⟩|⟨f,_⟩
    ·rw[f];exact i
    ·exact ef f i
  ·obtain rfl:j=k+1:=by omega
   exact .inl ⟨rfl,rfl⟩
def yF (cf:Nat→Nat→Int)(l:List Nat)(rk:List Int):Prop:=rk.length=l.length∧∀k,k<l.length→rk.getD (l.getD k 0) 0=lK cf l k
theorem RC {p:List Int}{L:Nat}(g:nT p.length (pre p L) cf)(hp:l.Perm (List.range p.length))(k:nU cf l){rk:List Int}(f:yF cf l rk):Ck p L (λi=>rk.getD i 0):=by
 have o:l.length=p.length:=by rw[hp.length_eq,db]
 have main:∀i j,i<p.length→j<p.length→(pre p L i=pre p L j∧rk.getD i 0=rk.getD j 0)∨(eb (pre p L i) (pre p L j)=true∧rk.getD i 0<rk.getD j 0)∨(eb (pre p L j) (pre p L i)=true∧rk.getD j 0<rk.getD i 0):=by
  intro i j d e;obtain⟨a,m,rfl⟩:=xw hp d;obtain⟨b,n,rfl⟩:=xw hp e;rw[f.2 a zE,f.2 b zE]
  rcases Nat.le_total a b with h|h
  ·rcases uO g hp k b a n h with⟨h1,c⟩|⟨h1,c⟩
   ·exact .inl ⟨h1,by rw[c]⟩
   ·exact .inr (.inl ⟨h1,by omega⟩)
  ·rcases uO g hp k a b m h with⟨h1,c⟩|⟨h1,c⟩
   ·exact .inl ⟨h1.symm,by rw[c]⟩
   ·exact .inr (.inr ⟨h1,by omega⟩)
 refine⟨λi j d e=> ?_,λi j d e=> ?_,λi d=> ?_⟩
 ·rcases main i j d e with⟨h1,c⟩|⟨h1,c⟩|⟨h1,c⟩
  ·exact⟨λh=>by omega,λh=>by rw[h1,fQ]at h;cases h⟩
  ·exact⟨λ_=>h1,λ_=>c⟩
  ·exact⟨λh=>by omega,λh=>by rw[oJ h1]at h;cases h⟩
 ·rcases main i j d e with⟨h1,c⟩|⟨h1,c⟩|⟨h1,c⟩
  ·exact⟨λ_=>h1,λ_=>c⟩
  ·exact⟨λh=>by omega,λh=>absurd h (QN h1)⟩
  ·exact⟨λh=>by omega,λh=>absurd h.symm (QN h1)⟩
 ·obtain⟨a,m,rfl⟩:=xw hp d
  rw[f.2 a zE]
  have:=uP (cf:=cf) (l:=l) a
  omega
end
def qI (p:List Int)(l:List Nat):Prop:=l.Perm (List.range p.length)∧∀j k,j<k→k<l.length→eb (p.drop (l.getD j 0)) (p.drop (l.getD k 0))=true
theorem FM {p:List Int}{L i j:Nat}(h:eb (pre p L i) (pre p L j)=true)(b:i<p.length)(c:j<p.length):eb (p.drop i) (p.drop j)=true:=by
 have a:p.drop i=pre p L i++p.drop (i+L):=by unfold pre;rw[←List.drop_drop,jN]
 have e2:p.drop j=pre p L j++p.drop (j+L):=by unfold pre;rw[←List.drop_drop,jN]
 rw[a,e2,pG,h]
 ·rfl
 ·rw[ej,ej]
  by_cases h1:min L (p.length-i)=min L (p.length-j)
  ·exact .inl h1
  ·rcases Nat.lt_or_gt_of_ne h1 with h|h
   ·exact .inr (.inl ⟨h,fS zE⟩)
   ·exact .inr (.inr ⟨h,fS zE⟩)
section
variable {p:List Int}{L:Nat}{cf:Nat→Nat→Int}{l:List Nat}{rk:List Int}
theorem Rq (a:nT p.length (pre p L) cf)(hp:l.Perm (List.range p.length))(b:nU cf l)(c:yF cf l rk)(hd:∀i∈l,l.getD (rk.getD i 0).toNat 0=i):qI p l:=by
 have g:l.length=p.length:=by rw[hp.length_eq,db]
 have fix:∀k,k<l.length→lK cf l k=k:=λk hk=>by
  have hm:l.getD k 0∈l:=by rw[aZ,aj hk];exact fq _
  have h1:=hd _ hm
  rw[c.2 k hk,CY]at h1
  have:=uP (cf:=cf) (l:=l) k
  exact qf hp zE zE h1
 refine⟨hp,λj k h hk=> ?_⟩
 have d:=ib hp (show j<p.length by omega)
 have e:=ib hp (show k<p.length by omega)
 rcases uO a hp b k j zE zE with⟨_,f⟩|⟨h1,_⟩
 ·rw[fix j zE,fix k hk]at f;omega
 ·exact FM h1 d e
theorem Rt (a:nT p.length (pre p L) cf)(hp:l.Perm (List.range p.length))(n:nU cf l)(b:yF cf l rk){i:Nat}(c:i∈l)(hd:l.getD (rk.getD i 0).toNat 0≠i):L<p.length:=by
 have o:l.length=p.length:=by rw[hp.length_eq,db]
 have d:=cU.1 (hp.mem_iff.1 c)
 obtain⟨k,hk,rfl⟩:=xw hp d;rw[b.2 k zE,CY]at hd
 have hle:=uP (cf:=cf) (l:=l) k
 have f:lK cf l k≠k:=λe=>hd (by rw[e])
 apply Decidable.byContradiction
 intro q
 have key:∀k,k<p.length→lK cf l k=k:=by
  intro k hk
  cases k with
  |zero=>rfl
  |succ k=>
   rw[lK,aA];intro g
   have h:=ib hp (show k<p.length by omega)
   have j:=ib hp hk
   have h1:=(a.eq _ _ h j).1 g
   have m:=congrArg List.length h1
   rw[ej,ej]at m
   have:=qf hp (show k<p.length by omega) hk zE
   omega
 exact f (key k hk)
end
theorem Jp {p:List Int}{l c:List Nat}(h:qI p l)(d:qI p c):l=c:=by
 have hp:l.Perm c:=h.1.trans d.1.symm
 have e:∀{m:List Nat},qI p m→m.Pairwise (λa b=>eb (p.drop a) (p.drop b)=true):=λ{m} hm=>by
  rw[List.pairwise_iff_getElem];intro i j g f k
  have:=hm.2 i j k f
  rwa[aZ,aj g,aZ,aj f]at this
 exact hp.eq_of_pairwise (λa b _ _ h1 n=>by have:=oJ h1;rw[n]at this;cases this) (e h) (e d)
section
variable {p:List Int}
theorem FK {a b:Nat}(c:a≤p.length)(d:b≤p.length)(h:p.drop a=p.drop b):a=b:=by
 have:=congrArg List.length h
 simp only[List.length_drop]at this
 omega
abbrev Sx (p:List Int)(l:List Nat):Prop:=l.Pairwise (λa b=>eb (p.drop a) (p.drop b)=true)
theorem Zw {l:List Nat}(hp:l.Perm (List.range p.length))(h:Sx p l):qI p l:=by
 refine⟨hp,λj k a hk=> ?_⟩
 have:=List.pairwise_iff_getElem.1 h j k zE hk a
 rwa[aZ,aj (show j<l.length by omega),aZ,aj hk]
structure OA (p:List Int)(i:Nat)(A B:List Nat):Prop where
 perm:(A++B).Perm (List.range i)
 Zo:Sx p (A++B)
 less:∀b∈B,eb (p.drop i) (p.drop b)=true
theorem OA.step {i a:Nat}{A B:List Nat}(h:OA p i (A++ [a]) B)(d:eb (p.drop i) (p.drop a)=true):OA p i A (a::B):=
 ⟨by simpa using h.perm,by simpa using h.Zo,λb c=>by rcases bT.1 c with rfl|c;exact d;exact h.less b c⟩
theorem OA.done {i:Nat}{A B:List Nat}(h:OA p i A B)(k:i<p.length)(e:A=[]∨∃d a,A=d++ [a]∧eb (p.drop i) (p.drop a)=false):(A++i::B).Perm (List.range (i+1))∧Sx p (A++i::B):=by
 have f:∀x∈A++B,x<i:=λx hx=>cU.1 (h.perm.mem_iff.1 hx)
 constructor
 ·rw[mU]
  exact sN.trans ((h.perm.cons i).trans (List.perm_append_singleton i _).symm)
 ·have b:=qx.1 h.Zo
  have g:∀x∈A,eb (p.drop x) (p.drop i)=true:=by
   rcases e with rfl|⟨d,a,rfl,c⟩
   ·intro x hx;cases hx
   ·have last:eb (p.drop a) (p.drop i)=true:=by
     have j:=f a (by simp)
     rcases iD (p.drop a) (p.drop i)with q|q|q
     ·exact q
     ·have:=FK zE zE q;omega
     ·rw[c]at q;cases q
    intro x hx
    rcases cI.1 hx with hx|hx
    ·exact ef ((qx.1 b.1).2.2 x hx a (pq _)) last
    ·rw[bN.1 hx];exact last
  refine qx.2 ⟨b.1,fw.2 ⟨h.less,b.2.1⟩,?_⟩;intro x hx y hy
  rcases bT.1 hy with rfl|hy
  ·exact g x hx
  ·exact b.2.2 x hx y hy
def placesOf (p part:List Int):List Nat:=(List.range p.length).filter λi=>decide (pre p part.length i=part)
theorem uL {m i j:Nat}(h:eb (p.drop i) (p.drop j)=true):eb (pre p m j) (pre p m i)=false:=by
 have a:p.drop i=pre p m i++p.drop (i+m):=by unfold pre;rw[←List.drop_drop,jN]
 have e2:p.drop j=pre p m j++p.drop (j+m):=by unfold pre;rw[←List.drop_drop,jN]
 cases b:eb (pre p m j) (pre p m i)with
 |false=>rfl
 |true=>
  have:eb (p.drop j) (p.drop i)=true:=by
   rw[a,e2,pG,b]
   ·rfl
   ·rw[ej,ej]
    by_cases h1:min m (p.length-j)=min m (p.length-i)
    ·exact .inl h1
    ·rcases Nat.lt_or_gt_of_ne h1 with h|h
     ·exact .inr (.inl ⟨h,fS zE⟩)
     ·exact .inr (.inr ⟨h,fS zE⟩)
  rw[oJ h]at this
  cases this
theorem yh {n:Nat}{q:Nat→Bool}(hm:∀a b,a≤b→b<n→q a=true→q b=true):∀k,k<n→(q k=true↔(List.range n).countP (λi=> !q i)≤k):=by
 induction n with
 |zero=>intro k hk;omega
 |succ n d=>
  have f:∀a b,a≤b→b<n→q a=true→q b=true:=λa b h1 s g=>hm a b h1 zE g
  have hle:(List.range n).countP (λi=> !q i)≤n:=by have:=List.countP_le_length (p:=λi=> !q i) (l:=List.range n);rwa[db]at this
  intro k hk;rw[mU,List.countP_append]
  cases c:q n with
  |true=>
   have e:List.countP (λi=> !q i) [n]=0:=by simp[c]
   rw[e,fU]
   rcases cJ k n with h|h
   ·exact d f k h
   ·obtain rfl:k=n:=by omega
    simp[c,hle]
  |false=>
   have e:List.countP (λi=> !q i) [n]=1:=by simp[c]
   rw[e]
   have all:∀j,j≤n→q j=false:=λj m=>by
    cases o:q j with
    |false=>rfl
    |true=>have:=hm j n m zE o;rw[c]at this;cases this
   have full:(List.range n).countP (λi=> !q i)=n:=by
    have:(List.range n).countP (λi=> !q i)=(List.range n).length:=by
     rw[List.countP_eq_length];intro a r;rw[all a (by have:=cU.1 r;omega)];rfl
    rw[this,db]
   rw[full,all k zE]
   constructor
   ·intro h;cases h
   ·intro h;omega
theorem IV {l:List Nat}{Q:Nat→Bool}{a b:Nat}(d:a≤b)(f:b≤l.length)(h:∀k,k<l.length→(Q (l.getD k 0)=true↔a≤k∧k<b)):(l.drop a).take (b-a)=l.filter Q:=by
 have e:l=l.take a++((l.drop a).take (b-a)++l.drop b):=by
  have h1:l.drop b=(l.drop a).drop (b-a):=by rw[List.drop_drop];congr 1;omega
  rw[h1,jN,jN]
 have at_:∀k,k<l.length→l.getD k 0=l[k]!:=λk hk=>by rw[aZ,aj hk,getElem!_pos l k hk];rfl
 have f1:(l.take a).filter Q=[]:=by
  rw[List.filter_eq_nil_iff];intro x hx c;obtain⟨k,hk,rfl⟩:=lB.1 hx;rw[cy]at hk;rw[List.getElem_take]at c
  have:=(h k zE).1 (by rw[aZ,aj (show k<l.length by omega)];exact c)
  omega
 have f2:((l.drop a).take (b-a)).filter Q=(l.drop a).take (b-a):=by
  rw[List.filter_eq_self];intro x hx;obtain⟨k,hk,rfl⟩:=lB.1 hx;rw[cy,ur]at hk;rw[List.getElem_take,List.getElem_drop]
  have:=(h (a+k) zE).2 ⟨by omega,by omega⟩
  rwa[aZ,aj (show a+k<l.length by omega)]at this
 have f3:(l.drop b).filter Q=[]:=by
  rw[List.filter_eq_nil_iff];intro x hx c;obtain⟨k,hk,rfl⟩:=lB.1 hx;rw[ur]at hk;rw[List.getElem_drop]at c
  have:=(h (b+k) zE).1 (by rw[aZ,aj (show b+k<l.length by omega)];exact c)
  omega
 conv=>rhs;rw[e]
 rw[List.filter_append,List.filter_append,f1,f2,f3]
 simp
theorem JM {l:List Nat}{part:List Int}(f:qI p l){a b:Nat}(r:a=(List.range l.length).countP (λk=> !(!eb (pre p part.length (l.getD k 0)) part)))
 (g:b=(List.range l.length).countP (λk=> !(eb part (pre p part.length (l.getD k 0))))):a≤b∧b≤l.length∧((l.drop a).take (b-a)).Perm (placesOf p part):=by
 have m1:∀i j,i≤j→j<l.length→(!eb (pre p part.length (l.getD i 0)) part)=true→(!eb (pre p part.length (l.getD j 0)) part)=true:=by
  intro i j t o h
  rcases cJ i j with h1|h1
  ·have e:=uL (m:=part.length) (f.2 i j h1 o)
   cases c:eb (pre p part.length (l.getD j 0)) part with
   |false=>rfl
   |true=>
    exfalso
    rcases iD (pre p part.length (l.getD i 0)) (pre p part.length (l.getD j 0))with q|q|q
    ·rw[ef q c]at h;cases h
    ·rw[q,c]at h;cases h
    ·rw[e]at q;cases q
  ·obtain rfl:i=j:=by omega
   exact h
 have m2:∀i j,i≤j→j<l.length→eb part (pre p part.length (l.getD i 0))=true→eb part (pre p part.length (l.getD j 0))=true:=by
  intro i j t o h
  rcases cJ i j with h1|h1
  ·have e:=uL (m:=part.length) (f.2 i j h1 o)
   rcases iD (pre p part.length (l.getD i 0)) (pre p part.length (l.getD j 0))with q|q|q
   ·exact ef h q
   ·rw[←q];exact h
   ·rw[e]at q;cases q
  ·obtain rfl:i=j:=by omega
   exact h
 have c1:=yh (n:=l.length) (q:=λk=> !eb (pre p part.length (l.getD k 0)) part) m1
 have c2:=yh (n:=l.length) (q:=λk=>eb part (pre p part.length (l.getD k 0))) m2
 rw[←r]at c1;rw[←g]at c2
 have d:b≤l.length:=by rw[g];have:=List.countP_le_length (p:=λk=> !(eb part (pre p part.length (l.getD k 0)))) (l:=List.range l.length);rwa[db]at this
 have s:a≤b:=by
  rw[r,g]
  apply List.countP_mono_left
  intro k _ h
  cases c:eb part (pre p part.length (l.getD k 0))with
  |false=>rfl
  |true=>
   simp only[Bool.not_not]at h
   rw[oJ h]at c;cases c
 refine⟨s,d,?_⟩;rw[IV (Q:=λi=>decide (pre p part.length i=part)) s d]
 ·exact f.1.filter _
 ·intro k hk
  have d1:=c1 k hk
  have d2:=c2 k hk
  simp only[Bool.not_eq_true']at d1
  rw[eJ,←d1]
  constructor
  ·intro h
   rw[h,fQ]at d2⊢;refine⟨rfl,?_⟩
   apply Decidable.byContradiction
   intro u
   have:=d2.2 zE
   cases this
  ·rintro ⟨h1,e⟩
   rcases iD (pre p part.length (l.getD k 0)) part with q|q|q
   ·rw[h1]at q;cases q
   ·exact q
   ·have:=d2.1 q;omega
end
theorem NU {m l:List Nat}(h:m.Perm l)(e:l.Pairwise (· < ·)):(m.map (λi:Nat=>(i:Int))).mergeSort (λx y=>decide (x≤y))=l.map (λi:Nat=>(i:Int)):=by
 have h1:=List.pairwise_mergeSort (le:=λx y:Int=>decide (x≤y)) (λa b c h1 d=>by simp only[decide_eq_true_eq]at*;omega) (λa b=>by simp only[Bool.or_eq_true,decide_eq_true_eq];omega) (m.map (λi:Nat=>(i:Int)))
 have d:(l.map (λi:Nat=>(i:Int))).Pairwise (λa b=>decide (a≤b)=true):=by
  rw[oq];exact e.imp (λh=>by simp only[decide_eq_true_eq];omega)
 have hp:((m.map (λi:Nat=>(i:Int))).mergeSort (λx y=>decide (x≤y))).Perm (l.map (λi:Nat=>(i:Int))):=(List.mergeSort_perm _ _).trans (h.map _)
 exact hp.eq_of_pairwise (λa b _ _ h1 d=>by simp only[decide_eq_true_eq]at h1 d;omega) h1 d
theorem xS (p part:List Int):(placesOf p part).Pairwise (· < ·):=List.Pairwise.filter _ List.pairwise_lt_range
theorem wa {p part:List Int}{i:Nat}(h:i∈placesOf p part):i<p.length:=cU.1 (po.1 h).1
section
variable {n:Nat}{cf:Nat→Nat→Int}{l:List Nat}
theorem s7 {rk:List Int}{a:Nat}{x:Int}(h:a<rk.length):(rk.set a x).getD a 0=x:=by
 rw[aZ,fp h];rfl
theorem jT {rk:List Int}{a b:Nat}{x:Int}(h:a≠b):(rk.set a x).getD b 0=rk.getD b 0:=by
 rw[aZ,gV h,←aZ]
theorem RA {k:Nat}{rk:List Int}(hp:l.Perm (List.range n))(hk:k<n)(b:rk.length=n)(h:∀j,j<k→rk.getD (l.getD j 0) 0=lK cf l j)(a:¬(0<k∧cf (l.getD (k-1) 0) (l.getD k 0)=0)):
 ∀j,j<k+1→(rk.set (l.getD k 0) (k:Int)).getD (l.getD j 0) 0=lK cf l j:=by
 intro j d
 rcases cJ j k with h1|h1
 ·rw[jT (λe=>by have:=qf hp hk (show j<n by omega) e;omega)]
  exact h j h1
 ·obtain rfl:j=k:=by omega
  rw[s7 (by rw[b];exact ib hp hk)]
  cases j with
  |zero=>rfl
  |succ j=>
   have c:j+1-1=j:=by omega
   rw[c]at a;rw[lK,aA (λe=>a ⟨by omega,e⟩)]
theorem RB {k:Nat}{rk:List Int}(hp:l.Perm (List.range n))(hk:k<n)(a:rk.length=n)(h:∀j,j<k→rk.getD (l.getD j 0) 0=lK cf l j)(b:0<k∧cf (l.getD (k-1) 0) (l.getD k 0)=0):
 ∀j,j<k+1→((rk.set (l.getD k 0) (k:Int)).set (l.getD k 0) ((rk.set (l.getD k 0) (k:Int)).getD (l.getD (k-1) 0) 0)).getD (l.getD j 0) 0=lK cf l j:=by
 intro j c
 rcases cJ j k with h1|h1
 ·have ne:l.getD k 0≠l.getD j 0:=λe=>by have:=qf hp hk (show j<n by omega) e;omega
  rw[jT ne,jT ne];exact h j h1
 ·obtain rfl:j=k:=by omega
  rw[s7 (by rw[eC,a];exact ib hp hk),jT (λe=>by have:=qf hp hk (show j-1<n by omega) e;omega),h (j-1) zE]
  obtain⟨i,rfl⟩:∃i,j=i+1:=⟨j-1,by omega⟩
  rw[lK,aB (by simpa using b.2)];rfl
def pE (n k:Nat):List Int:=(List.range n).map λi=>if i<k then(i:Int)else 0
theorem Fe (n:Nat):pE n 0=List.replicate n 0:=by
 apply jh
 intro i
 simp only[pE,List.getElem?_map,List.getElem?_replicate,Nat.not_lt_zero,if_false]
 by_cases h:i<n
 ·rw[jy h];simp[h]
 ·rw[fT (by simp;omega)];simp[h]
theorem J2 {n k:Nat}(h:k<n):(pE n k).set k (k:Int)=pE n (k+1):=by
 apply jh
 intro i
 simp only[pE,List.getElem?_set,List.getElem?_map,List.length_map,List.length_range]
 by_cases b:i<n
 ·rw[jy b]
  by_cases e:k=i
  ·subst e;simp[h]
  ·simp only[e,if_false,Option.map_some,Option.some.injEq]
   by_cases a:i<k
   ·rw[aB a,aB zE]
   ·rw[aA a,aA zE]
 ·have c:(List.range n)[i]?=none:=fT (by simp;omega)
  rw[c,aA zE];rfl
theorem J1 {n k:Nat}(h:n≤k):pE n k=(List.range n).map (λi:Nat=>(i:Int)):=by
 unfold pE
 apply qw
 intro i a;rw[aB (by have:=cU.1 a;omega)]
end
theorem Rs (p:List Int):∃l,qI p l:=by
 let le:Nat→Nat→Bool:=λi j=> !eb (p.drop j) (p.drop i)
 have hp:((List.range p.length).mergeSort le).Perm (List.range p.length):=List.mergeSort_perm _ _
 refine⟨(List.range p.length).mergeSort le,Zw hp ?_⟩
 have k:((List.range p.length).mergeSort le).Pairwise (λa b=>le a b=true):=List.pairwise_mergeSort (λa b c h1 e=>by
  simp only[le,Bool.not_eq_true']at h1 e⊢
  cases d:eb (p.drop c) (p.drop a)with
  |false=>rfl
  |true=>
   rcases iD (p.drop b) (p.drop c)with t|t|t
   ·rw[ef t d]at h1;cases h1
   ·rw[t,d]at h1;cases h1
   ·rw[t]at e;cases e) (λa b=>by
  simp only[le,Bool.or_eq_true,Bool.not_eq_true']
  cases d:eb (p.drop b) (p.drop a)with
  |false=>exact .inl rfl
  |true=>exact .inr (oJ d)) _
 have m:((List.range p.length).mergeSort le).Nodup:=zV hp
 have g:∀a∈(List.range p.length).mergeSort le,a<p.length:=λa f=>cU.1 (hp.mem_iff.1 f)
 refine uo ?_ (k.and m);intro a b f n h
 have h1:eb (p.drop b) (p.drop a)=false:=by simpa[le]using h.1
 rcases iD (p.drop a) (p.drop b)with t|t|t
 ·exact t
 ·exact absurd (FK (Nat.le_of_lt (g a f)) (Nat.le_of_lt (g b n)) t) h.2
 ·rw[h1]at t;cases t
noncomputable def dh (p:List Int):List Nat:=Classical.choose (Rs p)
theorem kV (p:List Int):qI p (dh p):=Classical.choose_spec (Rs p)
theorem Gz {p:List Int}{l:List Nat}(h:qI p l):l=dh p:=Jp h (kV p)
def Fv:List Int→List Int→Int
 | [],[]=>0
 | [],_::_=> -1
 |_::_,[]=>1
 |x::a,y::b=>if zm x y≠0 then zm x y else Fv a b
theorem C5 (a b:Int):(a<b∧zm a b= -1)∨(a=b∧zm a b=0)∨(b<a∧zm a b=1):=by
 unfold zm
 rcases Int.lt_trichotomy a b with h|h|h
 ·rw[aB h];exact .inl ⟨h,rfl⟩
 ·rw[aA zE,aA zE];exact .inr (.inl ⟨h,rfl⟩)
 ·rw[aA zE,aB h];exact .inr (.inr ⟨h,rfl⟩)
theorem L9:∀a b:List Int,decide (Fv a b≥0)= !eb a b
 | [],[]=>rfl
 | [],_::_=>rfl
 |_::_,[]=>rfl
 |x::a,y::b=>by
  have c:=L9 a b
  rw[Fv,eb]
  rcases C5 x y with⟨h,e⟩|⟨h,e⟩|⟨h,e⟩
  ·rw[e,aB (by decide),dI h];rfl
  ·subst h
   rw[e,aA (by decide),c];simp
  ·rw[e,aB (by decide),e9 (show ¬x<y by omega),e9 (show ¬x=y by omega)];rfl
theorem LA:∀a b:List Int,decide (Fv a b>0)=eb b a
 | [],[]=>rfl
 | [],_::_=>rfl
 |_::_,[]=>rfl
 |x::a,y::b=>by
  have c:=LA a b
  rw[Fv,eb]
  rcases C5 x y with⟨h,e⟩|⟨h,e⟩|⟨h,e⟩
  ·rw[e,aB (by decide),e9 (show ¬y<x by omega),e9 (show ¬y=x by omega)];rfl
  ·subst h
   rw[e,aA (by decide),c];simp
  ·rw[e,aB (by decide),dI h];rfl
theorem Je {n i:Nat}{q:Nat→Bool}(g:i≤n)(h1:∀k,k<i→q k=false)(d:∀k,i≤k→k<n→q k=true):(List.range n).countP (λk=> !q k)=i:=by
 obtain⟨m,rfl⟩:∃m,n=i+m:=⟨n-i,by omega⟩
 rw[List.range_add,List.countP_append]
 have e:(List.range i).countP (λk=> !q k)=i:=by
  have:(List.range i).countP (λk=> !q k)=(List.range i).length:=by
   rw[List.countP_eq_length];intro a c
   rw[h1 a (cU.1 c)];rfl
  rw[this,db]
 have e2:((List.range m).map (i+ ·)).countP (λk=> !q k)=0:=by
  rw[List.countP_eq_zero];intro a c;obtain⟨b,f,rfl⟩:=cA.1 c;rw[d (i+b) zE (by have:=cU.1 f;omega)]
  simp
 rw[e,e2,fU]
theorem LS {p:List Int}{m i:Nat}(a:i≤p.length):(p.drop i).take (min p.length (i+m)-i)=pre p m i:=by
 unfold pre
 rcases Nat.le_total p.length (i+m)with h|h
 ·rw[gB h,dV (by simp),dV (by simp;omega)]
 ·rw[Nat.min_eq_right h,show i+m-i=m by omega]
def pg (s:List ab)(a:Int):Int×Int:=if s.length=0∨12<s.length then(9,a)else if s.all isWord then(0,0)else(10,a)
def lF:Int→List (List ab)→Int×Int
 |_,[]=>(0,0)
 |k,s::l=>if(pg s k).1≠0 then pg s k else lF (k+1) l
def rP (l:List (List ab)):Int×Int:=if 100<l.length then(2,-1)else lF 0 l
def j5:Int→List ab→Int×Int
 |_,[]=>(0,0)
 |k,w::p=>if isWord w then j5 (k+1) p else(10,k)
def pe (p:List ab):Int×Int:=if p.length=0∨12<p.length then(9,-1)else j5 0 p
theorem kP {p:List ab}{k:Nat}{w:ab}(h:p[k]?=some w):j5 k (p.drop k)=if isWord w then j5 ((k+1:Nat):Int) (p.drop (k+1))else(10,(k:Int)):=by
 rw[bA h,j5,Int.natCast_add];rfl
theorem tY {l:List (List ab)}{k:Nat}{s:List ab}(h:l[k]?=some s):lF k (l.drop k)=if(pg s k).1≠0 then pg s k else lF ((k+1:Nat):Int) (l.drop (k+1)):=by
 rw[bA h,lF,Int.natCast_add];rfl
theorem Rb {s:List ab}{a:Int}(h:(pg s a).1=0):0<s.length∧s.length≤12∧s.all isWord=true:=by
 unfold pg at h
 split at h
 ·cases h
 ·split at h
  ·rename_i h1 b;exact⟨by omega,by omega,b⟩
  ·cases h
theorem yf:∀{l:List (List ab)} {k:Int},(lF k l).1=0→lF k l=(0,0)∧∀s∈l,0<s.length∧s.length≤12∧s.all isWord=true
 | [],k,_=>⟨rfl,λs h=>by cases h⟩
 |s::l,k,h=>by
  unfold lF at h⊢
  by_cases h1:(pg s k).1≠0
  ·rw[aB h1]at h;exact absurd h h1
  ·rw[aA h1]at h⊢
   obtain⟨a,b⟩:=yf h;refine⟨a,λx hx=> ?_⟩
   rcases bT.1 hx with rfl|hx
   ·exact Rb (Classical.not_not.1 h1)
   ·exact b x hx
structure ow (l:List (List ab)):Prop where
 len:l.length≤100
 each:∀s∈l,0<s.length∧s.length≤12∧s.all isWord=true
theorem DG {l:List (List ab)}(h:(rP l).1=0):rP l=(0,0)∧ow l:=by
 unfold rP at h⊢
 by_cases h1:100<l.length
 ·rw[aB h1]at h;cases h
 ·rw[aA h1]at h⊢
  obtain⟨a,b⟩:=yf h;exact⟨a,by omega,b⟩
theorem ow.nil:ow []:=⟨by simp,λs h=>by cases h⟩
def ja (s:List ab)(k:Nat)(p:List ab):Bool:=decide ((s.drop k).take p.length=p)
theorem uY {s p:List ab}{k:Nat}(hk:k≤s.length):ja s k p=true↔k+p.length≤s.length∧∀j,j<p.length→s[k+j]?=p[j]?:=by
 unfold ja;rw[eJ]
 constructor
 ·intro h
  have b:=congrArg List.length h
  simp only[List.length_take,List.length_drop]at b
  refine⟨by omega,λj a=> ?_⟩
  have:=congrArg (λl=>l[j]?) h
  simp only[List.getElem?_take,List.getElem?_drop,if_pos a]at this
  exact this
 ·rintro ⟨h1,c⟩
  apply jh
  intro j;rw[om,x9]
  split
  ·rename_i a;exact c j a
  ·rename_i a;rw[fT zE]
def Iv (p:List ab)(i:Nat)(s:List ab):List (Nat×Nat):=((List.range s.length).filter λk=>ja s k p).map λk=>(i,k)
def gn (p:List ab):Nat→List (List ab)→List (Nat×Nat)
 |_,[]=>[]
 |i,s::l=>Iv p i s++gn p (i+1) l
def fP (l:List (List ab))(p:List ab):List (Nat×Nat):=gn p 0 l
theorem u6 {p:List ab}:∀{l:List (List ab)} {i:Nat} {h:Nat×Nat},h∈gn p i l→∃s,i≤h.1∧l[h.1-i]?=some s∧h.2<s.length∧ja s h.2 p=true
 | [],i,h,a=>by cases a
 |s::l,i,h,a=>by
  rcases cI.1 a with q|q
  ·obtain⟨k,hk,rfl⟩:=cA.1 q
   obtain⟨b,c⟩:=po.1 hk;exact⟨s,aQ _,by simp,cU.1 b,c⟩
  ·obtain⟨d,h1,e,f,g⟩:=u6 q
   refine⟨d,by omega,?_,f,g⟩;rw[show h.1-i=(h.1-(i+1))+1 by omega];exact e
theorem Iw {p:List ab}{l:List (List ab)}{h:Nat×Nat}(a:h∈fP l p):∃s,l[h.1]?=some s∧h.2<s.length∧ja s h.2 p=true:=by
 obtain⟨s,_,b,c,d⟩:=u6 a;exact⟨s,b,c,d⟩
def ew (f:ab→Nat)(l:List (List ab)):List Nat:=l.flatMap λs=>s.map f++ [0]
def cC:Nat→List (List ab)→List (Nat×Nat)
 |_,[]=>[]
 |i,s::l=>(List.range (s.length+1)).map (λk=>(i,k))++cC (i+1) l
theorem pN (f:ab→Nat):∀(l:List (List ab)) (i:Nat),(cC i l).length=(ew f l).length
 | [],_=>rfl
 |s::l,i=>by
  have:=pN f l (i+1)
  simp only[cC,ew,List.flatMap_cons,List.length_append,List.length_map,List.length_range,List.length_singleton]at this⊢
  omega
def hz {β:Type}(q:List Nat):List Nat→List β→List β
 |x::a,z::b=>if(x::a).take q.length=q then z::hz q a b else hz q a b
 |_,_=>[]
theorem De {β:Type}{q:List Nat}{x:Nat}{a:List Nat}{z:β}{b:List β}:hz q (x::a) (z::b)=if(x::a).take q.length=q then z::hz q a b else hz q a b:=by rw[hz]
theorem XI {β:Type}(q:List Nat)(c:q≠ [])(d:β):∀(a:List Nat) (b:List β),a.length=b.length→((List.range a.length).filter λi=>decide ((a.drop i).take q.length=q)).map (λi=>b.getD i d)=hz q a b
 | [],b,_=>by simp[hz]
 |x::a,[],h=>by simp at h
 |x::a,z::b,h=>by
  have f:=XI q c d a b (by simpa using h)
  rw[eU,List.range_succ_eq_map,List.filter_cons,List.filter_map]
  have e:((List.range a.length).filter ((λi=>decide (((x::a).drop i).take q.length=q))∘Nat.succ)).map (λi=>(z::b).getD (i+1) d)=hz q a b:=by
   rw[←f]
   congr 1
  simp only[List.drop_zero]
  rw[De]
  by_cases h1:(x::a).take q.length=q
  ·rw[aB (by simpa using h1),aB h1,eV,iX]
   show _::((List.range a.length).filter _).map _=_
   rw[←e];rfl
  ·rw[aA (by simpa using h1),aA h1,iX]
   rw[←e];rfl
theorem sJ {q a b:List Nat}(c:0∉q):(a++0::b).take q.length=q↔a.take q.length=q:=by
 rcases cJ a.length q.length with h|h
 ·constructor
  ·intro e
   exfalso
   apply c
   rw[←e];rw[List.take_append];refine iY _ ?_
   obtain⟨k,hk⟩:∃k,q.length-a.length=k+1:=⟨q.length-a.length-1,by omega⟩
   rw[hk];simp
  ·intro e
   have:=congrArg List.length e
   rw[cy]at this;omega
 ·rw[List.take_append_of_le_length h]
theorem zL {f:ab→Nat}(d:∀a b,f a=f b→f a≠0→a=b):∀{a b:List ab},a.map f=b.map f→(0:Nat)∉b.map f→a=b
 | [],[],_,_=>rfl
 | [],_::_,h,_=>by simp at h
 |_::_,[],h,_=>by simp at h
 |x::a,y::b,h,c=>by
  simp only[List.map_cons,List.cons.injEq,List.mem_cons,not_or]at h c
  rw[d x y h.1 (by rw[h.1];exact λe=>c.1 e.symm),zL d h.2 c.2]
theorem L3 {f:ab→Nat}(g:∀a b,f a=f b→f a≠0→a=b){p:List ab}(hp:p≠ [])(c:0∉p.map f)(i:Nat)(rest:List Nat)(d:List (Nat×Nat)):
 ∀(s:List ab) (k:Nat),hz (p.map f) (s.map f++0::rest) ((List.range' k (s.length+1)).map (λk=>(i,k))++d)=((List.range' k s.length).filter (λj=>decide ((s.drop (j-k)).take p.length=p))).map (λj=>(i,j))++hz (p.map f) rest d
 | [],k=>by
  simp only[List.map_nil,List.nil_append,List.length_nil,Nat.zero_add,List.range'_one,List.map_cons,List.cons_append,List.range'_zero,List.filter_nil,De]
  rw[aA];intro e
  have:=(sJ (q:=p.map f) (a:=[]) (b:=rest) c).1 e
  simp at this
  exact hp this
 |w::s,k=>by
  have h:=L3 g hp c i rest d s (k+1)
  rw[eU,List.range'_succ (s:=k) (n:=s.length+1),List.range'_succ (s:=k) (n:=s.length),eV,eV,jg,jg,List.filter_cons,De]
  have l:((f w::(s.map f++0::rest)).take (p.map f).length=p.map f)↔(w::s).take p.length=p:=by
   have:=sJ (q:=p.map f) (a:=(w::s).map f) (b:=rest) c
   rw[eV,jg]at this;rw[this,aR,←eV,←List.map_take];exact⟨λe=>zL g e c,λe=>by rw[e]⟩
  have e2:((List.range' (k+1) s.length).filter λj=>decide (((w::s).drop (j-k)).take p.length=p))=(List.range' (k+1) s.length).filter λj=>decide ((s.drop (j-(k+1))).take p.length=p):=by
   apply List.filter_congr
   intro j m
   have:=(List.mem_range'_1.1 m).1
   rw[show j-k=(j-(k+1))+1 by omega,List.drop_succ_cons]
  rw[e2,eX,List.drop_zero]
  by_cases h1:(w::s).take p.length=p
  ·rw[aB (l.2 h1),aB (by simpa using h1),eV,jg,h]
  ·rw[aA (λe=>h1 (l.1 e)),aA (by simpa using h1),h]
theorem L2 {f:ab→Nat}(c:∀a b,f a=f b→f a≠0→a=b){p:List ab}(hp:p≠ [])(d:0∉p.map f):∀(l:List (List ab)) (i:Nat),hz (p.map f) (ew f l) (cC i l)=gn p i l
 | [],i=>by unfold hz;rfl
 |s::l,i=>by
  have g:=L2 c hp d l (i+1)
  have e:=L3 c hp d i (ew f l) (cC (i+1) l) s 0
  simp only[Nat.sub_zero,←List.range_eq_range']at e
  have h:ew f (s::l)=s.map f++0::ew f l:=by simp[ew]
  rw[h,cC,e,g];rfl
theorem Bc {f:ab→Nat}{p:List ab}(a:0∈p.map f):∀(l:List (List ab)) (i:Nat),(∀s∈l,∀w∈s,f w≠0)→gn p i l=[]
 | [],i,_=>rfl
 |s::l,i,h=>by
  rw[gn,Bc a l (i+1) λx hx=>h x (bV _ hx),fV];unfold Iv;rw[List.map_eq_nil_iff,List.filter_eq_nil_iff];intro k _ hk;obtain⟨w,hw,b⟩:=cA.1 a
  have e:(s.drop k).take p.length=p:=by simpa[ja]using hk
  rw[←e]at hw;exact h s (aV ..) w (HU (xA hw)) b
def below (W:List ab)(w:ab):Nat:=W.countP λx=>Op.bytesLess x w
def numOf (W:List ab)(w:ab):Nat:=if W[below W w]?=some w then below W w+1 else 0
theorem NH {W:List ab}:∀a b,numOf W a=numOf W b→numOf W a≠0→a=b:=by
 intro a b h e;unfold numOf at h e
 by_cases c:W[below W a]?=some a
 ·rw[aB c]at h
  by_cases d:W[below W b]?=some b
  ·rw[aB d]at h
   have:below W a=below W b:=by omega
   rw[this]at c;rw[c]at d;exact Option.some.inj d
  ·rw[aA d]at h;omega
 ·rw[aA c]at e;exact absurd rfl e
theorem GK (W:List ab)(w:ab):numOf W w≤W.length:=by
 unfold numOf
 split
 ·rename_i h;have:=(eh.1 h).1;omega
 ·exact aP _
def OG (W:List ab):Prop:=W.Pairwise λa b=>Op.bytesLess a b=true
theorem wP {W A B:List ab}{w:ab}(a:W=A++B)(b:∀x∈A,Op.bytesLess x w=true)(c:∀x∈B,Op.bytesLess x w=false):below W w=A.length:=by
 unfold below;rw[a,List.countP_append,List.countP_eq_length.2 (by simpa using b),List.countP_eq_zero.2 (by intro x hx;rw[c x hx];decide)];rfl
theorem NI {W:List ab}(b:OG W){w:ab}(hw:w∈W):numOf W w≠0:=by
 obtain⟨A,B,a⟩:=List.append_of_mem hw;unfold OG at b;rw[a]at b
 have h1:=qx.1 b
 have c:=fw.1 h1.2.1
 have e:=wP a (λx hx=>h1.2.2 x hx w (aV ..)) (λx hx=>by
  rcases bT.1 hx with rfl|hx
  ·exact mO _
  ·exact vu (c.1 x hx))
 unfold numOf;rw[e,a,jM (aQ _),eX,List.getElem?_cons_zero,aB rfl];omega
theorem OX {W:List ab}(c:OG W){w:ab}{k:Nat}(hk:k≤W.length)(h1:∀j x,j<k→W[j]?=some x→Op.bytesLess x w=true)(b:∀j x,k≤j→W[j]?=some x→Op.bytesLess x w=false):below W w=k:=by
 have e:=wP (W:=W) (A:=W.take k) (B:=W.drop k) (w:=w) (jN k W).symm (λx hx=>by
  obtain⟨j,a,he⟩:=lB.1 hx;rw[cy]at a;rw[List.getElem_take]at he
  exact h1 j x zE (by rw[aj zE,he])) (λx hx=>by
  obtain⟨j,a,he⟩:=lB.1 hx;rw[ur]at a;rw[List.getElem_drop]at he
  exact b (k+j) x zE (by rw[aj zE,he]))
 rw[e,cy];omega
theorem Rl {W:List ab}(a:OG W){i j:Nat}{x y:ab}(hx:W[i]?=some x)(hy:W[j]?=some y)(b:i<j):Op.bytesLess x y=true:=by
 obtain⟨c,rfl⟩:=eh.1 hx;obtain⟨d,rfl⟩:=eh.1 hy;exact List.pairwise_iff_getElem.1 a i j c d b
theorem Ma {W:List ab}{l:List (List ab)}{p:List ab}(hp:p≠ [])(a:0∉p.map (numOf W)):
 ((List.range (ew (numOf W) l).length).filter λi=>decide (((ew (numOf W) l).drop i).take (p.map (numOf W)).length=p.map (numOf W))).map (λi=>(cC 0 l).getD i (0,0))=fP l p:=by
 rw[XI _ (by simpa using hp) _ _ _ (pN _ _ _).symm,L2 NH hp a];rfl
section
variable (e:Nat→Nat→Bool)
def ES:Nat→List Nat→List Nat
 |_,[]=>[]
 |p,x::l=>if e x p then ES x l else x::ES x l
def dd:List Nat→List Nat
 | []=>[]
 |x::l=>x::ES e x l
theorem FH (x:Nat):∀(l:List Nat) (p:Nat),ES e p (l++ [x])=if e x (l.getLastD p)then ES e p l else ES e p l++ [x]
 | [],p=>by simp[ES]
 |y::l,p=>by
  rw[jg,ES,ES,FH x l y]
  have h:(y::l).getLastD p=l.getLastD y:=by cases l<;>rfl
  rw[h]
  by_cases h1:e y p=true
  ·rw[aB h1,aB h1]
  ·rw[aA h1,aA h1]
   split<;>rfl
theorem xd {l:List Nat}{j:Nat}(d:0<j)(b:j<l.length):dd e (l.take (j+1))=if e (l.getD j 0) (l.getD (j-1) 0)then dd e (l.take j)else dd e (l.take j)++ [l.getD j 0]:=by
 have hx:l[j]?=some (l.getD j 0):=by rw[aZ,aj b];rfl
 have hy:l[j-1]?=some (l.getD (j-1) 0):=by rw[aZ,aj (show j-1<l.length by omega)];rfl
 rw[aO hx]
 cases l with
 |nil=>simp at b
 |cons a l=>
  obtain⟨i,rfl⟩:∃i,j=i+1:=⟨j-1,by omega⟩
  rw[List.take_succ_cons,jg,dd,dd,FH]
  have c:(l.take i).getLastD a=(a::l).getD (i+1-1) 0:=by
   rw[Nat.add_sub_cancel]
   cases i with
   |zero=>simp
   |succ i=>
    simp only[List.length_cons]at b
    have hz:l[i]?=some (l.getD i 0):=by rw[aZ,aj (show i<l.length by omega)];rfl
    rw[aO hz]
    simp[List.getLastD_eq_getLast?]
  rw[c]
  split<;>rfl
theorem YY:∀(l:List Nat),(dd e l).length≤l.length
 | []=>aQ _
 |x::l=>by
  have:∀(l:List Nat) (p:Nat),(ES e p l).length≤l.length:=by
   intro l
   induction l with
   |nil=>intro p;exact aQ _
   |cons y l a=>intro p;rw[ES];split<;>simp only[List.length_cons]<;>have:=a y<;>omega
  rw[dd,eU,eU]
  have:=this l x
  omega
theorem xc {l:List Nat}:∀k,k≤l.length→(∀j,0<j→j<k→e (l.getD j 0) (l.getD (j-1) 0)=false)→dd e (l.take k)=l.take k
 |0,_,_=>by simp[dd]
 |1,h,_=>by cases l with
  |nil=>simp[dd]
  |cons x l=>simp[dd,ES]
 |k+2,h,a=>by
  rw[xd e zE zE,aA (by rw[a (k+1) zE zE];decide),xc (k+1) zE (λj h1 b=>a j h1 zE)]
  have hx:l[k+1]?=some (l.getD (k+1) 0):=by rw[aZ,aj (show k+1<l.length by omega)];rfl
  exact(aO hx).symm
structure CF (l:List Nat)(j k:Nat)(W:List Nat):Prop where
 len:W.length=l.length
 kj:k<j
 jl:j≤l.length
 num:k=(dd e (l.take j)).length
 out:W.take k=dd e (l.take j)
 rest:∀i,j≤i+1→W.getD i 0=l.getD i 0
theorem CF.start {l:List Nat}{k:Nat}(b:0<k)(hk:k<l.length)(c:∀j,0<j→j<k→e (l.getD j 0) (l.getD (j-1) 0)=false)(he:e (l.getD k 0) (l.getD (k-1) 0)=true):CF e l (k+1) k l:=by
 have h1:=xc e k zE c
 have a:dd e (l.take (k+1))=l.take k:=by rw[xd e b hk,aB he,h1]
 exact⟨rfl,by omega,by omega,by rw[a,cy];omega,a.symm,λi _=>rfl⟩
theorem CF.skip {l W:List Nat}{j k:Nat}(h:CF e l j k W)(b:j<l.length)(he:e (l.getD j 0) (l.getD (j-1) 0)=true):CF e l (j+1) k W:=by
 have a:dd e (l.take (j+1))=dd e (l.take j):=by rw[xd e (by have:=h.kj;omega) b,aB he]
 exact⟨h.len,by have:=h.kj;omega,by omega,by rw[a];exact h.num,by rw[a];exact h.out,λi c=>h.rest i zE⟩
theorem CF.pF {l W:List Nat}{j k:Nat}(h:CF e l j k W)(b:j<l.length)(he:e (l.getD j 0) (l.getD (j-1) 0)=false):CF e l (j+1) (k+1) (W.set k (l.getD j 0)):=by
 have c:=h.kj
 have a:dd e (l.take (j+1))=dd e (l.take j)++ [l.getD j 0]:=by rw[xd e zE b,aA (by rw[he];decide)]
 have d:=h.len
 refine⟨by rw[eC,h.len],by omega,by omega,by rw[a,bJ,←h.num];rfl,?_,λi f=> ?_⟩
 ·rw[a,←h.out]
  have hx:(W.set k (l.getD j 0))[k]?=some (l.getD j 0):=by rw[fp zE]
  rw[aO hx,List.take_set_of_le (aQ _)]
 ·rw[←h.rest i zE]
  rw[aZ,gV zE,←aZ]
end
section
variable (f:Nat→List ab)
def T8 (i j:Nat):Bool:=decide (f i=f j)
theorem Kj:∀(l:List Nat) (p:Nat),(∀x∈l,CV (f x) (f p)=false)→l.Pairwise (λa b=>CV (f b) (f a)=false)→(∀x∈ES (T8 f) p l,CV (f p) (f x)=true)∧(ES (T8 f) p l).Pairwise (λa b=>CV (f a) (f b)=true)∧(∀x∈l,f x=f p∨∃y∈ES (T8 f) p l,f y=f x)
 | [],p,_,_=>⟨(λx hx=>by cases hx),List.Pairwise.nil,(λx hx=>by cases hx)⟩
 |y::l,p,h,g=>by
  have c:=fw.1 g
  obtain⟨i1,i2,i3⟩:=Kj l y c.1 c.2
  have hy:=h y (aV ..)
  rw[ES]
  by_cases e:f y=f p
  ·rw[aB (show T8 f y p=true from dI e)]
   rw[←e];refine⟨i1,i2,λx hx=> ?_⟩
   rcases bT.1 hx with rfl|hx
   ·exact .inl rfl
   ·exact i3 x hx
  ·rw[aA (show ¬T8 f y p=true by unfold T8;simpa using e)]
   have d:CV (f p) (f y)=true:=by
    rcases M7 (f p) (f y)with q|q|q
    ·exact q
    ·exact absurd q.symm e
    ·rw[hy]at q;cases q
   refine⟨λx hx=> ?_,fw.2 ⟨i1,i2⟩,λx hx=> ?_⟩
   ·rcases bT.1 hx with rfl|hx
    ·exact d
    ·exact CW d (i1 x hx)
   ·rcases bT.1 hx with rfl|hx
    ·exact .inr ⟨x,aV ..,rfl⟩
    ·rcases i3 x hx with q|⟨z,hz,q⟩
     ·exact .inr ⟨y,aV ..,q.symm⟩
     ·exact .inr ⟨z,bV _ hz,q⟩
theorem YX {l:List Nat}(d:l.Pairwise (λa b=>CV (f b) (f a)=false)):(dd (T8 f) l).Pairwise (λa b=>CV (f a) (f b)=true)∧(∀x∈l,∃y∈dd (T8 f) l,f y=f x):=by
 cases l with
 |nil=>exact⟨.nil,λx hx=>by cases hx⟩
 |cons y l=>
  have c:=fw.1 d
  obtain⟨i1,i2,i3⟩:=Kj f l y c.1 c.2;refine⟨fw.2 ⟨i1,i2⟩,λx hx=> ?_⟩
  rcases bT.1 hx with rfl|hx
  ·exact⟨x,aV ..,rfl⟩
  ·rcases i3 x hx with q|⟨z,hz,q⟩
   ·exact⟨y,aV ..,q.symm⟩
   ·exact⟨z,bV _ hz,q⟩
theorem DI (e:Nat→Nat→Bool):∀(l:List Nat) (p x:Nat),x∈ES e p l→x∈l
 | [],_,_,h=>h
 |y::l,p,x,h=>by
  rw[ES]at h
  split at h
  ·exact bV _ (DI e l y x h)
  ·rcases bT.1 h with rfl|h
   ·exact aV ..
   ·exact bV _ (DI e l y x h)
theorem YZ (e:Nat→Nat→Bool){l:List Nat}{x:Nat}(h:x∈dd e l):x∈l:=by
 cases l with
 |nil=>exact h
 |cons y l=>
  rcases bT.1 h with rfl|h
  ·exact aV ..
  ·exact bV _ (DI e l y x h)
end
def qk (xs:List ab):List ab:=xs.mergeSort λx y=>decide (x≤y)
theorem xz (x y:ab):(decide (x≤y)=true)↔Op.bytesLess y x=false:=by
 rw[eJ,←List.not_lt,Go.Proofs.bytesLess_eq,wH]
theorem zp (xs:List ab):(qk xs).Perm xs:=List.mergeSort_perm _ _
theorem uX (xs:List ab):(qk xs).Pairwise λa b=>Op.bytesLess b a=false:=by
 have h:=List.pairwise_mergeSort (le:=λx y:ab=>decide (x≤y)) (λa b c h1 e=>by
  rw[xz]at h1 e⊢
  cases d:Op.bytesLess c a with
  |false=>rfl
  |true=>
   rcases E9 a b with t|t|t
   ·have:=lV d t;rw[e]at this;cases this
   ·subst t;rw[e]at d;cases d
   ·rw[h1]at t;cases t) (λa b=>by
  rw[Bool.or_eq_true,xz,xz]
  cases d:Op.bytesLess b a with
  |false=>exact .inl rfl
  |true=>exact .inr (vu d)) xs
 exact h.imp λh=>(xz _ _).1 h
def Ac (xs:List ab)(i:Nat):ab:=xs.getD i []
def UP (xs:List ab):List ab:=(dd (λa b=>Ac xs a==Ac xs b) (List.range xs.length)).map (Ac xs)
theorem Bt (xs:List ab):(List.range xs.length).map (Ac xs)=xs:=by
 apply List.ext_getElem
 ·simp
 ·intro i h1 a
  rw[List.getElem_map,List.getElem_range];unfold Ac
  rw[aZ,aj a];rfl
theorem M6 (a b:ab):CV [a] [b]=Op.bytesLess a b:=by simp[CV]
theorem FG {xs:List ab}(d:xs.Pairwise λa b=>Op.bytesLess b a=false):OG (UP xs)∧∀w,w∈UP xs↔w∈xs:=by
 have e:(λa b=>Ac xs a==Ac xs b)=T8 λi=>[Ac xs i]:=by
  funext a b
  unfold T8
  rw[rh];simp
 have hp:(List.range xs.length).Pairwise λa b=>CV [Ac xs b] [Ac xs a]=false:=by
  rw[←Bt xs]at d
  exact(oq.1 d).imp λh=>by rw[M6];exact h
 obtain⟨h1,f⟩:=YX (λi=>[Ac xs i]) hp;unfold UP;rw[e];refine⟨oq.2 (h1.imp λh=>by rw[M6]at h;exact h),λw=> ?_⟩
 constructor
 ·intro h
  obtain⟨i,c,rfl⟩:=cA.1 h
  have:=cU.1 (YZ _ c)
  unfold Ac
  rw[aZ,aj this];exact fq this
 ·intro h
  obtain⟨i,c,rfl⟩:=lB.1 h;obtain⟨y,hy,he⟩:=f i (cU.2 c);refine cA.2 ⟨y,hy,?_⟩
  simp only[List.cons.injEq,and_true]at he
  rw[he];unfold Ac
  rw[aZ,aj c];rfl
theorem Ki (xs:List ab):(UP xs).length≤xs.length:=by
 unfold UP;rw[aR]
 have:=YY (λa b=>Ac xs a==Ac xs b) (List.range xs.length)
 rwa[db]at this
def ak (l:List (List ab)):List ab:=UP (qk l.flatten)
theorem nN (l:List (List ab)):OG (ak l):=(FG (uX _)).1
theorem qt (l:List (List ab))(w:ab):w∈ak l↔∃s∈l,w∈s:=by
 rw[ak,(FG (uX _)).2,(zp _).mem_iff,List.mem_flatten]
theorem ly {l:List (List ab)}{m:Nat}(h:∀s∈l,s.length≤m):l.flatten.length≤m*l.length:=by
 induction l with
 |nil=>simp
 |cons s l a=>
  simp only[List.flatten_cons,List.length_append,List.length_cons,Nat.mul_add,Nat.mul_one]
  have:=a λx hx=>h x (bV _ hx)
  have:=h s (aV ..)
  omega
theorem vx (xs:List ab):(qk xs).length=xs.length:=(zp xs).length_eq
theorem kb {l:List (List ab)}(h:ow l):(ak l).length≤1200:=by
 have h1:=Ki (qk l.flatten)
 rw[vx]at h1
 have b:=ly (m:=12) λs a=>(h.each s a).2.1
 have:=h.len
 unfold ak;omega
def fF (l:List (List ab)):List Nat:=ew (numOf (ak l)) l
theorem vZ (f:ab→Nat):∀l:List (List ab),(ew f l).length=l.flatten.length+l.length
 | []=>rfl
 |s::l=>by
  have:=vZ f l
  simp only[ew,List.flatMap_cons,List.length_append,List.length_map,List.length_singleton,List.flatten_cons,List.length_cons,List.length_nil]at this⊢
  omega
theorem sb {l:List (List ab)}(h:ow l):(fF l).length≤1300:=by
 unfold fF;rw[vZ]
 have b:=ly (m:=12) λs a=>(h.each s a).2.1
 have:=h.len
 omega
theorem Bm {l:List (List ab)}(h:ow l):∀x∈fF l,x≤1200:=by
 intro x hx;obtain⟨s,_,hx⟩:=List.mem_flatMap.1 hx
 rcases cI.1 hx with q|q
 ·obtain⟨w,_,rfl⟩:=cA.1 q
  exact cz (GK _ _) (kb h)
 ·rw[bN.1 q];exact aP _
theorem JR (f:ab→Nat)(l:List (List ab))(s:List ab):ew f (l++ [s])=ew f l++(s.map f++ [0]):=by simp[ew]
theorem uJ (s:List ab):∀(l:List (List ab)) (i:Nat),cC i (l++ [s])=cC i l++(List.range (s.length+1)).map λk=>(i+l.length,k)
 | [],i=>by simp[cC]
 |x::l,i=>by
  simp only[List.cons_append,cC,uJ s l (i+1),List.append_assoc,List.length_cons]
  rw[show i+1+l.length=i+(l.length+1) by omega]
theorem FR {l:List (List ab)}{p:List ab}(hp:p≠ []):(if(0:Nat)∈p.map (numOf (ak l))then []else((List.range (fF l).length).filter λi=>decide (((fF l).drop i).take (p.map (numOf (ak l))).length=p.map (numOf (ak l)))).map (λi=>(cC 0 l).getD i (0,0)))=fP l p:=by
 split
 ·rename_i a
  exact(Bc a l 0 λs b w hw=>NI (nN l) ((qt l w).2 ⟨s,b,hw⟩)).symm
 ·rename_i a
  exact Ma hp a
end Go.J
namespace Go.Proofs.YtiefglecbgdaiaaGreatDoor
open Go Go.J Tryz
theorem CS:∀{vs:List gl} {known:List ab} {i:Nat},(gQ known i vs).1=0→gQ known i vs=(0,0)∧∀v∈vs,1≤v.kind∧v.kind≤4∧isName v.name=true∧(v.kind=2→isName v.label=true)∧(v.kind=3→isWord v.label=true)∧((v.kind=1∨v.kind=4)→v.label=[])
 | [],_,_,_=>by rw[gQ];exact⟨rfl,λv d=>by cases d⟩
 |v::vs,known,i,h=>by
  rw[gQ]at h⊢
  by_cases h1:v.kind<1∨4<v.kind
  ·rw[aB h1]at h;exact absurd h (by simp)
  rw[aA h1]at h⊢
  by_cases a:isName v.name=false∨(v.kind=2∧isName v.label=false)∨(v.kind=3∧isWord v.label=false)
  ·rw[aB a]at h;exact absurd h (by simp)
  rw[aA a]at h⊢
  by_cases c:v.name∈known
  ·rw[aB c]at h;exact absurd h (by simp)
  rw[aA c]at h⊢
  by_cases b:(v.kind=1∨v.kind=4)∧v.label≠ []
  ·rw[aB b]at h;exact absurd h (by simp)
  rw[aA b]at h⊢;obtain⟨e,f⟩:=CS h;refine⟨e,λu hu=> ?_⟩
  rcases bT.1 hu with rfl|hu
  ·simp only[not_or,not_and,Bool.not_eq_false,ne_eq,Decidable.not_not]at a b
   exact⟨by omega,by omega,a.1,a.2.1,a.2.2,b⟩
  ·exact f u hu
theorem Bs {n:Int}:∀{ls:List kR} {i:Nat},(jC n i ls).1=0→jC n i ls=(0,0)∧∀l∈ls,1≤l.kind∧l.kind≤5∧0≤l.a∧l.a<n∧0≤l.b∧l.b<n∧l.a≠l.b
 | [],_,_=>by rw[jC];exact⟨rfl,λv e=>by cases e⟩
 |l::ls,i,h=>by
  rw[jC]at h⊢
  by_cases h1:l.kind<1∨5<l.kind
  ·rw[aB h1]at h;exact absurd h (by simp)
  rw[aA h1]at h⊢
  by_cases d:l.a<0∨n≤l.a∨l.b<0∨n≤l.b
  ·rw[aB d]at h;exact absurd h (by simp)
  rw[aA d]at h⊢
  by_cases c:l.a=l.b
  ·rw[aB c]at h;exact absurd h (by simp)
  rw[aA c]at h⊢;obtain⟨f,g⟩:=Bs h;refine⟨f,λu hu=> ?_⟩
  rcases bT.1 hu with rfl|hu
  ·exact⟨by omega,by omega,by omega,by omega,by omega,by omega,c⟩
  ·exact g u hu
structure WQ (vs:List gl)(ks:List kR):Prop where
 pos:0<vs.length
 BW:vs.length≤4
 aW:ks.length≤8
 var:∀v∈vs,1≤v.kind∧v.kind≤4∧isName v.name=true∧(v.kind=2→isName v.label=true)∧(v.kind=3→isWord v.label=true)∧((v.kind=1∨v.kind=4)→v.label=[])
 link:∀l∈ks,1≤l.kind∧l.kind≤5∧0≤l.a∧l.a<vs.length∧0≤l.b∧l.b<vs.length∧l.a≠l.b
theorem Va {vs:List gl}{ks:List kR}(h:(uN vs ks).1=0):uN vs ks=(0,0)∧WQ vs ks:=by
 unfold uN at h⊢
 by_cases h1:4<vs.length∨8<ks.length
 ·rw[aB h1]at h;exact absurd h (by simp)
 rw[aA h1]at h⊢
 by_cases b:vs.length=0
 ·rw[aB b]at h;exact absurd h (by simp)
 rw[aA b]at h⊢
 by_cases a:(gQ [] 0 vs).1≠0
 ·rw[aB a]at h;exact absurd h a
 rw[aA a]at h⊢;obtain⟨c,d⟩:=Bs h;exact⟨c,by omega,by omega,by omega,(CS (fK.1 a)).2,d⟩
def pK (g:ep)(vs:List gl)(ks:List kR)(t:dA):List (List Nat):=qU (rS g t 0 (-1) 0) ks vs []
def G8 (g:ep)(vs:List gl)(ks:List kR)(t:dA):List (List Nat)×(Int×Int):=
 if(kq g).1≠0 then([],kq g)else if(uN vs ks).1≠0 then([],uN vs ks)else if(jv g t).1≠0 then([],jv g t)
 else if 500<(pK g vs ks t).length then([],(17,0))else(pK g vs ks t,(0,0))
theorem Bz {T:List eM}{Fs:List o7}:∀{l:List ry} {known:List ab} {i:Nat},(gz T Fs known i l).1=0→∀r∈l,1≤r.kids∧r.kids≤3∧0≤r.weight∧isName r.name=true
 | [],_,_,_=>λr d=>by cases d
 |r::l,known,i,h=>by
  rw[gz]at h
  by_cases h1:isName r.name=false
  ·rw[aB h1]at h;exact absurd h (by simp)
  rw[aA h1]at h
  by_cases c:r.name∈known
  ·rw[aB c]at h;exact absurd h (by simp)
  rw[aA c]at h
  by_cases a:nE T Fs r≠0
  ·rw[aB a]at h;exact absurd h a
  rw[aA a]at h;intro u hu
  rcases bT.1 hu with rfl|hu
  ·have b:=fK.1 a
   unfold nE at b
   by_cases e:u.kids<1∨3<u.kids∨u.weight<0∨1000000<u.weight
   ·rw[aB e]at b;exact absurd b (by simp)
   ·exact⟨by omega,by omega,by omega,by simpa using h1⟩
  ·exact Bz h u hu
theorem Bi {T:List eM}{Fs:List o7}:∀{l:List Eb} {i:Nat},(gy T Fs i l).1=0→∀x∈l,isWord x.word=true
 | [],_,_=>λr d=>by cases d
 |x::l,i,h=>by
  rw[gy]at h
  by_cases a:uA T Fs x≠0
  ·rw[aB a]at h;exact absurd h a
  rw[aA a]at h;intro u hu
  rcases bT.1 hu with rfl|hu
  ·have b:=fK.1 a
   unfold uA at b
   by_cases c:isWord u.word=false
   ·rw[aB c]at b;exact absurd b (by simp)
   ·simpa using c
  ·exact Bi h u hu
structure aa0 (g:ep):Prop where
 rules:g.rules.length≤40
 aK:g.aK.length≤100
 rule:∀r∈g.rules,1≤r.kids∧r.kids≤3∧0≤r.weight∧isName r.name=true
 word:∀x∈g.aK,isWord x.word=true
theorem Uo {g:ep}(h:(kq g).1=0):aa0 g:=by
 unfold kq at h
 by_cases h1:(ig g.types g.bh).1≠0
 ·rw[aB h1]at h;exact absurd h h1
 rw[aA h1]at h
 by_cases c:g.bh.length≤3
 ·rw[aB c]at h;exact absurd h (by simp)
 rw[aA c]at h
 by_cases d:40<g.rules.length∨100<g.aK.length
 ·rw[aB d]at h;exact absurd h (by simp)
 rw[aA d]at h
 by_cases a:(gz g.types g.bh [] 0 g.rules).1≠0
 ·rw[aB a]at h;exact absurd h a
 rw[aA a]at h
 by_cases b:(gy g.types g.bh 0 g.aK).1≠0
 ·rw[aB b]at h;exact absurd h b
 exact⟨by omega,by omega,Bz (fK.1 a),Bi (fK.1 b)⟩
structure Y3 (g:ep)(t:dA):Prop where
 ahX:jU g.rules.length g.aK.length t
 size:GL t≤200
 leaves:AM t≤12
theorem uc {g:ep}{t:dA}(b:(kq g).1=0)(h:(jv g t).1=0):Y3 g t:=by
 have hk:∀k∈g.rules.map ry.kids,1≤k:=λk hk=>by
  obtain⟨r,c,rfl⟩:=cA.1 hk;exact((Uo b).rule r c).1
 unfold jv at h
 by_cases h1:(nu (g.rules.map ry.kids) g.aK.length t 1 0 ⟨0,0⟩).2.1≠0
 ·rw[aB h1]at h;exact absurd h h1
 rw[aA h1]at h;obtain⟨a,d,k3,e⟩:=SJ hk t 1 0 ⟨0,0⟩ (fK.1 h1)
 by_cases f:12<(nu (g.rules.map ry.kids) g.aK.length t 1 0 ⟨0,0⟩).1.leaves
 ·rw[aB f]at h;exact absurd h (by simp)
 rw[aR]at a
 dsimp only at d e
 exact⟨a,by omega,by omega⟩
theorem ZR {g:ep}{vs:List gl}{ks:List kR}{t:dA}(h1:(kq g).1=0)(a:(uN vs ks).1=0)(b:(jv g t).1=0)(c:(pK g vs ks t).length≤500):G8 g vs ks t=(pK g vs ks t,(0,0)):=by
 unfold G8;rw[aA (λh=>h h1),aA (λh=>h a),aA (λh=>h b),aA zE]
theorem R9 {w:ab}(h:isWord w=true):uN [jx [97] w] []=(0,0):=by
 have e:gQ [] 0 [jx [97] w]=(0,0):=by
  rw[gQ,aA (by unfold jx;dsimp only;omega),aA,aA (by simp),aA,gQ]
  ·rintro ⟨h1,_⟩;unfold jx at h1;dsimp only at h1;omega
  ·unfold jx
   dsimp only
   rintro (h1|⟨h1,_⟩|⟨_,h1⟩)
   ·exact absurd h1 (by decide)
   ·omega
   ·rw[h]at h1;cases h1
 unfold uN;rw[aA (by simp),aA (by simp),e,aA (by simp),jC]
theorem VJ {g:ep}{t:dA}(h1:(kq g).1=0)(a:(jv g t).1=0){w:ab}(hw:isWord w=true):G8 g [jx [97] w] [] t=(qU (rS g t 0 (-1) 0) [] [jx [97] w] [],(0,0)):=by
 have ht:=uc h1 a
 have b:=r9 g t 0 (-1) 0
 have c:=ht.size
 refine ZR h1 (by rw[R9 hw]) a ?_
 show(qU _ _ _ _).length≤500
 rw[ym,aR];refine cz (AJ _ _) ?_
 rw[db];omega
end Go.Proofs.YtiefglecbgdaiaaGreatDoor
namespace Go.J
open Go Go.Proofs Go.Shelf Go.RowKit Go.Lib Go.Sort
theorem Start.FF {ds:List dQ}{W:World}(hd:∀d∈ds,d.f (J.all W)):Start (ds.map J.aD) (J.all W) W:=
 ⟨rfl,⟨rfl,λ_=>aQ _⟩,rfl,aQ _,λ_ _ _=>rfl,λ_ _ h=>h,Ro.le_refl _,λ_ _ _=>rfl,λE c=>by
  obtain⟨d,e,rfl⟩:=cA.1 c;exact dK.2 (hd d e),
  (λE c b a=>by
   obtain⟨d,hd,rfl⟩:=cA.1 c
   rw[jS]at a;cases a),
  by
   refine oq.2 (uo (R:=λ_ _=>True) ?_ (List.pairwise_of_forall λ_ _=>trivial));intro d g _ _ _ b a
   rw[jS]at a;cases a⟩
theorem cX.X6 {P:Program}{f:FuncId}{args:Array Value}{ds:List dQ}{v:Value}{W:World}(h:cX P f args ds v)(hd:∀d∈ds,d.f (J.all W)):
 Calls P f args W λe w'=>e= .returned v∧∃q a,w'=grow (W.drewN q) a:=by
 refine(h W (J.all W) (Start.FF hd)).mono ?_;rintro e w' ⟨u,H',rfl,rfl,hm⟩;obtain⟨mY,hm⟩:=hm.out;refine⟨rfl,w'.drawn-W.drawn,w'.heap.extract W.heap.size w'.heap.size,?_⟩
 have h1:=hm.os
 have b:=And.intro hm.tape.1 (hm.tape.2 trivial)
 have c:=hm.output
 have l:=hm.size
 have g:∀k,k<W.heap.size→w'.heap[k]?=W.heap[k]?:=λk hk=>hm.AO k hk (ia ds k)
 clear hm
 cases w' with
 |mk m n o a p=>
  cases W with
  |mk heap tape drawn os out=>
   simp only at h1 b c l g
   simp only[grow,World.drewN,World.mk.injEq]
   refine⟨?_,b.1,by omega,h1,c⟩
   apply Array.ext_getElem?
   intro i;rw[Array.getElem?_append]
   split
   ·rename_i j;exact g i j
   ·rename_i j
    rw[Array.getElem?_extract]
    split
    ·congr 1;omega
    ·rename_i r
     rw[Sy zE]
section
variable {P:Program}{tD:Ren}{α:Type}[Inhabited α]
theorem j9 (enc:α→Value)(w:World)(g0 m k:Nat)(a:Array α)(os:Array Obj)(hk:k≠g0)(b:k<w.heap.size):(sortWorld enc w g0 0 m a os).heap[k]?=w.heap[k]?:=by
 unfold sortWorld grow putRow mapBlock
 simp only[]
 rw[Array.getElem?_append_left (by simpa using b),Array.getElem?_modify];rw[aA (λe=>hk e.symm)];rfl
theorem ql (enc:α→Value)(w:World)(g0 m:Nat)(b:Array α)(os:Array Obj){cur:Array Value}{e:TypeId}{fr:Nat×Nat}(c:w.heap[g0]?=some (.cells cur e fr)):
 (sortWorld enc w g0 0 m b os).heap[g0]?=some (.cells (putCells enc 0 b cur) e fr):=by
 have d:=(wI.1 c).1
 have a:(Sort.ahead w m).heap[g0]?=some (.cells cur e fr):=c
 unfold sortWorld grow putRow mapBlock
 simp only[]
 rw[Array.getElem?_append_left (by simpa using d),Array.getElem?_modify,aB rfl,a];rfl
theorem Start.sorted {ds:List dQ}{enc:α→Value}{v:Value}{e:TypeId}{d:List α}{w:World}{ρ:Ro}(st:Start (ds.map aD++ [row v e 1 d.length (d.map enc)]) ρ w){g0 cap:Nat}{cur:Array Value}
 (f:v= tO g0 d.length cap) (h:w.heap[g0]?=some (.cells cur e (0,0))) (y:d.length≤cap) (z:cap≤maxLen) (A:cur.size=cap*1) (B:cur.toList.take (d.length*1)=d.map enc):
 Holds enc w g0 0 d.toArray∧g0<w.heap.size∧(∀(m:Nat) (os:Array Obj) (c:Array α),Ro.le ρ (J.all (sortWorld enc w g0 0 m c os)))∧
  ∀(n:Nat) (a:Array α) (os:Array Obj),a.size=d.length→Mm ⟨w,ρ,j0 (ds.map aD++ [row v e 1 d.length (d.map enc)]),True⟩ [row v e 1 d.length (a.toList.map enc)] (sortWorld enc w g0 0 n a os):=by
 have hblk:=(wI.1 h).1
 have s:ρ g0=Option.none:=(st.own _ (iY _ (pq _)) g0 (by rw[dF,f];rfl)).1
 have t:∀j (g:j<d.length),cur[j]?=some (enc d[j]):=λj g=>by
  have:=congrArg (λl=>l[j]?) B
  simp only[List.getElem?_take,List.getElem?_map,List.getElem?_eq_getElem g,Option.map_some]at this
  rw[aB zE]at this
  simpa using this
 have hle:∀(m:Nat) (os:Array Obj) (c:Array α),Ro.le ρ (J.all (sortWorld enc w g0 0 m c os)):=λm os c k o hk=>by
  have u:=st.fits k o hk
  have C:k≠g0:=by rintro rfl;rw[s]at hk;cases hk
  show(sortWorld enc w g0 0 m c os).heap[k]?=some o
  rw[j9 enc w g0 m k c os C (wI.1 u).1,u]
 refine⟨λj g=> ?_,hblk,hle,λn a os D=>Mm.mk (ρ:=ρ) ⟨rfl,⟨rfl,?_⟩,rfl,?_,?_,?_,Ro.le_refl _,λ_ _ _=>rfl,?_,?_,Cc ..⟩⟩
 ·have F:j<d.length:=by simpa using g
  refine⟨?_,?_⟩
  ·rw[World.cell?,h]
   simp only[Option.isSome_none,Bool.false_eq_true,if_false,Nat.zero_add]
   rw[t j F,getElem!_pos d.toArray j g]
   simp
  ·rw[World.frozen?,h];simp
 ·intro _;show w.drawn≤w.drawn+n;omega
 ·unfold sortWorld grow;simp
 ·intro k hk G
  refine j9 enc w g0 n k a os ?_ hk;rintro rfl;exact G ⟨_,iY _ (pq _),by rw[dF,f];rfl⟩
 ·exact λk o hk=>hle n os a k o hk
 ·intro E q
  rw[bN.1 q];refine dP.2 ⟨by simp[D],.inr ⟨g0,cap,putCells enc 0 a cur,f,aP _,ql enc w g0 n a os h,y,z,by simp[putCells,A],?_⟩⟩
  apply jh
  intro i
  simp only[putCells,List.getElem?_take,Array.getElem?_toList,Array.getElem?_mapIdx,List.getElem?_map]
  by_cases H:i<d.length
  ·have r:i<a.size:=by omega
   rw[aB zE,t i H]
   simp only[Option.map_some,Nat.zero_le,true_and,Nat.zero_add,Nat.sub_zero]
   rw[aB r,getElem!_pos a i r,WK r];rfl
  ·rw[aA zE,Sy zE];rfl
 ·intro E q b p
  rw[bN.1 q]at p
  have x:b=g0:=by rw[dF,f]at p;simp[Value.ownBlock]at p;exact p.symm
  exact⟨x▸s,.inr ⟨_,iY _ (pq _),by rw[dF,f,x];rfl⟩⟩
theorem Start.stays {ds:List dQ}{E:ai}{w:World}{ρ:Ro}(st:Start (ds.map aD++ [E]) ρ w):Mm ⟨w,ρ,j0 (ds.map aD++ [E]),True⟩ [E] w:=Mm.mk (fN.perm st kB).left
theorem sD (L:SlLaysF.n6 P tD)(enc:α→Value)(h1:OneCell enc)(cf:α→α→Int)(hO:SWO (ltOf cf))(g:Nat)(k:Array Value)
 (B:∀args w,(callFunc g args).run P w= .ok (.enter g args) w) (ds:List dQ) (C:∀x y,cX P g (#[enc x,enc y]++k) ds (.int .i64 (cf x y))) (v:Value) (e:TypeId) (d:List α) (hlen:d.length<4611686018427387904):
 dR P (tD.f 6) #[v,.func (.func g) #[] k] (ds.map aD++ [row v e 1 d.length (d.map enc)])
  (λu H'=>u= .tuple #[]∧∃c:List α,c.Perm d∧c.Pairwise (λa b=>ltOf cf b a=false)∧H'=[row v e 1 d.length (c.map enc)]):=by
 intro w ρ st
 have D:=dP.1 (st.dC _ (iY _ (pq _)))
 have E:∀x∈ds,x.f ρ:=λx hx=>dK.1 (st.dC _ (kA _ (di hx)))
 have none:∀(p:Option Addr) (cap:Nat),v= .slice p 0 cap→d=[]→Calls P (tD.f 6) #[v,.func (.func g) #[] k] w λF w'=>∃t H',F= .returned t∧
  (t= .tuple #[]∧∃c:List α,c.Perm d∧c.Pairwise (λa b=>ltOf cf b a=false)∧H'=[row v e 1 d.length (c.map enc)])∧Mm ⟨w,ρ,j0 (ds.map aD++ [row v e 1 d.length (d.map enc)]),True⟩ H' w':=by
  intro p cap h G
  have z:=AnyF.slices_SortFunc_none (P:=P) (ρ:=tD) {L with} p cap (.func (.func g) #[] k) w
  rw[←h]at z;refine z.mono ?_;rintro H w' ⟨rfl,rfl⟩;exact⟨_,_,rfl,⟨rfl,d,.refl _,(by rw[G];exact .nil),rfl⟩,st.stays⟩
 rcases D.2 with⟨h,I⟩|⟨g0,cap,cur,h,_,J,K,M,N,O⟩
 ·exact none _ _ h (gg I)
 ·by_cases hz:d.length=0
  ·rw[hz]at h;exact none _ _ h (gg hz)
  ·obtain⟨hH,hblk,hle,Q⟩:=Start.sorted st h J K M N O
   have l:CmpLays1 P g k enc cf g0 0 d.toArray.size w:=λm os R _ x y=>(C x y).X6 λx hx=>x.mono _ _ (hle m os R) (E x hx)
   have main:=Any.slices_SortFunc L enc h1 cf hO g k g0 0 cap d.toArray w B l hH hblk (by simpa using hlen)
   have o:v= .slice (some ⟨g0,0,Option.none⟩) d.toArray.size cap:=by rw[h];simp
   rw[←o]at main;refine main.mono ?_;rintro H w' ⟨rfl,c,n,os,⟨q,_,hp⟩,r,rfl⟩
   have S:c.size=d.length:=by simpa using q
   have s:c.toList.Perm d:=by
    have T:c.extract 0 d.toArray.size=c:=by rw[←q];simp
    have e2:d.toArray.extract 0 d.toArray.size=d.toArray:=by simp
    rw[T,e2]at hp
    simpa using hp
   refine⟨_,_,rfl,⟨rfl,c.toList,s,?_,rfl⟩,Q n c os S⟩;rw[List.pairwise_iff_getElem];intro i j U V W
   have X:i<c.size:=by simpa using U
   have A:j<c.size:=by simpa using V
   have:=r i j (aP _) W (by rw[←q];exact A)
   rw[getElem!_pos c i X,getElem!_pos c j A]at this
   simpa using this
end
theorem Start.Vs {ds:List dQ}{v:Value}{e:TypeId}{k m:Nat}{cs:List Value}{w:World}{ρ:Ro}(st:Start (ds.map aD++ [row v e k m cs]) ρ w){g0 cap:Nat}{cur:Array Value}
 (d:v= tO g0 m cap) (g:w.heap[g0]?=some (.cells cur e (0,0))) (x:m≤cap) (y:cap≤maxLen) (z:cur.size=cap*k) (A:cur.toList.take (m*k)=cs) (B:cs.length=m*k):
 Holds id w g0 0 cs.toArray∧g0<w.heap.size∧(∀(n:Nat) (os:Array Obj) (c:Array Value),Ro.le ρ (J.all (sortWorld id w g0 0 n c os)))∧
  ∀(n:Nat) (a:Array Value) (os:Array Obj),a.size=cs.length→Mm ⟨w,ρ,j0 (ds.map aD++ [row v e k m cs]),True⟩ [row v e k m a.toList] (sortWorld id w g0 0 n a os):=by
 have hblk:=(wI.1 g).1
 have r:ρ g0=Option.none:=(st.own _ (iY _ (pq _)) g0 (by rw[dF,d];rfl)).1
 have s:∀j (f:j<cs.length),cur[j]?=some cs[j]:=λj f=>by
  have:=congrArg (λl=>l[j]?) A
  simp only[List.getElem?_take,List.getElem?_eq_getElem f]at this
  rw[aB zE]at this
  simpa using this
 have hle:∀(n:Nat) (os:Array Obj) (c:Array Value),Ro.le ρ (J.all (sortWorld id w g0 0 n c os)):=λn os c b o hk=>by
  have t:=st.fits b o hk
  have C:b≠g0:=by rintro rfl;rw[r]at hk;cases hk
  show(sortWorld id w g0 0 n c os).heap[b]?=some o
  rw[j9 id w g0 n b c os C (wI.1 t).1,t]
 refine⟨λj f=> ?_,hblk,hle,λn a os D=>Mm.mk (ρ:=ρ) ⟨rfl,⟨rfl,?_⟩,rfl,?_,?_,?_,Ro.le_refl _,λ_ _ _=>rfl,?_,?_,Cc ..⟩⟩
 ·have F:j<cs.length:=by simpa using f
  refine⟨?_,?_⟩
  ·rw[World.cell?,g]
   simp only[Option.isSome_none,Bool.false_eq_true,if_false,Nat.zero_add]
   rw[s j F,getElem!_pos cs.toArray j f]
   simp
  ·rw[World.frozen?,g];simp
 ·intro _;show w.drawn≤w.drawn+n;omega
 ·unfold sortWorld grow;simp
 ·intro b hk G
  refine j9 id w g0 n b a os ?_ hk;rintro rfl;exact G ⟨_,iY _ (pq _),by rw[dF,d];rfl⟩
 ·exact λb o hk=>hle n os a b o hk
 ·intro E p
  rw[bN.1 p];refine dP.2 ⟨by simp[D,B],.inr ⟨g0,cap,putCells id 0 a cur,d,aP _,ql id w g0 n a os g,x,y,by simp[putCells,z],?_⟩⟩
  apply jh
  intro i
  simp only[putCells,List.getElem?_take,Array.getElem?_toList,Array.getElem?_mapIdx]
  by_cases H:i<cs.length
  ·have q:i<a.size:=by omega
   rw[aB zE,s i H]
   simp only[Option.map_some,Nat.zero_le,true_and,Nat.zero_add,Nat.sub_zero]
   rw[aB q,getElem!_pos a i q,WK q];rfl
  ·rw[aA zE,Sy zE]
 ·intro E p b h
  rw[bN.1 p]at h
  have u:b=g0:=by rw[dF,d]at h;simp[Value.ownBlock]at h;exact h.symm
  exact⟨u▸r,.inr ⟨_,iY _ (pq _),by rw[dF,d,u];rfl⟩⟩
theorem wT {α:Type}{enc:α→List Value}{k:Nat}(hk:∀x,(enc x).length=k):∀(l:List α) (q j:Nat) (x:α),l[q]?=some x→j<k→(l.flatMap enc)[q*k+j]?=(enc x)[j]?
 | [],_,_,_,h,_=>by simp at h
 |y::l,0,j,x,h,a=>by
  simp only[List.getElem?_cons_zero,Option.some.injEq]at h
  subst h;rw[iE,Nat.zero_mul,iW,oh (by rw[hk];exact a)]
 |y::l,q+1,j,x,h,a=>by
  simp only[List.getElem?_cons_succ]at h
  have b:=wT hk l q j x h a
  rw[iE,jM (by rw[hk,ji];omega),hk,show(q+1)*k+j-k=q*k+j by rw[ji];omega];exact b
theorem qV {α:Type}{enc:α→List Value}{k:Nat}(hk:∀x,(enc x).length=k)(l:List α):(l.flatMap enc).length=l.length*k:=by
 induction l with
 |nil=>simp
 |cons x l a=>rw[iE,bJ,a,hk,eU,ji];omega
theorem Ib {α:Type}[Inhabited α]{enc:α→List Value}{k:Nat}(hp:0<k)(hk:∀x,(enc x).length=k)(d:Array α):flatK enc k d=(d.toList.flatMap enc).toArray:=by
 apply Array.ext'
 show(flatK enc k d).toList=d.toList.flatMap enc
 apply jh
 intro i;rw[KD]
 rcases cJ i (d.size*k)with a|a
 ·have b:i/k<d.size:=(Nat.div_lt_iff_lt_mul hp).2 a
  have hm:i%k<k:=Nat.mod_lt _ hp
  have e:=wT hk d.toList (i/k) (i%k) d[i/k] (by rw[KD,WK b]) hm
  rw[show i/k*k+i%k=i by rw[Nat.mul_comm];exact Nat.div_add_mod i k]at e;rw[e];unfold flatK;rw[Array.getElem?_map,Array.getElem?_range,aB a]
  show some ((enc d[i/k]!)[i%k]!)=_
  rw[getElem!_pos d (i/k) b,getElem!_pos (enc d[i/k]) (i%k) (by rw[hk];exact hm),aj (by rw[hk];exact hm)]
 ·rw[Sy (by rw[size_flatK];exact a),fT (by rw[qV hk];simpa using a)]
def NX (m:Nat)(cf:Nat→Nat→Int):List Nat:=(pdq (ltOf cf) (List.range m).toArray 0 m (Lib.bitLen m) true true).toList
def Gw {β:Type}(C:β→β→Int)(l:List β):List β:=
 match l with
 | []=>[]
 |b::l=>(NX (l.length+1) λi j=>C ((b::l).getD i b) ((b::l).getD j b)).map λi=>(b::l).getD i b
theorem C8 {m:Nat}{cf:Nat→Nat→Int}(hO:SWO (ltOf cf)):(NX m cf).Perm (List.range m):=by
 have h:=(pdq_sorts (ltOf cf) hO (List.range m).toArray 0 m (Lib.bitLen m) true true (aP _) (by simp) (Or.inl rfl)).1
 obtain⟨h1,_,b⟩:=h
 have c:∀(a:Array Nat),a.size=m→(a.extract 0 m).toList=a.toList:=λa d=>by
  rw[←d];simp
 rw[c _ (by rw[h1];simp),c _ (by simp)]at b
 simpa[NX]using b
theorem Ry {β:Type}{C:β→β→Int}(hO:SWO (ltOf C))(f:Nat→β):SWO (ltOf λi j:Nat=>C (f i) (f j)):=⟨λx=>hO.irrefl (f x),λx y z h k=>hO.trans (f x) (f y) (f z) h k,λx y z h k=>hO.ntrans (f x) (f y) (f z) h k⟩
theorem za {α:Type}(l:List α)(a:α):(List.range l.length).map (λi=>l.getD i a)=l:=by
 apply jh
 intro i;rw[aw]
 rcases cJ i l.length with h|h
 ·rw[jy h,aj h]
  show some (l.getD i a)=_
  rw[aZ,aj h];rfl
 ·rw[fT (by simpa using h),fT h];rfl
theorem C7 {β:Type}{C:β→β→Int}(hO:SWO (ltOf C)):∀l:List β,(Gw C l).Perm l
 | []=> .refl _
 |b::l=>by
  have h:=(C8 (m:=l.length+1) (Ry hO λi=>(b::l).getD i b)).map λi=>(b::l).getD i b
  have e:=za (b::l) b
  rw[eU]at e;rw[e]at h;exact h
section
variable {P:Program}{tD:Ren}{α β:Type}
theorem Ax (L:SlLaysF0.n6 P tD)(R:Rp α)(M:∀w,(isAgg (tD.t 24)).run P w= .ok true w)(N:∀w,(Go.sizeOf (tD.t 24)).run P w= .ok R.size w)(E:α→β)(C:β→β→Int)(hO:SWO (ltOf C))
 (g:Nat) (O:aG P g) (caps:List Value) (ds:List dQ) (xs:List α) (k:∀x∈xs,∀y∈xs,cX P g ([Value.agg (R.cells x).toArray,Value.agg (R.cells y).toArray]++caps).toArray ds (.int .i64 (C (E x) (E y)))) (v:Value) (e:TypeId) (hlen:xs.length<4611686018427387904):
 dR P (tD.f 6) #[v,.func (.func g) #[] caps.toArray] (ds.map aD++ [row v e R.size xs.length (rows R xs)])
  (λu H'=>u= .tuple #[]∧∃b:List α,b.Perm xs∧b.map E=Gw C (xs.map E)∧H'=[row v e R.size xs.length (rows R b)]):=by
 intro w ρ st
 have c:=dP.1 (st.dC _ (iY _ (pq _)))
 have Q:∀x∈ds,x.f ρ:=λx hx=>dK.1 (st.dC _ (kA _ (di hx)))
 have none:∀(p:Option Addr) (cap:Nat),v= .slice p 0 cap→xs=[]→Calls P (tD.f 6) #[v,.func (.func g) #[] caps.toArray] w λS w'=>∃F H',S= .returned F∧
  (F= .tuple #[]∧∃b:List α,b.Perm xs∧b.map E=Gw C (xs.map E)∧H'=[row v e R.size xs.length (rows R b)])∧Mm ⟨w,ρ,j0 (ds.map aD++ [row v e R.size xs.length (rows R xs)]),True⟩ H' w':=by
  intro p cap a T
  have G:=AnyF.slices_SortFunc_none (P:=P) (ρ:=tD) L p cap (.func (.func g) #[] caps.toArray) w
  rw[←a]at G;refine G.mono ?_;rintro U w' ⟨rfl,rfl⟩;exact⟨_,_,rfl,⟨rfl,xs,.refl _,(by rw[T];rfl),rfl⟩,st.stays⟩
 rcases c.2 with⟨a,V⟩|⟨g0,cap,cur,a,_,Y,l,Z,hcs,o⟩
 ·exact none _ _ a (gg V)
 ·match xs,k,hlen,c,none,a,l,o,st with
  | [],k,hlen,c,none,a,l,o,st=>exact none _ _ a rfl
  |x0::xs,k,hlen,c,none,a,l,o,st=>
   let X:=x0::xs
   have hXl:X.length=xs.length+1:=rfl
   obtain⟨hH,hblk,hle,aiJ⟩:=Start.Vs st a Y l Z hcs o c.1
   let enc:Nat→List Value:=λi=>R.cells (X.getD i x0)
   let cf:Nat→Nat→Int:=λi j=>C (E (X.getD i x0)) (E (X.getD j x0))
   have H:∀i,X.getD i x0∈X:=λi=>by
    rw[aZ]
    cases h:X[i]? with
    |none=>exact aV ..
    |some y=>exact aa h
   have hk:∀i,(enc i).length=R.size:=λi=>R.len _
   have q:∀d:Array Nat,flatK enc R.size d=(rows R (d.toList.map λi=>X.getD i x0)).toArray:=λd=>by
    rw[Ib R.pos hk];unfold rows;rw[List.flatMap_map]
   have I:(List.range X.length).map (λi=>X.getD i x0)=X:=za X x0
   have J:(List.range X.length).toArray.size=X.length:=by simp
   have r:HoldsK enc R.size w g0 0 (List.range X.length).toArray:=by
    unfold HoldsK;rw[q]
    show Holds id w g0 0 (rows R ((List.range X.length).map λi=>X.getD i x0)).toArray
    rw[I];exact hH
   have K:SWO (ltOf cf):=Ry hO λi=>E (X.getD i x0)
   have s:CmpLays P g caps.toArray enc R.size cf g0 0 (List.range X.length).toArray.size w:=λm os dk _ x y=>by
    have h1:=(k _ (H x) _ (H y)).X6 (W:=sortWorldK enc R.size w g0 0 m dk os) λz hz=>z.mono _ _ (hle m os _) (Q z hz)
    have e2:([Value.agg (R.cells (X.getD x x0)).toArray,Value.agg (R.cells (X.getD y x0)).toArray]++caps).toArray= #[.agg (enc x).toArray,.agg (enc y).toArray]++caps.toArray:=by simp[enc]
    rw[e2]at h1;exact h1
   have main:=AnyQ.slices_SortFunc_eq L R.size M N enc hk (λi=>R.one _) cf K g caps.toArray g0 0 cap (List.range X.length).toArray w (λargs w=>O.run) s r hblk (by rw[J];exact hlen)
   rw[J]at main
   have A:v= .slice (some ⟨g0,0,Option.none⟩) X.length cap:=a
   rw[←A]at main;refine main.mono ?_;rintro U w' ⟨rfl,n,os,rfl⟩
   have hp:=C8 (m:=X.length) K
   have B:=hp.map λi=>X.getD i x0
   rw[I]at B;refine⟨_,_,rfl,⟨rfl,(NX X.length cf).map λi=>X.getD i x0,B,?_,rfl⟩,?_⟩
   ·have D:∀i,E (X.getD i x0)=(E x0::xs.map E).getD i (E x0):=λi=>by
     show _=(X.map E).getD i (E x0)
     rw[aZ,aZ,aw]
     cases X[i]?<;>rfl
    rw[iX]
    show _=(NX ((xs.map E).length+1) λi j=>C ((E x0::xs.map E).getD i (E x0)) ((E x0::xs.map E).getD j (E x0))).map λi=>(E x0::xs.map E).getD i (E x0)
    have e3:(λi j:Nat=>C ((E x0::xs.map E).getD i (E x0)) ((E x0::xs.map E).getD j (E x0)))=cf:=by
     funext i j
     show _=C (E (X.getD i x0)) (E (X.getD j x0))
     rw[D,D]
    rw[e3,aR]
    exact qw λi _=>D i
   ·have h:=aiJ n (flatK enc R.size (pdq (ltOf cf) (List.range X.length).toArray 0 X.length (Lib.bitLen X.length) true true)) os (by
     rw[q]
     have:=B.length_eq
     rw[List.size_toArray,fM,fM]
     exact congrArg (· *R.size) this)
    rw[q]at h
    have e4:(flatK enc R.size (pdq (ltOf cf) (List.range X.length).toArray 0 X.length (Lib.bitLen X.length) true true))=(rows R ((NX X.length cf).map λi=>X.getD i x0)).toArray:=q _
    unfold sortWorldK putRowK;unfold sortWorld at h;rw[e4];exact h
end
end Go.J
namespace Go.Proofs.YtiefglecbgdaiaaGreatDoor
open Go Go.J Tryz
inductive Reach (g:de):Nat→Prop where
 |root:Reach g 0
 |step {i:Nat} {x:Int×Int}:Reach g i→x∈(g.getD i gu).2→Reach g x.2.toNat
def ou (M N:List Bool):Prop:=M.length=N.length∧∀x:Nat,M[x]?=some true→N[x]?=some true
theorem ou.refl (M:List Bool):ou M M:=⟨rfl,λ_ h=>h⟩
theorem ou.trans {A B C:List Bool}(h:ou A B)(k:ou B C):ou A C:=⟨h.1.trans k.1,λx hx=>k.2 x (h.2 x hx)⟩
theorem ou.abA {A B:List Bool}(h:ou A B)(k:ou B A):A=B:=by
 refine jh λi=> ?_
 rcases cJ i A.length with a|a
 ·have b:i<B.length:=by rw[←h.1];exact a
  rw[aj a,aj b]
  have h1:=h.2 i
  have c:=k.2 i
  rw[aj a,aj b]at h1 c
  cases d:A[i]<;>cases e2:B[i]<;>simp_all
 ·rw[fT a,fT (by rw[←h.1];exact a)]
theorem ou.set (M:List Bool)(i:Nat):ou M (M.set i true):=⟨by rw[eC],λx hx=>by
 by_cases e:i=x
 ·subst e;rw[fp (ag hx)]
 ·rw[gV e];exact hx⟩
theorem ou.mark (i:Nat)(M:List Bool)(x:Int×Int):ou M (G7 i M x):=by
 unfold G7;split
 ·exact ou.set _ _
 ·exact ou.refl _
theorem ou.fold {γ:Type}{f:List Bool→γ→List Bool}(h:∀M c,ou M (f M c)):∀(l:List γ) (M:List Bool),ou M (l.foldl f M)
 | [],M=>ou.refl M
 |c::l,M=>(h M c).trans (ou.fold h l (f M c))
theorem yt {γ:Type}{f:List Bool→γ→List Bool}(h:∀M c,ou M (f M c)):∀(l:List γ) (M:List Bool),l.foldl f M=M→∀c∈l,f M c=M
 | [],_,_,c,a=>by cases a
 |c::l,M,he,d,hd=>by
  rw[im]at he
  have h1:f M c=M:=ou.abA (by have:=ou.fold h l (f M c);rw[he]at this;exact this) (h M c)
  rcases bT.1 hd with rfl|hd
  ·exact h1
  ·rw[h1]at he;exact yt h l M he d hd
theorem ou.node (g:de)(M:List Bool)(i:Nat):ou M (XR g M i):=ou.fold (λM x=>ou.mark i M x) _ M
theorem ou.pass (g:de)(M:List Bool):ou M (pass g M):=ou.fold (λM i=>ou.node g M i) _ M
def pz (M:List Bool):Nat:=M.countP λb=>b
theorem PK:∀{A B:List Bool},ou A B→pz A≤pz B∧(pz B≤pz A→A=B)
 | [],[],_=>⟨aQ _,λ_=>rfl⟩
 | [],_::_,h=>absurd h.1 (by simp)
 |_::_,[],h=>absurd h.1 (by simp)
 |a::A,b::B,h=>by
  have ht:ou A B:=⟨by simpa using h.1,λx hx=>by have:=h.2 (x+1) (by simpa using hx);simpa using this⟩
  have c:=h.2 0
  obtain⟨i1,i2⟩:=PK ht;unfold pz at*
  cases a<;>cases b<;>simp_all<;>omega
theorem DE (M:List Bool):pz M≤M.length:=List.countP_le_length
theorem mH (g:de):∀k,(eH g k).length=g.length
 |0=>by simp[eH]
 |k+1=>by rw[eH,←(ou.pass g _).1,mH g k]
theorem zU {g:de}(b:0<g.length):∀k,pass g (eH g k)=eH g k∨k+1≤pz (eH g k)
 |0=>by
  refine .inr ?_
  obtain⟨n,c⟩:∃n,g.length=n+1:=⟨g.length-1,by omega⟩
  simp[eH,pz,c,List.replicate_succ]
 |k+1=>by
  rcases zU b k with h|h
  ·left;rw[eH,h,h]
  ·by_cases e:pass g (eH g (k+1))=eH g (k+1)
   ·exact .inl e
   ·right
    have h1:=PK (ou.pass g (eH g k))
    rw[eH]
    rcases cJ (pz (eH g k)) (pz (pass g (eH g k)))with a|a
    ·omega
    ·have:=h1.2 a
     exact absurd (by rw[eH,←this,←this]) e
theorem JK {g:de}(a:0<g.length):pass g (eH g g.length)=eH g g.length:=by
 rcases zU a g.length with h|h
 ·exact h
 ·have:=DE (eH g g.length)
  rw[mH]at this;omega
theorem Ia {g:de}{M:List Bool}(b:M.length=g.length)(h:pass g M=M){i:Nat}(c:M[i]?=some true){x:Int×Int}(hx:x∈(g.getD i gu).2)(d:x.2.toNat<g.length):M[x.2.toNat]?=some true:=by
 have h1:=yt (λM i=>ou.node g M i) _ M h i (cU.2 (by rw[←b];exact ag c))
 have a:=yt (λM x=>ou.mark i M x) _ M h1 x hx
 unfold G7 at a;rw[aB (by rw[aZ,c];rfl)]at a;rw[←a,fp (by rw[b];exact d)]
def AZ (g:de)(M:List Bool):Prop:=∀x:Nat,M[x]?=some true→Reach g x
theorem AZ.set {g:de}{M:List Bool}(h:AZ g M){i:Nat}(a:Reach g i):AZ g (M.set i true):=λx hx=>by
 by_cases e:i=x
 ·subst e;exact a
 ·rw[gV e]at hx;exact h x hx
theorem AZ.fold {γ:Type}{g:de}{f:List Bool→γ→List Bool}:∀(l:List γ) (M:List Bool),(∀M,∀c∈l,AZ g M→AZ g (f M c))→AZ g M→AZ g (l.foldl f M)
 | [],_,_,h=>h
 |c::l,M,a,h=>AZ.fold l _ (λM d hd=>a M d (bV _ hd)) (a M c (aV ..) h)
theorem AZ.pass {g:de}{M:List Bool}(h:AZ g M):AZ g (pass g M):=
 AZ.fold _ _ (λM i _ c=>AZ.fold _ _ (λM x hx c=>by
  unfold G7
  split
  ·rename_i a
   refine c.set (Reach.step (c i ?_) hx);rw[aZ]at a
   cases e:M[i]? with
   |none=>rw[e]at a;cases a
   |some b=>rw[e]at a;simp at a;rw[a]
  ·exact c) c) h
theorem AZ.eH (g:de):∀k,AZ g (eH g k)
 |0=>λx hx=>by
  by_cases e:0=x
  ·subst e;exact Reach.root
  ·rw[Proofs.YtiefglecbgdaiaaGreatDoor.eH,gV e,sM]at hx
   split at hx<;>simp at hx
 |k+1=>(AZ.eH g k).pass
def tL (g:de):Prop:=0<g.length∧∀n∈g,∀x∈n.2,0≤x.1∧0≤x.2∧x.2.toNat<g.length
theorem tL.at_ {g:de}(h:tL g){i:Nat}{x:Int×Int}(hx:x∈(g.getD i gu).2):0≤x.1∧0≤x.2∧x.2.toNat<g.length:=by
 rcases cJ i g.length with a|a
 ·refine h.2 _ (fq a) x ?_
  rw[aZ,aj a]at hx;exact hx
 ·rw[aZ,fT a]at hx;cases hx
theorem nC {g:de}(h:0<g.length):∀k,(eH g k)[0]?=some true
 |0=>by rw[eH,fp (by simp;exact h)]
 |k+1=>(ou.pass g _).2 0 (nC h k)
theorem uI {g:de}(h:tL g){x:Nat}:Reach g x↔(eH g g.length)[x]?=some true:=by
 refine⟨λa=> ?_,AZ.eH g _ x⟩
 induction a with
 |root=>exact nC h.1 _
 |step _ hx b=>exact Ia (mH g _) (JK h.1) b hx (h.at_ hx).2.2
structure TP (g:de)(M:List Bool)(st:List Nat):Prop where
 len:M.length=g.length
 snd:AZ g M
 root:M[0]?=some true
 Zs:∀i∈st,M[i]?=some true
 cls:∀i,M[i]?=some true→i∉st→∀x∈(g.getD i gu).2,M[x.2.toNat]?=some true
theorem TP.start {g:de}(h:0<g.length):TP g ((List.replicate g.length false).set 0 true) [0]:=by
 refine⟨by simp,AZ.eH g 0,nC h 0,λi a=>by rw[List.mem_singleton.1 a];exact nC h 0,λi hm a=> ?_⟩;rw[gV (λe=>a (bN.2 e.symm)),sM]at hm
 split at hm<;>simp at hm
theorem TP.fin {g:de}(a:tL g){M:List Bool}(h:TP g M []):M=eH g g.length:=by
 refine ou.abA ⟨by rw[h.len,mH],λx hx=>(uI a).1 (h.snd x hx)⟩ ⟨by rw[h.len,mH],λx hx=> ?_⟩
 have:=(uI a).2 hx
 clear hx
 induction this with
 |root=>exact h.root
 |step _ hx b=>exact h.cls _ b (by simp) _ hx
structure rm (g:de)(i k:Nat)(M:List Bool)(st:List Nat):Prop where
 len:M.length=g.length
 snd:AZ g M
 root:M[0]?=some true
 me:M[i]?=some true
 Zs:∀j∈st,M[j]?=some true
 cls:∀j,M[j]?=some true→j≠i→j∉st→∀x∈(g.getD j gu).2,M[x.2.toNat]?=some true
 upto:∀x∈(g.getD i gu).2.take k,M[x.2.toNat]?=some true
theorem TP.pop {g:de}{M:List Bool}{st:List Nat}{i:Nat}(h:TP g M (st++ [i])):rm g i 0 M st:=
 ⟨h.len,h.snd,h.root,h.Zs i (by simp),λj a=>h.Zs j (by simp[a]),λj hm b a=>h.cls j hm (by simp[a,b]),λx hx=>by simp at hx⟩
theorem rm.done {g:de}{M:List Bool}{st:List Nat}{i:Nat}(h:rm g i (g.getD i gu).2.length M st):TP g M st:=
 ⟨h.len,h.snd,h.root,h.Zs,λj hm a=>by
  by_cases e:j=i
  ·subst e;intro x hx;exact h.upto x (by rw[fW];exact hx)
  ·exact h.cls j hm e a⟩
theorem rm.AO {g:de}{M:List Bool}{st:List Nat}{i k:Nat}{x:Int×Int}(h:rm g i k M st)(hx:(g.getD i gu).2[k]?=some x)(hm:M[x.2.toNat]?=some true):rm g i (k+1) M st:=
 ⟨h.len,h.snd,h.root,h.me,h.Zs,h.cls,λy hy=>by
  rw[aO hx]at hy
  rcases cI.1 hy with hy|hy
  ·exact h.upto y hy
  ·rw[bN.1 hy];exact hm⟩
theorem rm.new {g:de}(d:tL g){M:List Bool}{st:List Nat}{i k:Nat}{x:Int×Int}(h:rm g i k M st)(hx:(g.getD i gu).2[k]?=some x):rm g i (k+1) (M.set x.2.toNat true) (st++ [x.2.toNat]):=by
 have c:=aa hx
 have f:=(d.at_ c).2.2
 have mono:=(ou.set M x.2.toNat).2
 have new:(M.set x.2.toNat true)[x.2.toNat]?=some true:=fp (by rw[h.len];exact f)
 refine⟨by rw[eC];exact h.len,h.snd.set (Reach.step (h.snd i h.me) c),mono _ h.root,mono _ h.me,λj a=> ?_,λj hm l a y hy=> ?_,λy hy=> ?_⟩
 ·rcases cI.1 a with a|a
  ·exact mono _ (h.Zs j a)
  ·rw[bN.1 a];exact new
 ·have b:j∉st∧j≠x.2.toNat:=by simpa using a
  rw[gV (λe=>b.2 e.symm)]at hm;exact mono _ (h.cls j hm l b.1 y hy)
 ·rw[aO hx]at hy
  rcases cI.1 hy with hy|hy
  ·exact mono _ (h.upto y hy)
  ·rw[bN.1 hy];exact new
theorem UH {M:List Bool}{i:Nat}(h:M[i]?=some false):pz (M.set i true)=pz M+1:=by
 induction M generalizing i with
 |nil=>cases h
 |cons b M a=>
  cases i with
  |zero=>simp at h;subst h;simp[pz]
  |succ i=>
   have:=a (i:=i) (by simpa using h)
   unfold pz at*
   cases b<;>simp_all<;>omega
end Go.Proofs.YtiefglecbgdaiaaGreatDoor
