/-
  Laws of walks through programs, and facts on grammars, trees and queries.
  Conditions: none.
-/
import Derived.Test.YtblifkgpebebmaaGreatDoorGB1
import Derived.Lib.Mul64
import Derived.Shelf.Spec.BitsCarry
import Derived.Laws.IdiomStrings
import Derived.Stop.IfaceNil
import Derived.Below
import Derived.Lib.ValidU
import Derived.Lib.RuneCount
import Derived.Lib.IndexAny
import Derived.Lib.TrimUEq
import Derived.Test.YtblifkgpebebmaaGreatDoorChecked
import Derived.Lib.SliceRun
set_option maxRecDepth 20000
set_option linter.unusedVariables false
set_option linter.unusedSimpArgs false
namespace Go.J
open Go
section
variable {α:Type}
theorem AR {p:α→Bool}{s:List α}{k:Nat}{d:α}(h:(s.take k).all p=true)(hk:p (s.getD k d)=true):(s.take (k+1)).all p=true:=by
 by_cases a:k<s.length
 ·rw[K6 a,List.all_append,h]
  rw[aw,bU a]at hk
  simpa using hk
 ·rw[fZ (by omega)];rwa[fZ (by omega)]at h
theorem kr {p:α→Bool}{s:List α}{k:Nat}{x:α}(h:(s.take k).all p=true)(hx:s[k]?=some x)(hk:p x=true):(s.take (k+1)).all p=true:=by
 obtain⟨a,rfl⟩:=fA.1 hx;rw[K6 a,List.all_append,h]
 simpa using hk
theorem CM {p:α→Bool}{s:List α}{k:Nat}{d:α}(hk:k<s.length)(h:p (s.getD k d)=false):s.all p=false:=by
 rw[aw,bU hk]at h;rw[List.all_eq_false];exact⟨s[k],iG hk,by simpa using h⟩
theorem Dy {p:α→Bool}{s:List α}{k:Nat}(h:(s.take k).all p=true)(hk:s.length≤k):s.all p=true:=by rwa[fZ hk]at h
theorem aE {s:List α}{k:Nat}(h:k<s.length):∃x,s[k]?=some x:=⟨_,bU h⟩
theorem bO {s:List α}{k:Nat}{x:α}(h:s[k]?=some x):s.drop k=x::s.drop (k+1):=by
 obtain⟨a,rfl⟩:=fA.1 h;exact List.drop_eq_getElem_cons a
theorem ai {s:List α}{k:Nat}{x:α}(h:s[k]?=some x):k<s.length:=(fA.1 h).1
theorem ag {s:List α}{k:Nat}{x:α}(h:s[k]?=some x):s.take (k+1)=s.take k++ [x]:=by
 obtain⟨a,rfl⟩:=fA.1 h;exact K6 a
end
theorem be {a b:Bool}(h:a=b):Hi [Value.bool a]= .bool b:=by rw[h];rfl
theorem ie {a b:Int}(h:a=b):Hi [iv a]=iv b:=by rw[h];rfl
def ix {β:Type}(p:β→Bool)(l:List β):Int:=match l.findIdx? p with|some i=>(i:Int)|none=> -1
theorem tj {β:Type}{p:β→Bool}{l:List β}{k:Nat}{x:β}(h:(l.take k).all (λy=> !p y)=true)(hx:l[k]?=some x)(hp:p x=true):ix p l=k:=by
 obtain⟨a,rfl⟩:=fA.1 hx
 have:l.findIdx? p=some k:=by
  rw[List.findIdx?_eq_some_iff_getElem];refine⟨a,hp,λj b=> ?_⟩;rw[eY]at h
  have h1:=h l[j] (by rw[List.mem_take_iff_getElem];exact⟨j,by omega,rfl⟩)
  simpa using h1
 simp only[ix,this]
theorem xi {β:Type}{p:β→Bool}{l:List β}{k:Nat}(h:(l.take k).all (λy=> !p y)=true)(hk:l.length≤k):ix p l= -1:=by
 rw[fZ hk,eY]at h
 have:l.findIdx? p=none:=by
  rw[List.findIdx?_eq_none_iff];intro x hx
  simpa using h x hx
 simp only[ix,this]
theorem Nl {β:Type}(p:β→Bool)(l:List β):(ix p l= -1∧∀x∈l,p x=false)∨∃(k:Nat) (x:β),l[k]?=some x∧p x=true∧ix p l=k∧∀(j:Nat) (y:β),j<k→l[j]?=some y→p y=false:=by
 unfold ix
 cases h:l.findIdx? p with
 |none=>left;exact⟨rfl,by simpa using List.findIdx?_eq_none_iff.1 h⟩
 |some k=>
  right
  obtain⟨b,hp,c⟩:=List.findIdx?_eq_some_iff_getElem.1 h;refine⟨k,l[k],bU b,hp,rfl,λj y a hy=> ?_⟩;obtain⟨d,rfl⟩:=fA.1 hy
  simpa using c j a
theorem qw {β:Type}(p:β→Bool)(l:List β):decide (0≤ix p l)=l.any p:=by
 rcases Nl p l with⟨h1,a⟩|⟨k,x,h1,a,b,_⟩
 ·rw[h1];symm;simp[List.any_eq_false];exact a
 ·rw[b]
  have:l.any p=true:=pY.2 ⟨x,aZ h1,a⟩
  rw[this];simp
def fv (f:Int×Int):Value:= .agg #[iv f.1,iv f.2]
theorem fe {a b:Int}{f:Int×Int}(h:f=(a,b)):Hi [.agg #[iv a,iv b]]=fv f:=by rw[h];rfl
def low (c:UInt8):Bool:=decide ((97:Int)≤c.toNat)&&decide ((c.toNat:Int)≤122)
def digit (c:UInt8):Bool:=decide ((48:Int)≤c.toNat)&&decide ((c.toNat:Int)≤57)
def oH (c:UInt8):Bool:=low c||digit c||decide ((c.toNat:Int)=95)||decide ((c.toNat:Int)=45)
def isName (s:bC):Bool:=decide (0<s.length)&&decide (s.length≤30)&&low (s.getD 0 0)&&s.all oH
theorem ET {s:bC}(h:((s.length:Int)=0∨30<(s.length:Int))∨((s.getD 0 0).toNat:Int)<97∨122<((s.getD 0 0).toNat:Int)):isName s=false:=by
 simp only[isName,low,Bool.and_eq_false_iff,decide_eq_false_iff_not]
 left;omega
theorem EU {s:bC}{k:Nat}(hk:k<s.length)(h:oH (s.getD k 0)=false):isName s=false:=by
 simp only[isName,CM hk h,Bool.and_false]
theorem EV {s:bC}(a:0<s.length)(h1:s.length≤30)(b:low (s.getD 0 0)=true)(h:s.all oH=true):isName s=true:=by
 simp only[isName,b,h,Bool.and_true,Bool.and_eq_true,decide_eq_true_eq]
 exact⟨a,h1⟩
abbrev uv (n:Nat):Value:= .int .u64 (n:Int)
abbrev wv (n:Nat):Value:= .agg #[uv (n/18446744073709551616),uv (n%18446744073709551616)]
section
variable {P:Program}{n:Nat}{F:Fr}{A:World→Prop}{ty:TypeId}{x y:Operand}{t u:TypeId}{a b:Nat}
theorem afF {i:Int}:IntKind.u64.wrap i=i%18446744073709551616:=by
 simp only[IntKind.wrap,IntKind.bits,IntKind.signed];simp
theorem oZ (m:Nat):IntKind.u64.wrap (m:Int)=((m%18446744073709551616:Nat):Int):=by rw[afF];omega
theorem Ev.XY {k:IntKind}{j:Int}(c m:Nat)(hm:2^c=m)(hx:ah F x (uv a))(hy:ah F y (.int k j))(h:j=c∧c≤64):Ev P n F A (.binOp .shr t x y u) ty (uv (a/m)):=by
 subst hm;obtain⟨rfl,d⟩:=h
 have:=Ev.shr (P:=P) (n:=n) (A:=A) (ty:=ty) (t:=t) (u:=u) hx hy (by omega)
 have e:(a:Int).fdiv (2^(min (c:Int).toNat IntKind.u64.bits))=((a/2^c:Nat):Int):=by
  have b:min (c:Int).toNat IntKind.u64.bits=c:=by
   have:IntKind.u64.bits=64:=rfl
   rw[this,Int.toNat_natCast];omega
  rw[b,Int.fdiv_eq_ediv_of_nonneg _ (Int.le_of_lt (Int.pow_pos (by omega)))]
  simp
 rw[e]at this;exact this
theorem Ev.alO {k:IntKind}{j:Int}(c m:Nat)(hm:2^c=m)(hx:ah F x (uv a))(hy:ah F y (.int k j))(h:j=c∧c≤64):Ev P n F A (.binOp .shl t x y u) ty (uv (a*m%18446744073709551616)):=by
 subst hm;obtain⟨rfl,d⟩:=h
 have:=Ev.alP (P:=P) (n:=n) (A:=A) (ty:=ty) (t:=t) (u:=u) hx hy (by omega)
 have e:(a:Int)*2^(min (c:Int).toNat IntKind.u64.bits)=((a*2^c:Nat):Int):=by
  have b:min (c:Int).toNat IntKind.u64.bits=c:=by
   have:IntKind.u64.bits=64:=rfl
   rw[this,Int.toNat_natCast];omega
  rw[b];simp
 rw[e,oZ]at this;exact this
theorem MP (c:Nat)(h:a<18446744073709551616)(b:c≤64):bits .and .u64 (a:Int) ((2^c-1:Nat):Int)=((a%2^c:Nat):Int):=by
 have d:2^c-1<2^64:=by have:=si (n:=2) (by omega) b;have:=Nat.pow_pos (n:=c) (a:=2) (by omega);omega
 have e:(BitVec.ofInt IntKind.u64.bits (a:Int)&&&BitVec.ofInt IntKind.u64.bits ((2^c-1:Nat):Int)).toNat=a%2^c:=by
  show(BitVec.ofInt 64 (a:Int)&&&BitVec.ofInt 64 ((2^c-1:Nat):Int)).toNat=_
  rw[BitVec.toNat_and,Lo,Lo,Lp,Lp,mq h,mq d,Nat.and_two_pow_sub_one_eq_mod]
 simp only[bits,e]
 rw[oZ,mq (wB (Nat.mod_le a _) h)]
theorem Ev.Yn (c m:Nat)(hm:2^c=m)(hx:ah F x (uv a))(hy:ah F y (uv b))(h:a<18446744073709551616∧b=2^c-1∧c≤64):Ev P n F A (.binOp .and t x y u) ty (uv (a%m)):= .of_run λa' w ha _=>by
 subst hm;obtain⟨h1,rfl,h3⟩:=h
 simp only[execOp,hx.eval ha,hy.eval ha];simp only[go_sem,MP c h1 h3];simp
theorem Ev.Vy (m:Nat){i:Int}{s d:TypeId}(hx:ah F x (iv i))(a:(P.underlying s).isSome=true)(hd:P.underlying d=some (.int .u64))(h:i=m∧m<18446744073709551616):Ev P n F A (.convert s d x) ty (uv m):=by
 obtain⟨rfl,h⟩:=h
 have:=Ev.tL (P:=P) (n:=n) (A:=A) (ty:=ty) hx a hd
 rwa[oZ,mq h]at this
theorem Ev.Vz {k:IntKind}{s d:TypeId}(hx:ah F x (.int k (a:Int)))(b:(P.underlying s).isSome=true)(hd:P.underlying d=some (.int .i64))(h:a<9223372036854775808):Ev P n F A (.convert s d x) ty (iv a):=by
 have:=Ev.tL (P:=P) (n:=n) (A:=A) (ty:=ty) hx b hd
 rwa[uX (by omega)]at this
end
section
variable {P:Program}{n:Nat}{F:Fr}{A:World→Prop}{ty:TypeId}{x y:Operand}{t:TypeId}
end
section
variable {P:Program}{n:Nat}{F:Fr}{A:World→Prop}{c:Ctx}{H R:List ak}{T:Act→World→Prop}{v v':Value}
theorem St.mN (b:Nat){e:TypeId}{L:List Value}(L':List Value)[tk:l3 b H (.cells L.toArray e (0,0)) R](h:L=L')(a:St n F (Mm c (aW b (.cells L'.toArray e (0,0))::R)) T):St n F (Mm c H) T:=by
 subst h
 refine a.o6 λw hw=> ?_
 obtain⟨ρ,hm⟩:=hw.out;exact Mm.mk (hm.perm tk.perm)
end
end Go.J
namespace Go.J
open Go Go.RowKit
section
variable {P:Program}{n:Nat}{F:Fr}{A:World→Prop}{c:Ctx}{H R:List ak}{ty t e:TypeId}{x y:Operand}{Q:Exit→Act→World→Prop}{ops:Array Oper}{rest:List Oper}{pos:String}{after:Array Edge}
theorem Ev.HG {b k N:Nat}{i:Int}{kd:IntKind}(hx:ah F x (.pointer (some ⟨b,0,none⟩)))(hy:ah F y (.int kd i))(ht:P.underlying t=some (.array N e))(d:(P.info? e).map (·.size)=some 1)
 (f:i=k) (hk:k<N):Ev P n F A (.indexAddr t x y) ty (.pointer (some ⟨b,k,none⟩)):= .of_run λa w c hw=>by
 obtain⟨inf,g,h⟩:=dp.1 d;subst f
 simp[execOp,hx.eval c,hy.eval c,Instr.indexAt,Instr.sureAddr,asIntOf,run_underlying ht,sizeOf,typeInfo,g,h,hk,Addr.add_lit]
theorem St.Jc {b off:Nat}{L:List Value}{v:Value}(L':List Value)[tk:l3 b H (.cells L.toArray e (0,0)) R](hx:ah F x (.pointer (some ⟨b,off,none⟩)))(hy:ah F y v)(a:L.set off v=L')(d:(P.info? t).map (·.size)=some 1)(h1:v.oneCell'=true)
 (f:off<L.length) (h:St n F (Mm c (aW b (.cells L'.toArray e (0,0))::R)) (wpList P ops Q rest)):
 St n F (Mm c H) (wpList P ops Q ({dst:=none,op:= .store t x y,type:=ty,pos:=pos,after:=after,guard:=none}::rest)):=by
 haveI:Dt L off v L':=⟨a⟩
 exact St.cI hx hy d h1 (Nat.ble_eq_true_of_le f) h
end
theorem Ho {P:Program}{t e:TypeId}{N size:Nat}{Z cs:Array Value}{parts:Array (Nat×Value)}{w:World}(ht:P.underlying t=some (.array N e))(hz:(P.info? t).bind (λi=>i.zero.map Value.cells)=some Z)(c:(P.info? e).map (·.size)=some size)
 (d:Instr.fill (λi=>some (i*size,size)) Z parts.toList=some cs):(Instr.build t parts).run P w= .ok (.agg cs) w:=by
 obtain⟨i,f,g⟩:=pN.1 hz;obtain⟨zv,a,rfl⟩:=dp.1 g;obtain⟨j,h,b⟩:=dp.1 c;subst b
 simp[Instr.build,zeroValue,typeInfo,f,a,run_underlying ht,sizeOf,h,d]
def du.of (X:World→Prop):du:=⟨λρ=>∀w,(∀k o,ρ k=some o→w.heap[k]?=some o)→X w,λ_ _ h k w hw=>k w λb o a=>hw b o (h b o a)⟩
theorem sk.qS {P:Program}{f:FuncId}{args:Array Value}{X:World→Prop}{post:Value→List ak→Prop}(h:∀w,X w→Calls P f args w λe w'=>∃v,e= .returned v∧post v []∧Below w.heap.size w w'):
 sk P f args ([du.of X].map aB) post:=by
 intro w ρ b
 have hx:X w:=dA.1 (b.dM (aB (du.of X)) (aQ ..)) w b.fits
 refine(h w hx).mono ?_;rintro e w' ⟨v,rfl,hp,a⟩;refine⟨v,[],rfl,hp,Mm.mk (ρ:=ρ) ⟨a.os,⟨a.tape,λh=>h.elim⟩,a.output,a.size,λk hk _=>a.block k hk,λk o hk=> ?_,Ro.le_refl _,λ_ _ _=>rfl,λ_ h=>by simp at h,λ_ h=>by simp at h,.nil⟩⟩;rw[a.block k (b.AE hk)];exact b.fits k o hk
theorem kX.qS {P:Program}{f:FuncId}{args:Array Value}{X:World→Prop}{v:Value}(h:∀w,X w→Calls P f args w λe w'=>e= .returned v∧Below w.heap.size w w'):kX P f args [du.of X] v:=
 sk.qS λw hw=>(h w hw).mono λ_ _ ⟨h1,a⟩=>⟨v,h1,rfl,a⟩
end Go.J
namespace Go.J
open Go Go.ChangeShapes Go.WideShapes Go.ChangeAt Go.RowKit Go.Deep
section
variable {H:Type}{enc:TypeId×Value→H}{P:Program}{W:World}
theorem Mc {nm:String}{g T e n:Nat}{L:List Nat}(d:P.globalNamed nm=some g)(hy:(P.globals[g]?).map (·.type)=some T)(ht:P.underlying T=some (.array n e))(he:P.underlying e=some (.int .u8))(i:P.cellsOf e=1)(b:P.cellsOf T=n)
 (h:Lib.VarReads P W nm (Lib.tabData .u8 (L.map λx:Nat=>(x:Int)))):∀w:World,(∀k o,J.all W k=some o→w.heap[k]?=some o)→∀j,j<L.length→w.cell? ⟨g,j,none⟩=some (.int .u8 (L.getD j 0)):=by
 obtain⟨u,t,cs,fuel,p,c,l,m,hd⟩:=h;obtain rfl:=Option.some.inj (d.symm.trans c);obtain rfl:=Option.some.inj (hy.symm.trans l)
 have q:=Lib.cells_of_tab ht he i b hd
 intro w hw j f
 have a:=World.var?_cell d m j
 rw[←QJ,q]at a
 have a:W.cell? ⟨g,j,none⟩=some (.int .u8 (L.getD j 0)):=by
  rw[a,bQ,bQ,bU f,aw,bU f];rfl
 obtain⟨_,C,v,fr,r,s⟩:=jg a
 rw[cV (hw _ _ r)];exact s
end
end Go.J
namespace Go.J
open Go Go.Lib
def xK:bC:=[32,9,10,40,41,91,93,44,59]
def iz (b:UInt8):Bool:=xK.contains b
theorem Kv {b:UInt8}:iz b=true↔b.toNat=32∨b.toNat=9∨b.toNat=10∨b.toNat=40∨b.toNat=41∨b.toNat=91∨b.toNat=93∨b.toNat=44∨b.toNat=59:=by
 unfold iz xK
 simp only[List.contains_cons,List.contains_nil,Bool.or_false,Bool.or_eq_true,beq_iff_eq,←UInt8.toNat_inj]
 exact Iff.rfl
theorem HH {b:UInt8}(h:128≤b.toNat):iz b=false:=by
 cases a:iz b with
 |false=>rfl
 |true=>have:=Kv.1 a;omega
def more (b:Nat):Nat:=if 194≤b∧b≤223 then 1 else if 224≤b∧b≤239 then 2 else if 240≤b∧b≤244 then 3 else 0
def YQ (b:Nat):Nat:=if b=224 then 160 else if b=240 then 144 else 128
def YH (b:Nat):Nat:=if b=237 then 159 else if b=244 then 143 else 191
def bt (s:bC)(i:Nat):Nat:=(s.getD i 0).toNat
def tH (b:Nat):Bool:=decide (128≤b∧more b=0)
def iw (s:bC)(p k:Nat):Bool:=decide (p+1+k<s.length∧(if k=0 then YQ (bt s p)else 128)≤bt s (p+1+k)∧bt s (p+1+k)≤(if k=0 then YH (bt s p)else 191))
def Y5 (s:bC)(p:Nat):Option Nat:=
 if iz (s.getD p 0)then none else if tH (bt s p)then none else if(List.range (more (bt s p))).all (iw s p)then some (more (bt s p)+1)else none
theorem pP (s:bC)(i:Nat):bt s i<256:=(s.getD i 0).toNat_lt
theorem uy (s:bC)(p:Nat):decodeL (s.drop p)=decodeN (s.length-p) (bt s p) (bt s (p+1)) (bt s (p+2)) (bt s (p+3)):=by
 rw[decodeL_N,A7,getD_dropU,getD_dropU,getD_dropU,getD_dropU,j5];rfl
def C2 (n a b:Nat):Prop:=194≤a∧a≤223∧1<n∧128≤b∧b≤191
def C3 (n a b c:Nat):Prop:=224≤a∧a≤239∧1<n∧128≤b∧b≤191∧(a=224→160≤b)∧(a=237→b≤159)∧2<n∧128≤c∧c≤191
def C4 (n a b c d:Nat):Prop:=240≤a∧a≤244∧1<n∧128≤b∧b≤191∧(a=240→144≤b)∧(a=244→b≤143)∧2<n∧128≤c∧c≤191∧3<n∧128≤d∧d≤191
theorem ux {n a b c d:Nat}(l:a<256)(h1:b<256)(m:c<256)(o:d<256):
 (a<128∧decodeN n a b c d=(a,1))∨(128≤a∧¬C2 n a b∧¬C3 n a b c∧¬C4 n a b c d∧decodeN n a b c d=(65533,1))∨
 (C2 n a b∧∃r,128≤r∧decodeN n a b c d=(r,2))∨(C3 n a b c∧∃r,128≤r∧decodeN n a b c d=(r,3))∨(C4 n a b c d∧∃r,128≤r∧decodeN n a b c d=(r,4)):=by
 unfold C2 C3 C4 decodeN
 by_cases e:a<128
 ·rw[aC e];exact .inl ⟨e,rfl⟩
 ·rw[aA e]
  right
  by_cases g:a/32=6∧(1<n∧b/64=2)
  ·rw[aC g]
   by_cases f:a%32*64+b%64≥128
   ·rw[aC f];exact .inr (.inl ⟨by omega,_,f,rfl⟩)
   ·rw[aA f];exact .inl ⟨by omega,by omega,by omega,by omega,rfl⟩
  ·rw[aA g]
   by_cases h:a/16=14∧(1<n∧b/64=2)∧(2<n∧c/64=2)
   ·rw[aC h]
    by_cases i:a%16*4096+b%64*64+c%64≥2048∧(a%16*4096+b%64*64+c%64<55296∨(57344≤a%16*4096+b%64*64+c%64∧a%16*4096+b%64*64+c%64≤1114111))
    ·rw[aC i];exact .inr (.inr (.inl ⟨by omega,_,by omega,rfl⟩))
    ·rw[aA i];exact .inl ⟨by omega,by omega,by omega,by omega,rfl⟩
   ·rw[aA h]
    by_cases j:a/8=30∧(1<n∧b/64=2)∧(2<n∧c/64=2)∧(3<n∧d/64=2)
    ·rw[aC j]
     by_cases k:a%8*262144+b%64*4096+c%64*64+d%64≥65536∧(a%8*262144+b%64*4096+c%64*64+d%64<55296∨(57344≤a%8*262144+b%64*4096+c%64*64+d%64∧a%8*262144+b%64*4096+c%64*64+d%64≤1114111))
     ·rw[aC k];exact .inr (.inr (.inr ⟨by omega,_,by omega,rfl⟩))
     ·rw[aA k];exact .inl ⟨by omega,by omega,by omega,by omega,rfl⟩
    ·rw[aA j];exact .inl ⟨by omega,by omega,by omega,by omega,rfl⟩
theorem O6 (b:Nat):(b=224∧YQ b=160)∨(b=240∧YQ b=144)∨(b≠224∧b≠240∧YQ b=128):=by
 unfold YQ;split
 ·exact .inl ⟨by assumption,rfl⟩
 ·split
  ·exact .inr (.inl ⟨by assumption,rfl⟩)
  ·exact .inr (.inr ⟨by assumption,by assumption,rfl⟩)
theorem NU (b:Nat):(b=237∧YH b=159)∨(b=244∧YH b=143)∨(b≠237∧b≠244∧YH b=191):=by
 unfold YH;split
 ·exact .inl ⟨by assumption,rfl⟩
 ·split
  ·exact .inr (.inl ⟨by assumption,rfl⟩)
  ·exact .inr (.inr ⟨by assumption,by assumption,rfl⟩)
theorem LA (b:Nat):(more b=1∧194≤b∧b≤223)∨(more b=2∧224≤b∧b≤239)∨(more b=3∧240≤b∧b≤244)∨(more b=0∧(b<194∨244<b)):=by
 unfold more
 split
 ·exact .inl ⟨rfl,by assumption⟩
 ·split
  ·exact .inr (.inl ⟨rfl,by assumption⟩)
  ·split
   ·exact .inr (.inr (.inl ⟨rfl,by assumption⟩))
   ·exact .inr (.inr (.inr ⟨rfl,by omega⟩))
theorem BE {s:bC}{p:Nat}:iw s p 0=true↔p+1<s.length∧YQ (bt s p)≤bt s (p+1)∧bt s (p+1)≤YH (bt s p):=by
 unfold iw;rw[aC rfl,aC rfl,gq]
theorem Ik {s:bC}{p:Nat}:iw s p 1=true↔p+2<s.length∧128≤bt s (p+2)∧bt s (p+2)≤191:=by
 unfold iw;rw[aA (by decide),aA (by decide),gq]
theorem UM {s:bC}{p:Nat}:iw s p 2=true↔p+3<s.length∧128≤bt s (p+3)∧bt s (p+3)≤191:=by
 unfold iw;rw[aA (by decide),aA (by decide),gq]
theorem pL {s:bC}{p m:Nat}(a:iz (s.getD p 0)=false)(hm:more (bt s p)=m)(b:¬(128≤bt s p∧m=0)):Y5 s p=if(List.range m).all (iw s p)then some (m+1)else none:=by
 unfold Y5
 have h1:tH (bt s p)=false:=by unfold tH;rw[hm];exact fI b
 rw[a,h1,hm];rfl
theorem Tq {s:bC}{p:Nat}(hp:p<s.length)(a:iz (s.getD p 0)=false):
 Y5 s p=if(decodeL (s.drop p)).1=65533∧(decodeL (s.drop p)).2=1 then none else some (decodeL (s.drop p)).2:=by
 rw[uy]
 have k:=O6 (bt s p)
 have i:=NU (bt s p)
 have c:=LA (bt s p)
 have e:(List.range 1).all (iw s p)=iw s p 0:=by simp[List.range_succ]
 have f:(List.range 2).all (iw s p)=(iw s p 0&&iw s p 1):=by simp[List.range_succ]
 have g:(List.range 3).all (iw s p)=(iw s p 0&&iw s p 1&&iw s p 2):=by simp[List.range_succ,Bool.and_assoc]
 rcases ux (n:=s.length-p) (pP s p) (pP s (p+1)) (pP s (p+2)) (pP s (p+3))with⟨h1,b⟩|⟨h1,j,n3,n4,b⟩|⟨h1,r,h,b⟩|⟨h1,r,h,b⟩|⟨h1,r,h,b⟩<;>rw[b]
 ·rw[aA (by simp only;omega),pL a (m:=0) (by omega) (by omega)];rfl
 ·rw[aC (by simp)]
  unfold C2 at j;unfold C3 at n3;unfold C4 at n4
  rcases c with⟨hm,d⟩|⟨hm,d⟩|⟨hm,d⟩|⟨hm,d⟩
  ·rw[pL a hm (by omega),e,aA (by rw[BE];omega)]
  ·rw[pL a hm (by omega),f,aA (by rw[rY,BE,Ik];omega)]
  ·rw[pL a hm (by omega),g,aA (by rw[rY,rY,BE,Ik,UM];omega)]
  ·unfold Y5
   rw[a,show tH (bt s p)=true by unfold tH;exact eB ⟨h1,hm⟩];rfl
 ·unfold C2 at h1
  rw[aA (by simp),pL a (m:=1) (by omega) (by omega),e,if_pos (by rw[BE];omega)]
 ·unfold C3 at h1
  rw[aA (by simp),pL a (m:=2) (by omega) (by omega),f,if_pos (by rw[Bool.and_eq_true,BE,Ik];omega)]
 ·unfold C4 at h1
  rw[aA (by simp),pL a (m:=3) (by omega) (by omega),g,if_pos (by rw[Bool.and_eq_true,Bool.and_eq_true,BE,Ik,UM];omega)]
theorem qq {s:bC}{p:Nat}(hp:p<s.length):1≤(decodeL (s.drop p)).2∧p+(decodeL (s.drop p)).2≤s.length∧
 ((bt s p<128∧decodeL (s.drop p)=(bt s p,1))∨(128≤(decodeL (s.drop p)).1∧∀j,j<(decodeL (s.drop p)).2→128≤bt s (p+j))):=by
 rw[uy]
 have e0:bt s (p+0)=bt s p:=rfl
 have c:∀w,(w=1∨(w=2∧128≤bt s (p+1))∨(w=3∧128≤bt s (p+1)∧128≤bt s (p+2))∨(w=4∧128≤bt s (p+1)∧128≤bt s (p+2)∧128≤bt s (p+3)))→128≤bt s p→∀j,j<w→128≤bt s (p+j):=by
  intro w h d j e
  have:j=0∨j=1∨j=2∨j=3:=by omega
  rcases this with rfl|rfl|rfl|rfl
  ·exact d
  ·omega
  ·omega
  ·omega
 rcases ux (n:=s.length-p) (pP s p) (pP s (p+1)) (pP s (p+2)) (pP s (p+3))with⟨h1,a⟩|⟨h1,f,n3,n4,a⟩|⟨h1,r,b,a⟩|⟨h1,r,b,a⟩|⟨h1,r,b,a⟩<;>rw[a]
 ·exact⟨aR _,(show p+1≤s.length by omega),.inl ⟨h1,rfl⟩⟩
 ·exact⟨aR _,(show p+1≤s.length by omega),.inr ⟨(show 128≤65533 by decide),c 1 (.inl rfl) h1⟩⟩
 ·unfold C2 at h1
  exact⟨(show 1≤2 by decide),(show p+2≤s.length by omega),.inr ⟨b,c 2 (by omega) (by omega)⟩⟩
 ·unfold C3 at h1
  exact⟨(show 1≤3 by decide),(show p+3≤s.length by omega),.inr ⟨b,c 3 (by omega) (by omega)⟩⟩
 ·unfold C4 at h1
  exact⟨(show 1≤4 by decide),(show p+4≤s.length by omega),.inr ⟨b,c 4 (by omega) (by omega)⟩⟩
theorem Hr {s:bC}{p:Nat}(hp:p<s.length)(c:iz (s.getD p 0)=false):(s.drop p).any iz=(s.drop (p+(decodeL (s.drop p)).2)).any iz:=by
 obtain⟨h1,f,a⟩:=qq hp
 have a:(decodeL (s.drop p)).2=1∨∀j,j<(decodeL (s.drop p)).2→128≤bt s (p+j):=a.imp (λq=>by rw[q.2]) (λq=>q.2)
 generalize (decodeL (s.drop p)).2=w at*
 have e:s.drop p=(s.drop p).take w++s.drop (p+w):=by rw[←List.drop_drop,qj]
 rw[e,List.any_append]
 have:((s.drop p).take w).any iz=false:=by
  rw[List.any_eq_false];intro x hx;obtain⟨j,d,rfl⟩:=GA.1 hx;rw[eU,A7]at d;rw[List.getElem_take,List.getElem_drop]
  have b:s[p+j]'(by omega)=s.getD (p+j) 0:=by rw[aw,bU (by omega)];rfl
  rw[b]
  rcases a with q|q
  ·obtain rfl:j=0:=by omega
   rw[j5,c];decide
  ·rw[HH (q j (by omega))];decide
 rw[this,Bool.false_or]
def Lj (s:bC):Nat→Nat→Option Nat
 |0,_=>some 0
 |f+1,p=>if p<s.length then match Y5 s p with
  |none=>none
  |some w=>(Lj s f (p+w)).map (· +1)
  else some 0
theorem Jx (s:bC):∀(f p:Nat),s.length-p≤f→Lj s f p=if validGoD f (s.drop p)&& !(s.drop p).any iz then some (runeCountFrom ⟨s.toArray⟩ f p)else none
 |0,p,h=>by
  rw[j6 (by omega)]
  simp[Lj,validGoD,runeCountFrom]
 |f+1,p,h=>by
  by_cases hp:p<s.length
  ·have hd:s.drop p≠ []:=by intro e;have:=congrArg List.length e;rw[A7,List.length_nil]at this;omega
   have hx:s[p]?=some (s.getD p 0):=LX 0 hp
   rw[Lj,aC hp]
   cases a:iz (s.getD p 0)with
   |true=>
    have h1:Y5 s p=none:=by unfold Y5;rw[a];rfl
    have g:(s.drop p).any iz=true:=by rw[bO hx,List.any_cons,a];rfl
    rw[h1,g];simp
   |false=>
    rw[Tq hp a,validGoD,aA hd];obtain⟨j,k,l⟩:=qq hp
    by_cases b:(decodeL (s.drop p)).1=65533∧(decodeL (s.drop p)).2=1
    ·rw[aC b,aC b];rfl
    ·rw[aA b,aA b,Hr hp a,List.drop_drop]
     have i:=Jx s f (p+(decodeL (s.drop p)).2) (by omega)
     show Option.map _ _=_
     rw[i,runeCountFrom]
     have c:p<(⟨s.toArray⟩:ByteArray).size:=by show p<s.toArray.size;simpa using hp
     rw[aC c]
     have d:=decodeL_drop ⟨s.toArray⟩ p
     simp only at d
     rw[←d]
     split
     ·simp[Nat.add_comm]
     ·rfl
  ·rw[Lj,aA hp,j6 (by omega)]
   have c:¬p<(⟨s.toArray⟩:ByteArray).size:=by show ¬p<s.toArray.size;simpa using hp
   simp[validGoD,runeCountFrom,c]
def V9:Option Nat→Bool
 |some n=>decide (1≤n∧n≤30)
 |none=>false
def isWord (s:bC):Bool:=V9 (Lj s s.length 0)
theorem Kw (s:bC):isWord s=(decide (1≤runeCountL s)&&decide (runeCountL s≤30)&&validD s&& !s.any iz):=by
 unfold isWord;rw[Jx s s.length 0 (by omega),List.drop_zero]
 have:runeCountFrom ⟨s.toArray⟩ s.length 0=runeCountL s:=by unfold runeCountL runeCount;congr 1
 rw[this];unfold validD
 cases validGoD s.length s<;>cases s.any iz<;>simp[V9]
end Go.J
namespace Go.J
open Go
section
variable {P:Program}{n:Nat}{F:Fr}{A:World→Prop}{c:Ctx}{H R:List ak}{ty:TypeId}{x y:Operand}{v:Value}{Q:Exit→Act→World→Prop}{ops:Array Oper}{rest:List Oper}
 {pos:String} {after:Array Edge} {t e:TypeId} {m k:Nat} {cs:List Value}
theorem Ev.n9 {b o cap size:Nat}{i:Int}{kd:IntKind}(d:v= .slice (some ⟨b,o,none⟩) m cap)(hx:ah F x v)(hy:ah F y (.int kd i))(ht:P.underlying t=some (.slice e))(f:(P.info? e).map (·.size)=some size)
 (g:i=k) (hk:k<m):Ev P n F A (.indexAddr t x y) ty (cZ v size k 0):= .of_run λa w c _=>by
 subst d;obtain⟨inf,h,j⟩:=dp.1 f;subst g
 simp[execOp,hx.eval c,hy.eval c,Instr.indexAt,asIntOf,run_underlying ht,sizeOf,typeInfo,h,j,hk,eG,Addr.add_lit]
theorem DJ {size off:Nat}{u:Value}{ρ:Ro}{w:World}(f:ez c (row v e size m cs::R) ρ w)(hk:k<m)(C:off<size):∃b l,cZ v size k off= .pointer (some ⟨b,k*size+off,none⟩)∧v.ownBlock=some b∧
 w.cell? ⟨b,k*size+off,none⟩=some l∧w.frozen? ⟨b,k*size+off,none⟩=false∧ez c (row v e size m (cs.set (k*size+off) u)::R) ρ (w.setCell ⟨b,k*size+off,none⟩ u):=by
 have d:=eN.1 (f.dM _ (aQ ..))
 have n:k*size+off<cs.length:=by
  rw[d.1]
  have:(k+1)*size≤m*size:=iV _ hk
  rw[jf]at this;omega
 obtain⟨b,o,p,a,q⟩:=jz d hk (bU n);refine⟨b,_,o,a,p,q,?_⟩;refine f.alter rfl ⟨rfl,aR _⟩ rfl (by simp) (λj D h=> ?_) (eN.2 ?_) (λE i=>by rw[eI]at i⊢;exact .inl i)
 ·rw[eI,a]at h
  simp only[World.setCell,Array.getElem?_modify]
  rw[aA (λe=>h (by rw[e]))]
 ·obtain⟨r,s⟩:=d
  refine⟨by rw[cn];exact r,?_⟩
  rcases s with⟨rfl,rfl⟩|⟨g,cap,cur,rfl,t,x,y,z,A,B⟩
  ·omega
  ·simp only[Value.ownBlock,Option.some.injEq]at a
   subst a;refine .inr ⟨_,cap,_,rfl,t,nR x,y,z,by simp[A],?_⟩;rw[←B,Array.toList_setIfInBounds,List.take_set]
theorem St.La {d f:Value}[tk:lU v H e 2 m cs R](hx:ah F x (cZ v 2 k 0))(hy:ah F y (.agg #[d,f]))(l:(P.info? t).map (·.size)=some 2)(h1:d.oneCell'=true)(o:f.oneCell'=true)
 (hk:k<m) (h:St n F (Mm c (row v e 2 m ((cs.set (k*2) d).set (k*2+1) f)::R)) (wpList P ops Q rest)):
 St n F (Mm c H) (wpList P ops Q ({dst:=none,op:= .store t x y,type:=ty,pos:=pos,after:=after,guard:=none}::rest)):=by
 refine St.lq (K:=λC H'=>H'=row v e 2 m ((cs.set (k*2) d).set (k*2+1) f)::R) ?_ ?_
 ·intro a w ρ g hm
  have p:=hm.perm tk.perm
  obtain⟨b,D,q,r,c1,f1,s⟩:=DJ (off:=0) (u:=d) p hk (by omega);obtain⟨E,z2,G,j,c2,f2,z⟩:=DJ (off:=1) (u:=f) s hk (by omega)
  rw[r]at j;cases j
  rw[q]at hx;obtain⟨i,A,B⟩:=dp.1 l;refine⟨.skip,(w.setCell ⟨b,k*2+0,none⟩ d).setCell ⟨b,k*2+1,none⟩ f,ρ,_,?_,⟨_,.inr ⟨rfl,rfl⟩,rfl⟩,z⟩
  simp only[Nat.add_zero]at hx c1 f1 c2 f2⊢
  simp[execOp,hx.eval g,hy.eval g,Instr.storeAt,Instr.sureAddr,storeVar,sizeOf,typeInfo,A,B,bK,storeCells,run_store P w _ d _ h1,run_store P _ _ f _ o,c1,f1,c2,f2,Addr.add_zero',Addr.add_lit]
 ·rintro _ _ rfl
  exact h
abbrev Gm (α:Type):=aV×List α×Nat
def gR (α:Type):Rp (Gm α):=⟨2,by decide,λx=>[x.1.1,iv (x.2.2:Nat)],λ_=>True,λ_=>rfl,λx u h=>by
 simp at h;rcases h with rfl|rfl
 ·exact x.1.2
 ·rfl⟩
end
def iP (ds:List du):du:=⟨λρ=>∀d∈ds,d.f ρ,λ_ _ h k d hd=>d.mono _ _ h (k d hd)⟩
theorem eE.all {P:Program}{f:FuncId}{args:Array Value}{ds:List du}{v:Value}(h:eE P f args ds v):eE P f args [iP ds] v:=by
 intro w ρ st
 have a:∀d∈ds,d.f ρ:=dA.1 (st.dM (aB (iP ds)) (by simp))
 have e:jo (ds.map aB)=jo ([iP ds].map aB):=by
  funext b
  apply propext
  constructor
  ·intro h;exact absurd h (jA ds b)
  ·intro h;exact absurd h (jA [iP ds] b)
 have vg:ez ⟨w,ρ,jo ([iP ds].map aB),True⟩ [] ρ w:=ez.drop st
 have st2:Start (ds.map aB) ρ w:=by
  have:=vg.AV ds a
  rw[gu]at this;unfold Start;rw[e];exact this
 have:=h w ρ st2
 rw[e]at this;exact this
theorem eE.o6 {P:Program}{f:FuncId}{args:Array Value}{ds a:List du}{v:Value}(h:eE P f args ds v)(c:∀ρ,(∀d∈a,d.f ρ)→∀d∈ds,d.f ρ):eE P f args a v:=by
 intro w ρ st
 have g:∀d∈a,d.f ρ:=λd hd=>dA.1 (st.dM (aB d) (eQ hd))
 have e:jo (ds.map aB)=jo (a.map aB):=by
  funext b
  apply propext
  exact⟨λh=>absurd h (jA ds b),λh=>absurd h (jA a b)⟩
 have vg:ez ⟨w,ρ,jo (a.map aB),True⟩ [] ρ w:=by
  have:∀(l:List du),ez ⟨w,ρ,jo (a.map aB),True⟩ (l.map aB) ρ w→ez ⟨w,ρ,jo (a.map aB),True⟩ [] ρ w:=by
   intro l
   induction l with
   |nil=>exact λh=>h
   |cons d l i=>exact λh=>i h.drop
  exact this a st
 have st2:Start (ds.map aB) ρ w:=by
  have:=vg.AV ds (c ρ g)
  rw[gu]at this;unfold Start;rw[e];exact this
 have:=h w ρ st2
 rw[e]at this;exact this
theorem iq.iP {c:Ctx}{L R:List ak}{ds:List du}(h:iq c L R ds):iq c L R [J.iP ds]:=λρ w hm d hd=>by
 rw[bP.1 hd]
 exact λa b=>h ρ w hm a b
theorem dV.iP {c:Ctx}{H:List ak}{ds:List du}(h:dV c H ds):dV c H [J.iP ds]:=λρ w hm d hd=>by
 rw[bP.1 hd]
 exact λa b=>h ρ w hm a b
theorem St.cast {n:Nat}{F:Fr}{c:Ctx}{H H':List ak}{T:Act→World→Prop}(h:H=H')(k:St n F (Mm c H') T):St n F (Mm c H) T:=by rw[h];exact k
section
variable {n:Nat}{F:Fr}{c:Ctx}{H R:List ak}{T:Act→World→Prop}{α:Type}
def aF (f:α→du)(xs:List α):du:=⟨λρ=>∀x∈xs,(f x).f ρ,λρ jq h k x hx=>(f x).mono _ _ h (k x hx)⟩
theorem St.cL (f:α→du)(xs:List α){x:α}[hd:lT (aF f xs) H](hx:x∈xs)(k:St n F (Mm c (aB (f x)::H)) T):St n F (Mm c H) T:=
 St.ea (f x) [aF f xs] (λρ h=>h _ (aQ ..) x hx) k
theorem St.dN (f:α→du)(k:St n F (Mm c (aB (aF f [])::H)) T):St n F (Mm c H) T:=
 St.fact (aF f []) (λρ _ _=>λx hx=>by cases hx) k
theorem St.tM (f:α→du){xs:List α}{x:α}[hd:lT (aF f xs) H][hx:lT (f x) H](k:St n F (Mm c (aB (aF f (xs++ [x]))::H)) T):St n F (Mm c H) T:=
 St.ea (aF f (xs++ [x])) [aF f xs,f x] (λρ h y hy=>by
  rcases cG.1 hy with hy|hy
  ·exact h _ (aQ ..) y hy
  ·rw[bP.1 hy];exact h _ (cO _ (aQ ..))) k
theorem St.mT (f:α→du){xs:List α}{x:α}[hd:lT (aF f xs) H][hx:lT (f x) H](k:St n F (Mm c (aB (aF f (x::xs))::H)) T):St n F (Mm c H) T:=
 St.ea (aF f (x::xs)) [aF f xs,f x] (λρ h y hy=>by
  rcases cK.1 hy with rfl|hy
  ·exact h _ (cO _ (aQ ..))
  ·exact h _ (aQ ..) y hy) k
end
abbrev nB (s:bC):Prop:=s.length≤140737488351232
structure rh where
 name:bC
 pv:aV
 parents:List Int
structure jJ where
 name:bC
 BS:Int
 value:Int
structure dx where
 dF:Int
 tqo:Int
structure dh where
 type:Int
 lv:aV
 aq:List dx
structure dD where
 nv:aV
 nodes:List dh
inductive fb where
 |mk (base:bC) (av:aV) (args:List fb)
inductive di where
 |mk (kind:Int) (name:bC) (index:Int) (type:fb) (av:aV) (args:List di)
inductive dE where
 |mk (rule lex:Int) (kv:aV) (kids:List dE)
def fb.base:fb→bC| .mk b _ _=>b
def fb.av:fb→aV| .mk _ v _=>v
def fb.args:fb→List fb| .mk _ _ l=>l
def di.kind:di→Int| .mk k _ _ _ _ _=>k
def di.name:di→bC| .mk _ s _ _ _ _=>s
def di.index:di→Int| .mk _ _ i _ _ _=>i
def di.type:di→fb| .mk _ _ _ t _ _=>t
def di.av:di→aV| .mk _ _ _ _ v _=>v
def di.args:di→List di| .mk _ _ _ _ _ l=>l
def dE.rule:dE→Int| .mk r _ _ _=>r
def dE.lex:dE→Int| .mk _ l _ _=>l
def dE.kv:dE→aV| .mk _ _ v _=>v
def dE.kids:dE→List dE| .mk _ _ _ l=>l
structure ca where
 name:bC
 graph:dD
 kids:Int
 weight:Int
 ew:di
structure eZ where
 word:bC
 graph:dD
 weight:Int
 ew:di
structure gW where
 tv:aV
 types:List rh
 fv:aV
 cC:List jJ
 rv:aV
 rules:List ca
 xv:aV
 aN:List eZ
 start:dD
def mw:Rp rh:=⟨2,by decide,λx=>[sv x.name,x.pv.1],λx=>nB x.name,λ_=>rfl,λx u h=>by simp at h;rcases h with rfl|rfl;rfl;exact x.pv.2⟩
def ga:Rp jJ:=⟨3,by decide,λx=>[sv x.name,iv x.BS,iv x.value],λx=>nB x.name∧aa x.BS∧aa x.value,λ_=>rfl,λx u h=>by simp at h;rcases h with rfl|rfl|rfl<;>rfl⟩
def au:Rp dx:=⟨2,by decide,λx=>[iv x.dF,iv x.tqo],λx=>aa x.dF∧aa x.tqo,λ_=>rfl,λx u h=>by simp at h;rcases h with rfl|rfl<;>rfl⟩
def bq:Rp dh:=⟨2,by decide,λx=>[iv x.type,x.lv.1],λx=>aa x.type,λ_=>rfl,λx u h=>by simp at h;rcases h with rfl|rfl;rfl;exact x.lv.2⟩
def kM:Rp fb:=⟨2,by decide,λx=>[sv x.base,x.av.1],λx=>nB x.base,λ_=>rfl,λx u h=>by simp at h;rcases h with rfl|rfl;rfl;exact x.av.2⟩
abbrev PW (x:di):List Value:=[iv x.kind,sv x.name,iv x.index,sv x.type.base,x.type.av.1,x.av.1]
theorem cF {u:Value}{L:List Value}(h:u.oneCell'=true)(k:∀v∈L,v.oneCell'=true):∀v∈u::L,v.oneCell'=true:=λv a=>by
 rcases cK.1 a with rfl|a
 ·exact h
 ·exact k v a
theorem T7:∀v∈([]:List Value),v.oneCell'=true:=λv a=>by cases a
theorem vo (x:di):∀u∈PW x,u.oneCell'=true:=cF rfl (cF rfl (cF rfl (cF rfl (cF x.type.av.2 (cF x.av.2 T7)))))
def dI:Rp di:=⟨6,by decide,PW,λx=>aa x.kind∧nB x.name∧aa x.index∧nB x.type.base,λ_=>rfl,λx u h=>vo x u h⟩
abbrev Jl (x:dE):List Value:=[iv x.rule,iv x.lex,x.kv.1]
def dB:Rp dE:=⟨3,by decide,Jl,λx=>aa x.rule∧aa x.lex,λ_=>rfl,λx u h=>by simp at h;rcases h with rfl|rfl|rfl;rfl;rfl;exact x.kv.2⟩
abbrev zW (x:ca):List Value:=[sv x.name,x.graph.nv.1,iv x.kids,iv x.weight,iv x.ew.kind,sv x.ew.name,iv x.ew.index,sv x.ew.type.base,x.ew.type.av.1,x.ew.av.1]
def cT:Rp ca:=⟨10,by decide,zW,λx=>nB x.name∧aa x.kids∧aa x.weight∧dI.wf x.ew,λ_=>rfl,λx u h=>cF rfl (cF x.graph.nv.2 (cF rfl (cF rfl (vo x.ew)))) u h⟩
abbrev Si (x:eZ):List Value:=[sv x.word,x.graph.nv.1,iv x.weight,iv x.ew.kind,sv x.ew.name,iv x.ew.index,sv x.ew.type.base,x.ew.type.av.1,x.ew.av.1]
def e7:Rp eZ:=⟨9,by decide,Si,λx=>nB x.word∧aa x.weight∧dI.wf x.ew,λ_=>rfl,λx u h=>cF rfl (cF x.graph.nv.2 (cF rfl (vo x.ew))) u h⟩
instance (x:rh):j7 mw x [sv x.name,x.pv.1]:=⟨rfl⟩
instance (x:jJ):j7 ga x [sv x.name,iv x.BS,iv x.value]:=⟨rfl⟩
instance (x:dx):j7 au x [iv x.dF,iv x.tqo]:=⟨rfl⟩
instance (x:dh):j7 bq x [iv x.type,x.lv.1]:=⟨rfl⟩
instance (x:fb):j7 kM x [sv x.base,x.av.1]:=⟨rfl⟩
instance (x:di):j7 dI x (PW x):=⟨rfl⟩
instance (x:dE):j7 dB x (Jl x):=⟨rfl⟩
instance (x:ca):j7 cT x (zW x):=⟨rfl⟩
instance (x:eZ):j7 e7 x (Si x):=⟨rfl⟩
abbrev jG (g:gW):List Value:=[g.tv.1,g.fv.1,g.rv.1,g.xv.1,g.start.nv.1]
inductive rf (ρ:Ro):fb→Prop
 |mk {x:fb} (h:(sl kM x.av.1 x.args).f ρ) (k:∀y∈x.args,rf ρ y):rf ρ x
inductive om (ρ:Ro):di→Prop
 |mk {x:di} (ht:rf ρ x.type) (h:(sl dI x.av.1 x.args).f ρ) (k:∀y∈x.args,om ρ y):om ρ x
inductive oq (ρ:Ro):dE→Prop
 |mk {x:dE} (h:(sl dB x.kv.1 x.kids).f ρ) (k:∀y∈x.kids,oq ρ y):oq ρ x
theorem rf.mono {ρ jq:Ro}(h:∀k o,ρ k=some o→jq k=some o){x:fb}(hx:rf ρ x):rf jq x:=by
 induction hx with
 |mk h1 _ a=>exact .mk ((sl _ _ _).mono _ _ h h1) a
theorem om.mono {ρ jq:Ro}(h:∀k o,ρ k=some o→jq k=some o){x:di}(hx:om ρ x):om jq x:=by
 induction hx with
 |mk ht h1 _ a=>exact .mk (ht.mono h) ((sl _ _ _).mono _ _ h h1) a
theorem oq.mono {ρ jq:Ro}(h:∀k o,ρ k=some o→jq k=some o){x:dE}(hx:oq ρ x):oq jq x:=by
 induction hx with
 |mk h1 _ a=>exact .mk ((sl _ _ _).mono _ _ h h1) a
def er (x:fb):du:=⟨λρ=>rf ρ x,λ_ _ h k=>k.mono h⟩
def cm (x:di):du:=⟨λρ=>om ρ x,λ_ _ h k=>k.mono h⟩
def bx (x:dE):du:=⟨λρ=>oq ρ x,λ_ _ h k=>k.mono h⟩
def s6 (x:rh):du:=sl aJ x.pv.1 x.parents
def cB (x:dh):du:=sl au x.lv.1 x.aq
def kb (g:dD):List du:=[sl bq g.nv.1 g.nodes,aF cB g.nodes]
def aG (g:dD):du:=iP (kb g)
def PA (x:ca):List du:=[aG x.graph,cm x.ew]
def bz (x:ca):du:=iP (PA x)
def XC (x:eZ):List du:=[aG x.graph,cm x.ew]
def eR (x:eZ):du:=iP (XC x)
def Ue (tv fv:aV)(ts:List rh)(a:List jJ):List du:=[sl mw tv.1 ts,aF s6 ts,sl ga fv.1 a]
def Gz (g:gW):List du:=[sl mw g.tv.1 g.types,aF s6 g.types,sl ga g.fv.1 g.cC,sl cT g.rv.1 g.rules,aF bz g.rules,sl e7 g.xv.1 g.aN,aF eR g.aN,aG g.start]
def eu (g:gW):du:=iP (Gz g)
section
variable {n:Nat}{F:Fr}{c:Ctx}{H R:List ak}{T:Act→World→Prop}
theorem St.uD (x:fb)[hd:lT (er x) H](k:St n F (Mm c (aB (sl kM x.av.1 x.args)::aB (aF er x.args)::H)) T):St n F (Mm c H) T:=
 St.jQ (ι:=Unit) (er x) (λ_=>[sl kM x.av.1 x.args,aF er x.args]) (λρ h=>⟨(),λe he=>by
  cases h with
  |mk h k=>
   simp only[List.mem_cons,List.not_mem_nil,or_false]at he
   rcases he with rfl|rfl
   ·exact h
   ·exact k⟩) λ_=>k
theorem St.Eu (x:di)[hd:lT (cm x) H](k:St n F (Mm c (aB (er x.type)::aB (sl dI x.av.1 x.args)::aB (aF cm x.args)::H)) T):St n F (Mm c H) T:=
 St.jQ (ι:=Unit) (cm x) (λ_=>[er x.type,sl dI x.av.1 x.args,aF cm x.args]) (λρ h=>⟨(),λe he=>by
  cases h with
  |mk ht h k=>
   simp only[List.mem_cons,List.not_mem_nil,or_false]at he
   rcases he with rfl|rfl|rfl
   ·exact ht
   ·exact h
   ·exact k⟩) λ_=>k
theorem St.Ew (x:dE)[hd:lT (bx x) H](k:St n F (Mm c (aB (sl dB x.kv.1 x.kids)::aB (aF bx x.kids)::H)) T):St n F (Mm c H) T:=
 St.jQ (ι:=Unit) (bx x) (λ_=>[sl dB x.kv.1 x.kids,aF bx x.kids]) (λρ h=>⟨(),λe he=>by
  cases h with
  |mk h k=>
   simp only[List.mem_cons,List.not_mem_nil,or_false]at he
   rcases he with rfl|rfl
   ·exact h
   ·exact k⟩) λ_=>k
theorem St.JG (L:List du)[hd:lT (iP L) H](k:St n F (Mm c (L.map aB++H)) T):St n F (Mm c H) T:=
 St.jQ (iP L) (λ_:Unit=>L) (λρ h=>⟨(),h⟩) λ_=>k
end
end Go.J
namespace Go.Proofs.YtblifkgpebebmaaGreatDoor
open Go Go.J Tryz
inductive il where
 |mk (base:bC) (args:List il)
inductive jL where
 |mk (kind:Int) (name:bC) (index:Int) (type:il) (args:List jL)
inductive jZ where
 |mk (rule lex:Int) (kids:List jZ)
mutual
def df:fb→il
 | .mk b _ l=> .mk b (JS l)
def JS:List fb→List il
 | []=>[]
 |x::l=>df x::JS l
end
mutual
def dH:di→jL
 | .mk k s i t _ l=> .mk k s i (df t) (DT l)
def DT:List di→List jL
 | []=>[]
 |x::l=>dH x::DT l
end
mutual
def cx:dE→jZ
 | .mk r x _ l=> .mk r x (DU l)
def DU:List dE→List jZ
 | []=>[]
 |x::l=>cx x::DU l
end
theorem vd:∀l:List fb,JS l=l.map df
 | []=>rfl
 |x::l=>by rw[JS,vd l];rfl
theorem sc:∀l:List di,DT l=l.map dH
 | []=>rfl
 |x::l=>by rw[DT,sc l];rfl
theorem zr:∀l:List dE,DU l=l.map cx
 | []=>rfl
 |x::l=>by rw[DU,zr l];rfl
def il.base:il→bC| .mk b _=>b
def il.args:il→List il| .mk _ l=>l
def jL.kind:jL→Int| .mk k _ _ _ _=>k
def jL.name:jL→bC| .mk _ s _ _ _=>s
def jL.index:jL→Int| .mk _ _ i _ _=>i
def jL.type:jL→il| .mk _ _ _ t _=>t
def jL.args:jL→List jL| .mk _ _ _ _ l=>l
def jZ.rule:jZ→Int| .mk r _ _=>r
def jZ.lex:jZ→Int| .mk _ l _=>l
def jZ.kids:jZ→List jZ| .mk _ _ l=>l
theorem r9 (x:fb):(df x).base=x.base:=by cases x;rfl
theorem km (x:fb):(df x).args=x.args.map df:=by cases x;exact vd _
theorem se (x:di):(dH x).args=x.args.map dH:=by cases x;exact sc _
abbrev eo:=bC×List Int
abbrev oc:=bC×Int×Int
abbrev KE:=Int×List (Int×Int)
abbrev e8:=List KE
structure sm where
 name:bC
 graph:e8
 kids:Int
 weight:Int
 ew:jL
structure Dp where
 word:bC
 graph:e8
 weight:Int
 ew:jL
structure fj where
 types:List eo
 cC:List oc
 rules:List sm
 aN:List Dp
 start:e8
def dG (x:rh):eo:=(x.name,x.parents)
def gz (x:jJ):oc:=(x.name,x.BS,x.value)
def fP (x:dx):Int×Int:=(x.dF,x.tqo)
def mB (x:dh):KE:=(x.type,x.aq.map fP)
def ax (g:dD):e8:=g.nodes.map mB
def lK (x:ca):sm:=⟨x.name,ax x.graph,x.kids,x.weight,dH x.ew⟩
def oe (x:eZ):Dp:=⟨x.word,ax x.graph,x.weight,dH x.ew⟩
def bZ (g:gW):fj:=⟨g.types.map dG,g.cC.map gz,g.rules.map lK,g.aN.map oe,ax g.start⟩
def rQ (i:Int):Int→List Int→Int×Int
 |_,[]=>(0,0)
 |last,p::ps=>if p<0∨i≤p then(3,i)else if p≤last then(13,i)else rQ i p ps
def lR:List bC→Nat→List eo→Int×Int
 |_,_,[]=>(0,0)
 |known,i,t::ts=>if isName t.1=false then(10,i)else if t.1∈known then(7,i)else if decide (i=0)≠decide (t.2.length=0)then(5,i)
  else if(rQ i (-1) t.2).1≠0 then rQ i (-1) t.2 else lR (known++ [t.1]) (i+1) ts
def Au (l:List eo):Int×Int:=if l.length=0∨60<l.length then(2,-1)else lR [] 0 l
def Pt (U:List Nat)(i:Nat)(ps:List Int):Nat:=ps.foldl (λu p=>u|||U.getD p.toNat 0) (2^i)
def nW:List Nat→List eo→List Nat
 |U,[]=>U
 |U,t::l=>nW (U++ [Pt U U.length t.2]) l
def Av (l:List eo):List Nat:=nW [] l
def iD (l:List eo)(i j:Nat):Bool:=((Av l).getD i 0).testBit j
def comm (l:List eo)(a b:Nat):List Nat:=(List.range l.length).filter λi=>iD l i a&&iD l i b
def kD (l:List eo)(a b:Nat):Bool:=match comm l a b with
 | []=>false
 |m::r=>r.any λi=> !iD l i m
def wa (l:List eo):Option Nat:=(List.range l.length).find? λb=>(List.range b).any λa=>kD l a b
def mV (n:Int):List bC→Nat→List oc→Int×Int
 |_,_,[]=>(0,0)
 |known,i,f::a=>if isName f.1=false then(10,i)else if f.1∈known then(7,i)else if f.2.1<0∨n≤f.2.1∨f.2.2<0∨n≤f.2.2 then(3,i)else mV n (known++ [f.1]) (i+1) a
def jP (ts:List eo)(a:List oc):Int×Int:=
 if 40<a.length then(2,-1)else if(Au ts).1≠0 then Au ts else match wa ts with
  |some b=>(16,b)
  |none=>mV ts.length [] 0 a
def Ae (nf nn i:Int):Int→List (Int×Int)→Int×Int
 |_,[]=>(0,0)
 |last,x::xs=>if x.1<0∨nf≤x.1∨x.2<0∨nn≤x.2 then(3,i)else if x.1≤last then(13,i)else Ae nf nn i x.1 xs
def fC (nt nf nn:Int):Nat→e8→Int×Int
 |_,[]=>(0,0)
 |i,x::xs=>if x.1<0∨nt≤x.1 then(3,i)else if(Ae nf nn i (-1) x.2).1≠0 then Ae nf nn i (-1) x.2 else fC nt nf nn (i+1) xs
def fX (nt nf:Int)(g:e8):Int×Int:=if g.length=0∨60<g.length then(2,-2)else fC nt nf g.length 0 g
def iK:KE:=(0,[])
def ft0:oc:=([],0,0)
def IX (ts:List eo)(a:List oc)(g:e8)(t:Int)(x:Int×Int):Bool:=
 !iD ts t.toNat (a.getD x.1.toNat ft0).2.1.toNat|| !iD ts (g.getD x.2.toNat iK).1.toNat (a.getD x.1.toNat ft0).2.2.toNat
def tJ (ts:List eo)(a:List oc)(g:e8)(i:Nat):Bool:=(g.getD i iK).2.any (IX ts a g (g.getD i iK).1)
def mU (ts:List eo)(a:List oc)(g:e8):Option Nat:=(List.range g.length).find? (tJ ts a g)
def Ei (i:Nat)(M:List Bool)(x:Int×Int):List Bool:=if M.getD i false then M.set x.2.toNat true else M
def Uu (g:e8)(M:List Bool)(i:Nat):List Bool:=(g.getD i iK).2.foldl (Ei i) M
def pass (g:e8)(M:List Bool):List Bool:=(List.range g.length).foldl (Uu g) M
def ec (g:e8):Nat→List Bool
 |0=>(List.replicate g.length false).set 0 true
 |k+1=>pass g (ec g k)
def oy:List Bool→Int
 | []=> -1
 |b::l=>if b=false then 0 else if oy l<0 then-1 else oy l+1
def YY (g:e8):Int:=oy (ec g g.length)
def dP (ts:List eo)(a:List oc)(g:e8):Int×Int:=
 if(fX ts.length a.length g).1≠0 then fX ts.length a.length g else match mU ts a g with
  |some i=>(12,i)
  |none=>if 0≤YY g then(5,YY g)else(0,0)
def rX (g:e8)(k:Int):Int:=match(g.getD 0 iK).2.find? λx=>x.1==k with
 |some x=>x.2
 |none=> -1
def nP (g:e8)(kids:Int):Bool:=(List.range 4).all λk=>decide (0≤rX g k)==decide ((k:Int)≤kids)
abbrev sE:bC:=[101]
abbrev sT:bC:=[116]
def jS (b:bC)(m:Nat):Bool:=(decide (b=sE)||decide (b=sT))&&decide (m=0)||decide (b=[])&&decide (m=2)
mutual
def mC:il→Nat→Nat→Nat×Int
 | .mk b l,d,n=>if 200<n+1∨40<d then(n+1,1)else if jS b l.length=false then(n+1,5)else lX l (d+1) (n+1)
def lX:List il→Nat→Nat→Nat×Int
 | [],_,n=>(n,0)
 |x::l,d,n=>if(mC x d n).2≠0 then mC x d n else lX l d (mC x d n).1
end
def ve (s:il):Int:=(mC s 1 0).2
def pS (s:il):Bool:=decide (s.base=[])&&decide (s.args.length=0)
mutual
def lW:il→il→Bool
 | .mk a l,.mk b m=>decide (a=b)&&decide (l.length=m.length)&&nz l m
def nz:List il→List il→Bool
 |x::l,y::m=>lW x y&&nz l m
 |_,_=>true
end
def kC (kind:Int)(name:bC)(index:Int)(type:il)(m:Nat)(bd:Nat):Int:=
 if kind=1 then(if index≠0∨m≠0 then 5 else if isName name=false then 10 else if ve type≠0 then 12 else 0)
 else if kind=2 then(if name≠ []∨pS type=false∨m≠0 then 5 else if index<0∨(bd:Int)≤index then 15 else 0)
 else if kind=3 then(if name≠ []∨index≠0∨m≠1 then 5 else if ve type≠0 then 12 else 0)
 else if kind=4 then(if name≠ []∨index≠0∨pS type=false∨m≠2 then 5 else 0)
 else 4
mutual
def mI:jL→Nat→Nat→Nat→Nat×Int×Int
 | .mk k s i t l,d,bd,n=>if 200<n+1∨40<d then(n+1,1,n)else if kC k s i t l.length bd≠0 then(n+1,kC k s i t l.length bd,n)else o5 l (d+1) (if k=3 then bd+1 else bd) (n+1)
def o5:List jL→Nat→Nat→Nat→Nat×Int×Int
 | [],_,_,n=>(n,0,0)
 |x::l,d,bd,n=>if(mI x d bd n).2.1≠0 then mI x d bd n else o5 l d bd (mI x d bd n).1
end
def GY:Option il→Option il→Option il
 |some (.mk _ [a,b]),some x=>if lW a x then some b else none
 |_,_=>none
mutual
def xN:jL→List il→Option il
 | .mk k _ i t l,c=>if k=1 then some t else if k=2 then c[c.length-1-i.toNat]? else if k=3 then(nU l (c++ [t])).map λb=> .mk [] [t,b]else GY (nU l c) (DW l c)
def nU:List jL→List il→Option il
 |x::_,c=>xN x c
 | [],_=>none
def DW:List jL→List il→Option il
 |_::l,c=>nU l c
 | [],_=>none
end
def qZ (t:jL):Int×Int:=if(mI t 1 0 0).2.1≠0 then(mI t 1 0 0).2 else if(xN t []).isNone then(12,-1)else(0,0)
def pU (ts:List eo)(a:List oc)(r:sm):Int:=
 if r.kids<1∨3<r.kids∨r.weight<0∨1000000<r.weight then 3 else if(dP ts a r.graph).1≠0 then(dP ts a r.graph).1 else if nP r.graph r.kids=false then 5 else(qZ r.ew).1
def xH (ts:List eo)(a:List oc)(x:Dp):Int:=
 if isWord x.word=false then 10 else if x.weight<0∨1000000<x.weight then 3 else if(dP ts a x.graph).1≠0 then(dP ts a x.graph).1 else(qZ x.ew).1
def jd (ts:List eo)(a:List oc):List bC→Nat→List sm→Int×Int
 |_,_,[]=>(0,0)
 |known,i,r::rs=>if isName r.name=false then(10,i)else if r.name∈known then(7,i)else if pU ts a r≠0 then(pU ts a r,i)else jd ts a (known++ [r.name]) (i+1) rs
def jc (ts:List eo)(a:List oc):Nat→List Dp→Int×Int
 |_,[]=>(0,0)
 |i,x::xs=>if xH ts a x≠0 then(xH ts a x,i)else jc ts a (i+1) xs
def jO (g:fj):Int×Int:=
 if(jP g.types g.cC).1≠0 then jP g.types g.cC else if g.cC.length≤3 then(9,-1)else if 40<g.rules.length∨100<g.aN.length then(2,-1)
 else if(jd g.types g.cC [] 0 g.rules).1≠0 then jd g.types g.cC [] 0 g.rules else if(jc g.types g.cC 0 g.aN).1≠0 then jc g.types g.cC 0 g.aN
 else if(dP g.types g.cC g.start).1≠0 then((dP g.types g.cC g.start).1,-1)else(0,0)
end Go.Proofs.YtblifkgpebebmaaGreatDoor
namespace Go.J
open Go
def cU (u v:Value):du:=⟨λ_=>u=v,λ_ _ _ h=>h⟩
structure ub where
 slot:Nat
 gg:List Nat
 K:Value→du
instance:Inhabited ub:=⟨⟨0,[],λu=>cU u u⟩⟩
def um (bs:List ub)(e:Nat→Value)(ds:List Nat):Fr:=ds.map λj=>((bs.getD j default).slot,e j)
def pd (bs:List ub)(e:Nat→Value)(ds:List Nat):List ak:=ds.map λj=>aB ((bs.getD j default).K (e j))
def qk (c:Ctx)(H:List ak)(slot:Nat)(K:Value→du)(a:Act)(w:World):Prop:=a.defers=[]∧∃u,a.tmps[slot]?=some u∧Mm c (aB (K u)::H) w
section
variable {P:Program}{ops:Array Oper}{Q:Exit→Act→World→Prop}{n:Nat}{F:Fr}{c:Ctx}{H R:List ak}
class GS (H H':List ak):Prop where
 eq:∃L,H'=L++H
instance (priority:=high) GS.here (H:List ak):GS H H:=⟨[],rfl⟩
instance GS.there (E:ak)(H H':List ak)[h:GS H H']:GS H (E::H'):=⟨let⟨L,e⟩:=h.eq;⟨E::L,by rw[e];rfl⟩⟩
theorem ez.tail {c:Ctx}{L H:List ak}{ρ:Ro}{w:World}(h:ez c (L++H) ρ w):ez c H ρ w:=by
 induction L with
 |nil=>exact h
 |cons E L a=>exact a (ez.drop h)
theorem St.Ve {b:Fr}{H':List ak}{slot:Nat}{K:Value→du}(u:Value)(g:look b slot=some u)(d:du)(hd:K u=d)[h:lT d H'][tl:GS H H']:St n b (Mm c H') (qk c H slot K):=
 λa w f hw=>⟨f.defers,u,f.slot _ _ g,by
  rw[hd];obtain⟨ρ,hm⟩:=hw.out
  have i:=dA.1 (hm.dM _ h.mem)
  obtain⟨L,e⟩:=tl.eq;subst e
  exact Mm.mk (hm.tail.fact d i)⟩
def VJ (P:Program)(ops:Array Oper)(Q:Exit→Act→World→Prop)(n:Nat)(F:Fr)(dr:Prop)(H:List ak)(bs:List ub)(b:ub)(o:Oper):Prop:=
 ∀(c:Ctx) (e:Nat→Value),(¬dr→¬c.dr)→St n (um bs e b.gg++F) (Mm c (pd bs e b.gg++H)) (wpList P ops (Exit.then (qk c H b.slot b.K) Q) [o])
theorem VJ.mk {dr:Prop}{bs:List ub}{slot:Nat}{gg:List Nat}{K:Value→du}{o:Oper}(a:(Nat→Value)→Fr)(L:(Nat→Value)→List ak)(h1:∀e,um bs e gg=a e)(b:∀e,pd bs e gg=L e)
 (k:∀(c:Ctx) (e:Nat→Value),(¬dr→¬c.dr)→St n (a e++F) (Mm c (L e++H)) (wpList P ops (Exit.then (qk c H slot K) Q) [o])):VJ P ops Q n F dr H bs ⟨slot,gg,K⟩ o:=λc e hd=>by
 show St n (um bs e gg++F) (Mm c (pd bs e gg++H)) _
 rw[h1,b];exact k c e hd
def ab (P:Program)(ops:Array Oper)(Q:Exit→Act→World→Prop)(n:Nat)(F:Fr)(dr:Prop)(H:List ak)(bs:List ub):List ub→List Oper→Prop
 | [],[]=>True
 |b::l,o::m=>VJ P ops Q n F dr H bs b o∧ab P ops Q n F dr H bs l m
 |_,_=>False
theorem ab.nil {dr:Prop}{bs:List ub}:ab P ops Q n F dr H bs [] []:=trivial
theorem ab.cons {dr:Prop}{bs l:List ub}{b:ub}{o:Oper}{m:List Oper}(h:VJ P ops Q n F dr H bs b o)(k:ab P ops Q n F dr H bs l m):ab P ops Q n F dr H bs (b::l) (o::m):=⟨h,k⟩
theorem ab.at_ {dr:Prop}{bs:List ub}:∀{l:List ub} {m:List Oper},ab P ops Q n F dr H bs l m→l.length=m.length∧∀(i:Nat) (b:ub) (o:Oper),l[i]?=some b→m[i]?=some o→VJ P ops Q n F dr H bs b o
 | [],[],_=>⟨rfl,λi b o h=>by simp at h⟩
 | [],_::_,h=>h.elim
 |_::_,[],h=>h.elim
 |b::l,o::m,h=>by
  obtain⟨h1,d⟩:=ab.at_ h.2;refine⟨by simp[h1],λi e o' a c=> ?_⟩
  cases i with
  |zero=>simp at a c;subst a c;exact h.1
  |succ i=>exact d i e o' (by simpa using a) (by simpa using c)
def ML (n b:Nat)(ex:List Nat)(a:List (Nat×List Nat))(hd:List Oper):Bool:=
 (a.zip hd).all (λp=>p.2.guard.isNone&&p.2.dst==some p.1.1&&Nat.ble (p.1.1+1) n&&(Nat.ble b p.1.1||ex.contains p.1.1)&&p.1.2.all (λj=>Nat.ble (j+1) a.length&&p.2.after.any λe=>Region.binds .any e&&e.on==j))&&
  (a.map (·.1)).Nodup
theorem Y3 {o:Oper}{a:Act}{w:World}{K:Act→World→Prop}(h:o.wp P a w K Q):o.wp P a w (λb w'=>K b w'∧((∃v,b=a.put o.dst v)∨b.defers≠ [])) Q:=by
 unfold Oper.wp at*
 generalize (execOp a.eval o).run P w=r at*
 cases r with
 |ok g w'=>
  cases g<;>simp only[Oper.upon]at h⊢
  case value u=>exact⟨h,.inl ⟨u,rfl⟩⟩
  case skip=>exact⟨h,.inl ⟨undef,rfl⟩⟩
  case defer d=>exact⟨h,.inr (by cases o.dst<;>simp[Act.put])⟩
  case enter f args=>
   refine Calls.mono h λe i he=> ?_
   cases e with
   |returned u=>exact⟨he,.inl ⟨u,rfl⟩⟩
   |panicked c=>exact he
   |outgrown=>exact he
  case row j args=>exact Rows.mono h λu i he=>⟨he,.inl ⟨u,rfl⟩⟩
  all_goals exact h
 |halt x w'=>
  cases x<;>simp only[Oper.upon]at h⊢
  all_goals exact h
theorem Bw {i:Nat}{o:Oper}(c:ops[i]?=some o)(d:o.guard=none){a:Act}{w:World}{K:Act→World→Prop}(h:wpOp P ops Q i K a w):wpOp P ops Q i (λb w'=>K b w'∧((∃v,b=a.put o.dst v)∨b.defers≠ [])) a w:=by
 unfold wpOp at*;rw[c]at h⊢
 have hw:Region.wanted o (yielded ops a.tmps)=true:=by unfold Region.wanted;rw[d]
 simp only[hw,if_true]at h⊢
 exact h.imp Y3 id
theorem Gn {p q:Nat→Bool}{i:Nat}(hp:p i=true)(a:q i=false)(h:∀j,j≠i→p j=q j):∀m,i<m→(List.range m).countP p=(List.range m).countP q+1:=by
 have eq:∀m,m≤i→(List.range m).countP p=(List.range m).countP q:=by
  intro m hm
  refine List.countP_congr λj b=> ?_
  have:=dt.1 b
  rw[h j (by omega)]
 intro m
 induction m with
 |zero=>intro h;omega
 |succ m c=>
  intro hm;rw[ua,List.countP_append,List.countP_append,List.countP_singleton,List.countP_singleton]
  by_cases e:i=m
  ·subst e
   rw[eq i (aR _),hp,a];simp
  ·rw[c (by omega),h m (Ne.symm e)];omega
def Qb (m:Nat)(listed:Array Bool):Nat:=(List.range m).countP λj=> !listed.getD j true
theorem ez.TE {c:Ctx}{H:List ak}{ρ:Ro}{w:World}(h:ez c H ρ w):ez ⟨w,ρ,jo H,c.dr⟩ H ρ w:=
 ⟨rfl,⟨rfl,λ_=>aR _⟩,rfl,aR _,λ_ _ _=>rfl,h.fits,Ro.le_refl _,λ_ _ _=>rfl,h.dM,λE a b d=>⟨(h.own E a b d).1,.inr ⟨E,a,d⟩⟩,h.EG⟩
theorem Ee:∀{F:Fr} {t:Nat} {x:Value},look F t=some x→t∈F.map (·.1)
 | [],_,_,h=>by simp[look]at h
 |(k,u)::F,t,x,h=>by
  simp only[look]at h
  cases a:Nat.beq t k with
  |true=>rw[mo a];simp
  |false=>
   simp only[a,cond_false]at h
   have:=Ee h
   simp only[List.map_cons,List.mem_cons];exact .inr this
def D6 (acc:List Nat)(o:Oper):Nat:=o.after.toList.foldl (λu e=>if Region.binds .any e then u|||(2^e.on|||acc.getD e.on 0)else u) 0
def gm:List Oper→List Nat→List Nat
 | [],acc=>acc
 |o::l,acc=>gm l (acc++ [D6 acc o])
theorem HR (acc:List Nat)(o:Oper){j:Nat}(h:(D6 acc o).testBit j=true):∃e∈o.after,Region.binds .any e=true∧(e.on=j∨(acc.getD e.on 0).testBit j=true):=by
 have key:∀(l:List Edge) (u:Nat),(l.foldl (λu e=>if Region.binds .any e then u|||(2^e.on|||acc.getD e.on 0)else u) u).testBit j=true→u.testBit j=true∨∃e∈l,Region.binds .any e=true∧(e.on=j∨(acc.getD e.on 0).testBit j=true):=by
  intro l
  induction l with
  |nil=>intro u h;exact .inl h
  |cons e l a=>
   intro u h;rw[wi]at h
   rcases a _ h with h1|⟨b,he,h1⟩
   ·split at h1
    ·rename_i c
     rw[Nat.testBit_or,Nat.testBit_or,Bool.or_eq_true,Bool.or_eq_true,Nat.testBit_two_pow,gq]at h1
     rcases h1 with h1|h1
     ·exact .inl h1
     ·exact .inr ⟨e,aQ ..,c,h1⟩
    ·exact .inl h1
   ·exact .inr ⟨b,cO _ he,h1⟩
 rcases key _ _ h with h1|⟨e,he,h1⟩
 ·rw[Nat.zero_testBit]at h1;cases h1
 ·exact⟨e,by simpa using he,h1⟩
theorem p7:∀(l m:List Oper) (acc:List Nat),gm (l++m) acc=gm m (gm l acc)
 | [],_,_=>rfl
 |o::l,m,acc=>by rw[we,gm,gm,p7 l m]
theorem vO:∀(l:List Oper) (acc:List Nat),(gm l acc).length=acc.length+l.length
 | [],_=>rfl
 |o::l,acc=>by rw[gm,vO l];simp;omega
theorem vP:∀(l:List Oper) (acc:List Nat) (i:Nat),i<acc.length→(gm l acc)[i]?=acc[i]?
 | [],_,_,_=>rfl
 |o::l,acc,i,h=>by rw[gm,vP l _ i (by simp;omega),oa h]
theorem OB {l:List Oper}{i:Nat}{o:Oper}(h:l[i]?=some o):(gm l []).getD i 0=D6 (gm (l.take i) []) o:=by
 have a:=(fA.1 h).1
 have e:gm l []=gm (l.drop (i+1)) (gm (l.take i) []++ [D6 (gm (l.take i) []) o]):=by
  conv=>lhs;rw[←qj i l]
  rw[p7,List.drop_eq_getElem_cons a,gm];rw[bU a]at h;rw[Option.some.inj h]
 have b:(gm (l.take i) []).length=i:=by rw[vO,eU];simp;omega
 rw[e,aw,vP _ _ _ (by simp[b]),lg (by omega),b,fh];rfl
theorem HS {l:List Oper}{i j:Nat}(h:j<i)(a:i≤l.length):(gm (l.take i) []).getD j 0=(gm l []).getD j 0:=by
 have e:gm l []=gm (l.drop i) (gm (l.take i) []):=by rw[←p7,qj]
 rw[e,aw,aw,vP (l.drop i) (gm (l.take i) []) j (by rw[vO,eU];simp;omega)]
def qX (l:List Oper)(m:Nat):Bool:=
 ((List.range l.length).all λi=>match l[i]? with
  |some o=>(o.after.all λe=>Nat.ble (e.on+1) i)&&(Nat.ble i m||o.after.any λe=>Region.binds .any e&&e.on==i-1)
  |none=>false)&&(Nat.ble l.length m||(gm l []).getD m 0==2^m-1)
theorem mi {l:List Oper}{m i:Nat}{o:Oper}(h:qX l m=true)(a:l[i]?=some o):∀e∈o.after,e.on<i:=by
 have b:=(fA.1 a).1
 simp only[qX,Bool.and_eq_true]at h
 have h1:=eY.1 h.1 i (dt.2 b)
 simp only[a,Bool.and_eq_true]at h1
 intro e he;exact dR ((Array.all_eq_true_iff_forall_mem.1 h1.1) e he)
theorem zn {l:List Oper}{m i:Nat}{o:Oper}(h:qX l m=true)(c:l[i]?=some o)(hm:m<i):∃e∈o.after,Region.binds .any e=true∧e.on=i-1:=by
 have d:=(fA.1 c).1
 simp only[qX,Bool.and_eq_true]at h
 have h1:=eY.1 h.1 i (dt.2 d)
 simp only[c,Bool.and_eq_true,Bool.or_eq_true]at h1
 rcases h1.2 with a|a
 ·have:=dR a;omega
 ·obtain⟨e,he,b⟩:=Array.any_eq_true'.1 a
  simp only[Bool.and_eq_true,beq_iff_eq]at b
  exact⟨e,he,b.1,b.2⟩
def xP (l:List Oper)(listed:Array Bool):Prop:=∀i o,l[i]?=some o→listed.getD i false=true→∀e∈o.after,Region.binds .any e=true→listed.getD e.on false=true
theorem xP.all {l:List Oper}{m:Nat}{listed:Array Bool}(g:qX l m=true)(h:xP l listed):∀(i:Nat) (o:Oper),l[i]?=some o→(∀e∈o.after,Region.binds .any e=true→listed.getD e.on false=true)→∀j,((gm l []).getD i 0).testBit j=true→listed.getD j false=true:=by
 intro i
 induction i using Nat.strongRecOn with
 |ind i k=>
  intro o b n j c
  have q:=(fA.1 b).1
  rw[OB b]at c;obtain⟨e,he,p,h1⟩:=HR _ _ c
  have d:=mi g b e he
  have f:=n e he p
  rcases h1 with rfl|h1
  ·exact f
  ·rw[HS d (by omega)]at h1
   have a:l[e.on]?=some l[e.on]:=bU (by omega)
   exact k e.on d _ a (h _ _ a f) j h1
theorem uW {l:List Oper}{m:Nat}(d:qX l m=true):∀(r:List Oper) (k:Nat) (listed:Array Bool) (a:Act) (w:World),m≤k→(∀j:Nat,r[j]?=l[k+j]?)→k+r.length=l.length→DZ k listed l.length→
 wpList P l.toArray Q r a w→wpAny P .any l.toArray Q r.length listed a w
 | [],k,listed,a,w,_,_,c,hu,h=>by
  refine⟨?_,h⟩;unfold Region.ready;rw[List.filter_eq_nil_iff];intro i f
  have p:=dt.1 f
  simp only[List.size_toArray]at p
  have:listed.getD i true=true:=by rw[hu.getD i true p];simp at c;simp;omega
  simp[this]
 |o::r,k,listed,a,w,y,q,c,hu,h=>by
  have hk:k<l.length:=by simp at c;omega
  have s:l[k]?=some o:=by simpa using (q 0).symm
  have t:l.toArray[k]?=some o:=by simpa using s
  have G:listed.size=l.length:=hu.1
  refine⟨λz=> ?_,λi f=> ?_⟩
  ·have:k∈Region.ready .any l.toArray listed:=mem_ready.2 ⟨by rw[hu.getD k true hk];simp,o,t,λe he _=>by
    have:=mi d s e he
    rw[hu.getD e.on false (by omega)];simp[this]⟩
   rw[z]at this;cases this
  ·obtain⟨u,A,v,B⟩:=mem_ready.1 f
   have C:i<l.length:=by have:=(wC.1 v).1;simpa using this
   have D:l[i]?=some A:=by simpa using v
   rw[hu.getD i true C]at u
   have H:k≤i:=by simpa using u
   have g:i=k:=by
    rcases eP k i with h1|h1
    ·obtain⟨e,he,E,n⟩:=zn d D (by omega)
     have x:=B e he E
     rw[n,hu.getD (i-1) _ (by omega)]at x
     simp at x;omega
    ·omega
   subst g
   have F:=uW d r (i+1) (listed.setIfInBounds i true)
   have b:∀a w,wpList P l.toArray Q r a w→wpAny P .any l.toArray Q r.length (listed.setIfInBounds i true) a w:=λa w h=>
    F a w (by omega) (λj=>by have:=q (j+1);simpa[Nat.add_assoc,Nat.add_comm 1 j]using this) (by simp at c⊢;omega) hu.set h
   unfold wpOp;rw[t]
   simp only[wpList]at h
   simp only
   split
   ·rename_i hw
    simp only[hw,if_true]at h
    exact h.imp (Oper.wp_mono b) id
   ·rename_i hw
    simp only[hw]at h
    exact b _ _ h
def Xok:Option (Nat×TypeId×Array Value)→Array Bool→(Nat→Value)→List ak→Prop
 |none,_,_,X=>X=[]
 |some (a,c,Z),listed,e,X=>(listed.getD a false=true∧∃b,e a= .pointer (some ⟨b,0,none⟩)∧X=[aW b (.cells Z c (0,0))])∨(listed.getD a false=false∧X=[])
structure GJ (al:Option (Nat×TypeId×Array Value))(n:Nat)(F:Fr)(c:Ctx)(H:List ak)(bs:List ub)(listed:Array Bool)(a:Act)(w:World)(e:Nat→Value)(ρ:Ro)(X:List ak):Prop where
 has:Has n a F
 mem:ez c (H++X) ρ w
 xok:Xok al listed e X
 got:∀(i:Nat) (b:ub),bs[i]?=some b→listed.getD i false=true→a.tmps[b.slot]?=some (e i)∧(b.K (e i)).f ρ
theorem GJ.use {al:Option (Nat×TypeId×Array Value)}{X:List ak}{bs:List ub}{listed:Array Bool}{a:Act}{w:World}{e:Nat→Value}{ρ:Ro}(h:GJ al n F c H bs listed a w e ρ X)(ds:List Nat)(hd:∀j∈ds,j<bs.length∧listed.getD j false=true):
 Has n a (um bs e ds++F)∧ez c (pd bs e ds++(H++X)) ρ w:=by
 have gd:∀j,j<bs.length→bs[j]?=some (bs.getD j default):=λj f=>by rw[aw,bU f];rfl
 constructor
 ·refine⟨h.has.size,h.has.defers,λt v b=> ?_⟩
  induction ds with
  |nil=>exact h.has.slot t v b
  |cons j ds m=>
   simp only[um,List.map_cons,List.cons_append,look]at b
   cases g:Nat.beq t (bs.getD j default).slot with
   |true=>
    have i:=mo g
    simp only[g,cond_true,Option.some.injEq]at b
    subst b;obtain⟨h1,l⟩:=hd j (aQ ..)
    rw[i];exact(h.got j _ (gd j h1) l).1
   |false=>
    simp only[g,cond_false]at b
    exact m (λk hk=>hd k (cO _ hk)) b
 ·have i:pd bs e ds=(ds.map λj=>(bs.getD j default).K (e j)).map aB:=by unfold pd;rw[kH];rfl
  rw[i]
  refine h.mem.AV _ λd o=> ?_
  obtain⟨j,f,rfl⟩:=dC.1 o;obtain⟨h1,l⟩:=hd j f;exact(h.got j _ (gd j h1) l).2
def YZ (P:Program)(ops:Array Oper)(n:Nat)(bs:List ub):Option (Nat×TypeId×Array Value)→Prop
 |none=>True
 |some (a,b,Z)=>(∃d ty pos after,ops[a]?=some {dst:=some d,op:= .alloc b,type:=ty,pos:=pos,after:=after,guard:=none}∧Nat.ble (d+1) n=true)∧(P.info? b).bind (λi=>i.zero.map Value.cells)=some Z∧(bs.getD a default).K=(λu=>cU u u)
def alE (al:Option (Nat×TypeId×Array Value))(e:Nat→Value)(H:List ak)(h:List ak→Prop):Prop:=match al with
 |none=>h H
 |some (a,c,Z)=>∀b,e a= .pointer (some ⟨b,0,none⟩)→h (aW b (.cells Z c (0,0))::H)
theorem Vd {al:Option (Nat×TypeId×Array Value)}{bs:List ub}(hal:YZ P ops n bs al){hd tl:List Oper}{lo:Nat}{ex:List Nat}{sd:List (Nat×List Nat)}(hsd:bs.map (λb=>(b.slot,b.gg))=sd)(hlo:F.all (λp=>Nat.ble (p.1+1) lo&& !(ex.contains p.1))=true)(W:ops=(hd++tl).toArray)(S:qX (hd++tl) hd.length=true)(J:ML n lo ex sd hd=true)(hH:ab P ops Q n F c.dr H bs bs hd)(T0:List Nat)(Uh:T0.all (λj=>Nat.ble (j+1) sd.length)=true)
 (hia:∀z r Z,al=some (z,r,Z)→z<hd.length)
 (ac3:∀e,alE al e H λH'=>St n (um bs e T0++F) (Mm c (pd bs e T0++H')) (wpList P ops Q tl)):
 ∀(f:Nat) (listed:Array Bool) (a:Act) (w:World) (e:Nat→Value) (ρ:Ro) (X:List ak),listed.size=ops.size→xP (hd++tl) listed→(∀j,hd.length≤j→j<ops.size→listed[j]?=some false)→Qb hd.length listed=f→
  GJ al n F c H bs listed a w e ρ X→wpAny P .any ops Q (f+tl.length) listed a w:=by
 obtain⟨hlen,S3⟩:=hH.at_
 have SK:ops.size=hd.length+tl.length:=by rw[W];simp
 have aj2:∀i,i<hd.length→ops[i]?=hd[i]?:=λi hi=>by rw[W];simp[List.getElem?_append_left hi]
 subst hsd
 simp only[ML,Bool.and_eq_true,decide_eq_true_eq]at J
 obtain⟨Iz,Dg⟩:=J;rw[kH]at Dg
 change (bs.map (·.slot)).Nodup at Dg
 rw[aO]at Uh
 have Iz:=eY.1 Iz
 have each:∀(i:Nat) (b:ub) (o:Oper),bs[i]?=some b→hd[i]?=some o→o.guard=none∧o.dst=some b.slot∧b.slot<n∧b.slot∉F.map (·.1)∧∀j∈b.gg,j<bs.length∧∃ed∈o.after,Region.binds .any ed=true∧ed.on=j:=by
  intro i b o T Y
  have h1:=Iz ((b.slot,b.gg),o) (aZ (i:=i) (by rw[List.getElem?_zip_eq_some];exact⟨by rw[bQ,T];rfl,Y⟩))
  simp only[Bool.and_eq_true,Option.isNone_iff_eq_none,beq_iff_eq,Bool.not_eq_true']at h1
  obtain⟨⟨⟨⟨h1,B⟩,l⟩,h4⟩,h5⟩:=h1
  refine⟨h1,B,dR l,λhm=>(by
   obtain⟨p,hp,he⟩:=dC.1 hm
   have q0:=eY.1 hlo p hp
   simp only[Bool.and_eq_true,Bool.not_eq_true']at q0
   have q1:=dR q0.1
   have q3:p.1=b.slot:=he
   rcases Bool.or_eq_true _ _|>.mp h4 with U|U
   ·have U:=dR U
    omega
   ·rw[q3]at q0;rw[U]at q0;cases q0.2),λj g=> ?_⟩
  have h6:=eY.1 h5 j g
  simp only[Bool.and_eq_true]at h6
  obtain⟨ed,s,Lr⟩:=Array.any_eq_true'.1 h6.2
  simp only[Bool.and_eq_true,beq_iff_eq]at Lr
  exact⟨by have:=dR h6.1;rwa[aO]at this,ed,s,Lr.1,Lr.2⟩
 intro f
 induction f with
 |zero=>
  intro listed a w e ρ X hs NQ htl hu m
  have all:∀j,j<hd.length→listed[j]?=some true:=λj g=>by
   have h1:¬0<Qb hd.length listed:=by omega
   unfold Qb at h1;rw[List.countP_pos_iff]at h1
   have C:j<listed.size:=by omega
   cases hv:listed[j]? with
   |none=>rw[Array.getElem?_eq_none_iff]at hv;omega
   |some b=>
    cases b with
    |true=>rfl
    |false=>exact absurd ⟨j,dt.2 g,by rw[py,hv];rfl⟩ h1
  have hup:DZ hd.length listed ops.size:=⟨hs,λj g=>by
   rcases eP j hd.length with h|h
   ·rw[all j h];simp[h]
   ·rw[htl j h g];simp[Nat.not_lt.2 h]⟩
  rw[iW];rw[W]at hup⊢;refine uW S tl hd.length listed a w (aR _) (λj=>by simp[List.getElem?_append_right]) (by simp) (by simpa using hup) ?_;rw[←W]
  obtain⟨h1,B⟩:=m.use T0 λj g=>by
   have l:=dR (eY.1 Uh j g)
   exact⟨l,by rw[py,all j (by omega)];rfl⟩
  have ht:=ac3 e
  have hx:=m.xok
  cases al with
  |none=>
   have hx:X=[]:=hx
   subst hx;exact ht a w h1 (Mm.mk (by rw[gu]at B;exact B))
  |some q=>
   obtain⟨z,r,Z⟩:=q
   have hl:listed.getD z false=true:=by rw[py,all z (hia z r Z rfl)];rfl
   rcases hx with⟨_,b,J,rfl⟩|⟨J,_⟩
   ·exact ht b J a w h1 (Mm.mk (B.perm (G8 _ (jX (l₁:=H) (l₂:=[aW b (.cells Z r (0,0))])))))
   ·rw[hl]at J;cases J
 |succ f ih=>
  intro listed a w e ρ X hs NQ htl hu m
  have hex:∃j,j<hd.length∧listed.getD j true=false:=by
   have h1:0<Qb hd.length listed:=by omega
   unfold Qb at h1;rw[List.countP_pos_iff]at h1;obtain⟨j,g,h⟩:=h1;exact⟨j,dt.1 g,by simpa using h⟩
  rw[show f+1+tl.length=(f+tl.length)+1 by omega];refine⟨λh0=> ?_,λi hi=> ?_⟩
  ·obtain⟨j,g,y⟩:=hex
   exact absurd h0 (AY hs (λi o Y=>mi S (by rw[W]at Y;simpa using Y)) ⟨j,by omega,y⟩)
  ·obtain⟨hif,o,D,Ki⟩:=mem_ready.1 hi
   have hiN:i<ops.size:=(wC.1 D).1
   have him:i<hd.length:=by
    rcases eP i hd.length with h|h
    ·exact h
    ·obtain⟨j,g,y⟩:=hex
     exfalso
     have SE:(hd++tl)[i]?=some o:=by rw[W]at D;simpa using D
     rcases eP hd.length i with B|B
     ·obtain⟨ed,s,Lr,he3⟩:=zn S SE B
      have h1:=Ki ed s Lr
      rw[he3]at h1
      have l:=htl (i-1) (by omega) (by omega)
      rw[py,l]at h1
      cases h1
     ·obtain rfl:i=hd.length:=by omega
      have NS:(gm (hd++tl) []).getD hd.length 0=2^hd.length-1:=by
       simp only[qX,Bool.and_eq_true,Bool.or_eq_true]at S
       rcases S.2 with l|l
       ·have:=dR l
        have C:=(fA.1 SE).1
        omega
       ·simpa using l
      have h1:=NQ.all S _ o SE (λed s Lr=>by
       have l:=Ki ed s Lr
       have C:=mi S SE ed s
       rw[py,Dd (show ed.on<listed.size by omega)]at l⊢
       simpa using l) j (by rw[NS,Nat.testBit_two_pow_sub_one];simpa using g)
      have C:j<listed.size:=by omega
      rw[py,Dd C]at h1 y
      simp at h1 y
      rw[h1]at y;cases y
   have hho:hd[i]?=some o:=by rw[←aj2 i him];exact D
   have T:bs[i]?=some (bs[i]'(by omega)):=bU (by omega)
   generalize bs[i]'(by omega)=b at T
   obtain⟨g1,g2,g3,g4,g5⟩:=each i b o T hho
   have hop:=S3 i b o T hho
   obtain⟨u1,u2⟩:=m.use b.gg λj g=>by
    obtain⟨q1,ed,U,q3,q4⟩:=g5 j g;refine⟨q1,?_⟩
    have h1:=Ki ed U q3
    rw[q4]at h1
    have C:j<listed.size:=by omega
    rw[py,Dd C]at h1⊢
    simpa using h1
   have C:i<listed.size:=by omega
   have abT:Qb hd.length (listed.setIfInBounds i true)=f:=by
    have h1:=Gn (p:=λj=> !listed.getD j true) (q:=λj=> !(listed.setIfInBounds i true).getD j true) (i:=i) (by simp[hif]) (by simp[Array.getD_eq_getD_getElem?,C]) (λj g=>by
     simp only[Array.getD_eq_getD_getElem?,Array.getElem?_setIfInBounds];rw[aA (Ne.symm g)]) hd.length him
    unfold Qb at hu⊢;omega
   have ac4:∀j,hd.length≤j→j<ops.size→(listed.setIfInBounds i true)[j]?=some false:=λj g hjN=>by
    rw[QI,aA (by omega)];exact htl j g hjN
   have other:∀j,j≠i→(listed.setIfInBounds i true).getD j false=listed.getD j false:=λj g=>by
    rw[py,py,QI,aA (Ne.symm g)]
   have abS:xP (hd++tl) (listed.setIfInBounds i true):=λj oj g E ed he J=>by
    have N:ed.on≠i→(listed.setIfInBounds i true).getD ed.on false=listed.getD ed.on false:=λh=>other _ h
    have acX:(listed.setIfInBounds i true).getD i false=true:=by rw[py,QI,aC rfl,aC C];rfl
    by_cases L:ed.on=i
    ·rw[L];exact acX
    ·rw[N L]
     by_cases e2:j=i
     ·subst e2
      have:oj=o:=by
       have q:(hd++tl)[j]?=some o:=by rw[W]at D;simpa using D
       rw[q]at g;exact(Option.some.inj g).symm
      subst this
      have l:=Ki ed he J
      have anF:=mi S g ed he
      rw[py,Dd (show ed.on<listed.size by omega)]at l⊢
      simpa using l
     ·rw[other _ e2]at E
      exact NQ j oj g E ed he J
   have abP:∀v,Has n (a.put (some b.slot) v) F:=λv=>by
    refine⟨by simp[Act.put,m.has.size],by simp[Act.put,m.has.defers],λt x hx=> ?_⟩
    have N:b.slot≠t:=λh=>g4 (h▸Ee hx)
    simp[Act.put,N,m.has.slot t x hx]
   have Zy:∀(v:Value) (jq:Ro),Ro.le ρ jq→(b.K v).f jq→∀(j:Nat) (V:ub),bs[j]?=some V→(listed.setIfInBounds i true).getD j false=true→
    (a.put (some b.slot) v).tmps[V.slot]?=some (if j=i then v else e j)∧(V.K (if j=i then v else e j)).f jq:=λv jq hle hKv j V O E=>by
    by_cases L:j=i
    ·subst L
     rw[T]at O;cases O
     have hsl:b.slot<a.tmps.size:=by rw[m.has.size];exact g3
     refine⟨by rw[aC rfl];simp[Act.put,hsl],by rw[aC rfl];exact hKv⟩
    ·rw[aA L]
     rw[other j L]at E;obtain⟨k1,k2⟩:=m.got j V O E;refine⟨?_,(V.K (e j)).mono ρ jq hle k2⟩
     have N:b.slot≠V.slot:=λh=>by
      have q1:(bs.map (·.slot))[i]?=some b.slot:=by rw[bQ,T];rfl
      have U:(bs.map (·.slot))[j]?=some V.slot:=by rw[bQ,O];rfl
      have:=(List.getElem?_inj (i:=i) (j:=j) (by rw[aO];omega) Dg).1 (by rw[q1,U,h])
      exact L this.symm
     simp[Act.put,N,k1]
   have r0:ez ⟨w,ρ,jo H,c.dr⟩ H ρ w:=(m.mem.left).TE
   by_cases abN:∃r Z,al=some (i,r,Z)
   ·obtain⟨r,Z,rfl⟩:=abN
    obtain⟨⟨d0,ty0,alM,af0,ab5,hd0⟩,hz,hK⟩:=hal;rw[D]at ab5
    have Y:o={dst:=some d0,op:= .alloc r,type:=ty0,pos:=alM,after:=af0,guard:=none}:=Option.some.inj ab5
    have hd1:d0=b.slot:=by rw[Y]at g2;exact Option.some.inj g2
    have hX0:X=[]:=by
     rcases m.xok with⟨hx,_⟩|⟨_,hx⟩
     ·rw[py,Dd C]at hif hx
      simp at hif hx
      rw[hif]at hx;cases hx
     ·exact hx
    subst hX0
    have k1:wpOp P ops Q i (λa' w'=>a'.defers=[]∧∃G,a'.tmps[b.slot]?=some (.pointer (some ⟨G,0,none⟩))∧Mm ⟨w,ρ,jo H,c.dr⟩ (aW G (.cells Z r (0,0))::H) w') a w:=by
     refine St.one (n:=n) (F:=F) (A:=Mm ⟨w,ρ,jo H,c.dr⟩ H) D ?_ a w m.has (Mm.mk r0);rw[Y];refine St.alloc hz hd0 (λG=>St.nil (St.wW λa' w' ha' hw'=>⟨ha'.defers,G,?_,hw'⟩));rw[←hd1];exact ha'.slot _ _ (by simp[look])
    refine wpOp_mono (λa' w' hk=> ?_) (Bw D g1 k1);obtain⟨⟨hdf,G,I,M⟩,Kq⟩:=hk
    rcases Kq with⟨v,rfl⟩|WN
    ·obtain⟨jq,M⟩:=M.out
     have Nh:ez c (H++ [aW G (.cells Z r (0,0))]) jq w':=by
      have:=ez.step (R:=[]) m.mem M
      rw[gu]at this;exact this.perm (jX (l₁:=[aW G (.cells Z r (0,0))]) (l₂:=H))
     rw[g2]at I⊢
     have huv:v= .pointer (some ⟨G,0,none⟩):=by
      have:b.slot<a.tmps.size:=by rw[m.has.size];exact g3
      simpa[Act.put,this]using I
     have hKb:b.K=λu=>cU u u:=by
      have:bs.getD i default=b:=by rw[aw,T];rfl
      rw[←this];exact hK
     refine ih (listed.setIfInBounds i true) _ w' (λk=>if k=i then v else e k) jq _ (by simp[hs]) abS ac4 abT ⟨abP v,Nh,.inl ⟨?_,G,?_,rfl⟩,Zy v jq M.le ?_⟩
     ·rw[py,QI,aC rfl,aC C];rfl
     ·show(if i=i then v else e i)=_
      rw[aC rfl];exact huv
     ·rw[hKb];exact rfl
    ·exact absurd hdf WN
   ·have k1:=St.one (i:=i) D (hop ⟨w,ρ,jo H,c.dr⟩ e (λh=>h)) a w u1 (Mm.mk (by
     have L:pd bs e b.gg=(b.gg.map λj=>(bs.getD j default).K (e j)).map aB:=by unfold pd;rw[kH];rfl
     rw[L]
     refine r0.AV _ λd hd'=> ?_
     have:=u2.dM (aB d) (kW _ (by rw[L];exact eQ hd'))
     exact dA.1 this))
    refine wpOp_mono (λa' w' hk=> ?_) (Bw D g1 k1);obtain⟨⟨hdf,u,I,M⟩,Kq⟩:=hk
    rcases Kq with⟨v,rfl⟩|WN
    ·obtain⟨jq,M⟩:=M.out
     have hKu:(b.K u).f jq:=dA.1 (M.dM _ (aQ ..))
     have Nh:ez c (H++X) jq w':=ez.step m.mem M.drop
     rw[g2]at I⊢
     have huv:v=u:=by
      have:b.slot<a.tmps.size:=by rw[m.has.size];exact g3
      simpa[Act.put,this]using I
     subst huv;refine ih (listed.setIfInBounds i true) _ w' (λk=>if k=i then v else e k) jq X (by simp[hs]) abS ac4 abT ⟨abP v,Nh,?_,Zy v jq M.le hKu⟩
     have hx:=m.xok
     cases al with
     |none=>exact hx
     |some q=>
      obtain⟨z,r,Z⟩:=q
      have N:z≠i:=λh=>abN ⟨r,Z,by rw[h]⟩
      rcases hx with⟨h1,G,B,l⟩|⟨h1,B⟩
      ·refine .inl ⟨by rw[other z N];exact h1,G,?_,l⟩
       show(if z=i then v else e z)=_
       rw[aA N];exact B
      ·exact .inr ⟨by rw[other z N];exact h1,B⟩
    ·exact absurd hdf WN
theorem St.Yx {id:Nat}(al:Option (Nat×TypeId×Array Value))(m k:Nat)(ex:List Nat){l:List Oper}(bs:List ub)(g:List (Nat×List Nat))(f:List Nat)(t:YZ P l.toArray n bs al)(u:∀o v Z,al=some (o,v,Z)→o<(l.take m).length)(x:bs.map (λb=>(b.slot,b.gg))=g)(y:F.all (λp=>Nat.ble (p.1+1) k&& !(ex.contains p.1))=true)(hm:P.follows .mixedOrders=true)(z:qX l (l.take m).length=true)(A:ML n k ex g (l.take m)=true)(B:f.all (λj=>Nat.ble (j+1) g.length)=true)
 (hH:ab P l.toArray Q n F c.dr H bs bs (l.take m)) (C:∀e,alE al e H λH'=>St n (um bs e f++F) (Mm c (pd bs e f++H')) (wpList P l.toArray Q (l.drop m))):
 St n F (Mm c H) ((Code.region id l.toArray true).wp P Q):=by
 intro a w D hw;refine wp_region_any hm ?_
 have E:=(Mm.drawn c H) w hw
 obtain⟨ρ,G⟩:=E.out
 have hlen:l.length=(l.take m).length+(l.drop m).length:=by rw[←bR,qj]
 have no:∀i,(Array.replicate l.length false).getD i false=false:=λi=>by
  rw[py,Array.getElem?_replicate];split<;>rfl
 have r:=Vd (ops:=l.toArray) (hd:=l.take m) (tl:=l.drop m) t x y (by rw[qj]) (by rw[qj];exact z) A hH f B u C (Qb (l.take m).length (Array.replicate l.length false)) (Array.replicate l.length false) a {w with drawn:=w.drawn+1} (λ_=>undef) ρ [] (by simp) (λi _ _ d=>by rw[no]at d;cases d) (λj s h=>by
  rw[Array.getElem?_replicate,aC (by simpa using h)]) rfl ⟨D,by rw[List.append_nil];exact G,by
   cases al with
   |none=>exact rfl
   |some q=>exact .inr ⟨no _,rfl⟩,λi b _ d=>by rw[no]at d;cases d⟩
 have hu:Qb (l.take m).length (Array.replicate l.length false)=(l.take m).length:=by
  unfold Qb;rw[List.countP_eq_length.2,jV];intro j s
  have:=dt.1 s
  rw[py,Array.getElem?_replicate,aC (by omega)];rfl
 rw[hu,←hlen]at r
 simpa using r
theorem St.CP {T:Act→World→Prop}{a b d e f:ak}(h:St n F (Mm c (a::b::d::e::f::R)) T):St n F (Mm c ([a,b,d,e,f]++R)) T:=h
theorem St.Qs {T:Act→World→Prop}{a b d e f g:ak}(h:St n F (Mm c (a::b::d::e::f::g::R)) T):St n F (Mm c ([a,b,d,e,f,g]++R)) T:=h
theorem St.U1 {id:Nat}(m f:Nat)(ex:List Nat){l:List Oper}(bs:List ub)(a:List (Nat×List Nat))(d:List Nat)(k:bs.map (λb=>(b.slot,b.gg))=a)(o:F.all (λp=>Nat.ble (p.1+1) f&& !(ex.contains p.1))=true)(hm:P.follows .mixedOrders=true)(q:qX l (l.take m).length=true)(r:ML n f ex a (l.take m)=true)(s:d.all (λj=>Nat.ble (j+1) a.length)=true)
 (g:(Nat→Value)→Fr) (i:(Nat→Value)→List ak) (t1:∀e,um bs e d=g e) (t2:∀e,pd bs e d=i e)
 (hH:ab P l.toArray Q n F c.dr H bs bs (l.take m)) (t:∀e,St n (g e++F) (Mm c (i e++H)) (wpList P l.toArray Q (l.drop m))):
 St n F (Mm c H) ((Code.region id l.toArray true).wp P Q):=St.Yx none m f ex bs a d trivial (λ_ _ _ h=>by cases h) k o hm q r s hH (λe=>by show St _ _ _ _;rw[t1,t2];exact t e)
theorem St.agZ {id:Nat}(a:Nat){f:TypeId}{Z:Array Value}{d0 r:Nat}{s:String}{d:Array Edge}(m o:Nat)(ex:List Nat){l:List Oper}(bs:List ub)(g:List (Nat×List Nat))(k:List Nat)
 (w:l.toArray[a]?=some {dst:=some d0,op:= .alloc f,type:=r,pos:=s,after:=d,guard:=none}) (x:Nat.ble (d0+1) n=true) (hz:(P.info? f).bind (λi=>i.zero.map Value.cells)=some Z) (y:(bs.getD a default).K=(λu=>cU u u)) (z:Nat.ble (a+1) (l.take m).length=true)
 (A:bs.map (λb=>(b.slot,b.gg))=g) (B:F.all (λp=>Nat.ble (p.1+1) o&& !(ex.contains p.1))=true) (hm:P.follows .mixedOrders=true) (C:qX l (l.take m).length=true) (q:ML n o ex g (l.take m)=true) (D:k.all (λj=>Nat.ble (j+1) g.length)=true)
 (t:(Nat→Value)→Fr) (v:(Nat→Value)→List ak) (t1:∀e,um bs e k=t e) (t2:∀e,pd bs e k=v e)
 (hH:ab P l.toArray Q n F c.dr H bs bs (l.take m)) (E:∀e b,e a= .pointer (some ⟨b,0,none⟩)→St n (t e++F) (Mm c (v e++(aW b (.cells Z f (0,0))::H))) (wpList P l.toArray Q (l.drop m))):
 St n F (Mm c H) ((Code.region id l.toArray true).wp P Q):=
 St.Yx (some (a,f,Z)) m o ex bs g k ⟨⟨d0,r,s,d,w,x⟩,hz,y⟩ (λi _ _ h=>by cases h;exact dR z) A B hm C q D hH (λe b q=>by rw[t1,t2];exact E e b q)
end
end Go.J
namespace Go.J
open Go Go.Proofs.YtblifkgpebebmaaGreatDoor
abbrev aU (x:fb):Value:= .agg #[sv x.base,x.av.1]
abbrev cN (x:di):Value:= .agg #[iv x.kind,sv x.name,iv x.index,sv x.type.base,x.type.av.1,x.av.1]
abbrev uP (x:dE):Value:= .agg #[iv x.rule,iv x.lex,x.kv.1]
abbrev bA (x:dD):Value:= .agg #[x.nv.1]
abbrev ru (x:ca):Value:= .agg #[sv x.name,x.graph.nv.1,iv x.kids,iv x.weight,iv x.ew.kind,sv x.ew.name,iv x.ew.index,sv x.ew.type.base,x.ew.type.av.1,x.ew.av.1]
abbrev ad8 (x:eZ):Value:= .agg #[sv x.word,x.graph.nv.1,iv x.weight,iv x.ew.kind,sv x.ew.name,iv x.ew.index,sv x.ew.type.base,x.ew.type.av.1,x.ew.av.1]
abbrev fG (g:gW):Value:= .agg #[g.tv.1,g.fv.1,g.rv.1,g.xv.1,g.start.nv.1]
def db (s:il)(u:Value):du:=⟨λρ=>∃x:fb,u=aU x∧df x=s∧kM.wf x∧rf ρ x,λ_ _ h ⟨x,a,b,c,d⟩=>⟨x,a,b,c,d.mono h⟩⟩
def isTerm (t:jL)(u:Value):du:=⟨λρ=>∃x:di,u=cN x∧dH x=t∧dI.wf x∧om ρ x,λ_ _ h ⟨x,a,b,c,d⟩=>⟨x,a,b,c,d.mono h⟩⟩
def bL (g:e8)(u:Value):du:=⟨λρ=>∃x:dD,u=bA x∧ax x=g∧(aG x).f ρ,λ_ _ h ⟨x,a,b,c⟩=>⟨x,a,b,(aG x).mono _ _ h c⟩⟩
def fB (r:sm)(u:Value):du:=⟨λρ=>∃x:ca,u=ru x∧lK x=r∧cT.wf x∧(bz x).f ρ,λ_ _ h ⟨x,a,b,c,d⟩=>⟨x,a,b,c,(bz x).mono _ _ h d⟩⟩
def wO (g:fj)(u:Value):du:=⟨λρ=>∃x:gW,u=fG x∧bZ x=g∧(eu x).f ρ,λ_ _ h ⟨x,a,b,c⟩=>⟨x,a,b,(eu x).mono _ _ h c⟩⟩
def ly (ts:List jL)(u:Value):du:=⟨λρ=>u.oneCell'=true∧∃xs:List di,xs.map dH=ts∧(sl dI u xs).f ρ∧(aF cm xs).f ρ,λ_ _ h ⟨a,xs,b,c,d⟩=>⟨a,xs,b,(sl _ _ _).mono _ _ h c,(aF _ _).mono _ _ h d⟩⟩
def oz (rs:List sm)(u:Value):du:=⟨λρ=>u.oneCell'=true∧∃xs:List ca,xs.map lK=rs∧(sl cT u xs).f ρ∧(aF bz xs).f ρ,λ_ _ h ⟨a,xs,b,c,d⟩=>⟨a,xs,b,(sl _ _ _).mono _ _ h c,(aF _ _).mono _ _ h d⟩⟩
def fW {α:Type}(R:Rp α)(xs:List α)(u:Value):du:=⟨λρ=>u.oneCell'=true∧(sl R u xs).f ρ,λ_ _ h ⟨a,b⟩=>⟨a,(sl _ _ _).mono _ _ h b⟩⟩
def fQ {α:Type}(R:Rp α)(xs:List (List α))(u:Value):du:=⟨λρ=>u.oneCell'=true∧(oI R u xs).f ρ,λ_ _ h ⟨a,b⟩=>⟨a,(oI _ _ _).mono _ _ h b⟩⟩
section
variable {n:Nat}{F:Fr}{c:Ctx}{H R:List ak}{T:Act→World→Prop}
theorem St.bX {P:Program}(k:Nat)(u v:Value)[hd:lT (cU u v) H](hk:look F k=some u)(h:St n ((k,v)::F) (Mm c H) T):St n F (Mm c H) T:=by
 intro a w b hw;obtain⟨ρ,hm⟩:=hw.out
 have e:u=v:=dA.1 (hm.dM _ hd.mem)
 subst e;refine h a w ⟨b.size,b.defers,λt x hx=> ?_⟩ hw
 simp only[look]at hx
 cases d:Nat.beq t k with
 |true=>
  rw[mo d]
  simp only[d,cond_true,Option.some.injEq]at hx
  subst hx;exact b.slot _ _ hk
 |false=>simp only[d,cond_false]at hx;exact b.slot _ _ hx
theorem St.uC {ι:Sort _}(d:du)[hd:lT d H](p:ι→Prop)(L:ι→List du)(h:∀ρ,d.f ρ→∃x,p x∧∀e∈L x,e.f ρ)(k:∀x,p x→St n F (Mm c ((L x).map aB++H)) T):St n F (Mm c H) T:=by
 intro a w b hw;obtain⟨ρ,hm⟩:=hw.out;obtain⟨x,hp,hx⟩:=h ρ (dA.1 (hm.dM _ hd.mem));exact k x hp a w b (Mm.mk (hm.AV (L x) hx))
theorem St.db (s:il)(u:Value)[hd:lT (J.db s u) H](k:∀x:fb,u=aU x∧df x=s∧kM.wf x→St n F (Mm c (aB (er x)::H)) T):St n F (Mm c H) T:=
 St.uC (J.db s u) _ (λx=>[er x]) (λρ ⟨x,a,b,c,d⟩=>⟨x,⟨a,b,c⟩,λe he=>by rw[bP.1 he];exact d⟩) k
theorem St.isTerm (t:jL)(u:Value)[hd:lT (J.isTerm t u) H](k:∀x:di,u=cN x∧dH x=t∧dI.wf x→St n F (Mm c (aB (cm x)::H)) T):St n F (Mm c H) T:=
 St.uC (J.isTerm t u) _ (λx=>[cm x]) (λρ ⟨x,a,b,c,d⟩=>⟨x,⟨a,b,c⟩,λe he=>by rw[bP.1 he];exact d⟩) k
theorem St.bL (g:e8)(u:Value)[hd:lT (J.bL g u) H](k:∀x:dD,u=bA x∧ax x=g→St n F (Mm c (aB (aG x)::H)) T):St n F (Mm c H) T:=
 St.uC (J.bL g u) _ (λx=>[aG x]) (λρ ⟨x,a,b,c⟩=>⟨x,⟨a,b⟩,λe he=>by rw[bP.1 he];exact c⟩) k
theorem St.fB (r:sm)(u:Value)[hd:lT (J.fB r u) H](k:∀x:ca,u=ru x∧lK x=r∧cT.wf x→St n F (Mm c (aB (bz x)::H)) T):St n F (Mm c H) T:=
 St.uC (J.fB r u) _ (λx=>[bz x]) (λρ ⟨x,a,b,c,d⟩=>⟨x,⟨a,b,c⟩,λe he=>by rw[bP.1 he];exact d⟩) k
theorem St.wO (g:fj)(u:Value)[hd:lT (J.wO g u) H](k:∀x:gW,u=fG x∧bZ x=g→St n F (Mm c (aB (eu x)::H)) T):St n F (Mm c H) T:=
 St.uC (J.wO g u) _ (λx=>[eu x]) (λρ ⟨x,a,b,c⟩=>⟨x,⟨a,b⟩,λe he=>by rw[bP.1 he];exact c⟩) k
theorem St.ly (ts:List jL)(u:Value)[hd:lT (J.ly ts u) H](k:∀xs:List di,u.oneCell'=true∧xs.map dH=ts→St n F (Mm c (aB (sl dI u xs)::aB (aF cm xs)::H)) T):St n F (Mm c H) T:=
 St.uC (J.ly ts u) _ (λxs=>[sl dI u xs,aF cm xs]) (λρ ⟨a,xs,b,c,d⟩=>⟨xs,⟨a,b⟩,λe he=>by
  simp only[List.mem_cons,List.not_mem_nil,or_false]at he
  rcases he with rfl|rfl
  ·exact c
  ·exact d⟩) k
theorem St.oz (ts:List sm)(u:Value)[hd:lT (J.oz ts u) H](k:∀xs:List ca,u.oneCell'=true∧xs.map lK=ts→St n F (Mm c (aB (sl cT u xs)::aB (aF bz xs)::H)) T):St n F (Mm c H) T:=
 St.uC (J.oz ts u) _ (λxs=>[sl cT u xs,aF bz xs]) (λρ ⟨a,xs,b,c,d⟩=>⟨xs,⟨a,b⟩,λe he=>by
  simp only[List.mem_cons,List.not_mem_nil,or_false]at he
  rcases he with rfl|rfl
  ·exact c
  ·exact d⟩) k
theorem St.fW {α:Type}(Rr:Rp α)(xs:List α)(u:Value)[hd:lT (J.fW Rr xs u) H](k:u.oneCell'=true→St n F (Mm c (aB (sl Rr u xs)::H)) T):St n F (Mm c H) T:=
 St.uC (ι:=Unit) (J.fW Rr xs u) (λ_=>u.oneCell'=true) (λ_=>[sl Rr u xs]) (λρ ⟨a,b⟩=>⟨(),a,λe he=>by rw[bP.1 he];exact b⟩) λ_=>k
theorem St.fQ {α:Type}(Rr:Rp α)(xs:List (List α))(u:Value)[hd:lT (J.fQ Rr xs u) H](k:u.oneCell'=true→St n F (Mm c (aB (oI Rr u xs)::H)) T):St n F (Mm c H) T:=
 St.uC (ι:=Unit) (J.fQ Rr xs u) (λ_=>u.oneCell'=true) (λ_=>[oI Rr u xs]) (λρ ⟨a,b⟩=>⟨(),a,λe he=>by rw[bP.1 he];exact b⟩) λ_=>k
theorem St.u6 (b:bC)(u:Value)(hu:u.oneCell'=true)(l:List fb)[h1:lT (sl kM u l) H][a:lT (aF er l) H](k:St n F (Mm c (aB (er (.mk b ⟨u,hu⟩ l))::H)) T):St n F (Mm c H) T:=
 St.ea (er (.mk b ⟨u,hu⟩ l)) [sl kM u l,aF er l] (λρ h=> .mk (h _ (aQ ..)) (h _ (cO _ (aQ ..)))) k
theorem St.D8 (kd:Int)(nm:bC)(i:Int)(s:fb)(u:Value)(hu:u.oneCell'=true)(l:List di)[a:lT (er s) H][h1:lT (sl dI u l) H][b:lT (aF cm l) H](k:St n F (Mm c (aB (cm (.mk kd nm i s ⟨u,hu⟩ l))::H)) T):St n F (Mm c H) T:=
 St.ea (cm (.mk kd nm i s ⟨u,hu⟩ l)) [er s,sl dI u l,aF cm l] (λρ h=> .mk (h (er s) (by simp)) (h (sl dI u l) (by simp)) (h (aF cm l) (by simp))) k
theorem St.V8 (x:fb){s:il}(u:Value)(hu:u=aU x)(a:df x=s)(hw:kM.wf x)[hd:lT (er x) H](k:St n F (Mm c (aB (J.db s u)::H)) T):St n F (Mm c H) T:=
 St.ea (J.db s u) [er x] (λρ h=>⟨x,hu,a,hw,h _ (aQ ..)⟩) k
theorem St.toTerm (x:di){s:jL}(u:Value)(hu:u=cN x)(a:dH x=s)(hw:dI.wf x)[hd:lT (cm x) H](k:St n F (Mm c (aB (J.isTerm s u)::H)) T):St n F (Mm c H) T:=
 St.ea (J.isTerm s u) [cm x] (λρ h=>⟨x,hu,a,hw,h _ (aQ ..)⟩) k
theorem St.Tc (x:dD){g:e8}(u:Value)(hu:u=bA x)(a:ax x=g)[hd:lT (aG x) H](k:St n F (Mm c (aB (J.bL g u)::H)) T):St n F (Mm c H) T:=
 St.ea (J.bL g u) [aG x] (λρ h=>⟨x,hu,a,h _ (aQ ..)⟩) k
theorem St.Xq {α:Type}{Rr:Rp α}{xs:List α}(u:Value)(hu:u.oneCell'=true)[hd:lT (sl Rr u xs) H](k:St n F (Mm c (aB (J.fW Rr xs u)::H)) T):St n F (Mm c H) T:=
 St.ea (J.fW Rr xs u) [sl Rr u xs] (λρ h=>⟨hu,h _ (aQ ..)⟩) k
theorem St.amU {α:Type}{Rr:Rp α}{xs:List (List α)}(u:Value)(hu:u.oneCell'=true)[hd:lT (oI Rr u xs) H](k:St n F (Mm c (aB (J.fQ Rr xs u)::H)) T):St n F (Mm c H) T:=
 St.ea (J.fQ Rr xs u) [oI Rr u xs] (λρ h=>⟨hu,h _ (aQ ..)⟩) k
end
abbrev bT:aV:=⟨.slice none 0 0,rfl⟩
end Go.J
namespace Go.J
open Go Go.ChangeShapes Go.WideShapes Go.ChangeAt Go.RowKit Go.Deep Go.Proofs.YtblifkgpebebmaaGreatDoor
section
variable {H:Type}{enc:TypeId×Value→H}{P:Program}{W:World}{α:Type}
abbrev Tr (enc:TypeId×Value→H)(P:Program)(W:World)(n:Nat)(t:TypeId)(cs:List Value)(y:DataW H×List MemPlace):Prop:=DataW.trod enc P W 0 (λ_=>true) true n t cs=some y
theorem IJ {t:TypeId}{a:Array Field}{ps:List (DataW H)}(ht:P.underlying t=some (.struct a))(h:nX ((DataW.agg ps).weights P t)=true):nX (DataW.weightsEach P (a.toList.map (·.type)) ps)=true:=by
 simpa only[DataW.weights,ht]using h
theorem gp {t:TypeId}{a:Array Field}{n:Nat}{cs:List Value}{y:DataW H×List MemPlace}(ht:P.underlying t=some (.struct a))(h:Tr enc P W n t cs y)(hw:nX (y.1.weights P t)=true):
 ∃m,n=m+1∧∀(i:Nat) (f:Field),a[i]?=some f→∃z,Tr enc P W m f.type ((cs.drop f.offset).take (P.cellsOf f.type)) z∧nX (z.1.weights P f.type)=true:=by
 obtain⟨xs,m,e,hy,_,k,g⟩:=DataW.trod_struct ht h;subst hy;refine⟨m,e,λi f b=> ?_⟩
 have h1:=g i f b
 have l:i<a.size:=(wC.1 b).1
 have c:xs[i]?=some (xs[i]'(by omega)):=bU (by omega)
 refine⟨xs[i]'(by omega),h1.trans c,?_⟩;refine uV (IJ ht hw) (j:=i) (t:=f.type) (d:=(xs[i]'(by omega)).1) ?_ ?_
 ·rw[bQ,QJ,b];rfl
 ·rw[bQ,c];rfl
theorem cY {a:Array Field}{m:Nat}{cs:List Value}(hp:∀(i:Nat) (f:Field),a[i]?=some f→∃z,Tr enc P W m f.type ((cs.drop f.offset).take (P.cellsOf f.type)) z∧nX (z.1.weights P f.type)=true)
 (i:Nat) {f:Field} {t:TypeId} {o k:Nat} (b:a[i]?=some f) (ht:f.type=t) (c:f.offset=o) (hk:P.cellsOf t=k):∃z,Tr enc P W m t ((cs.drop o).take k) z∧nX (z.1.weights P t)=true:=by
 subst ht c hk;exact hp i f b
theorem LS (R:Rp α){t e:TypeId}{G:List Value}{d:DataW H}{p:List MemPlace}{fuel:Nat}(ht:P.underlying t=some (.slice e))(M:P.cellsOf e=R.size)
 (N:∀(n:Nat),n<fuel→∀(cs:List Value) (y:DataW H×List MemPlace),cs.length=R.size→Tr enc P W n e cs y→nX (y.1.weights P e)=true→∃x:α,cs=R.cells x∧R.wf x)
 (I:nX (d.weights P t)=true) (O:Tr enc P W fuel t G (d,p)):∃(v:Value) (xs:List α),G=[v]∧v.oneCell'=true∧(sl R v xs).f (J.all W)∧((d= .nil∧xs=[])∨∃es sp,d= .slice es sp∧es.length=xs.length):=by
 rcases DataW.trod_slice ht O with⟨r,l⟩|⟨a,len,cap,elems,rest,n,hn,r,l,_,Q,hm,hlen,he,_,_⟩
 ·exact⟨.slice none 0 0,[],r,rfl,sZ _ _,.inl ⟨by simpa using (Prod.mk.inj l).1,rfl⟩⟩
 ·refine⟨.slice (some a) len cap,?_⟩
  rw[r]
  suffices s:∃xs:List α,(sl R (.slice (some a) len cap) xs).f (J.all W)∧((d= .nil∧xs=[])∨∃es sp,d= .slice es sp∧es.length=xs.length) by
   obtain⟨xs,h1,m⟩:=s;exact⟨xs,rfl,rfl,h1,m⟩
  rcases Nat.eq_zero_or_pos len with hz|ab6
  ·refine⟨[],⟨_,cap,by rw[hz];rfl,aP _,hm,(λx hx=>by cases hx),.inl rfl⟩,.inr ⟨_,_,(Prod.mk.inj l).1,by rw[aO,hlen,hz];rfl⟩⟩
  have each:∀i,i<len→∃x:α,R.wf x∧∀k u,k<R.size→(R.cells x)[k]?=some u→W.cell? ((a.add (i*R.size)).add k)=some u:=λi w=>by
   have c:=he i w
   rw[bU (show i<elems.length by omega)]at c;obtain⟨cs,h1,m⟩:=pN.1 c;rw[M]at h1;obtain⟨_,z,S⟩:=World.cells?_some h1;obtain⟨x,rfl,hw⟩:=N n (by omega) cs _ z m (Bv ht (by rw[(Prod.mk.inj l).1]at I;exact I) (.inl (eQ (iG (show i<elems.length by omega)))));exact⟨x,hw,λk u hk hu=>by rw[S k hk,hu]⟩
  obtain⟨x0,HF⟩:=each 0 (by omega)
  haveI:Inhabited α:=⟨x0⟩
  obtain⟨X,A⟩:=choose_lt (α:=α) each
  have B:((List.range len).map X).length=len:=by simp
  obtain⟨b,off,spot⟩:=a
  have g:∃u,(R.cells (X 0))[0]?=some u:=by
   have:=R.len (X 0)
   have:=R.pos
   exact⟨_,bU (by omega)⟩
  obtain⟨T,g⟩:=g
  have K:=(A 0 (by omega)).2 0 T R.pos g
  rw[Nat.zero_mul,Deep.add_add]at K;obtain⟨s,C,L,fr,o,_⟩:=jg K
  have U:spot=none:=by simpa[Addr.add]using s
  subst U
  have o:W.heap[b]?=some (.cells C L fr):=by simpa[Addr.add]using o
  refine⟨(List.range len).map X,⟨some ⟨b,off,none⟩,cap,by rw[B],by rw[B];exact Q,hm,?_,.inr ⟨b,off,C,L,fr,rfl,o,?_⟩⟩,.inr ⟨_,_,(Prod.mk.inj l).1,by simp[hlen]⟩⟩
  ·intro x V
   obtain⟨i,w,rfl⟩:=dC.1 V;exact(A i (dt.1 w)).1
  ·intro j u Y
   obtain⟨i,k,x,h1,m,Z,z⟩:=DK _ _ _ Y
   have D:i<((List.range len).map X).length:=(fA.1 h1).1
   rw[B]at D
   have SS:x=X i:=by simpa[D]using h1.symm
   subst SS
   have:=(A i D).2 k u m z
   rw[Deep.add_add,←Z]at this;obtain⟨_,C',E,F,h,q⟩:=jg this
   have h:W.heap[b]?=some (.cells C' E F):=by
    by_cases c:j=0
    ·subst c;simpa[Addr.add]using h
    ·simpa[Addr.add,c]using h
   have q:C'[off+j]?=some u:=by
    by_cases c:j=0
    ·subst c;simpa[Addr.add]using q
    ·simpa[Addr.add,c]using q
   rw[o]at h
   simp only[Option.some.injEq,Obj.cells.injEq]at h
   rw[h.1];exact q
def Rp.with {α:Type}(R:Rp α)(p:α→Prop):Rp α:=⟨R.size,R.pos,R.cells,λx=>R.wf x∧p x,R.len,R.one⟩
theorem TN {R:Rp α}{p:α→Prop}{v:Value}{xs:List α}{ρ:Ro}(h:(sl (R.with p) v xs).f ρ):(sl R v xs).f ρ∧∀x∈xs,p x:=by
 obtain⟨a,cap,h1,c,d,b,e⟩:=h;exact⟨⟨a,cap,h1,c,d,λx hx=>(b x hx).1,e⟩,λx hx=>(b x hx).2⟩
theorem Lm {t e:TypeId}{es sp:List (DataW H)}(ht:P.underlying t=some (.slice e))(h:nX ((DataW.slice es sp).weights P t)=true):es.length*P.bytesOf e≤140737488351232:=by
 simp only[nX,DataW.weights,ht,List.all_cons,Bool.and_eq_true,decide_eq_true_eq]at h
 have h1:=h.1
 have a:es.length*P.bytesOf e≤(es.length+sp.length)*P.bytesOf e:=iV _ (by omega)
 unfold reachBytes at h1;omega
theorem k9 (R:Rp α)(p:α→Prop){t e:TypeId}{h:List Value}{y:DataW H×List MemPlace}{fuel:Nat}(ht:P.underlying t=some (.slice e))(i:P.cellsOf e=R.size)
 (j:∀(n:Nat),n<fuel→∀(cs:List Value) (y:DataW H×List MemPlace),cs.length=R.size→Tr enc P W n e cs y→nX (y.1.weights P e)=true→∃x:α,cs=R.cells x∧R.wf x∧p x)
 (k:Tr enc P W fuel t h y) (c:nX (y.1.weights P t)=true):∃(v:aV) (xs:List α),h=[v.1]∧(sl R v.1 xs).f (J.all W)∧(∀x∈xs,p x)∧xs.length*P.bytesOf e≤140737488351232:=by
 obtain⟨v,xs,h1,l,m,o⟩:=LS (R.with p) (d:=y.1) (p:=y.2) ht i (λn q cs y g hy hw=>by
  obtain⟨x,a,b⟩:=j n q cs y g hy hw
  exact⟨x,a,b⟩) c k
 obtain⟨r,s⟩:=TN m;refine⟨⟨v,l⟩,xs,h1,r,s,?_⟩
 rcases o with⟨_,rfl⟩|⟨es,sp,he,g⟩
 ·simp
 ·rw[he]at c
  rw[←g];exact Lm ht c
theorem ml {e:TypeId}(he:P.underlying e=some (.int .i64)){n:Nat}{cs:List Value}{y:DataW H×List MemPlace}(h:Tr enc P W n e cs y):∃x:Int,cs=[iv x]∧aa x:=by
 obtain⟨z,rfl,_,hw⟩:=DataW.trod_int he h;exact⟨z,rfl,wf_i64 hw⟩
theorem vp {e:TypeId}(he:P.underlying e=some .string){n:Nat}{cs:List Value}{y:DataW H×List MemPlace}(h:Tr enc P W n e cs y)(a:nX (y.1.weights P e)=true):∃x:bC,cs=[sv x]∧nB x:=by
 obtain⟨s,rfl,hy,hw⟩:=DataW.trod_string he h;refine⟨s.data.toList,by rw[V5],?_⟩;subst hy
 simp only[nX,DataW.weights,reachBytes,List.all_cons,List.all_nil,Bool.and_true]at a
 exact fJ a
end
end Go.J
namespace Go.J
open Go Go.ChangeShapes Go.WideShapes Go.ChangeAt Go.RowKit Go.Deep
section
variable {H:Type}{enc:TypeId×Value→H}{P:Program}{W:World}{α:Type}
end
end Go.J
namespace Go.Proofs.YtblifkgpebebmaaGreatDoor
open Go Go.J Go.ChangeShapes Go.WideShapes Go.ChangeAt Go.RowKit Go.Deep
theorem ad1 {α:Type}{l:List α}(h:l.length=1):∃a0,l=[a0]:=match l,h with
 | [a0],_=>⟨a0,rfl⟩
theorem Ec {α:Type}{l:List α}(h:l.length=2):∃a0 a,l=[a0,a]:=match l,h with
 | [a0,a],_=>⟨a0,a,rfl⟩
theorem ad2 {α:Type}{l:List α}(h:l.length=3):∃a0 a a2,l=[a0,a,a2]:=match l,h with
 | [a0,a,a2],_=>⟨a0,a,a2,rfl⟩
theorem ad3 {α:Type}{l:List α}(h:l.length=5):∃a0 a a2 a3 a4,l=[a0,a,a2,a3,a4]:=match l,h with
 | [a0,a,a2,a3,a4],_=>⟨a0,a,a2,a3,a4,rfl⟩
theorem ad4 {α:Type}{l:List α}(h:l.length=6):∃a0 a a2 a3 a4 a5,l=[a0,a,a2,a3,a4,a5]:=match l,h with
 | [a0,a,a2,a3,a4,a5],_=>⟨a0,a,a2,a3,a4,a5,rfl⟩
theorem ad5 {α:Type}{l:List α}(h:l.length=9):∃a0 a a2 a3 a4 a5 b c d,l=[a0,a,a2,a3,a4,a5,b,c,d]:=match l,h with
 | [a0,a,a2,a3,a4,a5,b,c,d],_=>⟨a0,a,a2,a3,a4,a5,b,c,d,rfl⟩
theorem Wx {α:Type}{l:List α}(h:l.length=10):∃a0 a a2 a3 a4 a5 b c d a9,l=[a0,a,a2,a3,a4,a5,b,c,d,a9]:=match l,h with
 | [a0,a,a2,a3,a4,a5,b,c,d,a9],_=>⟨a0,a,a2,a3,a4,a5,b,c,d,a9,rfl⟩
theorem mS:Tryz.prog.cellsOf 3=1:=by kernel_rfl
theorem qI:Tryz.prog.cellsOf 9=1:=by kernel_rfl
theorem RC:Tryz.prog.cellsOf 22=1:=by kernel_rfl
theorem RD:Tryz.prog.cellsOf 23=1:=by kernel_rfl
theorem RE:Tryz.prog.cellsOf 25=2:=by kernel_rfl
theorem RF:Tryz.prog.cellsOf 26=1:=by kernel_rfl
theorem RG:Tryz.prog.cellsOf 27=1:=by kernel_rfl
theorem RH:Tryz.prog.cellsOf 28=1:=by kernel_rfl
theorem Ce:Tryz.prog.cellsOf 30=1:=by kernel_rfl
theorem RI:Tryz.prog.cellsOf 32=5:=by kernel_rfl
theorem RL:Tryz.prog.cellsOf 58=1:=by kernel_rfl
theorem Mj:Tryz.prog.cellsOf 103=1:=by kernel_rfl
theorem E8:Tryz.prog.cellsOf 105=2:=by kernel_rfl
theorem Mk:Tryz.prog.cellsOf 106=1:=by kernel_rfl
theorem yY:Tryz.prog.cellsOf 108=6:=by kernel_rfl
theorem Ml:Tryz.prog.cellsOf 110=10:=by kernel_rfl
theorem Mn:Tryz.prog.cellsOf 115=9:=by kernel_rfl
theorem Mo:Tryz.prog.cellsOf 135=3:=by kernel_rfl
theorem Mp:Tryz.prog.cellsOf 156=2:=by kernel_rfl
theorem Mq:Tryz.prog.cellsOf 161=1:=by kernel_rfl
theorem Mr:Tryz.prog.cellsOf 163=2:=by kernel_rfl
theorem Ms:Tryz.prog.cellsOf 165=2:=by kernel_rfl
section
variable {H:Type}{enc:TypeId×Value→H}{W:World}
theorem Rb:∀(n:Nat) (cs:List Value) (y:DataW H×List MemPlace),cs.length=2→Tr enc Tryz.prog W n 165 cs y→nX (y.1.weights Tryz.prog 165)=true→∃x:dx,cs=au.cells x∧au.wf x∧True:=by
 intro n;intro cs y b h hw;obtain⟨c0,c1,rfl⟩:=Ec b;obtain⟨m,rfl,hp⟩:=gp Tryz.underlying165 h hw;obtain⟨z0,t0,g⟩:=cY hp 0 rfl rfl rfl mS
 have t0:Tr enc Tryz.prog W m 3 [c0] z0:=t0
 obtain⟨x0,e0,c⟩:=ml Tryz.underlying3 t0;obtain⟨d,t1,i⟩:=cY hp 1 rfl rfl rfl mS
 have t1:Tr enc Tryz.prog W m 3 [c1] d:=t1
 obtain⟨e,a,f⟩:=ml Tryz.underlying3 t1
 simp only[List.cons.injEq,and_true]at e0
 subst e0
 simp only[List.cons.injEq,and_true]at a
 subst a;exact⟨⟨x0,e⟩,rfl,⟨c,f⟩,trivial⟩
theorem Rc:∀(n:Nat) (cs:List Value) (y:DataW H×List MemPlace),cs.length=2→Tr enc Tryz.prog W n 163 cs y→nX (y.1.weights Tryz.prog 163)=true→∃x:dh,cs=bq.cells x∧bq.wf x∧(cB x).f (J.all W):=by
 intro n;intro cs y b h hw;obtain⟨c0,c1,rfl⟩:=Ec b;obtain⟨m,rfl,hp⟩:=gp Tryz.underlying163 h hw;obtain⟨z0,t0,j⟩:=cY hp 0 rfl rfl rfl mS
 have t0:Tr enc Tryz.prog W m 3 [c0] z0:=t0
 obtain⟨x0,e0,c⟩:=ml Tryz.underlying3 t0;obtain⟨d,t1,e⟩:=cY hp 1 rfl rfl rfl Mq
 have t1:Tr enc Tryz.prog W m 161 [c1] d:=t1
 obtain⟨g,i,a,f1,k,s1⟩:=k9 au (λ_=>True) Tryz.underlying161 Ms (λn _=>Rb n) t1 e
 simp only[List.cons.injEq,and_true]at e0
 subst e0
 simp only[List.cons.injEq,and_true]at a
 subst a;exact⟨⟨x0,g,i⟩,rfl,c,f1⟩
theorem yh:∀(n:Nat) (cs:List Value) (y:DataW H×List MemPlace),cs.length=1→Tr enc Tryz.prog W n 30 cs y→nX (y.1.weights Tryz.prog 30)=true→∃x:dD,cs=[x.nv.1]∧(aG x).f (J.all W):=by
 intro n;intro cs y a h hw;obtain⟨c0,rfl⟩:=ad1 a;obtain⟨m,rfl,hp⟩:=gp Tryz.underlying30 h hw;obtain⟨z0,t0,b⟩:=cY hp 0 rfl rfl rfl RH
 have t0:Tr enc Tryz.prog W m 28 [c0] z0:=t0
 obtain⟨x0,l0,e0,f0,c,s0⟩:=k9 bq (λx=>(cB x).f (J.all W)) Tryz.underlying28 Mr (λn _=>Rc n) t0 b
 simp only[List.cons.injEq,and_true]at e0
 subst e0
 exact⟨⟨x0,l0⟩,rfl,λd hd=>by
  simp only[kb,List.mem_cons,List.not_mem_nil,or_false]at hd
  rcases hd with rfl|rfl
  ·exact f0
  ·exact c⟩
theorem Zv:∀(n:Nat) (cs:List Value) (y:DataW H×List MemPlace),cs.length=2→Tr enc Tryz.prog W n 156 cs y→nX (y.1.weights Tryz.prog 156)=true→∃x:rh,cs=mw.cells x∧mw.wf x∧(s6 x).f (J.all W):=by
 intro n;intro cs y a h hw;obtain⟨c0,c1,rfl⟩:=Ec a;obtain⟨m,rfl,hp⟩:=gp Tryz.underlying156 h hw;obtain⟨z0,t0,c⟩:=cY hp 0 rfl rfl rfl qI
 have t0:Tr enc Tryz.prog W m 9 [c0] z0:=t0
 obtain⟨x0,e0,d⟩:=vp Tryz.underlying9 t0 c;obtain⟨g,t1,i⟩:=cY hp 1 rfl rfl rfl RL
 have t1:Tr enc Tryz.prog W m 58 [c1] g:=t1
 obtain⟨j,k,b,f1,l,s1⟩:=k9 aJ (λ_=>True) Tryz.underlying58 mS (λn _ cs y a h _=>by obtain⟨x,e,w⟩:=ml Tryz.underlying3 h;exact⟨x,e,w,trivial⟩) t1 i
 simp only[List.cons.injEq,and_true]at e0
 subst e0
 simp only[List.cons.injEq,and_true]at b
 subst b;exact⟨⟨x0,j,k⟩,rfl,d,f1⟩
theorem RZ:∀(n:Nat) (cs:List Value) (y:DataW H×List MemPlace),cs.length=3→Tr enc Tryz.prog W n 135 cs y→nX (y.1.weights Tryz.prog 135)=true→∃x:jJ,cs=ga.cells x∧ga.wf x∧True:=by
 intro n;intro cs y b h hw;obtain⟨c0,c1,c2,rfl⟩:=ad2 b;obtain⟨m,rfl,hp⟩:=gp Tryz.underlying135 h hw;obtain⟨z0,t0,c⟩:=cY hp 0 rfl rfl rfl qI
 have t0:Tr enc Tryz.prog W m 9 [c0] z0:=t0
 obtain⟨x0,e0,d⟩:=vp Tryz.underlying9 t0 c;obtain⟨e,t1,k⟩:=cY hp 1 rfl rfl rfl mS
 have t1:Tr enc Tryz.prog W m 3 [c1] e:=t1
 obtain⟨f,a,g⟩:=ml Tryz.underlying3 t1;obtain⟨z2,t2,l⟩:=cY hp 2 rfl rfl rfl mS
 have t2:Tr enc Tryz.prog W m 3 [c2] z2:=t2
 obtain⟨i,e2,j⟩:=ml Tryz.underlying3 t2
 simp only[List.cons.injEq,and_true]at e0
 subst e0
 simp only[List.cons.injEq,and_true]at a
 subst a
 simp only[List.cons.injEq,and_true]at e2
 subst e2;exact⟨⟨x0,f,i⟩,rfl,⟨d,g,j⟩,trivial⟩
theorem W5:∀(n:Nat) (cs:List Value) (y:DataW H×List MemPlace),cs.length=2→Tr enc Tryz.prog W n 105 cs y→nX (y.1.weights Tryz.prog 105)=true→∃x:fb,cs=kM.cells x∧kM.wf x∧rf (J.all W) x:=by
 intro n
 induction n using Nat.strongRecOn with
 |_ n b=>
 intro cs y c h hw;obtain⟨c0,c1,rfl⟩:=Ec c;obtain⟨m,rfl,hp⟩:=gp Tryz.underlying105 h hw;obtain⟨z0,t0,d⟩:=cY hp 0 rfl rfl rfl qI
 have t0:Tr enc Tryz.prog W m 9 [c0] z0:=t0
 obtain⟨x0,e0,e⟩:=vp Tryz.underlying9 t0 d;obtain⟨f,t1,g⟩:=cY hp 1 rfl rfl rfl Mj
 have t1:Tr enc Tryz.prog W m 103 [c1] f:=t1
 obtain⟨i,j,a,f1,l,s1⟩:=k9 kM (rf (J.all W)) Tryz.underlying103 E8 (λk hk=>b k (by omega)) t1 g
 simp only[List.cons.injEq,and_true]at e0
 subst e0
 simp only[List.cons.injEq,and_true]at a
 subst a;exact⟨.mk x0 i j,rfl,e,.mk f1 l⟩
theorem Ip:∀(n:Nat) (cs:List Value) (y:DataW H×List MemPlace),cs.length=6→Tr enc Tryz.prog W n 108 cs y→nX (y.1.weights Tryz.prog 108)=true→∃x:di,cs=dI.cells x∧dI.wf x∧om (J.all W) x:=by
 intro n
 induction n using Nat.strongRecOn with
 |_ n c=>
 intro cs y d h hw;obtain⟨c0,c1,c2,c3,e,c5,rfl⟩:=ad4 d;obtain⟨m,rfl,hp⟩:=gp Tryz.underlying108 h hw;obtain⟨z0,t0,z⟩:=cY hp 0 rfl rfl rfl mS
 have t0:Tr enc Tryz.prog W m 3 [c0] z0:=t0
 obtain⟨x0,e0,f⟩:=ml Tryz.underlying3 t0;obtain⟨g,t1,i⟩:=cY hp 1 rfl rfl rfl qI
 have t1:Tr enc Tryz.prog W m 9 [c1] g:=t1
 obtain⟨j,a,l⟩:=vp Tryz.underlying9 t1 i;obtain⟨z2,t2,A⟩:=cY hp 2 rfl rfl rfl mS
 have t2:Tr enc Tryz.prog W m 3 [c2] z2:=t2
 obtain⟨o,e2,p⟩:=ml Tryz.underlying3 t2;obtain⟨z3,t3,q⟩:=cY hp 3 rfl rfl rfl E8
 have t3:Tr enc Tryz.prog W m 105 [c3,e] z3:=t3
 obtain⟨x3,r,k3,s⟩:=W5 _ _ _ rfl t3 q;obtain⟨z4,t4,t⟩:=cY hp 4 rfl rfl rfl Mk
 have t4:Tr enc Tryz.prog W m 106 [c5] z4:=t4
 obtain⟨u,v,b,f4,w,B⟩:=k9 dI (om (J.all W)) Tryz.underlying106 yY (λk hk=>c k (by omega)) t4 t
 simp only[List.cons.injEq,and_true]at e0
 subst e0
 simp only[List.cons.injEq,and_true]at a
 subst a
 simp only[List.cons.injEq,and_true]at e2
 subst e2
 cases r
 simp only[List.cons.injEq,and_true]at b
 subst b;exact⟨.mk x0 j o x3 u v,rfl,⟨f,l,p,k3⟩,.mk s f4 w⟩
theorem Re:∀(n:Nat) (cs:List Value) (y:DataW H×List MemPlace),cs.length=10→Tr enc Tryz.prog W n 110 cs y→nX (y.1.weights Tryz.prog 110)=true→∃x:ca,cs=cT.cells x∧cT.wf x∧(bz x).f (J.all W):=by
 intro n;intro cs y b h hw;obtain⟨c0,c1,c2,c3,c,c5,e,g,i,j,rfl⟩:=Wx b;obtain⟨m,rfl,hp⟩:=gp Tryz.underlying110 h hw;obtain⟨z0,t0,k⟩:=cY hp 0 rfl rfl rfl qI
 have t0:Tr enc Tryz.prog W m 9 [c0] z0:=t0
 obtain⟨x0,e0,l⟩:=vp Tryz.underlying9 t0 k;obtain⟨o,t1,p⟩:=cY hp 1 rfl rfl rfl Ce
 have t1:Tr enc Tryz.prog W m 30 [c1] o:=t1
 obtain⟨q,r,s⟩:=yh _ _ _ rfl t1 p;obtain⟨z2,t2,C⟩:=cY hp 2 rfl rfl rfl mS
 have t2:Tr enc Tryz.prog W m 3 [c2] z2:=t2
 obtain⟨t,e2,u⟩:=ml Tryz.underlying3 t2;obtain⟨z3,t3,D⟩:=cY hp 3 rfl rfl rfl mS
 have t3:Tr enc Tryz.prog W m 3 [c3] z3:=t3
 obtain⟨x3,a,k3⟩:=ml Tryz.underlying3 t3;obtain⟨z4,t4,v⟩:=cY hp 4 rfl rfl rfl yY
 have t4:Tr enc Tryz.prog W m 108 [c,c5,e,g,i,j] z4:=t4
 obtain⟨w,z,A,B⟩:=Ip _ _ _ rfl t4 v
 simp only[List.cons.injEq,and_true]at e0
 subst e0
 cases r
 simp only[List.cons.injEq,and_true]at e2
 subst e2
 simp only[List.cons.injEq,and_true]at a
 subst a
 cases z
 exact⟨⟨x0,q,t,x3,w⟩,rfl,⟨l,u,k3,A⟩,λd hd=>by
  simp only[PA,List.mem_cons,List.not_mem_nil,or_false]at hd
  rcases hd with rfl|rfl
  ·exact s
  ·exact B⟩
theorem W4:∀(n:Nat) (cs:List Value) (y:DataW H×List MemPlace),cs.length=9→Tr enc Tryz.prog W n 115 cs y→nX (y.1.weights Tryz.prog 115)=true→∃x:eZ,cs=e7.cells x∧e7.wf x∧(eR x).f (J.all W):=by
 intro n;intro cs y a h hw;obtain⟨c0,c1,c2,c3,b,c5,c,e,g,rfl⟩:=ad5 a;obtain⟨m,rfl,hp⟩:=gp Tryz.underlying115 h hw;obtain⟨z0,t0,i⟩:=cY hp 0 rfl rfl rfl qI
 have t0:Tr enc Tryz.prog W m 9 [c0] z0:=t0
 obtain⟨x0,e0,j⟩:=vp Tryz.underlying9 t0 i;obtain⟨k,t1,l⟩:=cY hp 1 rfl rfl rfl Ce
 have t1:Tr enc Tryz.prog W m 30 [c1] k:=t1
 obtain⟨o,p,q⟩:=yh _ _ _ rfl t1 l;obtain⟨z2,t2,w⟩:=cY hp 2 rfl rfl rfl mS
 have t2:Tr enc Tryz.prog W m 3 [c2] z2:=t2
 obtain⟨r,e2,s⟩:=ml Tryz.underlying3 t2;obtain⟨z3,t3,t⟩:=cY hp 3 rfl rfl rfl yY
 have t3:Tr enc Tryz.prog W m 108 [c3,b,c5,c,e,g] z3:=t3
 obtain⟨x3,u,k3,v⟩:=Ip _ _ _ rfl t3 t
 simp only[List.cons.injEq,and_true]at e0
 subst e0
 cases p
 simp only[List.cons.injEq,and_true]at e2
 subst e2
 cases u
 exact⟨⟨x0,o,r,x3⟩,rfl,⟨j,s,k3⟩,λd hd=>by
  simp only[XC,List.mem_cons,List.not_mem_nil,or_false]at hd
  rcases hd with rfl|rfl
  ·exact q
  ·exact v⟩
theorem Ra:∀(n:Nat) (cs:List Value) (y:DataW H×List MemPlace),cs.length=2→Tr enc Tryz.prog W n 25 cs y→nX (y.1.weights Tryz.prog 25)=true→∃(tv:aV) (ts:List rh) (fv:aV) (b:List jJ),cs=[tv.1,fv.1]∧∀d∈Ue tv fv ts b,d.f (J.all W):=by
 intro n;intro cs y c h hw;obtain⟨c0,c1,rfl⟩:=Ec c;obtain⟨m,rfl,hp⟩:=gp Tryz.underlying25 h hw;obtain⟨z0,t0,e⟩:=cY hp 0 rfl rfl rfl RC
 have t0:Tr enc Tryz.prog W m 22 [c0] z0:=t0
 obtain⟨x0,l0,e0,f0,g,s0⟩:=k9 mw (λx=>(s6 x).f (J.all W)) Tryz.underlying22 Mp (λn _=>Zv n) t0 e;obtain⟨i,t1,j⟩:=cY hp 1 rfl rfl rfl RD
 have t1:Tr enc Tryz.prog W m 23 [c1] i:=t1
 obtain⟨k,l,a,f1,o,s1⟩:=k9 ga (λ_=>True) Tryz.underlying23 Mo (λn _=>RZ n) t1 j
 simp only[List.cons.injEq,and_true]at e0
 subst e0
 simp only[List.cons.injEq,and_true]at a
 subst a
 exact⟨x0,l0,k,l,rfl,λd hd=>by
  simp only[Ue,List.mem_cons,List.not_mem_nil,or_false]at hd
  rcases hd with rfl|rfl|rfl
  ·exact f0
  ·exact g
  ·exact f1⟩
theorem W3:∀(n:Nat) (cs:List Value) (y:DataW H×List MemPlace),cs.length=5→Tr enc Tryz.prog W n 32 cs y→nX (y.1.weights Tryz.prog 32)=true→∃x:gW,cs=jG x∧(eu x).f (J.all W):=by
 intro n cs y e h hw;obtain⟨c0,c1,c2,c3,g,rfl⟩:=ad3 e;obtain⟨m,rfl,hp⟩:=gp Tryz.underlying32 h hw;obtain⟨z0,t0,i⟩:=cY hp 0 rfl rfl rfl RE
 have t0:Tr enc Tryz.prog W m 25 [c0,c1] z0:=t0
 obtain⟨tv,ts,fv,j,e0,a⟩:=Ra _ _ _ rfl t0 i;obtain⟨k,t1,l⟩:=cY hp 1 rfl rfl rfl RF
 have t1:Tr enc Tryz.prog W m 26 [c2] k:=t1
 obtain⟨o,p,b,f1,q,_⟩:=k9 cT (λx=>(bz x).f (J.all W)) Tryz.underlying26 Ml (λn _=>Re n) t1 l;obtain⟨z2,t2,r⟩:=cY hp 2 rfl rfl rfl RG
 have t2:Tr enc Tryz.prog W m 27 [c3] z2:=t2
 obtain⟨s,t,e2,f2,u,_⟩:=k9 e7 (λx=>(eR x).f (J.all W)) Tryz.underlying27 Mn (λn _=>W4 n) t2 r;obtain⟨z3,t3,v⟩:=cY hp 3 rfl rfl rfl Ce
 have t3:Tr enc Tryz.prog W m 30 [g] z3:=t3
 obtain⟨x3,c,w⟩:=yh _ _ _ rfl t3 v
 simp only[List.cons.injEq,and_true]at e0 b e2 c
 obtain⟨rfl,rfl⟩:=e0;subst b e2 c;refine⟨⟨tv,ts,fv,j,o,p,s,t,x3⟩,rfl,λd hd=> ?_⟩
 have z:=a _ (aQ ..)
 have h1:=a _ (cO _ (aQ ..))
 have A:=a _ (cO _ (cO _ (aQ ..)))
 simp only[Gz,List.mem_cons,List.not_mem_nil,or_false]at hd
 rcases hd with rfl|rfl|rfl|rfl|rfl|rfl|rfl|rfl
 ·exact z
 ·exact h1
 ·exact A
 ·exact f1
 ·exact q
 ·exact f2
 ·exact u
 ·exact w
theorem OT {v:Value}{d:DataW H}{p:List MemPlace}{a:Nat}(b:Value.okWide Tryz.prog W .any a 32 v)(hw:nX (d.weights Tryz.prog 32)=true)(h:DataW.Trod enc Tryz.prog W 0 (λ_=>true) true 32 v d p):∃x:gW,v=fG x∧(eu x).f (J.all W):=by
 obtain⟨cs,rfl,c⟩:=okWide_struct Tryz.underlying32 b;obtain⟨fuel,g⟩:=h;obtain⟨x,e,q⟩:=W3 fuel cs.toList (d,p) (by rw[Array.length_toList,c,RI]) g hw;exact⟨x,congrArg Value.agg (Array.toList_inj.1 e),q⟩
end
end Go.Proofs.YtblifkgpebebmaaGreatDoor
namespace Go.J
open Go
theorem Sq.slot {n:Nat}{F:Fr}{T:Act→Prop}{v:Value}(k:Nat)(v':Value)(hk:look F k=some v)(h:v=v')(d:Sq n ((k,v')::F) T):Sq n F T:=by
 subst h
 refine λa b=>d a ⟨b.size,b.defers,λt u hu=> ?_⟩
 simp only[look]at hu
 cases c:Nat.beq t k with
 |true=>
  have e:=mo c
  subst e
  simp only[c,cond_true,Option.some.injEq]at hu
  subst hu;exact b.slot _ _ hk
 |false=>
  simp only[c,cond_false]at hu
  exact b.slot _ _ hu
theorem Ev.alC {P:Program}{n:Nat}{F:Fr}{A:World→Prop}{ty:TypeId}{x:Operand}{a:Addr}(hx:ah F x (.pointer (some a))):Ev P n F A (.nilCheck x) ty (.pointer (some a)):= .of_run λac w b _=>by simp[execOp,hx.eval b]
def bF {α:Type}(f:α→List ak)(l:List α):List ak:=l.flatMap f
theorem iy {α:Type}(f:α→List ak)(a:α)(l:List α):bF f (a::l)=f a++bF f l:=rfl
theorem Rv {α:Type}(f:α→List ak)(l m:List α):bF f (l++m)=bF f l++bF f m:=Bx
theorem nK {α:Type}(f:α→List ak):∀{l:List α} {i:Nat} {a:α},l[i]?=some a→(bF f l).Perm (f a++bF f (l.eraseIdx i))
 | [],_,_,h=>by cases h
 |b::l,0,a,h=>by
  obtain rfl:=Option.some.inj h;exact .refl _
 |b::l,i+1,a,h=>by
  rw[List.eraseIdx_cons_succ,iy,iy];refine((nK f (l:=l) h).append_left (f b)).trans ?_;rw[←dq,←dq];exact jX.append_right _
theorem sR {α:Type}(f:α→List ak):∀{l:List α} {i:Nat} (a:α),i<l.length→(f a++bF f (l.eraseIdx i)).Perm (bF f (l.set i a))
 | [],_,_,h=>by cases h
 |b::l,0,a,_=> .refl _
 |b::l,i+1,a,h=>by
  rw[List.eraseIdx_cons_succ,wm,iy,iy];refine List.Perm.trans ?_ ((sR f (l:=l) a (Nat.lt_of_succ_lt_succ h)).append_left (f b));rw[←dq,←dq];exact jX.append_right _
class jE (X X' H:List ak)(H':outParam (List ak)):Prop where
 eq:∃L,H=L++X∧H'=L++X'
instance (priority:=high) jE.here (X X':List ak):jE X X' X X':=⟨⟨[],rfl,rfl⟩⟩
instance jE.there (X X' H H':List ak)(E:ak)[h:jE X X' H H']:jE X X' (E::H) (E::H'):=⟨let⟨L,a,b⟩:=h.eq;⟨E::L,by rw[a];rfl,by rw[b];rfl⟩⟩
section
variable {n:Nat}{F:Fr}{c:Ctx}{H H' R:List ak}{T:Act→World→Prop}
theorem St.perm (hp:H.Perm H')(h:St n F (Mm c H') T):St n F (Mm c H) T:=h.o6 λ_ hw=>let⟨_,k⟩:=hw.out;Mm.mk (k.perm hp)
theorem St.tail (X X':List ak)(hp:X.Perm X')[t:jE X X' H H'](h:St n F (Mm c H') T):St n F (Mm c H) T:=by
 obtain⟨L,a,b⟩:=t.eq;refine St.perm ?_ h;rw[a,b];exact hp.append_left L
theorem St.mj (r X X':List ak)(hp:(r++X).Perm X')[tk:eV r H R][t:jE X X' R H'](h:St n F (Mm c H') T):St n F (Mm c H) T:=by
 obtain⟨L,a,b⟩:=t.eq;refine St.perm (tk.perm.trans ?_) h;rw[a,b,←dq];refine(jX.append_right X).trans ?_;rw[dq];exact hp.append_left L
end
theorem gx.bF {α:Type}(f:α→List ak)(b:∀a,gx (f a))(l:List α):gx (J.bF f l):=λE c ρ jq w k=>by
 obtain⟨a,_,h⟩:=List.mem_flatMap.1 c;exact b a E h ρ jq w k
class yH (X H:List ak)(R:outParam (List ak→List ak)):Prop where
 eq:∃L,H=L++X∧∀Y,R Y=L++Y
instance (priority:=high) yH.here (X:List ak):yH X X (λY=>Y):=⟨⟨[],rfl,λ_=>rfl⟩⟩
instance yH.there (X H:List ak)(R:List ak→List ak)(E:ak)[h:yH X H R]:yH X (E::H) (λY=>E::R Y):=⟨let⟨L,a,b⟩:=h.eq;⟨E::L,by rw[a];rfl,λY=>by rw[b];rfl⟩⟩
instance (priority:=high) eV.tail {α β:Type}(f:α→List ak)(g:β→List ak)(l:List α)(m:List β):eV (bF f l++bF g m) (bF f l++bF g m) []:=⟨by rw[gu]⟩
instance eV.YV {α β:Type}(f:α→List ak)(g:β→List ak)(l:List α)(m:List β)(E:ak)(H R:List ak)[h:eV (bF f l++bF g m) H R]:eV (bF f l++bF g m) (E::H) (E::R):=
 ⟨(h.perm.cons E).trans qi.symm⟩
section
variable {P:Program}{n:Nat}{F:Fr}{c:Ctx}{H H1:List ak}{Q:Exit→Act→World→Prop}{ops:Array Oper}{rest:List Oper}{d:Nat}{ty:TypeId}{pos:String}{after:Array Edge}
theorem St.wH {dr:Prop}{f:FuncId}{xs:List Operand}{g:Array TypeId}{vs:List Value}{ds:List du}{L X:List ak}{R:List ak→List ak}{post:Value→List ak→List ak→Prop}(i:c.dr→dr)
 (j:Dk dr P f vs.toArray (ds.map aB++(L++X)) (λv H'=>∃L' X',H'=L'++X'∧post v L' X')) (l:aI P f) (hx:bH F xs vs) (hd:Nat.ble (d+1) n=true) [r:kY ds H] [tk:eV L H H1] [m:yH X H1 R]
 (h:∀v L' X',post v L' X'→St n ((d,v)::F) (Mm c (L'++R X')) (wpList P ops Q rest)):
 St n F (Mm c H) (wpList P ops Q ({dst:=some d,op:= .call {callee:= .value (.func f),args:=xs.toArray,argTypes:=g},type:=ty,pos:=pos,after:=after,guard:=none}::rest)):=by
 intro a w b hw;obtain⟨K,o,e2⟩:=m.eq;refine gG rfl (gK (caps:=[]) l (bH.cons (ah.mk rfl) hx) b w ?_)
 simp only[List.append_nil]
 have hp:(ds.map aB++H).Perm ((ds.map aB++(L++X))++K):=by
  rw[dq];refine G8 _ (tk.perm.trans ?_);rw[o,dq];exact G8 L jX
 obtain⟨_,k⟩:=(hw.mn (ds:=ds)).out;refine(Mm.wH j i (Mm.mk (k.perm hp))).mono ?_;rintro e w' ⟨u,H',rfl,⟨L',X',rfl,p⟩,hm⟩;refine⟨u,rfl,h u L' X' p _ w' (b.put (dR hd) u) ?_⟩;obtain⟨_,q⟩:=hm.out;refine Mm.mk (q.perm ?_);rw[e2,dq];exact G8 L' jX
theorem St.pQ {f:FuncId}{xs:List Operand}{a:Array TypeId}{vs:List Value}{ds:List du}{L X:List ak}{R:List ak→List ak}{post:Value→List ak→List ak→Prop}
 (b:dz P f vs.toArray (ds.map aB++(L++X)) (λv H'=>∃L' X',H'=L'++X'∧post v L' X')) (e:aI P f) (hx:bH F xs vs) (hd:Nat.ble (d+1) n=true) [g:kY ds H] [tk:eV L H H1] [i:yH X H1 R]
 (h:∀v L' X',post v L' X'→St n ((d,v)::F) (Mm c (L'++R X')) (wpList P ops Q rest)):
 St n F (Mm c H) (wpList P ops Q ({dst:=some d,op:= .call {callee:= .value (.func f),args:=xs.toArray,argTypes:=a},type:=ty,pos:=pos,after:=after,guard:=none}::rest)):=
 St.wH (λ_=>trivial) b e hx hd h
end
section
variable {P:Program}{n:Nat}{F:Fr}{c:Ctx}{H:List ak}{ty t e:TypeId}{x:Operand}{v:Value}{m k:Nat}{α:Type}
theorem Ev.vM {R:Rp α}{l:List α}{g:α}{dd:TypeDesc}[d:wu v H e R.size m (rows R l)](hx:ah F x (cZ v R.size k 0))(f:l[k]?=some g)(ht:P.underlying t=some dd)(q:(match dd with| .struct _| .array _ _=>True|_=>False))
 (r:(P.info? t).map (·.size)=some R.size) (hk:k<m):Ev P n F (Mm c H) (.load t x) ty (.agg (R.cells g).toArray):= .of_run λa w s hw=>by
 obtain⟨ρ,hm⟩:=hw.out
 have h:(rows R l)[k*R.size+0]?=(R.cells g)[0]?:=eO R l k 0 g f R.pos
 have y:0<(R.cells g).length:=by rw[R.len];exact R.pos
 rw[bU y]at h;obtain⟨b,z,c1,A,_⟩:=jz (hm.row d) (off:=0) hk h;rw[z]at hx
 have i:=eS (P:=P) (w:=w) (b:=b) (off:=k*R.size+0) (L:=R.cells g) ht q (by rw[r,R.len]) (λj u o=>by
  have B:j<R.size:=by rw[←R.len g];exact(fA.1 o).1
  have C:(rows R l)[k*R.size+j]?=some u:=by rw[eO R l k j g f B,o]
  obtain⟨D,e2,c2,p,_⟩:=jz (hm.row d) (off:=j) hk C
  rw[A]at p;cases p
  simpa using c2)
 simp at hx i
 simp[execOp,hx.eval s,Instr.loadAt,Instr.sureAddr,i]
theorem vZ (R:Rp α):∀(l:List α) (k:Nat),(rows R l).take (k*R.size)=rows R (l.take k)
 | [],k=>by simp[rows]
 |a::l,0=>by simp[rows]
 |a::l,k+1=>by
  have e:(k+1)*R.size=(R.cells a).length+k*R.size:=by rw[R.len,jf];omega
  show(R.cells a++rows R l).take _=R.cells a++rows R (l.take k)
  rw[e,List.take_length_add_append,vZ R l k]
theorem uI (R:Rp α)(l:List α)(a:α):(rows R (l++ [a])).take (l.length*R.size)=rows R l:=by rw[vZ,List.take_left' rfl]
end
end Go.J
namespace Go.J
open Go Go.Proofs.YtblifkgpebebmaaGreatDoor
section
variable {P:Program}{n:Nat}{F:Fr}{c:Ctx}{H R:List ak}{ty t e:TypeId}{x y:Operand}{v:Value}{Q:Exit→Act→World→Prop}{ops:Array Oper}{rest:List Oper}{d:Nat}{pos:String}{after:Array Edge}{m k:Nat}{α:Type}
theorem Ev.Ea {Rr:Rp α}{xs:List α}{g:α}{dd:TypeDesc}{sz off:Nat}[hd:sI v H α Rr xs](hx:ah F x (cZ v Rr.size k off))(hk:xs[k]?=some g)(ht:P.underlying t=some dd)(e:(match dd with| .struct _| .array _ _=>True|_=>False))
 (f:(P.info? t).map (·.size)=some sz) (p:off+sz≤Rr.size) (q:off<Rr.size):Ev P n F (Mm c H) (.load t x) ty (.agg (((Rr.cells g).drop off).take sz).toArray):= .of_run λa w h hw=>by
 obtain⟨ρ,hm⟩:=hw.out;obtain⟨b,o,h1,i⟩:=DM hm hd hk (off:=off);rw[h1]at hx
 have l:=eS (P:=P) (w:=w) (b:=b) (off:=o) (L:=((Rr.cells g).drop off).take sz) ht e (by rw[f,eU,A7,Rr.len,ko (by omega)]) (λj u d=>by
  have m:j<sz:=by
   have:=(fA.1 d).1
   rw[eU]at this;omega
  rw[sB,aC m,A6]at d
  rw[i j (by omega)];exact d)
 simp[execOp,hx.eval h,Instr.loadAt,Instr.sureAddr,l]
theorem St.nL {Rr:Rp α}{g:α}{sz:Nat}(A:Rr.size=sz){zv:Value}{yV:Nat}{i j:Int}{kl p:IntKind}(hx:ah F x (.int kl i))(hy:ah F y (.int p j))(ht:P.underlying t=some (.slice e))(q:(P.info? e).map (·.size)=some Rr.size)(hz:(P.info? e).bind (·.zero)=some zv)(f:(P.info? e).map (·.bytes)=some yV)
 (hm:i=m) (B:j=m) (C:yV*m≤281474976710656∧m≤9223372036854775807) (h1:zv.cells=(Rr.cells g).toArray) (hd:Nat.ble (d+1) n=true)
 (h:∀b,St n ((d,.slice (some ⟨b,0,none⟩) m m)::F) (Mm c (row (.slice (some ⟨b,0,none⟩) m m) e sz m (rows Rr (List.replicate m g))::H)) (wpList P ops Q rest)):
 St n F (Mm c H) (wpList P ops Q ({dst:=some d,op:= .makeSlice t x y,type:=ty,pos:=pos,after:=after,guard:=none}::rest)):=by
 subst hm B A;refine St.QS (K:=λu H'=>∃b,u= .slice (some ⟨b,0,none⟩) m m∧H'=row (.slice (some ⟨b,0,none⟩) m m) e Rr.size m (rows Rr (List.replicate m g))::H) ?_ hd ?_
 ·intro a w ρ r D
  obtain⟨i,s,O⟩:=dp.1 q;obtain⟨E,G,I⟩:=qg q hz f s
  have v:=run_make (P:=P) w t e i zv ht s G kl p m m (by omega) (by omega) (by rw[I,←Int.natCast_mul];exact Int.ofNat_le.2 C.1) (by omega)
  have hlen:(rows Rr (List.replicate m g)).length=m*Rr.size:=by rw[j2,kG]
  have J:madeCells zv.cells (m*i.size)=(rows Rr (List.replicate m g)).toArray:=by
   rw[E,h1]
   apply Array.ext
   ·simp[madeCells,hlen]
   ·intro k L R
    have z:k<m*Rr.size:=by simpa[madeCells]using L
    have hp:=Rr.pos
    have M:k/Rr.size<m:=Nat.div_lt_of_lt_mul (by rw[Nat.mul_comm];exact z)
    have o:k%Rr.size<Rr.size:=Nat.mod_lt _ hp
    have l:=eO Rr (List.replicate m g) (k/Rr.size) (k%Rr.size) g (by rw[s9,aC M]) o
    have N:k/Rr.size*Rr.size+k%Rr.size=k:=by rw[Nat.mul_comm];exact Nat.div_add_mod k Rr.size
    rw[N,bU (by rw[hlen];exact z),bU (by rw[Rr.len];exact o)]at l
    have l:=Option.some.inj l
    simp only[madeCells,List.getElem_toArray]
    rw[l]
    simp[Rr.len,o]
  simp only[Int.toNat_natCast,J]at v
  refine⟨.value (.slice (some ⟨w.heap.size,0,none⟩) m m),w.alloc (.cells (rows Rr (List.replicate m g)).toArray e),ρ,_,?_,⟨_,.inl rfl,_,rfl,rfl⟩,?_⟩
  ·simp[execOp,hx.eval r,hy.eval r,v]
  ·refine D.Aj rfl ⟨rfl,aR _⟩ rfl (by simp) (λk hk=>RowKit.Below.heap_alloc w _ k hk) (eN.2 ⟨hlen,.inr ⟨w.heap.size,m,_,rfl,aP _,heap_alloc_new w _,aR _,by unfold maxLen;omega,by simp[hlen],by rw[←hlen];simp⟩⟩) ?_
   intro b f;rw[eI]at f;simp[Value.ownBlock]at f;omega
 ·rintro _ _ ⟨b,rfl,rfl⟩
  exact h b
end
section
variable {P:Program}{n:Nat}{F:Fr}{c:Ctx}{H H' R:List ak}{ty t e:TypeId}{x y:Operand}{v:Value}{Q:Exit→Act→World→Prop}{ops:Array Oper}{rest:List Oper}{d:Nat}{pos:String}{after:Array Edge}{m k:Nat}{α:Type}{T:Act→World→Prop}
theorem Ev.O0 {Rr:Rp α}{l:List α}{g:α}{dd:TypeDesc}{sz off:Nat}[h:wu v H e Rr.size m (rows Rr l)](hx:ah F x (cZ v Rr.size k off))(i:l[k]?=some g)(ht:P.underlying t=some dd)(r:(match dd with| .struct _| .array _ _=>True|_=>False))
 (s:(P.info? t).map (·.size)=some sz) (hk:k<m) (E:off+sz≤Rr.size) (o:off<Rr.size):Ev P n F (Mm c H) (.load t x) ty (.agg (((Rr.cells g).drop off).take sz).toArray):= .of_run λa w y hw=>by
 obtain⟨ρ,hm⟩:=hw.out
 have p:(rows Rr l)[k*Rr.size+off]?=(Rr.cells g)[off]?:=eO Rr l k off g i o
 have d:(Rr.cells g)[off]?=some ((Rr.cells g)[off]'(by rw[Rr.len];exact o)):=bU _
 rw[d]at p;obtain⟨b,z,c1,A,_⟩:=jz (hm.row h) (off:=off) hk p;rw[z]at hx
 have B:=eS (P:=P) (w:=w) (b:=b) (off:=k*Rr.size+off) (L:=((Rr.cells g).drop off).take sz) ht r (by rw[s,eU,A7,Rr.len,ko (by omega)]) (λj u f=>by
  have C:j<sz:=by
   have:=(fA.1 f).1
   rw[eU]at this;omega
  rw[sB,aC C,A6]at f
  have D:(rows Rr l)[k*Rr.size+(off+j)]?=some u:=by rw[eO Rr l k (off+j) g i (by omega),f]
  obtain⟨G,e2,c2,q,_⟩:=jz (hm.row h) (off:=off+j) hk D
  rw[A]at q;cases q
  rw[qh];exact c2)
 simp[execOp,hx.eval y,Instr.loadAt,Instr.sureAddr,B]
instance (priority:=high) eV.am5 {β:Type}(f:β→List ak)(l:List β):eV (bF f l) (bF f l) []:=⟨by rw[gu]⟩
instance eV.YF {β:Type}(f:β→List ak)(l:List β)(E:ak)(H R:List ak)[h:eV (bF f l) H R]:eV (bF f l) (E::H) (E::R):=
 ⟨(h.perm.cons E).trans qi.symm⟩
theorem Mm.TB {f:α→List ak}{g:α→du}(b:∀a H w,Mm c (f a++H) w→Mm c (aB (g a)::H) w):∀(l:List α) (H:List ak) (w:World),Mm c (bF f l++H) w→Mm c (aB (aF g l)::H) w
 | [],H,w,h=>h.fact (aF g []) λρ _ x hx=>by cases hx
 |a::l,H,w,h=>by
  rw[iy,dq]at h
  have h1:=b a _ w h
  obtain⟨n,d⟩:=h1.out
  have e:Mm c (bF f l++(aB (g a)::H)) w:=Mm.mk (d.perm qi.symm)
  have i:=Mm.TB b l _ w e
  refine(λ(j:Mm c (aB (aF g (a::l))::aB (aF g l)::aB (g a)::H) w)=> ?_) (i.fact _ ?_)
  ·obtain⟨ρ,k⟩:=j.out
   have m:ez c (aB (aF g l)::aB (g a)::aB (aF g (a::l))::H) ρ w:=k.perm ((List.Perm.swap _ _ _).trans ((List.Perm.swap _ _ _).cons _))
   exact Mm.mk m.drop.drop
  ·intro ρ hm x hx
   rcases cK.1 hx with rfl|hx
   ·exact dA.1 (hm.dM (aB (g x)) (by simp))
   ·exact dA.1 (hm.dM (aB (aF g l)) (by simp)) x hx
theorem St.TB {f:α→List ak}(g:α→du)(l:List α)(d:∀a H w,Mm c (f a++H) w→Mm c (aB (g a)::H) w)[e:jE (bF f l) [] H H'](h:St n F (Mm c (aB (aF g l)::H')) T):St n F (Mm c H) T:=by
 obtain⟨L,a,b⟩:=e.eq
 refine h.o6 λw hw=> ?_
 rw[b,gu];refine Mm.TB d l L w ?_;obtain⟨ρ,k⟩:=hw.out;refine Mm.mk (k.perm ?_);rw[a];exact jX
end
end Go.J
namespace Go.J
open Go Go.RowKit
def sX:List Value→Nat→List Value→List Value
 |cs,_,[]=>cs
 |cs,p,u::us=>sX (cs.set p u) (p+1) us
theorem FW (x:List Value):∀(us rest:List Value) (p:Nat),sX (x++rest) (x.length+p) us=x++sX rest p us
 | [],_,_=>rfl
 |u::us,rest,p=>by
  rw[sX,lJ _ _ (by omega),show x.length+p-x.length=p by omega,sX,←FW x us _ (p+1),qh]
theorem Bb:∀(y pre x rest:List Value),x.length=y.length→sX (pre++(x++rest)) pre.length y=pre++(y++rest)
 | [],pre,x,rest,h=>by
  obtain rfl:x=[]:=lG (by simpa using h);rfl
 |u::us,pre,x,rest,h=>by
  cases x with
  |nil=>cases h
  |cons a x=>
   rw[sX,lJ _ _ (aR _),fh]
   have:=Bb us (pre++ [u]) x rest (by simpa using h)
   rw[bR]at this
   simp only[List.append_assoc,List.cons_append,List.nil_append,List.length_cons,List.length_nil]at this
   simpa using this
theorem BZ {α:Type}(Rr:Rp α)(g:α):∀(l:List α) (k:Nat),k<l.length→sX (rows Rr l) (k*Rr.size) (Rr.cells g)=rows Rr (l.set k g)
 | [],_,h=>by cases h
 |a::l,0,_=>by
  have:=Bb (Rr.cells g) [] (Rr.cells a) (rows Rr l) (by rw[Rr.len,Rr.len])
  rw[Nat.zero_mul,sG];exact this
 |a::l,k+1,h=>by
  have e:(k+1)*Rr.size=(Rr.cells a).length+k*Rr.size:=by rw[Rr.len,jf];omega
  rw[wm]
  show sX (Rr.cells a++rows Rr l) _ _=Rr.cells a++rows Rr (l.set k g)
  rw[e,FW,BZ Rr g l k (by rw[fU]at h;omega)]
section
variable {P:Program}{n:Nat}{F:Fr}{c:Ctx}{H R:List ak}{ty t e:TypeId}{x y:Operand}{v:Value}{Q:Exit→Act→World→Prop}{ops:Array Oper}{rest:List Oper}{pos:String}{after:Array Edge}{m k size:Nat}
theorem mf {ρ:Ro}{b:Nat}(a:v.ownBlock=some b)(hk:k<m):∀(us:List Value) (j:Nat) (cs:List Value) (w:World),ez c (row v e size m cs::R) ρ w→j+us.length≤size→(∀u∈us,u.oneCell'=true)→
 ∃w',(storeCells ⟨b,k*size,none⟩ us j).run P w= .ok () w'∧ez c (row v e size m (sX cs (k*size+j) us)::R) ρ w'
 | [],j,cs,w,hm,_,_=>⟨w,rfl,hm⟩
 |u::us,j,cs,w,hm,f,h1=>by
  rw[fU]at f;obtain⟨l,n,o,d,c1,f1,g⟩:=DJ (off:=j) (u:=u) hm hk (by omega)
  rw[a]at d;cases d
  obtain⟨w',h,i⟩:=mf a hk us (j+1) _ _ g (by omega) (λz hz=>h1 z (by simp[hz]));refine⟨w',?_,by rw[sX];exact i⟩;rw[storeCells]
  simp[run_store P w _ u _ (h1 u (by simp)),c1,f1,Addr.add_lit,h]
theorem St.uN {α:Type}{Rr:Rp α}{l:List α}{sz:Nat}(p:Rr.size=sz)(g:α)[tk:lU v H e sz m (rows Rr l) R](hx:ah F x (cZ v sz k 0))(hy:ah F y (.agg (Rr.cells g).toArray))(q:(P.info? t).map (·.size)=some sz)(hk:k<m)(d:k<l.length)
 (h:St n F (Mm c (row v e sz m (rows Rr (l.set k g))::R)) (wpList P ops Q rest)):
 St n F (Mm c H) (wpList P ops Q ({dst:=none,op:= .store t x y,type:=ty,pos:=pos,after:=after,guard:=none}::rest)):=by
 subst p;refine St.lq (K:=λC H'=>H'=row v e Rr.size m (rows Rr (l.set k g))::R) ?_ ?_
 ·intro a w ρ f hm
  have j:=hm.perm tk.perm
  have r:(rows Rr l)[k*Rr.size+0]?=some ((Rr.cells (l[k]'d))[0]'(by rw[Rr.len];exact Rr.pos)):=by
   rw[eO Rr l k 0 (l[k]'d) (bU d) Rr.pos,bU]
  obtain⟨b,s,_,u,_⟩:=jz (eN.1 (j.dM _ (aQ ..))) hk r;rw[s,j5]at hx;obtain⟨w',z,o⟩:=mf (P:=P) (k:=k) u hk (Rr.cells g) 0 _ w j (by rw[Rr.len];omega) (Rr.one g);rw[j5,BZ Rr g l k d]at o;obtain⟨i,A,B⟩:=dp.1 q;refine⟨.skip,w',ρ,_,?_,⟨_,.inr ⟨rfl,rfl⟩,rfl⟩,o⟩
  simp[execOp,hx.eval f,hy.eval f,Instr.storeAt,Instr.sureAddr,storeVar,sizeOf,typeInfo,A,B,bK,Rr.len,z]
 ·rintro _ _ rfl
  exact h
end
end Go.J
namespace Go.J
open Go Go.Proofs.YtblifkgpebebmaaGreatDoor
structure yD (P:Program)(t:TypeId)(nm:String)(f:Nat)(byP:Bool)(e:TypeId):Prop where
 row:((P.info? t).bind λi=>(i.methods.find? λm=>m.name==nm).map λm=>(m.path.isEmpty,m.func))=some (true,some (f,byP))
 und:P.underlying t=some (.pointer e)
theorem yD.out {P:Program}{t e:TypeId}{nm:String}{f:Nat}{byP:Bool}(h:yD P t nm f byP e):∃i m,P.info? t=some i∧i.methods.find? (λm=>m.name==nm)=some m∧m.path= #[]∧m.func=some (f,byP):=by
 obtain⟨i,b,c⟩:=pN.1 h.row;obtain⟨m,hm,a⟩:=dp.1 c
 have d:=congrArg Prod.fst a
 have g:=congrArg Prod.snd a
 exact⟨i,m,b,hm,by simpa using d,g⟩
theorem HT {P:Program}{t e:TypeId}{nm:String}{f:Nat}(h:yD P t nm f true e)(k:Nat)(v:Value)(w:World):(method (k+1) t v nm).run P w= .ok (f,v) w:=by
 obtain⟨i,m,a,hm,hp,b⟩:=h.out
 have hu:=h.und
 simp[method,typeInfo,a,hm,hp,b,follow,receiverAt,run_underlying hu,Place.get]
theorem Q6 (t:TypeId)(a:Addr)(s m:String):Builtin.ssaWrapNilChk_ #[t] t #[.pointer (some a),strVal s,strVal m]=pure (.pointer (some a)):=rfl
theorem HU {P:Program}{t e:TypeId}{nm:String}{f:Nat}{a:Addr}{u:Value}(h:yD P t nm f false e)(k:Nat)(w:World)(b:(loadVar e a).run P w= .ok u w):(method (k+1) t (.pointer (some a)) nm).run P w= .ok (f,u) w:=by
 obtain⟨i,m,c,hm,hp,d⟩:=h.out
 have hu:=h.und
 simp[method,typeInfo,c,hm,hp,d,follow,receiverAt,run_underlying hu,Place.get,Q6,asAddr,b]
section
variable {P:Program}{n:Nat}{F:Fr}{c:Ctx}{H R:List ak}{ty t e e2:TypeId}{x:Operand}{r u v:Value}{nm:String}{Q:Exit→Act→World→Prop}{ops:Array Oper}{rest:List Oper}{d:Nat}{pos:String}{after:Array Edge}{f:Nat}
def Recv (P:Program)(c:Ctx)(H:List ak)(t:TypeId)(r:Value)(nm:String)(f:Nat)(u:Value):Prop:=∀w,Mm c H w→(method (P.types.size+Made.depth) t r nm).run P w= .ok (f,u) w
theorem Recv.ptr (h:yD P t nm f true e):Recv P c H t r nm f r:=λw _=>HT h (P.types.size+99) r w
theorem Recv.row {m k off size:Nat}{cs:List Value}{dd:TypeDesc}[a:wu v H e2 size m cs](h:yD P t nm f false e)(hu:P.underlying e=some dd)(d:(match dd with| .struct _| .array _ _=>False|_=>True))(hk:k<m)(g:cs[k*size+off]?=some u):
 Recv P c H t (cZ v size k off) nm f u:=λw hw=>by
 obtain⟨ρ,hm⟩:=hw.out;obtain⟨b,h1,i,_⟩:=jz (hm.row a) hk g;rw[h1];exact HU h (P.types.size+99) w (fN hu d i)
theorem wL {xs:List Operand}{c:Array TypeId}{vs:List Value}(d:aI P f)(hx:bH F (x::xs) (.iface t r::vs)){a:Act}(b:Has n a F){w:World}(e:(method (P.types.size+Made.depth) t r nm).run P w= .ok (f,u) w):
 (execOp a.eval (bare (.call {callee:= .invoke x nm,args:=xs.toArray,argTypes:=c}) ty)).run P w= .ok (.enter f (u::vs).toArray) w:=by
 have h1:=hx.1.eval b
 have g:=bH.eval b hx.2
 have h:(#[Value.iface t r]++xs.toArray.map a.eval)=(Value.iface t r::vs).toArray:=by simp[g]
 have e2:((Value.iface t r::vs).toArray).extract 1 (Value.iface t r::vs).toArray.size=vs.toArray:=by simp
 simp only[execOp,resolve,h1,Sem.run_bind,Sem.run_pure,Result.andThen_ok,invoke,h,e2]
 have i:(Value.iface t r::vs).toArray[0]?=some (Value.iface t r):=by simp
 simp only[i,callMethod,Sem.run_bind,run_program,Result.andThen_ok,e]
 have j:(#[u]++vs.toArray)=(u::vs).toArray:=by simp
 rw[j];exact d.run
theorem Ev.qv {xs:List Operand}{d:Array TypeId}{vs:List Value}{ds:List du}(g:Recv P c H t r nm f u)(i:eE P f (u::vs).toArray ds v)(j:aI P f)(hx:bH F (x::xs) (.iface t r::vs))(k:dV c H ds):
 Ev P n F (Mm c H) (.call {callee:= .invoke x nm,args:=xs.toArray,argTypes:=d}) ty v:=by
 intro a w l hw;rw[wL j hx l (g w hw)]
 simp only[Oper.quietUpon,true_and]
 refine(Mm.Wy (post:=λu H'=>u=v∧H'=[]) (λw ρ m=>(i w ρ m).mono λe w' ⟨u,H',h1,o,b⟩=>⟨u,[],h1,⟨o,rfl⟩,?_⟩) k (λ_ _ h=>by rw[h.2];exact gx.nil) hw).mono ?_
 ·obtain⟨jq,b⟩:=b.out
  exact Mm.mk (ez.left (L:=[]) b)
 ·rintro e w' ⟨u,H',rfl,⟨rfl,rfl⟩,hm⟩
  exact⟨rfl,hm⟩
theorem yi {xs:List Operand}{b:Array TypeId}{vs:List Value}(c:aI P f)(hx:bH F (x::xs) (.iface t r::vs)){a:Act}(d:Has n a F){w:World}(i:(method (P.types.size+Made.depth) t r nm).run P w= .ok (f,u) w){K:Act→World→Prop}
 {dd:Option Tmp} {g:Option (Nat×Bool)}
 (hk:Calls P f (u::vs).toArray w λe w'=>∃v,e= .returned v∧K (a.put dd v) w'):
 ({dst:=dd,op:= .call {callee:= .invoke x nm,args:=xs.toArray,argTypes:=b},type:=ty,pos:=pos,after:=after,guard:=g}:Oper).wp P a w K Q:=by
 unfold Oper.wp Oper.upon;rw[gy,wL c hx d i]
 exact hk.mono λe w' ⟨v,he,h⟩=>by subst he;exact h
theorem St.ivk {xs:List Operand}{g:Array TypeId}{vs:List Value}{pre:List ak}{post:Value→List ak→Prop}(i:Recv P c H t r nm f u)(j:dz P f (u::vs).toArray pre post)(k:aI P f)(hx:bH F (x::xs) (.iface t r::vs))(hd:Nat.ble (d+1) n=true)[tk:eV pre H R]
 (h:∀v H',post v H'→St n ((d,v)::F) (Mm c (H'++R)) (wpList P ops Q rest)):
 St n F (Mm c H) (wpList P ops Q ({dst:=some d,op:= .call {callee:= .invoke x nm,args:=xs.toArray,argTypes:=g},type:=ty,pos:=pos,after:=after,guard:=none}::rest)):=by
 intro a w b hw;refine gG rfl (yi k hx b (i w hw) ?_);refine(Mm.call j (hw.take (L:=pre))).mono ?_;rintro e w' ⟨u,H',rfl,hp,hm⟩;exact⟨u,rfl,h u H' hp _ w' (b.put (dR hd) u) hm⟩
theorem Ev.iface {A:World→Prop}{dd:TypeDesc}(hx:ah F x v)(ht:P.underlying t=some dd)(hk:(match dd with| .interface _=>False|_=>True)):Ev P n F A (.makeInterface t x) ty (.iface t v):= .of_run λa w b _=>by
 cases dd<;>simp_all [execOp,Instr.makeInterface,hx.eval b,run_underlying ht]
theorem Ev.assert {A:World→Prop}{dd:TypeDesc}{b:TypeId}(hx:ah F x (.iface t v))(ht:P.underlying t=some dd)(hk:(match dd with| .interface _=>False|_=>True)):Ev P n F A (.typeAssert x b t false) ty v:= .of_run λa w c _=>by
 cases dd<;>simp_all [execOp,Instr.typeAssert,hx.eval c,run_underlying ht]
end
end Go.J
namespace Go.J
open Go
section
variable {P:Program}{n:Nat}{F:Fr}{A:World→Prop}{c:Ctx}{H R:List ak}{ty:TypeId}{x y:Operand}{v:Value}{Q:Exit→Act→World→Prop}{ops:Array Oper}{rest:List Oper}
 {pos:String} {after:Array Edge} {t e:TypeId}
theorem xS {b off:Nat}{L:List Value}{u:Value}{ρ:Ro}{w:World}(d:ez c (aW b (.cells L.toArray e (0,0))::R) ρ w)(h:off<L.length):w.cell? ⟨b,off,none⟩=some L[off]∧w.frozen? ⟨b,off,none⟩=false∧
 ez c (aW b (.cells (L.set off u).toArray e (0,0))::R) ρ (w.setCell ⟨b,off,none⟩ u):=by
 have a:=fq.1 (d.dM _ (aQ ..))
 refine⟨by rw[cV a];simp,by simp[World.frozen?,a],?_⟩;refine d.alter rfl ⟨rfl,aR _⟩ rfl (by simp) (λk hk f=> ?_) (fq.2 ?_) (λi g=>by rw[iZ]at g⊢;exact .inl g)
 ·rw[iZ]at f
  simp only[World.setCell,Array.getElem?_modify]
  rw[aA (λe=>f (by rw[e]))]
 ·rw[nR a];simp
theorem St.o4 {T:Act→World→Prop}(L:List ak)(a:L.Sublist H)(k:St n F (Mm c L) T):St n F (Mm c H) T:=k.o6 λw hw=>by
 obtain⟨ρ,h⟩:=hw.out;exact Mm.mk ⟨h.os,h.tape,h.output,h.size,h.AD,h.fits,h.le,h.new,λE b=>h.dM E (a.subset b),λE b=>h.own E (a.subset b),h.EG.sublist a⟩
theorem St.Fe {b off:Nat}{L L':List Value}{d:Value}[tk:l3 b H (.cells L.toArray e (0,0)) R](hx:ah F x (.pointer (some ⟨b,off,none⟩)))(hy:ah F y (.agg #[d]))(g:(P.info? t).map (·.size)=some 1)(h1:d.oneCell'=true)
 (j:Nat.ble (off+1) L.length=true) (k:L.set off d=L') (h:St n F (Mm c (aW b (.cells L'.toArray e (0,0))::R)) (wpList P ops Q rest)):
 St n F (Mm c H) (wpList P ops Q ({dst:=none,op:= .store t x y,type:=ty,pos:=pos,after:=after,guard:=none}::rest)):=by
 subst k;refine St.lq (K:=λu H'=>H'=aW b (.cells (L.set off d).toArray e (0,0))::R) ?_ ?_
 ·intro a w ρ f hm
  have l:=hm.perm tk.perm
  obtain⟨c1,f1,m⟩:=xS (u:=d) l (dR j);obtain⟨i,o,p⟩:=dp.1 g;refine⟨.skip,_,ρ,_,?_,⟨_,.inr ⟨rfl,rfl⟩,rfl⟩,m⟩
  simp[execOp,hx.eval f,hy.eval f,Instr.storeAt,Instr.sureAddr,storeVar,sizeOf,typeInfo,o,p,bK,storeCells,run_store P w _ d _ h1,c1,f1,Addr.add_zero',Addr.add_lit]
 ·rintro _ _ rfl
  exact h
theorem St.PN {b off:Nat}{L L':List Value}{d f:Value}[tk:l3 b H (.cells L.toArray e (0,0)) R](hx:ah F x (.pointer (some ⟨b,off,none⟩)))(hy:ah F y (.agg #[d,f]))(j:(P.info? t).map (·.size)=some 2)(h1:d.oneCell'=true)(k:f.oneCell'=true)
 (l:Nat.ble (off+2) L.length=true) (m:(L.set off d).set (off+1) f=L') (h:St n F (Mm c (aW b (.cells L'.toArray e (0,0))::R)) (wpList P ops Q rest)):
 St n F (Mm c H) (wpList P ops Q ({dst:=none,op:= .store t x y,type:=ty,pos:=pos,after:=after,guard:=none}::rest)):=by
 subst m;refine St.lq (K:=λu H'=>H'=aW b (.cells ((L.set off d).set (off+1) f).toArray e (0,0))::R) ?_ ?_
 ·intro a w ρ g hm
  have o:=hm.perm tk.perm
  have v:=dR l
  obtain⟨c1,f1,p⟩:=xS (u:=d) o (show off<L.length by omega);obtain⟨c2,f2,q⟩:=xS (u:=f) p (show off+1<(L.set off d).length by rw[cn];omega);obtain⟨i,r,s⟩:=dp.1 j;refine⟨.skip,_,ρ,_,?_,⟨_,.inr ⟨rfl,rfl⟩,rfl⟩,q⟩
  simp[execOp,hx.eval g,hy.eval g,Instr.storeAt,Instr.sureAddr,storeVar,sizeOf,typeInfo,r,s,bK,storeCells,run_store P w _ d _ h1,run_store P _ _ f _ k,c1,f1,c2,f2,Addr.add_zero',Addr.add_lit]
 ·rintro _ _ rfl
  exact h
end
section
variable {P:Program}{n:Nat}{F:Fr}{c:Ctx}{H R:List ak}{ty:TypeId}{x y:Operand}{t e:TypeId}
theorem Ev.iU {b off:Nat}{dd:TypeDesc}{fr:Nat×Nat}{L L':List Value}[f:Ay b H (.cells L.toArray e fr)](m:Nat)(hx:ah F x (.pointer (some ⟨b,off,none⟩)))(ht:P.underlying t=some dd)(g:(match dd with| .struct _| .array _ _=>True|_=>False))
 (h:(P.info? t).map (·.size)=some m) (i:(L.drop off).take m=L') (k:L'.length=m):Ev P n F (Mm c H) (.load t x) ty (.agg L'.toArray):= .of_run λa w l hw=>by
 obtain⟨ρ,hm⟩:=hw.out
 have h1:=fq.1 (hm.dM _ f.mem)
 have o:=eS (P:=P) (w:=w) (b:=b) (off:=off) (L:=L') ht g (by rw[k];exact h) (λj u d=>by
  rw[cV h1];rw[←i,sB]at d
  split at d
  ·rw[A6]at d;simpa using d
  ·cases d)
 simp[execOp,hx.eval l,Instr.loadAt,Instr.sureAddr,o]
end
theorem fb.ind {p:fb→Prop}(h:∀x,(∀y∈x.args,p y)→p x)(x:fb):p x:=
 fb.rec (motive_1:=p) (motive_2:=λl=>∀y∈l,p y) (λb v l c=>h (.mk b v l) c) (λy hy=>by cases hy) (λa l d e y hy=>by
  rcases cK.1 hy with rfl|hy
  ·exact d
  ·exact e y hy) x
theorem di.ind {p:di→Prop}(h:∀x,(∀y∈x.args,p y)→p x)(x:di):p x:=
 di.rec (motive_1:=p) (motive_2:=λl=>∀y∈l,p y) (λk s i t v l b=>h (.mk k s i t v l) b) (λy hy=>by cases hy) (λa l c d y hy=>by
  rcases cK.1 hy with rfl|hy
  ·exact c
  ·exact d y hy) x
theorem dE.ind {p:dE→Prop}(h:∀x,(∀y∈x.kids,p y)→p x)(x:dE):p x:=
 dE.rec (motive_1:=p) (motive_2:=λl=>∀y∈l,p y) (λr i v l b=>h (.mk r i v l) b) (λy hy=>by cases hy) (λa l c d y hy=>by
  rcases cK.1 hy with rfl|hy
  ·exact c
  ·exact d y hy) x
section
variable {P:Program}{n:Nat}{F:Fr}{A:World→Prop}{c:Ctx}{H R:List ak}{ty:TypeId}{x y z:Operand}{v:Value}{Q:Exit→Act→World→Prop}{ops:Array Oper}{rest:List Oper}
 {d:Nat} {pos:String} {after:Array Edge} {t e:TypeId} {size m:Nat} {cs:List Value}
end
section
variable {P:Program}{n:Nat}{F:Fr}{A:World→Prop}{c:Ctx}{H R:List ak}{ty:TypeId}{x y z:Operand}{v:Value}{Q:Exit→Act→World→Prop}{ops:Array Oper}{rest:List Oper}
 {d:Nat} {pos:String} {after:Array Edge} {t e:TypeId} {size m:Nat} {cs:List Value}
def EB:Value→Value
 | .slice a m _=> .slice a m m
 |v=>v
theorem Ev.clip {α:Type}{Rr:Rp α}{xs:List α}{i j:Int}{g h:IntKind}{d f:Operand}[hd:sI v H α Rr xs](hx:ah F x v)(k:ah F d (.int g i))(hm:ah F f (.int h j))(ht:P.underlying t=some (.slice e))(l:(P.info? e).map (·.size)=some Rr.size)
 (h1:i=xs.length) (m:j=xs.length):Ev P n F (Mm c H) (.slice t x none (some d) (some f)) ty (EB v):= .of_run λa w b hw=>by
 obtain⟨ρ,o⟩:=hw.out;obtain⟨inf,p,q⟩:=dp.1 l;obtain⟨ad,cap,rfl,u,_⟩:=o.sl hd;subst h1 m
 have r:(0:Int)≤(xs.length:Int)∧(xs.length:Int)≤(cap:Int):=by omega
 have s:(0:Int)≤(xs.length:Int)∧(xs.length:Int)≤(xs.length:Int):=by omega
 simp only[execOp,hx.eval b,k.eval b,hm.eval b,Option.map_some,Option.map_none,Instr.sliceAt,Instr.slice,Instr.sliceBounds,Instr.sliceBound,asIntOf,Sem.run_bind,run_underlying ht,Result.andThen_ok,Sem.run_pure,r,s,and_self,if_true,Int.toNat_natCast,sizeOf,typeInfo,run_program,p,q,EB,Nat.sub_zero,Nat.zero_mul]
 cases ad with
 |none=>simp
 |some a=>simp[Addr.add_zero']
theorem St.yN {α:Type}{Rr:Rp α}{xs:List α}{v2:Value}{m2:Nat}{news:List Value}{zv:Value}{yV:Nat}[t2:lU v2 H e Rr.size m2 news R][t1:sI v H α Rr xs]
 (hx:ah F x (EB v)) (hy:ah F y v2) (ht:P.underlying t=some (.slice e)) (D:(P.info? e).map (·.size)=some Rr.size) (hz:(P.info? e).bind (·.zero)=some zv) (o:(P.info? e).map (·.bytes)=some yV)
 (anH:∀u∈news,u.oneCell'=true) (hlen:xs.length+m2≤9223372036854775807) (O:(xs.length+m2)*yV≤140737488355328) (S:zv.cells.size=Rr.size) (ab6:Nat.ble 1 Rr.size=true) (T:Nat.ble 1 m2=true) (hd:Nat.ble (d+1) n=true)
 (h:∀v',v'.oneCell'=true→St n ((d,v')::F) (Mm c (row v' e Rr.size (xs.length+m2) (rows Rr xs++news)::R)) (wpList P ops Q rest)):
 St n F (Mm c H) (wpList P ops Q ({dst:=some d,op:= .call {callee:= .builtin .append,args:= #[x,y],argTypes:= #[t,t]},type:=ty,pos:=pos,after:=after,guard:=none}::rest)):=by
 refine St.QS (K:=λv' H'=>v'.oneCell'=true∧H'=row v' e Rr.size (xs.length+m2) (rows Rr xs++news)::R) ?_ hd ?_
 ·intro a w ρ E hm
  have G:=hm.perm t2.perm
  have p:=eN.1 (G.dM _ (aQ ..))
  obtain⟨ad,cap,rfl,_,_,_,f⟩:=hm.sl t1
  have U:=dR T
  obtain⟨i,q,SK⟩:=dp.1 D;obtain⟨I,J,V⟩:=qg D hz o q
  rcases p.2 with⟨_,rfl⟩|⟨g2,r,W,rfl,_,s,hc1,hc2,X,z⟩
  ·omega
  ·have L:∀j u,news[j]?=some u→w.cell? ((⟨g2,0,none⟩:Addr).add j)=some u:=λj u l=>by
    rw[Addr.add_lit,iW,cV s];rw[←z,sB]at l
    split at l
    ·simpa using l
    ·simp at l
   have A:xs.length+m2≤9223372036854775807:=hlen
   have M:(xs.length+m2)*i.bytes≤140737488355328:=by rw[V];exact O
   have Y:(rows Rr xs).length=xs.length*i.size:=by rw[j2,I]
   have m:news.length=m2*i.size:=by rw[p.1,I]
   have Z:∃(g:Nat),(Builtin.append_ #[t,t] ty #[EB (.slice ad xs.length cap),.slice (some ⟨g2,0,none⟩) m2 r]).run P w= .ok (.slice (some ⟨w.heap.size,0,none⟩) (xs.length+m2) g) (w.drew.alloc (.cells ((rows Rr xs).toArray++news.toArray++Builtin.zeroCells zv.cells (g-(xs.length+m2))) e))∧xs.length+m2≤g∧g≤maxLen:=by
    cases ad with
    |none=>
     rcases f with f|⟨b,off,C,e',fr,f,_⟩
     ·subst f
      refine⟨grownCap w (([]:List α).length+m2) 0 e,?_,grownCap_ge ..,grownCap_le_maxLen _ _ _ _ (by unfold maxLen;omega)⟩
      have hr:=run_append_nil (P:=P) w t ty e i zv ht q J ⟨g2,0,none⟩ m2 r news m L (by omega) (by simp at A;omega) (by simp at M;omega)
      simpa[EB,rows]using hr
     ·cases f
    |some ad=>
     refine⟨grownCap w (xs.length+m2) xs.length e,?_,grownCap_ge ..,grownCap_le_maxLen _ _ _ _ (by unfold maxLen;omega)⟩;refine run_append_grow (P:=P) w t ty e i zv ht q J ad xs.length xs.length (rows Rr xs) Y (λj u l=> ?_) ⟨g2,0,none⟩ m2 r news m L (by omega) (by omega) (growslice_fits (by omega) M)
     rcases f with f|⟨b,off,C,e',fr,f,h6,h7⟩
     ·subst f;simp[rows]at l
     ·cases f
      rw[Addr.add_lit,cV (hm.fits _ _ h6)];exact h7 j u l
   obtain⟨g,akD,hc3,B⟩:=Z;refine⟨.value (.slice (some ⟨w.heap.size,0,none⟩) (xs.length+m2) g),w.drew.alloc (.cells ((rows Rr xs).toArray++news.toArray++Builtin.zeroCells zv.cells (g-(xs.length+m2))) e),ρ,_,?_,⟨_,.inl rfl,rfl,rfl⟩,?_⟩
   ·simp[execOp,resolve,invoke,builtin,hx.eval E,hy.eval E,akD]
   ·have N:(rows Rr xs++news).length=(xs.length+m2)*Rr.size:=by rw[bR,p.1,j2,jf]
    refine G.drop.Aj rfl ⟨rfl,Nat.le_succ _⟩ rfl (by simp) (λk hk=>heap_alloc_old w.drew _ hk) (eN.2 ⟨N,.inr ⟨w.heap.size,g,_,rfl,aP _,heap_alloc_new w.drew _,hc3,B,?_,?_⟩⟩) ?_
    ·simp only[Array.size_append,List.size_toArray,size_zeroCells,S,j2,p.1,←Nat.add_mul]
     congr 1
     omega
    ·simp only[Array.toList_append,List.append_assoc]
     rw[←dq,←N];exact List.take_left
    ·intro b o;rw[eI]at o;simp[Value.ownBlock]at o;omega
 ·rintro _ _ ⟨h1,rfl⟩
  exact h _ h1
end
section
variable {P:Program}{n:Nat}{F F0:Fr}{A:World→Prop}{c:Ctx}{H R:List ak}{ty:TypeId}{x y:Operand}{v:Value}{Q:Exit→Act→World→Prop}{ops:Array Oper}{rest:List Oper}{d:Nat}{pos:String}{after:Array Edge}{op:Op}{t u e:TypeId}{i j:Int}{k:IntKind}
theorem St.ee (a:Ev P n F A op ty v)(h:St n ((d,v)::F) A (wpList P ops Q rest))(hd:Nat.ble (d+1) n=true:=by rfl):St n F A (wpList P ops Q ({dst:=some d,op:=op,type:=ty,pos:=pos,after:=after,guard:=none}::rest)):=St.ev v a hd h
theorem Sq.ee {T:Act→Prop}(a:Ev P n F A op ty v)(h:Sq n ((d,v)::F) (wpQuiet P ops A T rest))(hd:Nat.ble (d+1) n=true:=by rfl):Sq n F (wpQuiet P ops A T ({dst:=some d,op:=op,type:=ty,pos:=pos,after:=after,guard:=none}::rest)):=Sq.ev v a hd h
theorem St.sA {b m:Nat}{L L':List Value}[tk:l3 b H (.cells L.toArray t (0,0)) R](hx:ah F x (.pointer (some ⟨b,0,none⟩)))(hy:ah F y (.agg L'.toArray))(a:(P.info? e).map (·.size)=some m)(h:St n F (Mm c (aW b (.cells L'.toArray t (0,0))::R)) (wpList P ops Q rest))
 (hm:m=L'.length:=by rfl) (d:L.length=L'.length:=by first|simp only[List.length_cons,List.length_nil]|rfl) (h1:L'.all (·.oneCell')=true:=by rfl):
 St n F (Mm c H) (wpList P ops Q ({dst:=none,op:= .store e x y,type:=ty,pos:=pos,after:=after,guard:=none}::rest)):=St.PM hx hy (by rw[a,hm]) d h1 h
theorem ab.cc {dr:Prop}{bs l:List ub}{slot:Nat}{gg:List Nat}{K:Value→du}{o:Oper}{m:List Oper}(a:(Nat→Value)→Fr)(L:(Nat→Value)→List ak)(h:∀(c:Ctx) (e:Nat→Value),(¬dr→¬c.dr)→St n (a e++F) (Mm c (L e++H)) (wpList P ops (Exit.then (qk c H slot K) Q) [o]))(k:ab P ops Q n F dr H bs l m)(h1:∀e,um bs e gg=a e:=by exact λ_=>rfl)(b:∀e,pd bs e gg=L e:=by exact λ_=>rfl):ab P ops Q n F dr H bs (⟨slot,gg,K⟩::l) (o::m):=⟨VJ.mk a L h1 b h,k⟩
theorem ab.c0 {dr:Prop}{bs l:List ub}{slot:Nat}{gg:List Nat}{K:Value→du}{o:Oper}{m:List Oper}(h:∀(c:Ctx) (e:Nat→Value),(¬dr→¬c.dr)→St n ((λe=>[]) e++F) (Mm c ((λe=>[]) e++H)) (wpList P ops (Exit.then (qk c H slot K) Q) [o]))(k:ab P ops Q n F dr H bs l m)(h1:∀e,um bs e gg=(λe=>[]) e:=by exact λ_=>rfl)(a:∀e,pd bs e gg=(λe=>[]) e:=by exact λ_=>rfl):ab P ops Q n F dr H bs (⟨slot,gg,K⟩::l) (o::m):=⟨VJ.mk (λe=>[]) (λe=>[]) h1 a h,k⟩
theorem St.rT {fn:Func}{post:Value→List ak→Prop}{a:List ResultVar}(vs:List Value)(H':List ak)(b:fn.results=a.toArray)(d:Qk P F H a vs)(hp:post (Hi vs) H')(hH:∀w,Mm c H w→Mm c H' w:=by exact λ_ hw=>hw.sub):
 St n F (Mm c H) (bodyPost P fn (λe w'=>∃v H',e= .returned v∧post v H'∧Mm c H' w') .ret):=St.DH vs H' b d hp hH
theorem St.rU {fn:Func}{post:Value→List ak→Prop}{a:List ResultVar}(vs:List Value)(H':List ak)(b:fn.results=a.toArray)(hp:post (Hi vs) H')(d:Qk P F H a vs:=by first|exact⟨rfl,trivial⟩|exact⟨⟨_,_,_,_,rfl,Ay.mem,.inl ⟨⟨_,f⟩,g,rfl⟩⟩,trivial⟩)(hH:∀w,Mm c H w→Mm c H' w:=by exact λ_ hw=>hw.sub):
 St n F (Mm c H) (bodyPost P fn (λe w'=>∃v H',e= .returned v∧post v H'∧Mm c H' w') .ret):=St.DH vs H' b d hp hH
theorem St.sr {id:Nat}{l:List Oper}{y:Code}(h:St n F A (wpList P l.toArray (Exit.then (y.wp P Q) Q) l)):St n F A ((Code.seq (Code.region id l.toArray false) y).wp P Q):=St.seq (St.rg h)
theorem St.tm {ι κ:Type}{body:Code}(G:ι→κ→Fr→Fr)(a:ι→κ→List ak)(φ:ι→κ→Prop)(μ:ι→κ→Nat)(b:ι)(d:κ)(hk:aD F F0)(e:φ b d)
 (round:∀x z,φ x z→St n (G x z F0) (Mm c (a x z)) (body.wp P (Exit.then (CA n G F0 φ μ c a (μ x z)) Q))) (f:Sub (G b d F0) F:=by repeat(first|exact Sub.nil|refine Sub.cons (by first|rfl|exact congrArg (λz=>some (iv z)) (by first|omega|(dsimp only;omega))|exact congrArg (λz=>some (Value.bool z)) (by first|assumption|exact ig (by assumption))) ?_)) (hH:∀w,Mm c H w→Mm c (a b d) w:=by exact λ_ hw=>hw.sub):
 St n F (Mm c H) ((Code.loop body).wp P Q):=St.XE G a φ μ b d hk e f hH round
theorem St.lH {ι:Type}{body:Code}(G:ι→Fr→Fr)(a:ι→List ak)(φ:ι→Prop)(μ:ι→Nat)(b:ι)(hk:aD F F0)(d:φ b)
 (round:∀x,φ x→St n (G x F0) (Mm c (a x)) (body.wp P (Exit.then (wD n G F0 φ μ c a (μ x)) Q))) (e:Sub (G b F0) F:=by repeat(first|exact Sub.nil|refine Sub.cons (by first|rfl|exact congrArg (λz=>some (iv z)) (by first|omega|(dsimp only;omega))|exact congrArg (λz=>some (Value.bool z)) (by first|assumption|exact ig (by assumption))) ?_)) (hH:∀w,Mm c H w→Mm c (a b) w:=by exact λ_ hw=>hw.sub):
 St n F (Mm c H) ((Code.loop body).wp P Q):=St.Ef G a φ μ b hk d e hH round
theorem St.lS {ι:Type}{body:Code}(G:ι→Fr→Fr)(φ:ι→Prop)(μ:ι→Nat)(a:ι)(hk:aD F F0)(b:φ a)
 (round:∀x,φ x→St n (G x F0) (Mm c H) (body.wp P (Exit.then (wD n G F0 φ μ c (λ_=>H) (μ x)) Q))) (d:Sub (G a F0) F:=by repeat(first|exact Sub.nil|refine Sub.cons (by first|rfl|exact congrArg (λz=>some (iv z)) (by first|omega|(dsimp only;omega))|exact congrArg (λz=>some (Value.bool z)) (by first|assumption|exact ig (by assumption))) ?_)):
 St n F (Mm c H) ((Code.loop body).wp P Q):=St.ad9 G φ μ a hk b d round
theorem St.ui {ι κ:Type}{G:ι→κ→Fr→Fr}{a:ι→κ→List ak}{φ:ι→κ→Prop}{μ:ι→κ→Nat}{k:Nat}(y:ι)(z:κ)(b:φ y z)(hm:μ y z<k:=by first|omega|(dsimp only;omega))(d:Sub (G y z F0) F:=by repeat(first|exact Sub.nil|refine Sub.cons (by first|rfl|exact congrArg (λz=>some (iv z)) (by first|omega|(dsimp only;omega))|exact congrArg (λz=>some (Value.bool z)) (by first|assumption|exact ig (by assumption))) ?_))(e:∀w,Mm c H w→Mm c (a y z) w:=by exact λ_ hw=>hw.sub):
 St n F (Mm c H) (CA n G F0 φ μ c a k):=St.nG y z b hm d e
theorem St.aH {ι:Type}{G:ι→Fr→Fr}{a:ι→List ak}{φ:ι→Prop}{μ:ι→Nat}{k:Nat}(y:ι)(b:φ y)(hm:μ y<k:=by first|omega|(dsimp only;omega))(d:Sub (G y F0) F:=by repeat(first|exact Sub.nil|refine Sub.cons (by first|rfl|exact congrArg (λz=>some (iv z)) (by first|omega|(dsimp only;omega))|exact congrArg (λz=>some (Value.bool z)) (by first|assumption|exact ig (by assumption))) ?_))(e:∀w,Mm c H w→Mm c (a y) w:=by exact λ_ hw=>hw.sub):
 St n F (Mm c H) (wD n G F0 φ μ c a k):=St.sM y b hm d e
theorem St.aS {ι:Type}{G:ι→Fr→Fr}{φ:ι→Prop}{μ:ι→Nat}{k:Nat}{H':List ak}(y:ι)(a:φ y)(hm:μ y<k:=by first|omega|(dsimp only;omega))(b:Sub (G y F0) F:=by repeat(first|exact Sub.nil|refine Sub.cons (by first|rfl|exact congrArg (λz=>some (iv z)) (by first|omega|(dsimp only;omega))|exact congrArg (λz=>some (Value.bool z)) (by first|assumption|exact ig (by assumption))) ?_))(d:∀w,Mm c H w→Mm c H' w:=by exact λ_ hw=>hw.sub):
 St n F (Mm c H) (wD n G F0 φ μ c (λ_=>H') k):=St.GX y a hm b d
theorem St.mE {ι:Type}{G:ι→Fr→Fr}{a:ι→List ak}{φ:ι→Prop}(y:ι)(b:φ y)(d:Sub (G y F0) F:=by repeat(first|exact Sub.nil|refine Sub.cons (by first|rfl|exact congrArg (λz=>some (iv z)) (by first|omega|(dsimp only;omega))|exact congrArg (λz=>some (Value.bool z)) (by first|assumption|exact ig (by assumption))) ?_))(e:∀w,Mm c H w→Mm c (a y) w:=by exact λ_ hw=>hw.sub):
 St n F (Mm c H) (Met n G F0 φ c a):=St.met y b d e
theorem Ev.l0 {b off:Nat}{fr:Nat×Nat}{d:TypeDesc}{u:Value}{L:List Value}[f:Ay b H (.cells L.toArray e fr)](hx:ah F x (.pointer (some ⟨b,off,none⟩)))(ht:P.underlying t=some d)(a:(match d with| .struct _| .array _ _=>False|_=>True):=by trivial)
 (hu:L[off]?=some u:=by rfl):Ev P n F (Mm c H) (.load t x) ty u:=Ev.ke hx ht a hu
theorem Ev.o0 {p q:Bool}(hx:ah F x (.bool p):=by exact .mk rfl)(hy:(!p)=true→ah F y (.bool q):=by exact λhp=>ah.gv rfl hp):Ev P n F A (.pick x (.const (.bool true)) y) ty (.bool (p||q)):=Ev.or hx hy
theorem Ev.n0 {p q:Bool}(hx:ah F x (.bool p):=by exact .mk rfl)(hy:p=true→ah F y (.bool q):=by exact λhp=>ah.gv rfl hp):Ev P n F A (.pick x y (.const (.bool false))) ty (.bool (p&&q)):=Ev.and hx hy
theorem Ev.a0 (hx:ah F x (iv i):=by exact .mk rfl)(hy:ah F y (iv j):=by exact .mk rfl)(h: -9223372036854775808≤i+j∧i+j≤9223372036854775807:=by omega):Ev P n F A (.binOp .add t x y u) ty (iv (i+j)):=Ev.add hx hy h
theorem Ev.s0 (hx:ah F x (iv i):=by exact .mk rfl)(hy:ah F y (iv j):=by exact .mk rfl)(h: -9223372036854775808≤i-j∧i-j≤9223372036854775807:=by omega):Ev P n F A (.binOp .sub t x y u) ty (iv (i-j)):=Ev.sub hx hy h
theorem Ev.lt0 (hx:ah F x (.int k i):=by exact .mk rfl)(hy:ah F y (.int k j):=by exact .mk rfl):Ev P n F A (.binOp .lss t x y u) ty (.bool (decide (i<j))):=Ev.lss hx hy
theorem Ev.eq0 (hx:ah F x (.int k i):=by exact .mk rfl)(hy:ah F y (.int k j):=by exact .mk rfl):Ev P n F A (.binOp .eql t x y u) ty (.bool (decide (i=j))):=Ev.eql hx hy
theorem Ev.ne0 (hx:ah F x (.int k i):=by exact .mk rfl)(hy:ah F y (.int k j):=by exact .mk rfl):Ev P n F A (.binOp .neq t x y u) ty (.bool (!decide (i=j))):=Ev.neq hx hy
theorem Ev.gt0 (hx:ah F x (.int k i):=by exact .mk rfl)(hy:ah F y (.int k j):=by exact .mk rfl):Ev P n F A (.binOp .gtr t x y u) ty (.bool (decide (j<i))):=Ev.gtr hx hy
theorem Ev.ge0 (hx:ah F x (.int k i):=by exact .mk rfl)(hy:ah F y (.int k j):=by exact .mk rfl):Ev P n F A (.binOp .geq t x y u) ty (.bool (decide (j≤i))):=Ev.geq hx hy
theorem Ev.le0 (hx:ah F x (.int k i):=by exact .mk rfl)(hy:ah F y (.int k j):=by exact .mk rfl):Ev P n F A (.binOp .leq t x y u) ty (.bool (decide (i≤j))):=Ev.leq hx hy
theorem St.nn {K:Act→World→Prop}(h:St n F A K):St n F A (wpList P ops (Exit.then K Q) []):=h
theorem St.dup (d:du){T:Act→World→Prop}[hd:kY [d] H](k:St n F (Mm c (aB d::H)) T):St n F (Mm c H) T:=St.ea d [d] (λρ h=>h _ (aQ ..)) k
end
section
variable {P:Program}{ops:Array Oper}{Q:Exit→Act→World→Prop}{n:Nat}{F:Fr}{c:Ctx}{H Fp r r' C':List ak}{f:Nat}{listed:Array Bool}{d:Nat}{op:Op}{ty:TypeId}{pos:String}{after:Array Edge}{v:Value}
theorem SW.dd (i:Nat)(a:ops[i]?=some {dst:=some d,op:=op,type:=ty,pos:=pos,after:=after,guard:=none})(b:∀R,Ev P n F (Mm c (Fp++R)) op ty v)(h:SW P ops Q n ((d,v)::F) c Fp r f (listed.setIfInBounds i true))
 (e:NP Q:=by assumption) (g:Region.noSelect ops=true:=by assumption) (j:((Region.ready .any ops listed).contains i&&Region.free .any ops listed i)=true:=by decide+kernel) (hd:Nat.ble (d+1) n=true:=by rfl):SW P ops Q n F c Fp r (f+1) listed:=SW.defer i e g a b j hd h
end
end Go.J
namespace Go.Proofs
open Tryz
theorem YX:type_of% @underlying0:=underlying0
theorem gD:type_of% @underlying3:=underlying3
theorem ID:type_of% @underlying4:=underlying4
theorem GI:type_of% @underlying5:=underlying5
theorem vt:type_of% @underlying9:=underlying9
theorem vr:type_of% @underlying22:=underlying22
theorem Fy:type_of% @underlying23:=underlying23
theorem Pk:type_of% @underlying26:=underlying26
theorem IC:type_of% @underlying27:=underlying27
theorem oY:type_of% @underlying28:=underlying28
theorem mm:type_of% @underlying30:=underlying30
theorem Xt:type_of% @underlying32:=underlying32
theorem lE:type_of% @underlying33:=underlying33
theorem Fz:type_of% @underlying35:=underlying35
theorem zy:type_of% @underlying44:=underlying44
theorem px:type_of% @underlying49:=underlying49
theorem bJ:type_of% @underlying58:=underlying58
theorem IE:type_of% @underlying69:=underlying69
theorem IG:type_of% @underlying71:=underlying71
theorem Lg:type_of% @underlying84:=underlying84
theorem vu:type_of% @underlying98:=underlying98
theorem wX:type_of% @underlying100:=underlying100
theorem pX:type_of% @underlying102:=underlying102
theorem j4:type_of% @underlying103:=underlying103
theorem lY:type_of% @underlying105:=underlying105
theorem iE:type_of% @underlying106:=underlying106
theorem lZ:type_of% @underlying108:=underlying108
theorem uR:type_of% @underlying110:=underlying110
theorem zw:type_of% @underlying115:=underlying115
theorem nV:type_of% @underlying118:=underlying118
theorem fH:type_of% @underlying138:=underlying138
theorem Jo:type_of% @underlying156:=underlying156
theorem lf:type_of% @underlying157:=underlying157
theorem eX:type_of% @underlying161:=underlying161
theorem wY:type_of% @underlying163:=underlying163
theorem lD:type_of% @underlying165:=underlying165
theorem jl:type_of% @underlying171:=underlying171
theorem Bn:type_of% @underlying177:=underlying177
theorem Fx:type_of% @underlying183:=underlying183
theorem uS:type_of% @underlying184:=underlying184
theorem oX:type_of% @underlying190:=underlying190
theorem ic:type_of% @underlying192:=underlying192
theorem uT:type_of% @underlying196:=underlying196
theorem Bo:type_of% @underlying218:=underlying218
theorem Bp:type_of% @underlying232:=underlying232
theorem zx:type_of% @underlying234:=underlying234
theorem Bq:type_of% @underlying243:=underlying243
theorem wZ:type_of% @underlying271:=underlying271
end Go.Proofs
namespace Go.J
open Go
class UT (P:Program)(t:TypeId)(d:outParam TypeDesc):Prop where h:P.underlying t=some d
class pc (P:Program)(t:TypeId)(m:outParam Nat):Prop where h:(P.info? t).map (·.size)=some m
class gw (P:Program)(s i:Nat)(o:outParam Nat):Prop where h:bh P s i=some o
class rH (P:Program)(t:TypeId)(Z:outParam (Array Value)):Prop where h:(P.info? t).bind (λi=>i.zero.map Value.cells)=some Z
class oh (v:Value):Prop where h:v.oneCell'=true
instance oh.sub (u:aV):oh u.1:=⟨u.2⟩
instance oh.int (k:IntKind)(i:Int):oh (.int k i):=⟨rfl⟩
instance oh.bool (b:Bool):oh (.bool b):=⟨rfl⟩
instance oh.str (s:ByteArray):oh (.string s):=⟨rfl⟩
instance oh.sv (s:bC):oh (sv s):=⟨rfl⟩
instance oh.sl (a:Option Addr)(m c:Nat):oh (.slice a m c):=⟨rfl⟩
instance oh.ptr (a:Option Addr):oh (.pointer a):=⟨rfl⟩
instance oh.map (a:Option Nat):oh (.map a):=⟨rfl⟩
instance oh.fn (f:Fn)(a c:Array Value):oh (.func f a c):=⟨rfl⟩
class KF (L:List Value):Prop where h:L.all (·.oneCell')=true
instance KF.nil:KF []:=⟨rfl⟩
instance KF.cons (v:Value)(L:List Value)[a:oh v][b:KF L]:KF (v::L):=⟨by rw[List.all_cons,a.h,b.h];rfl⟩
section
variable {P:Program}{n:Nat}{F F0:Fr}{A:World→Prop}{c:Ctx}{H R:List ak}{ty:TypeId}{x y:Operand}{v:Value}{Q:Exit→Act→World→Prop}{ops:Array Oper}{rest:List Oper}{d:Nat}{pos:String}{after:Array Edge}{op:Op}{t u e s:TypeId}{i j:Int}{k:IntKind}
variable {b off:Nat}{L:List Value}{fr:Nat×Nat}{dd:TypeDesc}{α:Type}{Rr:Rp α}{xs:List α}
theorem Ev.g0 [d:Ay b H (.cells L.toArray e fr)][ut:UT P t dd](hx:ah F x (.pointer (some ⟨b,off,none⟩)))(a:(match dd with| .struct _| .array _ _=>False|_=>True):=by exact True.intro)(hu:L[off]?=some v:=by rfl):Ev P n F (Mm c H) (.load t x) ty v:=Ev.ke hx ut.h (by cases dd<;>exact a) hu
theorem Ev.gA [d:Ay b H (.cells L.toArray e fr)][ut:UT P t dd]{m:Nat}[sz:pc P t m](hx:ah F x (.pointer (some ⟨b,0,none⟩)))(a:(match dd with| .struct _| .array _ _=>True|_=>False):=by exact True.intro)(hm:m=L.length:=by rfl):Ev P n F (Mm c H) (.load t x) ty (.agg L.toArray):=Ev.Wu hx ut.h (by cases dd<;>exact a) (by rw[sz.h,hm])
theorem Ev.gF {o q:Nat}[a:gw P s q o](hx:ah F x (.pointer (some ⟨b,off,none⟩))):Ev P n F A (.fieldAddr s x q) ty (.pointer (some ⟨b,off+o,none⟩)):=Ev.W8 hx a.h
theorem Ev.gF0 {o q:Nat}[a:gw P s q o](hx:ah F x (.pointer (some ⟨b,0,none⟩))):Ev P n F A (.fieldAddr s x q) ty (.pointer (some ⟨b,o,none⟩)):=Ev.da hx a.h
theorem Ev.gE {o q m:Nat}[hd:sI v H α Rr xs][a:gw P s q o](hx:ah F x (cZ v Rr.size m off))(hk:m<xs.length:=by omega):Ev P n F (Mm c H) (.fieldAddr s x q) ty (cZ v Rr.size m (off+o)):=Ev.UO hx hk a.h
theorem Ev.gR {o q m k sz:Nat}{cs:List Value}[b:wu v H e sz m cs][a:gw P s q o](hx:ah F x (cZ v sz k off))(hk:k<m:=by omega):Ev P n F (Mm c H) (.fieldAddr s x q) ty (cZ v sz k (off+o)):=Ev.W9 hx hk a.h
theorem Ev.gL [hd:sI v H α Rr xs][ut:UT P t (.slice e)](hx:ah F x v):Ev P n F (Mm c H) (.call {callee:= .builtin .len,args:= #[x],argTypes:= #[t]}) ty (iv xs.length):=Ev.fc hx ut.h
theorem Ev.gM {sz m:Nat}{cs:List Value}[a:wu v H e sz m cs][ut:UT P t (.slice s)](hx:ah F x v):Ev P n F (Mm c H) (.call {callee:= .builtin .len,args:= #[x],argTypes:= #[t]}) ty (iv m):=Ev.XA hx ut.h
theorem Ev.gS {s:bC}[ut:UT P t .string](hx:ah F x (sv s)):Ev P n F A (.call {callee:= .builtin .len,args:= #[x],argTypes:= #[t]}) ty (iv s.length):=Ev.O1 hx ut.h
theorem Ev.g1 {m:Nat}{z:α}[hd:sI v H α Rr xs][ut:UT P t dd]{u:Value}(hx:ah F x (cZ v Rr.size m off))(hk:xs[m]?=some z:=by assumption)(a:(match dd with| .struct _| .array _ _=>False|_=>True):=by exact True.intro)(hu:(Rr.cells z)[off]?=some u:=by rfl):Ev P n F (Mm c H) (.load t x) ty u:=Ev.ld1 hx hk ut.h (by cases dd<;>exact a) hu
theorem Ev.gI {m:Nat}{kd:IntKind}[hd:sI v H α Rr xs][ut:UT P t (.slice e)]{z:Nat}[sz:pc P e z](hx:ah F x v)(hy:ah F y (.int kd (m:Nat)))(hz:z=Rr.size:=by rfl)(hk:m<xs.length:=by omega):Ev P n F (Mm c H) (.indexAddr t x y) ty (cZ v Rr.size m 0):=Ev.cE hx hy ut.h (by rw[sz.h,hz]) rfl hk
theorem Ev.gJ {m q sz:Nat}{kd:IntKind}{cs:List Value}[b:wu v H s sz m cs][ut:UT P t (.slice e)]{z:Nat}[a:pc P e z](hx:ah F x v)(hy:ah F y (.int kd (q:Nat)))(hz:z=sz:=by rfl)(he:s=e:=by rfl)(hk:q<m:=by omega):Ev P n F (Mm c H) (.indexAddr t x y) ty (cZ v sz q 0):=by
 subst he;exact Ev.dZ hx hy ut.h (by rw[a.h,hz]) rfl hk
theorem Ev.gC {u:Value}[d:re b H u][ut:UT P t dd](hx:ah F x (.pointer (some ⟨b,0,none⟩)))(a:(match dd with| .struct _| .array _ _=>False|_=>True):=by exact True.intro):Ev P n F (Mm c H) (.load t x) ty u:=Ev.ad0 hx ut.h (by cases dd<;>exact a)
theorem Ev.iM (h:Ev P n F A (.move x) ty v):Ev P n F A (.move x) ty v:=h
theorem Ev.iA (h:Ev P n F A (.assign x) ty v):Ev P n F A (.assign x) ty v:=h
theorem Ev.iF {q:Nat}(h:Ev P n F A (.fieldAddr s x q) ty v):Ev P n F A (.fieldAddr s x q) ty v:=h
theorem Ev.iL (h:Ev P n F A (.load t x) ty v):Ev P n F A (.load t x) ty v:=h
theorem Ev.iB {o:BinOp}(h:Ev P n F A (.binOp o t x y u) ty v):Ev P n F A (.binOp o t x y u) ty v:=h
theorem Ev.iC {a:Builtin}{az:Array Operand}{b:Array TypeId}(h:Ev P n F A (.call {callee:= .builtin a,args:=az,argTypes:=b}) ty v):Ev P n F A (.call {callee:= .builtin a,args:=az,argTypes:=b}) ty v:=h
theorem Ev.iI (h:Ev P n F A (.indexAddr t x y) ty v):Ev P n F A (.indexAddr t x y) ty v:=h
theorem Ev.go (h:Ev P n F A op ty v:=by
 first
 |with_reducible apply Ev.iM
  exact Ev.move (.mk rfl)
 |with_reducible apply Ev.iA
  exact Ev.assign (.mk rfl)
 |with_reducible apply Ev.iF
  first
  |exact Ev.gF0 (.mk rfl)
  |exact Ev.gE (.mk rfl)
  |exact Ev.gF (.mk rfl)
  |exact Ev.gR (.mk rfl)
 |with_reducible apply Ev.iL
  first
  |exact Ev.g0 (.mk rfl)
  |exact Ev.gA (.mk rfl)
  |exact Ev.g1 (.mk rfl)
  |exact Ev.gC (.mk rfl)
 |with_reducible apply Ev.iB
  first
  |exact Ev.lt0
  |exact Ev.a0
  |exact Ev.eq0
  |exact Ev.ne0
  |exact Ev.gt0
  |exact Ev.ge0
  |exact Ev.le0
  |exact Ev.s0
  |exact Ev.Jd (.mk rfl) (.mk rfl)
  |exact Ev.ae2 (.mk rfl) (.mk rfl)
 |with_reducible apply Ev.iC
  first
  |exact Ev.gL (.mk rfl)
  |exact Ev.gM (.mk rfl)
  |exact Ev.gS (.mk rfl)
 |with_reducible apply Ev.iI
  first
  |exact Ev.gI (.mk rfl) (.mk rfl)
  |exact Ev.gJ (.mk rfl) (.mk rfl)
 |exact Ev.extract (.mk rfl) rfl
 |exact Ev.not (.mk rfl)
 |exact Ev.o0
 |exact Ev.n0
 |exact Ev.alC (.mk rfl)):Ev P n F A op ty v:=h
theorem St.oo {b m:Nat}{L L':List Value}[tk:l3 b H (.cells L.toArray t (0,0)) R][sz:pc P e m](hx:ah F x (.pointer (some ⟨b,0,none⟩)))(hy:ah F y (.agg L'.toArray))[o:KF L'](h:St n F (Mm c (aW b (.cells L'.toArray t (0,0))::R)) (wpList P ops Q rest))
 (hm:m=L'.length:=by rfl) (a:L.length=L'.length:=by first|simp only[List.length_cons,List.length_nil]|rfl):
 St n F (Mm c H) (wpList P ops Q ({dst:=none,op:= .store e x y,type:=ty,pos:=pos,after:=after,guard:=none}::rest)):=St.PM hx hy (by rw[sz.h,hm]) a o.h h
theorem St.al {Z:Array Value}[a:rH P t Z](h:∀b,St n ((d,.pointer (some ⟨b,0,none⟩))::F) (Mm c (aW b (.cells Z t (0,0))::H)) (wpList P ops Q rest))(hd:Nat.ble (d+1) n=true:=by rfl):
 St n F (Mm c H) (wpList P ops Q ({dst:=some d,op:= .alloc t,type:=ty,pos:=pos,after:=after,guard:=none}::rest)):=St.alloc a.h hd h
theorem F1 {p q:Prop}(h:p→q:=by
 first
 |with_reducible exact St.nil
 |with_reducible exact St.wW
 |with_reducible exact St.seq
 |with_reducible exact St.rg
 |with_reducible exact St.block
 |with_reducible exact St.skip
 |with_reducible exact St.Ks
 |with_reducible exact St.alN
 |with_reducible exact St.Pa
 |with_reducible exact St.Wq
 |with_reducible exact St.exit
 |with_reducible exact St.Le
 |with_reducible exact St.Wp
 |with_reducible exact Sq.nil
 |with_reducible exact Sq.tail
 |exact λh=>St.ee Ev.go h
 |exact λh=>Sq.ee Ev.go h
 |exact λh=>St.oo (.mk rfl) (.mk rfl) h
 |exact St.SX rfl):p→q:=h
theorem go {p q:Prop}(hp:p)(h:p→q:=by exact F1):q:=h hp
theorem F2 {p q r:Prop}(b:q→r:=by exact F1)(a:p→q:=by exact F1):p→r:=λh=>b (a h)
theorem F3 {p q r:Prop}(b:q→r:=by exact F1)(a:p→q:=by exact F2):p→r:=λh=>b (a h)
theorem F4 {p q r:Prop}(b:q→r:=by exact F2)(a:p→q:=by exact F2):p→r:=λh=>b (a h)
theorem F5 {p q r:Prop}(b:q→r:=by exact F2)(a:p→q:=by exact F3):p→r:=λh=>b (a h)
theorem F6 {p q r:Prop}(b:q→r:=by exact F3)(a:p→q:=by exact F3):p→r:=λh=>b (a h)
theorem F7 {p q r:Prop}(b:q→r:=by exact F3)(a:p→q:=by exact F4):p→r:=λh=>b (a h)
theorem F8 {p q r:Prop}(b:q→r:=by exact F4)(a:p→q:=by exact F4):p→r:=λh=>b (a h)
theorem F9 {p q r:Prop}(b:q→r:=by exact F4)(a:p→q:=by exact F5):p→r:=λh=>b (a h)
theorem Yc {p q r:Prop}(b:q→r:=by exact F5)(a:p→q:=by exact F5):p→r:=λh=>b (a h)
theorem Yd {p q r:Prop}(b:q→r:=by exact F5)(a:p→q:=by exact F6):p→r:=λh=>b (a h)
theorem Ye {p q r:Prop}(b:q→r:=by exact F6)(a:p→q:=by exact F6):p→r:=λh=>b (a h)
theorem Yf {p q r:Prop}(b:q→r:=by exact F6)(a:p→q:=by exact F7):p→r:=λh=>b (a h)
theorem Yg {p q r:Prop}(b:q→r:=by exact F7)(a:p→q:=by exact F7):p→r:=λh=>b (a h)
theorem F15 {p q r:Prop}(b:q→r:=by exact F7)(a:p→q:=by exact F8):p→r:=λh=>b (a h)
theorem F16 {p q r:Prop}(b:q→r:=by exact F8)(a:p→q:=by exact F8):p→r:=λh=>b (a h)
theorem F17 {p q r:Prop}(b:q→r:=by exact F8)(a:p→q:=by exact F9):p→r:=λh=>b (a h)
theorem F18 {p q r:Prop}(b:q→r:=by exact F9)(a:p→q:=by exact F9):p→r:=λh=>b (a h)
theorem F19 {p q r:Prop}(b:q→r:=by exact F9)(a:p→q:=by exact Yc):p→r:=λh=>b (a h)
theorem F20 {p q r:Prop}(b:q→r:=by exact Yc)(a:p→q:=by exact Yc):p→r:=λh=>b (a h)
theorem F21 {p q r:Prop}(b:q→r:=by exact Yc)(a:p→q:=by exact Yd):p→r:=λh=>b (a h)
theorem F22 {p q r:Prop}(b:q→r:=by exact Yd)(a:p→q:=by exact Yd):p→r:=λh=>b (a h)
theorem F23 {p q r:Prop}(b:q→r:=by exact Yd)(a:p→q:=by exact Ye):p→r:=λh=>b (a h)
theorem F24 {p q r:Prop}(b:q→r:=by exact Ye)(a:p→q:=by exact Ye):p→r:=λh=>b (a h)
theorem F25 {p q r:Prop}(b:q→r:=by exact Ye)(a:p→q:=by exact Yf):p→r:=λh=>b (a h)
theorem F26 {p q r:Prop}(b:q→r:=by exact Yf)(a:p→q:=by exact Yf):p→r:=λh=>b (a h)
theorem F27 {p q r:Prop}(b:q→r:=by exact Yf)(a:p→q:=by exact Yg):p→r:=λh=>b (a h)
theorem F28 {p q r:Prop}(b:q→r:=by exact Yg)(a:p→q:=by exact Yg):p→r:=λh=>b (a h)
theorem F29 {p q r:Prop}(b:q→r:=by exact Yg)(a:p→q:=by exact F15):p→r:=λh=>b (a h)
theorem F30 {p q r:Prop}(b:q→r:=by exact F15)(a:p→q:=by exact F15):p→r:=λh=>b (a h)
theorem g2 {p q:Prop}(hp:p)(h:p→q:=by exact F2):q:=h hp
theorem g3 {p q:Prop}(hp:p)(h:p→q:=by exact F3):q:=h hp
theorem g4 {p q:Prop}(hp:p)(h:p→q:=by exact F4):q:=h hp
theorem g5 {p q:Prop}(hp:p)(h:p→q:=by exact F5):q:=h hp
theorem g6 {p q:Prop}(hp:p)(h:p→q:=by exact F6):q:=h hp
theorem g7 {p q:Prop}(hp:p)(h:p→q:=by exact F7):q:=h hp
theorem g8 {p q:Prop}(hp:p)(h:p→q:=by exact F8):q:=h hp
theorem g9 {p q:Prop}(hp:p)(h:p→q:=by exact F9):q:=h hp
theorem g10 {p q:Prop}(hp:p)(h:p→q:=by exact Yc):q:=h hp
theorem g11 {p q:Prop}(hp:p)(h:p→q:=by exact Yd):q:=h hp
theorem g12 {p q:Prop}(hp:p)(h:p→q:=by exact Ye):q:=h hp
theorem g13 {p q:Prop}(hp:p)(h:p→q:=by exact Yf):q:=h hp
theorem g14 {p q:Prop}(hp:p)(h:p→q:=by exact Yg):q:=h hp
theorem g15 {p q:Prop}(hp:p)(h:p→q:=by exact F15):q:=h hp
theorem g16 {p q:Prop}(hp:p)(h:p→q:=by exact F16):q:=h hp
theorem g17 {p q:Prop}(hp:p)(h:p→q:=by exact F17):q:=h hp
theorem g18 {p q:Prop}(hp:p)(h:p→q:=by exact F18):q:=h hp
theorem g19 {p q:Prop}(hp:p)(h:p→q:=by exact F19):q:=h hp
theorem g20 {p q:Prop}(hp:p)(h:p→q:=by exact F20):q:=h hp
theorem g21 {p q:Prop}(hp:p)(h:p→q:=by exact F21):q:=h hp
theorem g22 {p q:Prop}(hp:p)(h:p→q:=by exact F22):q:=h hp
theorem g23 {p q:Prop}(hp:p)(h:p→q:=by exact F23):q:=h hp
theorem g24 {p q:Prop}(hp:p)(h:p→q:=by exact F24):q:=h hp
theorem g25 {p q:Prop}(hp:p)(h:p→q:=by exact F25):q:=h hp
theorem g26 {p q:Prop}(hp:p)(h:p→q:=by exact F26):q:=h hp
theorem g27 {p q:Prop}(hp:p)(h:p→q:=by exact F27):q:=h hp
theorem g28 {p q:Prop}(hp:p)(h:p→q:=by exact F28):q:=h hp
theorem g29 {p q:Prop}(hp:p)(h:p→q:=by exact F29):q:=h hp
theorem g30 {p q:Prop}(hp:p)(h:p→q:=by exact F30):q:=h hp
theorem bH.ar {F:Fr}{x0:Operand}{v0:Value}(a:vl F x0=some v0):bH F [x0] [v0]:= .cons (.mk a) .nil
theorem bH.aX {F:Fr}{x0 a:Operand}{v0 v1:Value}(b:vl F x0=some v0)(h1:vl F a=some v1):bH F [x0,a] [v0,v1]:= .cons (.mk b) (.cons (.mk h1) .nil)
theorem bH.ek {F:Fr}{x0 a b:Operand}{v0 v1 v2:Value}(c:vl F x0=some v0)(h1:vl F a=some v1)(d:vl F b=some v2):bH F [x0,a,b] [v0,v1,v2]:= .cons (.mk c) (.cons (.mk h1) (.cons (.mk d) .nil))
theorem bH.gY {F:Fr}{x0 a b x3:Operand}{v0 v1 v2 v3:Value}(c:vl F x0=some v0)(h1:vl F a=some v1)(d:vl F b=some v2)(e:vl F x3=some v3):bH F [x0,a,b,x3] [v0,v1,v2,v3]:= .cons (.mk c) (.cons (.mk h1) (.cons (.mk d) (.cons (.mk e) .nil)))
theorem bH.Al {F:Fr}{x0 a b x3 c:Operand}{v0 v1 v2 v3 v4:Value}(d:vl F x0=some v0)(h1:vl F a=some v1)(e:vl F b=some v2)(f:vl F x3=some v3)(g:vl F c=some v4):bH F [x0,a,b,x3,c] [v0,v1,v2,v3,v4]:= .cons (.mk d) (.cons (.mk h1) (.cons (.mk e) (.cons (.mk f) (.cons (.mk g) .nil))))
theorem bH.XN {F:Fr}{x0 a b x3 c d:Operand}{v0 v1 v2 v3 v4 v5:Value}(e:vl F x0=some v0)(h1:vl F a=some v1)(f:vl F b=some v2)(g:vl F x3=some v3)(h:vl F c=some v4)(i:vl F d=some v5):bH F [x0,a,b,x3,c,d] [v0,v1,v2,v3,v4,v5]:= .cons (.mk e) (.cons (.mk h1) (.cons (.mk f) (.cons (.mk g) (.cons (.mk h) (.cons (.mk i) .nil)))))
theorem bH.aeF {F:Fr}{x0 a b x3 c d e:Operand}{v0 v1 v2 v3 v4 v5 v6:Value}(f:vl F x0=some v0)(h1:vl F a=some v1)(g:vl F b=some v2)(h:vl F x3=some v3)(i:vl F c=some v4)(j:vl F d=some v5)(k:vl F e=some v6):bH F [x0,a,b,x3,c,d,e] [v0,v1,v2,v3,v4,v5,v6]:= .cons (.mk f) (.cons (.mk h1) (.cons (.mk g) (.cons (.mk h) (.cons (.mk i) (.cons (.mk j) (.cons (.mk k) .nil))))))
theorem bH.alI {F:Fr}{x0 a b x3 c d e f:Operand}{v0 v1 v2 v3 v4 v5 v6 g:Value}(h:vl F x0=some v0)(h1:vl F a=some v1)(i:vl F b=some v2)(j:vl F x3=some v3)(k:vl F c=some v4)(l:vl F d=some v5)(m:vl F e=some v6)(n:vl F f=some g):bH F [x0,a,b,x3,c,d,e,f] [v0,v1,v2,v3,v4,v5,v6,g]:= .cons (.mk h) (.cons (.mk h1) (.cons (.mk i) (.cons (.mk j) (.cons (.mk k) (.cons (.mk l) (.cons (.mk m) (.cons (.mk n) .nil)))))))
theorem St.bg {d:du}{slot:Nat}{K:Value→du}{H2:List ak}(u:Value)(a:look F slot=some u:=by rfl)(hd:K u=d:=by rfl)[b:lT d H][tl:GS H2 H]:St n F (Mm c H) (wpList P ops (Exit.then (qk c H2 slot K) Q) []):=St.Ve u a d hd
theorem St.rV {fn:Func}{post:Value→List ak→Prop}{a:List ResultVar}(vs:List Value)(H':List ak)(hp:post (Hi vs) H')(b:fn.results=a.toArray:=by rfl)(d:Qk P F H a vs:=by
 repeat(first
 |exact trivial
 |refine⟨rfl,?_⟩
 |refine⟨⟨_,_,_,_,rfl,Ay.mem,.inl ⟨⟨_,UT.h⟩,pc.h,rfl⟩⟩,?_⟩
 |refine⟨⟨_,_,_,_,rfl,Ay.mem,.inr ⟨by rw[UT.h];trivial,rfl⟩⟩,?_⟩)) (hH:∀w,Mm c H w→Mm c H' w:=by exact λ_ hw=>hw.sub):
 St n F (Mm c H) (bodyPost P fn (λe w'=>∃v H',e= .returned v∧post v H'∧Mm c H' w') .ret):=St.DH vs H' b d hp hH
end
section
variable {P:Program}{ops:Array Oper}{Q:Exit→Act→World→Prop}{n:Nat}{F:Fr}{c:Ctx}{H Fp r r' C':List ak}{f:Nat}{listed:Array Bool}{d:Nat}{op:Op}{ty:TypeId}{pos:String}{after:Array Edge}{v:Value}
theorem SW.gd (i:Nat)(h:SW P ops Q n ((d,v)::F) c Fp r f (listed.setIfInBounds i true))(a:((Region.ready .any ops listed).contains i&&Region.free .any ops listed i)=true:=by decide+kernel)(b:ops[i]?=some {dst:=some d,op:=op,type:=ty,pos:=pos,after:=after,guard:=none}:=by rfl)(e:∀R,Ev P n F (Mm c (Fp++R)) op ty v:=by exact λ_=>Ev.go)
 (g:NP Q:=by assumption) (j:Region.noSelect ops=true:=by assumption) (hd:Nat.ble (d+1) n=true:=by rfl):SW P ops Q n F c Fp r (f+1) listed:=SW.defer i g j b e a hd h
theorem SW.me (h:SW P ops Q n F c Fp r f listed):SW P ops Q n F c Fp r f listed:=h
theorem SW.ck (i:Nat)(h:SW P ops Q n F c Fp r f listed)(a:((Region.ready .any ops listed).contains i&&Region.free .any ops listed i)=true:=by decide+kernel):SW P ops Q n F c Fp r f listed:=h
theorem SW.dn [ap:App Fp r C'](h:St n F (Mm c C') (Q .normal))(a:Region.ready .any ops listed=[]:=by decide+kernel):SW P ops Q n F c Fp r f listed:=SW.done a h
theorem SW.t1 (i:Nat){o:Oper}[ap:App Fp r C'](h:St n F (Mm c C') (wpList P ops (Exit.then (KW P ops Q n c Fp f (listed.setIfInBounds i true)) Q) [o]))(a:Region.ready .any ops listed=[i]:=by decide+kernel)(b:ops[i]?=some o:=by rfl):SW P ops Q n F c Fp r (f+1) listed:=SW.afA a b h
theorem SW.t2 (i j:Nat){o o':Oper}[ap:App Fp r C'](h:St n F (Mm c C') (wpList P ops (Exit.then (KW P ops Q n c Fp f (listed.setIfInBounds i true)) Q) [o]))(b:St n F (Mm c C') (wpList P ops (Exit.then (KW P ops Q n c Fp f (listed.setIfInBounds j true)) Q) [o']))
 (d:Region.ready .any ops listed=[i,j]:=by decide+kernel) (e:ops[i]?=some o:=by rfl) (a:ops[j]?=some o':=by rfl):SW P ops Q n F c Fp r (f+1) listed:=SW.afB d e a h b
end
end Go.J
namespace Go.Proofs
open J Tryz
instance:type_of%(UT.mk wX):=⟨wX⟩
instance:type_of%(UT.mk pX):=⟨pX⟩
instance:type_of%(UT.mk j4):=⟨j4⟩
instance:type_of%(UT.mk lY):=⟨lY⟩
instance:type_of%(UT.mk iE):=⟨iE⟩
instance:type_of%(UT.mk lZ):=⟨lZ⟩
instance:type_of%(UT.mk uR):=⟨uR⟩
instance:type_of%(UT.mk zw):=⟨zw⟩
instance:type_of%(UT.mk nV):=⟨nV⟩
instance:type_of%(UT.mk underlying120):=⟨underlying120⟩
instance:type_of%(UT.mk underlying125):=⟨underlying125⟩
instance:type_of%(UT.mk fH):=⟨fH⟩
instance:type_of%(UT.mk underlying148):=⟨underlying148⟩
instance:type_of%(UT.mk Jo):=⟨Jo⟩
instance:type_of%(UT.mk eX):=⟨eX⟩
instance:type_of%(UT.mk wY):=⟨wY⟩
instance:type_of%(UT.mk lD):=⟨lD⟩
instance:type_of%(UT.mk underlying169):=⟨underlying169⟩
instance:type_of%(UT.mk underlying170):=⟨underlying170⟩
instance:type_of%(UT.mk jl):=⟨jl⟩
instance:type_of%(UT.mk underlying172):=⟨underlying172⟩
instance:type_of%(UT.mk underlying174):=⟨underlying174⟩
instance:type_of%(UT.mk Bn):=⟨Bn⟩
instance:type_of%(UT.mk Fx):=⟨Fx⟩
instance:type_of%(UT.mk uS):=⟨uS⟩
instance:type_of%(UT.mk oX):=⟨oX⟩
instance:type_of%(UT.mk ic):=⟨ic⟩
instance:type_of%(UT.mk uT):=⟨uT⟩
instance:type_of%(UT.mk underlying200):=⟨underlying200⟩
instance:type_of%(UT.mk vr):=⟨vr⟩
instance:type_of%(UT.mk underlying225):=⟨underlying225⟩
instance:type_of%(UT.mk Fy):=⟨Fy⟩
instance:type_of%(UT.mk Bp):=⟨Bp⟩
instance:type_of%(UT.mk zx):=⟨zx⟩
instance:type_of%(UT.mk underlying239):=⟨underlying239⟩
instance:type_of%(UT.mk Bq):=⟨Bq⟩
instance:type_of%(UT.mk underlying25):=⟨underlying25⟩
instance:type_of%(UT.mk Pk):=⟨Pk⟩
instance:type_of%(UT.mk underlying260):=⟨underlying260⟩
instance:type_of%(UT.mk IC):=⟨IC⟩
instance:type_of%(UT.mk wZ):=⟨wZ⟩
instance:type_of%(UT.mk oY):=⟨oY⟩
instance:type_of%(UT.mk gD):=⟨gD⟩
instance:type_of%(UT.mk mm):=⟨mm⟩
instance:type_of%(UT.mk Xt):=⟨Xt⟩
instance:type_of%(UT.mk lE):=⟨lE⟩
instance:type_of%(UT.mk Fz):=⟨Fz⟩
instance:type_of%(UT.mk ID):=⟨ID⟩
instance:type_of%(UT.mk zy):=⟨zy⟩
instance:type_of%(UT.mk px):=⟨px⟩
instance:type_of%(UT.mk bJ):=⟨bJ⟩
instance:type_of%(UT.mk IE):=⟨IE⟩
instance:type_of%(UT.mk IG):=⟨IG⟩
instance:type_of%(UT.mk underlying77):=⟨underlying77⟩
instance:type_of%(UT.mk underlying87):=⟨underlying87⟩
instance:type_of%(UT.mk vt):=⟨vt⟩
instance:type_of%(UT.mk vu):=⟨vu⟩
end Go.Proofs
namespace Go.J
open Go
theorem wfi {l:List Int}(h:l.all (λx=>decide (-9223372036854775808≤x)&&decide (x≤9223372036854775807))=true):∀x∈l,aJ.wf x:=λx hx=>by
 have:=eY.1 h x hx
 simp only[Bool.and_eq_true,decide_eq_true_eq]at this
 exact this
class KB (vs:List Value)(gb:List (List Int))(H:List ak):Prop where mem:∀p∈vs.zip gb,aB (sl aJ p.1 p.2)∈H
instance KB.nil (H:List ak):KB [] [] H:=⟨λ_ h=>by simp at h⟩
instance KB.cons (v:Value)(xs:List Int)(vs:List Value)(gb:List (List Int))(H:List ak)[h:lT (sl aJ v xs) H][k:KB vs gb H]:KB (v::vs) (xs::gb) H:=
 ⟨λp hp=>by rw[List.zip_cons_cons]at hp;rcases cK.1 hp with rfl|hp;exact h.mem;exact k.mem p hp⟩
section
variable {P:Program}{n:Nat}{F:Fr}{c:Ctx}{H:List ak}{Q:Exit→Act→World→Prop}{ops:Array Oper}{rest:List Oper}{d:Nat}{ty t e:TypeId}{pos:String}{after:Array Edge}{m:Nat}{ps:List (Nat×Operand)}{zv:Value}
theorem Ut (F:Fr):∀xs:List Int,bH F (xs.map λx=>Operand.const (.int .i64 x)) (xs.map λx=>Value.int .i64 x)
 | []=>bH.nil
 |_::xs=>bH.cons (.mk rfl) (Ut F xs)
theorem V1:∀xs:List Int,((xs.map λx=>Value.int .i64 x).flatMap λu=>u.cells.toList)=rows aJ xs
 | []=>rfl
 |x::xs=>by
  have:=V1 xs
  simp only[rows]at this⊢
  rw[fK,kF,kF,this];rfl
theorem St.bi (xs:List Int)(h:∀b,St n ((d,.slice (some ⟨b,0,none⟩) m m)::F) (Mm c (aB (sl aJ (.slice (some ⟨b,0,none⟩) m m) xs)::H)) (wpList P ops Q rest))
 (ht:P.underlying t=some (.slice e)) (a:(P.info? e).map (·.size)=some 1) (hz:(P.info? e).bind (·.zero)=some zv)
 (hp:ps=(xs.map λx=>Operand.const (.int .i64 x)).zipIdx.map λp=>(p.2,p.1):=by exact rfl) (hm:m=xs.length:=by exact rfl) (f:Nat.ble xs.length 16777216=true:=by exact rfl) (hw:∀x∈xs,aJ.wf x:=by exact wfi (by decide)) (hd:Nat.ble (d+1) n=true:=by exact rfl):
 St n F (Mm c H) (wpList P ops Q ({dst:=some d,op:= .buildSlice t m ps.toArray,type:=ty,pos:=pos,after:=after,guard:=none}::rest)):=
 St.Cc (size:=1) hp (Ut F xs) ht a hz rfl (by rw[aO,gZ];exact f) (by
  intro u hu;obtain⟨x,_,rfl⟩:=dC.1 hu;rfl) hd (by rw[aO];exact hm)
  (λb=>St.bS _ aJ xs (V1 xs) hm hw (h b))
theorem ab.bi {dr:Prop}{bs l:List ub}{slot:Nat}{xs:List Int}{q:List Oper}(k:ab P ops Q n F dr H bs l q)
 (ht:P.underlying t=some (.slice e)) (a:(P.info? e).map (·.size)=some 1) (hz:(P.info? e).bind (·.zero)=some zv)
 (hp:ps=(xs.map λx=>Operand.const (.int .i64 x)).zipIdx.map λp=>(p.2,p.1):=by exact rfl) (hm:m=xs.length:=by exact rfl) (d:Nat.ble xs.length 16777216=true:=by exact rfl) (hw:∀x∈xs,aJ.wf x:=by exact wfi (by decide)) (hd:Nat.ble (slot+1) n=true:=by exact rfl):
 ab P ops Q n F dr H bs (⟨slot,[],λu=>fW aJ xs u⟩::l) ({dst:=some slot,op:= .buildSlice t m ps.toArray,type:=ty,pos:=pos,after:=after,guard:=none}::q):=
 ab.c0 (λc e _=>by
  show St n F (Mm c H) _
  refine St.bi xs (λb=> ?_) ht a hz hp hm d hw hd;refine St.Xq (Rr:=aJ) (xs:=xs) (.slice (some ⟨b,0,none⟩) m m) rfl ?_
  exact St.bg (.slice (some ⟨b,0,none⟩) m m) (by simp[look]) rfl) k
theorem Us:∀L:List (Value×List Int),(∀p∈L,p.1.oneCell'=true)→∃vs:List aV,vs.map (·.1)=L.map (·.1)
 | [],_=>⟨[],rfl⟩
 |p::L,h=>let⟨vs,e⟩:=Us L λq a=>h q (cO _ a);⟨⟨p.1,h p (aQ ..)⟩::vs,by rw[fK,fK,e]⟩
theorem V2:∀vs:List aV,((vs.map (·.1)).flatMap λu=>u.cells.toList)=rows bN vs
 | []=>rfl
 |v::vs=>by
  have:=V2 vs
  simp only[rows]at this⊢
  rw[fK,kF,kF,this,J.cells_one v.2];rfl
theorem St.bwc (L:List (Value×List Int))(o:∀p∈L,p.1.oneCell'=true)(q:∀ρ w,ez c H ρ w→∀p∈L,(sl aJ p.1 p.2).f ρ)
 (h:∀b,St n ((d,.slice (some ⟨b,0,none⟩) m m)::F) (Mm c (aB (J.fQ aJ (L.map (·.2)) (.slice (some ⟨b,0,none⟩) m m))::H)) (wpList P ops Q rest))
 (ht:P.underlying t=some (.slice e)) (r:(P.info? e).map (·.size)=some 1) (hz:(P.info? e).bind (·.zero)=some zv)
 {xs:List Operand} (hp:ps=xs.zipIdx.map λp=>(p.2,p.1)) (hx:bH F xs (L.map (·.1))) (hm:m=L.length) (s:Nat.ble L.length 16777216=true) (hd:Nat.ble (d+1) n=true):
 St n F (Mm c H) (wpList P ops Q ({dst:=some d,op:= .buildSlice t m ps.toArray,type:=ty,pos:=pos,after:=after,guard:=none}::rest)):=by
 obtain⟨vs,a⟩:=Us L o
 have v:vs.length=L.length:=by have:=congrArg List.length a;simpa using this
 refine St.Cc (size:=1) hp hx ht r hz rfl (by rw[aO,gZ];exact s) (λu hu=> ?_) hd (by rw[aO];exact hm) (λb=> ?_)
 ·rw[←a]at hu
  obtain⟨x,_,rfl⟩:=dC.1 hu
  have:=congrArg Array.size (J.cells_one x.2)
  simpa using this
 ·refine St.bS (.slice (some ⟨b,0,none⟩) m m) bN vs (by rw[←a];exact V2 vs) (by omega) (λ_ _=>trivial) ?_
  refine St.fact (J.fQ aJ (L.map (·.2)) (.slice (some ⟨b,0,none⟩) m m)) (λρ w j=>⟨rfl,vs,by rw[v,aO],dA.1 (j.dM _ (aQ ..)),λi u x hu g=> ?_⟩) ?_
  ·have h1:(L.map (·.1))[i]?=some u.1:=by rw[←a,bQ,hu];rfl
   rw[bQ]at h1 g;obtain⟨p,l,y⟩:=dp.1 h1;rw[l]at g
   have z:p.2=x:=by simpa using g
   have:=q ρ w j.drop p (aZ l)
   rw[y,z]at this;exact this
  ·exact(h b).o6 λw hw=>let⟨_,k⟩:=hw.out;Mm.mk (k.perm (List.Perm.swap ..)).drop
theorem St.bw (vs:List Value)(gb:List (List Int))[a:KB vs gb H](h:∀b,St n ((d,.slice (some ⟨b,0,none⟩) m m)::F) (Mm c (aB (J.fQ aJ gb (.slice (some ⟨b,0,none⟩) m m))::H)) (wpList P ops Q rest))
 (ht:P.underlying t=some (.slice e)) (f:(P.info? e).map (·.size)=some 1) (hz:(P.info? e).bind (·.zero)=some zv) (hx:bH F (ps.map (·.2)) vs)
 (hp:ps=(ps.map (·.2)).zipIdx.map λp=>(p.2,p.1):=by exact rfl) (g:vs.all (λp=>p.oneCell')=true:=by exact rfl) (h1:(vs.zip gb).map (·.1)=vs:=by exact rfl) (i:(vs.zip gb).map (·.2)=gb:=by exact rfl) (hm:m=(vs.zip gb).length:=by exact rfl) (j:Nat.ble (vs.zip gb).length 16777216=true:=by exact rfl) (hd:Nat.ble (d+1) n=true:=by exact rfl):
 St n F (Mm c H) (wpList P ops Q ({dst:=some d,op:= .buildSlice t m ps.toArray,type:=ty,pos:=pos,after:=after,guard:=none}::rest)):=
 St.bwc (vs.zip gb) (λp hp=>eY.1 g _ (by rw[←h1];exact dC.2 ⟨p,hp,rfl⟩)) (λρ w k p hp=>dA.1 (k.dM _ (a.mem p hp))) (by rw[i];exact h) ht f hz hp (by rw[h1];exact hx) hm j hd
theorem ab.bw {dr:Prop}{bs l:List ub}{slot:Nat}{gg:List Nat}{gb:List (List Int)}{q:List Oper}(k:ab P ops Q n F dr H bs l q)
 (ht:P.underlying t=some (.slice e)) (o:(P.info? e).map (·.size)=some 1) (hz:(P.info? e).bind (·.zero)=some zv)
 (hx:∀e:Nat→Value,bH (um bs e gg++F) (ps.map (·.2)) ((gg.zip gb).map λp=>e p.1))
 (r:∀e:Nat→Value,pd bs e gg=(gg.zip gb).map (λp=>aB (J.fW aJ p.2 (e p.1))):=by exact λ_=>rfl) (g:(gg.zip gb).map (·.2)=gb:=by exact rfl)
 (hp:ps=(ps.map (·.2)).zipIdx.map λp=>(p.2,p.1):=by exact rfl) (hm:m=(gg.zip gb).length:=by exact rfl) (s:Nat.ble (gg.zip gb).length 16777216=true:=by exact rfl) (hd:Nat.ble (slot+1) n=true:=by exact rfl):
 ab P ops Q n F dr H bs (⟨slot,gg,λu=>J.fQ aJ gb u⟩::l) ({dst:=some slot,op:= .buildSlice t m ps.toArray,type:=ty,pos:=pos,after:=after,guard:=none}::q):=by
 refine⟨λc e _=> ?_,k⟩
 show St n (um bs e gg++F) (Mm c (pd bs e gg++H)) _
 have j:∀ρ w,ez c (pd bs e gg++H) ρ w→∀p∈gg.zip gb,(J.fW aJ p.2 (e p.1)).f ρ:=λρ w h p d=>
  dA.1 (h.dM _ (kW _ (by rw[r e];exact dC.2 ⟨p,d,rfl⟩)))
 intro a w v hw
 have x:∀p∈gg.zip gb,(e p.1).oneCell'=true:=by obtain⟨ρ,h1⟩:=hw.out;exact λp d=>(j ρ w h1 p d).1
 refine St.bwc (L:=(gg.zip gb).map λp=>(e p.1,p.2)) ?_ ?_ (λb=> ?_) ht o hz hp ?_ ?_ ?_ hd a w v hw
 ·intro p d;obtain⟨z,i,rfl⟩:=dC.1 d;exact x z i
 ·intro ρ w h p d;obtain⟨z,i,rfl⟩:=dC.1 d;exact(j ρ w h z i).2
 ·have y:((gg.zip gb).map λp=>(e p.1,p.2)).map (·.2)=gb:=by rw[kH];exact g
  rw[y];refine St.o6 (A':=Mm c (aB (J.fQ aJ gb (.slice (some ⟨b,0,none⟩) m m))::H)) (λw hw=> ?_) (St.bg (.slice (some ⟨b,0,none⟩) m m) (by simp[look]) rfl);obtain⟨ρ,h1⟩:=hw.out;exact Mm.mk (ez.tail (L:=pd bs e gg) (h1.perm qi.symm))
 ·rw[kH];exact hx e
 ·rw[aO];exact hm
 ·rw[aO];exact s
end
end Go.J
