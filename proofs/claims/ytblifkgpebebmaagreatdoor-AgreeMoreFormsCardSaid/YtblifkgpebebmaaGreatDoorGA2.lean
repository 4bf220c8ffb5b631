/-
  Laws of walks through programs, and facts on grammars, trees and queries.
  Conditions: none.
-/
import Derived.Test.YtblifkgpebebmaaGreatDoorGA1
import Derived.Lib.Mul64
import Derived.Shelf.Spec.BitsCarry
import Derived.Laws.IdiomStrings
import Derived.Stop.IfaceNil
import Derived.Below
import Derived.Lib.ValidU
import Derived.Lib.RuneCount
import Derived.Lib.IndexAny
import Derived.Lib.TrimUEq
import Derived.Test.YtblifkgpebebmaaGreatDoorChecked
import Derived.Lib.SliceRun
set_option maxRecDepth 20000
set_option linter.unusedVariables false
set_option linter.unusedSimpArgs false
namespace Go.J
open Go
section
variable {P:Program}{n:Nat}{F:Fr}{A:World→Prop}{ty:TypeId}{x y:Operand}{t u:TypeId}{a b:Nat}
theorem afG {i:Int}:IntKind.u64.wrap i=i%18446744073709551616:=by
 simp only[IntKind.wrap,IntKind.bits,IntKind.signed];simp
theorem oa (m:Nat):IntKind.u64.wrap (m:Int)=((m%18446744073709551616:Nat):Int):=by rw[afG];omega
theorem Ev.XX {k:IntKind}{j:Int}(c m:Nat)(hm:2^c=m)(hx:ai F x (uv a))(hy:ai F y (.int k j))(h:j=c∧c≤64):Ev P n F A (.binOp .shr t x y u) ty (uv (a/m)):=by
 subst hm;obtain⟨rfl,d⟩:=h
 have:=Ev.shr (P:=P) (n:=n) (A:=A) (ty:=ty) (t:=t) (u:=u) hx hy (by omega)
 have e:(a:Int).fdiv (2^(min (c:Int).toNat IntKind.u64.bits))=((a/2^c:Nat):Int):=by
  have b:min (c:Int).toNat IntKind.u64.bits=c:=by
   have:IntKind.u64.bits=64:=rfl
   rw[this,Int.toNat_natCast];omega
  rw[b,Int.fdiv_eq_ediv_of_nonneg _ (Int.le_of_lt (Int.pow_pos (by omega)))]
  simp
 rw[e]at this;exact this
theorem Ev.alL {k:IntKind}{j:Int}(c m:Nat)(hm:2^c=m)(hx:ai F x (uv a))(hy:ai F y (.int k j))(h:j=c∧c≤64):Ev P n F A (.binOp .shl t x y u) ty (uv (a*m%18446744073709551616)):=by
 subst hm;obtain⟨rfl,d⟩:=h
 have:=Ev.alM (P:=P) (n:=n) (A:=A) (ty:=ty) (t:=t) (u:=u) hx hy (by omega)
 have e:(a:Int)*2^(min (c:Int).toNat IntKind.u64.bits)=((a*2^c:Nat):Int):=by
  have b:min (c:Int).toNat IntKind.u64.bits=c:=by
   have:IntKind.u64.bits=64:=rfl
   rw[this,Int.toNat_natCast];omega
  rw[b];simp
 rw[e,oa]at this;exact this
theorem MS (c:Nat)(h:a<18446744073709551616)(b:c≤64):bits .and .u64 (a:Int) ((2^c-1:Nat):Int)=((a%2^c:Nat):Int):=by
 have d:2^c-1<2^64:=by have:=sc (n:=2) (by omega) b;have:=Nat.pow_pos (n:=c) (a:=2) (by omega);omega
 have e:(BitVec.ofInt IntKind.u64.bits (a:Int)&&&BitVec.ofInt IntKind.u64.bits ((2^c-1:Nat):Int)).toNat=a%2^c:=by
  show(BitVec.ofInt 64 (a:Int)&&&BitVec.ofInt 64 ((2^c-1:Nat):Int)).toNat=_
  rw[BitVec.toNat_and,Lq,Lq,Lr,Lr,mi h,mi d,Nat.and_two_pow_sub_one_eq_mod]
 simp only[bits,e]
 rw[oa,mi (vy (Nat.mod_le a _) h)]
theorem Ev.Ym (c m:Nat)(hm:2^c=m)(hx:ai F x (uv a))(hy:ai F y (uv b))(h:a<18446744073709551616∧b=2^c-1∧c≤64):Ev P n F A (.binOp .and t x y u) ty (uv (a%m)):= .of_run λa' w ha _=>by
 subst hm;obtain⟨h1,rfl,h3⟩:=h
 simp only[execOp,hx.eval ha,hy.eval ha];simp only[go_sem,MS c h1 h3];simp
theorem Ev.Vz (m:Nat){i:Int}{s d:TypeId}(hx:ai F x (iv i))(a:(P.underlying s).isSome=true)(hd:P.underlying d=some (.int .u64))(h:i=m∧m<18446744073709551616):Ev P n F A (.convert s d x) ty (uv m):=by
 obtain⟨rfl,h⟩:=h
 have:=Ev.tH (P:=P) (n:=n) (A:=A) (ty:=ty) hx a hd
 rwa[oa,mi h]at this
theorem Ev.W1 {k:IntKind}{s d:TypeId}(hx:ai F x (.int k (a:Int)))(b:(P.underlying s).isSome=true)(hd:P.underlying d=some (.int .i64))(h:a<9223372036854775808):Ev P n F A (.convert s d x) ty (iv a):=by
 have:=Ev.tH (P:=P) (n:=n) (A:=A) (ty:=ty) hx b hd
 rwa[uT (by omega)]at this
end
section
variable {P:Program}{n:Nat}{F:Fr}{A:World→Prop}{ty:TypeId}{x y:Operand}{t:TypeId}
end
section
variable {P:Program}{n:Nat}{F:Fr}{A:World→Prop}{c:Ctx}{H R:List ak}{T:Act→World→Prop}{v v':Value}
theorem St.mK (b:Nat){e:TypeId}{L:List Value}(L':List Value)[tk:ku b H (.cells L.toArray e (0,0)) R](h:L=L')(a:St n F (Mm c (aW b (.cells L'.toArray e (0,0))::R)) T):St n F (Mm c H) T:=by
 subst h
 refine a.o6 λw hw=> ?_
 obtain⟨ρ,hm⟩:=hw.out;exact Mm.mk (hm.perm tk.perm)
end
end Go.J
namespace Go.J
open Go Go.RowKit
section
variable {P:Program}{n:Nat}{F:Fr}{A:World→Prop}{c:Ctx}{H R:List ak}{ty t e:TypeId}{x y:Operand}{Q:Exit→Act→World→Prop}{ops:Array Oper}{rest:List Oper}{pos:String}{after:Array Edge}
theorem Ev.H9 {b k N:Nat}{i:Int}{kd:IntKind}(hx:ai F x (.pointer (some ⟨b,0,none⟩)))(hy:ai F y (.int kd i))(ht:P.underlying t=some (.array N e))(d:(P.info? e).map (·.size)=some 1)
 (f:i=k) (hk:k<N):Ev P n F A (.indexAddr t x y) ty (.pointer (some ⟨b,k,none⟩)):= .of_run λa w c hw=>by
 obtain⟨inf,g,h⟩:=di.1 d;subst f
 simp[execOp,hx.eval c,hy.eval c,Instr.indexAt,Instr.sureAddr,asIntOf,run_underlying ht,sizeOf,typeInfo,g,h,hk,Addr.add_lit]
theorem St.Jd {b off:Nat}{L:List Value}{v:Value}(L':List Value)[tk:ku b H (.cells L.toArray e (0,0)) R](hx:ai F x (.pointer (some ⟨b,off,none⟩)))(hy:ai F y v)(a:L.set off v=L')(d:(P.info? t).map (·.size)=some 1)(h1:v.oneCell'=true)
 (f:off<L.length) (h:St n F (Mm c (aW b (.cells L'.toArray e (0,0))::R)) (wpList P ops Q rest)):
 St n F (Mm c H) (wpList P ops Q ({dst:=none,op:= .store t x y,type:=ty,pos:=pos,after:=after,guard:=none}::rest)):=by
 haveI:Ds L off v L':=⟨a⟩
 exact St.cJ hx hy d h1 (Nat.ble_eq_true_of_le f) h
end
theorem Hl {P:Program}{t e:TypeId}{N size:Nat}{Z cs:Array Value}{parts:Array (Nat×Value)}{w:World}(ht:P.underlying t=some (.array N e))(hz:(P.info? t).bind (λi=>i.zero.map Value.cells)=some Z)(c:(P.info? e).map (·.size)=some size)
 (d:Instr.fill (λi=>some (i*size,size)) Z parts.toList=some cs):(Instr.build t parts).run P w= .ok (.agg cs) w:=by
 obtain⟨i,f,g⟩:=pO.1 hz;obtain⟨zv,a,rfl⟩:=di.1 g;obtain⟨j,h,b⟩:=di.1 c;subst b
 simp[Instr.build,zeroValue,typeInfo,f,a,run_underlying ht,sizeOf,h,d]
def du.of (X:World→Prop):du:=⟨λρ=>∀w,(∀k o,ρ k=some o→w.heap[k]?=some o)→X w,λ_ _ h k w hw=>k w λb o a=>hw b o (h b o a)⟩
theorem uY.qQ {P:Program}{f:FuncId}{args:Array Value}{X:World→Prop}{post:Value→List ak→Prop}(h:∀w,X w→Calls P f args w λe w'=>∃v,e= .returned v∧post v []∧Below w.heap.size w w'):
 uY P f args ([du.of X].map aB) post:=by
 intro w ρ b
 have hx:X w:=dB.1 (b.dM (aB (du.of X)) (aP ..)) w b.fits
 refine(h w hx).mono ?_;rintro e w' ⟨v,rfl,hp,a⟩;refine⟨v,[],rfl,hp,Mm.mk (ρ:=ρ) ⟨a.os,⟨a.tape,λh=>h.elim⟩,a.output,a.size,λk hk _=>a.block k hk,λk o hk=> ?_,Ro.le_refl _,λ_ _ _=>rfl,λ_ h=>by simp at h,λ_ h=>by simp at h,.nil⟩⟩;rw[a.block k (b.AB hk)];exact b.fits k o hk
theorem kX.qQ {P:Program}{f:FuncId}{args:Array Value}{X:World→Prop}{v:Value}(h:∀w,X w→Calls P f args w λe w'=>e= .returned v∧Below w.heap.size w w'):kX P f args [du.of X] v:=
 uY.qQ λw hw=>(h w hw).mono λ_ _ ⟨h1,a⟩=>⟨v,h1,rfl,a⟩
end Go.J
namespace Go.J
open Go Go.ChangeShapes Go.WideShapes Go.ChangeAt Go.RowKit Go.Deep
section
variable {H:Type}{enc:TypeId×Value→H}{P:Program}{W:World}
theorem Mg {nm:String}{g T e n:Nat}{L:List Nat}(d:P.globalNamed nm=some g)(hy:(P.globals[g]?).map (·.type)=some T)(ht:P.underlying T=some (.array n e))(he:P.underlying e=some (.int .u8))(i:P.cellsOf e=1)(b:P.cellsOf T=n)
 (h:Lib.VarReads P W nm (Lib.tabData .u8 (L.map λx:Nat=>(x:Int)))):∀w:World,(∀k o,J.all W k=some o→w.heap[k]?=some o)→∀j,j<L.length→w.cell? ⟨g,j,none⟩=some (.int .u8 (L.getD j 0)):=by
 obtain⟨u,t,cs,fuel,p,c,l,m,hd⟩:=h;obtain rfl:=Option.some.inj (d.symm.trans c);obtain rfl:=Option.some.inj (hy.symm.trans l)
 have q:=Lib.cells_of_tab ht he i b hd
 intro w hw j f
 have a:=World.var?_cell d m j
 rw[←QV,q]at a
 have a:W.cell? ⟨g,j,none⟩=some (.int .u8 (L.getD j 0)):=by
  rw[a,bQ,bQ,bU f,aw,bU f];rfl
 obtain⟨_,C,v,fr,r,s⟩:=je a
 rw[cU (hw _ _ r)];exact s
end
end Go.J
namespace Go.J
open Go Go.Lib
def xG:bB:=[32,9,10,40,41,91,93,44,59]
def iy (b:UInt8):Bool:=xG.contains b
theorem Kx {b:UInt8}:iy b=true↔b.toNat=32∨b.toNat=9∨b.toNat=10∨b.toNat=40∨b.toNat=41∨b.toNat=91∨b.toNat=93∨b.toNat=44∨b.toNat=59:=by
 unfold iy xG
 simp only[List.contains_cons,List.contains_nil,Bool.or_false,Bool.or_eq_true,beq_iff_eq,←UInt8.toNat_inj]
 exact Iff.rfl
theorem HD {b:UInt8}(h:128≤b.toNat):iy b=false:=by
 cases a:iy b with
 |false=>rfl
 |true=>have:=Kx.1 a;omega
def more (b:Nat):Nat:=if 194≤b∧b≤223 then 1 else if 224≤b∧b≤239 then 2 else if 240≤b∧b≤244 then 3 else 0
def YP (b:Nat):Nat:=if b=224 then 160 else if b=240 then 144 else 128
def YG (b:Nat):Nat:=if b=237 then 159 else if b=244 then 143 else 191
def bt (s:bB)(i:Nat):Nat:=(s.getD i 0).toNat
def tD (b:Nat):Bool:=decide (128≤b∧more b=0)
def ir (s:bB)(p k:Nat):Bool:=decide (p+1+k<s.length∧(if k=0 then YP (bt s p)else 128)≤bt s (p+1+k)∧bt s (p+1+k)≤(if k=0 then YG (bt s p)else 191))
def Y4 (s:bB)(p:Nat):Option Nat:=
 if iy (s.getD p 0)then none else if tD (bt s p)then none else if(List.range (more (bt s p))).all (ir s p)then some (more (bt s p)+1)else none
theorem pP (s:bB)(i:Nat):bt s i<256:=(s.getD i 0).toNat_lt
theorem uu (s:bB)(p:Nat):decodeL (s.drop p)=decodeN (s.length-p) (bt s p) (bt s (p+1)) (bt s (p+2)) (bt s (p+3)):=by
 rw[decodeL_N,A5,getD_dropU,getD_dropU,getD_dropU,getD_dropU,j4];rfl
def C2 (n a b:Nat):Prop:=194≤a∧a≤223∧1<n∧128≤b∧b≤191
def C3 (n a b c:Nat):Prop:=224≤a∧a≤239∧1<n∧128≤b∧b≤191∧(a=224→160≤b)∧(a=237→b≤159)∧2<n∧128≤c∧c≤191
def C4 (n a b c d:Nat):Prop:=240≤a∧a≤244∧1<n∧128≤b∧b≤191∧(a=240→144≤b)∧(a=244→b≤143)∧2<n∧128≤c∧c≤191∧3<n∧128≤d∧d≤191
theorem ur {n a b c d:Nat}(l:a<256)(h1:b<256)(m:c<256)(o:d<256):
 (a<128∧decodeN n a b c d=(a,1))∨(128≤a∧¬C2 n a b∧¬C3 n a b c∧¬C4 n a b c d∧decodeN n a b c d=(65533,1))∨
 (C2 n a b∧∃r,128≤r∧decodeN n a b c d=(r,2))∨(C3 n a b c∧∃r,128≤r∧decodeN n a b c d=(r,3))∨(C4 n a b c d∧∃r,128≤r∧decodeN n a b c d=(r,4)):=by
 unfold C2 C3 C4 decodeN
 by_cases e:a<128
 ·rw[aC e];exact .inl ⟨e,rfl⟩
 ·rw[aA e]
  right
  by_cases g:a/32=6∧(1<n∧b/64=2)
  ·rw[aC g]
   by_cases f:a%32*64+b%64≥128
   ·rw[aC f];exact .inr (.inl ⟨by omega,_,f,rfl⟩)
   ·rw[aA f];exact .inl ⟨by omega,by omega,by omega,by omega,rfl⟩
  ·rw[aA g]
   by_cases h:a/16=14∧(1<n∧b/64=2)∧(2<n∧c/64=2)
   ·rw[aC h]
    by_cases i:a%16*4096+b%64*64+c%64≥2048∧(a%16*4096+b%64*64+c%64<55296∨(57344≤a%16*4096+b%64*64+c%64∧a%16*4096+b%64*64+c%64≤1114111))
    ·rw[aC i];exact .inr (.inr (.inl ⟨by omega,_,by omega,rfl⟩))
    ·rw[aA i];exact .inl ⟨by omega,by omega,by omega,by omega,rfl⟩
   ·rw[aA h]
    by_cases j:a/8=30∧(1<n∧b/64=2)∧(2<n∧c/64=2)∧(3<n∧d/64=2)
    ·rw[aC j]
     by_cases k:a%8*262144+b%64*4096+c%64*64+d%64≥65536∧(a%8*262144+b%64*4096+c%64*64+d%64<55296∨(57344≤a%8*262144+b%64*4096+c%64*64+d%64∧a%8*262144+b%64*4096+c%64*64+d%64≤1114111))
     ·rw[aC k];exact .inr (.inr (.inr ⟨by omega,_,by omega,rfl⟩))
     ·rw[aA k];exact .inl ⟨by omega,by omega,by omega,by omega,rfl⟩
    ·rw[aA j];exact .inl ⟨by omega,by omega,by omega,by omega,rfl⟩
theorem OE (b:Nat):(b=224∧YP b=160)∨(b=240∧YP b=144)∨(b≠224∧b≠240∧YP b=128):=by
 unfold YP;split
 ·exact .inl ⟨by assumption,rfl⟩
 ·split
  ·exact .inr (.inl ⟨by assumption,rfl⟩)
  ·exact .inr (.inr ⟨by assumption,by assumption,rfl⟩)
theorem NZ (b:Nat):(b=237∧YG b=159)∨(b=244∧YG b=143)∨(b≠237∧b≠244∧YG b=191):=by
 unfold YG;split
 ·exact .inl ⟨by assumption,rfl⟩
 ·split
  ·exact .inr (.inl ⟨by assumption,rfl⟩)
  ·exact .inr (.inr ⟨by assumption,by assumption,rfl⟩)
theorem LB (b:Nat):(more b=1∧194≤b∧b≤223)∨(more b=2∧224≤b∧b≤239)∨(more b=3∧240≤b∧b≤244)∨(more b=0∧(b<194∨244<b)):=by
 unfold more
 split
 ·exact .inl ⟨rfl,by assumption⟩
 ·split
  ·exact .inr (.inl ⟨rfl,by assumption⟩)
  ·split
   ·exact .inr (.inr (.inl ⟨rfl,by assumption⟩))
   ·exact .inr (.inr (.inr ⟨rfl,by omega⟩))
theorem BB {s:bB}{p:Nat}:ir s p 0=true↔p+1<s.length∧YP (bt s p)≤bt s (p+1)∧bt s (p+1)≤YG (bt s p):=by
 unfold ir;rw[aC rfl,aC rfl,fz]
theorem Ii {s:bB}{p:Nat}:ir s p 1=true↔p+2<s.length∧128≤bt s (p+2)∧bt s (p+2)≤191:=by
 unfold ir;rw[aA (by decide),aA (by decide),fz]
theorem UO {s:bB}{p:Nat}:ir s p 2=true↔p+3<s.length∧128≤bt s (p+3)∧bt s (p+3)≤191:=by
 unfold ir;rw[aA (by decide),aA (by decide),fz]
theorem pM {s:bB}{p m:Nat}(a:iy (s.getD p 0)=false)(hm:more (bt s p)=m)(b:¬(128≤bt s p∧m=0)):Y4 s p=if(List.range m).all (ir s p)then some (m+1)else none:=by
 unfold Y4
 have h1:tD (bt s p)=false:=by unfold tD;rw[hm];exact fK b
 rw[a,h1,hm];rfl
theorem Tu {s:bB}{p:Nat}(hp:p<s.length)(a:iy (s.getD p 0)=false):
 Y4 s p=if(decodeL (s.drop p)).1=65533∧(decodeL (s.drop p)).2=1 then none else some (decodeL (s.drop p)).2:=by
 rw[uu]
 have k:=OE (bt s p)
 have i:=NZ (bt s p)
 have c:=LB (bt s p)
 have e:(List.range 1).all (ir s p)=ir s p 0:=by simp[List.range_succ]
 have f:(List.range 2).all (ir s p)=(ir s p 0&&ir s p 1):=by simp[List.range_succ]
 have g:(List.range 3).all (ir s p)=(ir s p 0&&ir s p 1&&ir s p 2):=by simp[List.range_succ,Bool.and_assoc]
 rcases ur (n:=s.length-p) (pP s p) (pP s (p+1)) (pP s (p+2)) (pP s (p+3))with⟨h1,b⟩|⟨h1,j,n3,n4,b⟩|⟨h1,r,h,b⟩|⟨h1,r,h,b⟩|⟨h1,r,h,b⟩<;>rw[b]
 ·rw[aA (by simp only;omega),pM a (m:=0) (by omega) (by omega)];rfl
 ·rw[aC (by simp)]
  unfold C2 at j;unfold C3 at n3;unfold C4 at n4
  rcases c with⟨hm,d⟩|⟨hm,d⟩|⟨hm,d⟩|⟨hm,d⟩
  ·rw[pM a hm (by omega),e,aA (by rw[BB];omega)]
  ·rw[pM a hm (by omega),f,aA (by rw[qj,BB,Ii];omega)]
  ·rw[pM a hm (by omega),g,aA (by rw[qj,qj,BB,Ii,UO];omega)]
  ·unfold Y4
   rw[a,show tD (bt s p)=true by unfold tD;exact dt ⟨h1,hm⟩];rfl
 ·unfold C2 at h1
  rw[aA (by simp),pM a (m:=1) (by omega) (by omega),e,if_pos (by rw[BB];omega)]
 ·unfold C3 at h1
  rw[aA (by simp),pM a (m:=2) (by omega) (by omega),f,if_pos (by rw[Bool.and_eq_true,BB,Ii];omega)]
 ·unfold C4 at h1
  rw[aA (by simp),pM a (m:=3) (by omega) (by omega),g,if_pos (by rw[Bool.and_eq_true,Bool.and_eq_true,BB,Ii,UO];omega)]
theorem qt {s:bB}{p:Nat}(hp:p<s.length):1≤(decodeL (s.drop p)).2∧p+(decodeL (s.drop p)).2≤s.length∧
 ((bt s p<128∧decodeL (s.drop p)=(bt s p,1))∨(128≤(decodeL (s.drop p)).1∧∀j,j<(decodeL (s.drop p)).2→128≤bt s (p+j))):=by
 rw[uu]
 have e0:bt s (p+0)=bt s p:=rfl
 have c:∀w,(w=1∨(w=2∧128≤bt s (p+1))∨(w=3∧128≤bt s (p+1)∧128≤bt s (p+2))∨(w=4∧128≤bt s (p+1)∧128≤bt s (p+2)∧128≤bt s (p+3)))→128≤bt s p→∀j,j<w→128≤bt s (p+j):=by
  intro w h d j e
  have:j=0∨j=1∨j=2∨j=3:=by omega
  rcases this with rfl|rfl|rfl|rfl
  ·exact d
  ·omega
  ·omega
  ·omega
 rcases ur (n:=s.length-p) (pP s p) (pP s (p+1)) (pP s (p+2)) (pP s (p+3))with⟨h1,a⟩|⟨h1,f,n3,n4,a⟩|⟨h1,r,b,a⟩|⟨h1,r,b,a⟩|⟨h1,r,b,a⟩<;>rw[a]
 ·exact⟨aR _,(show p+1≤s.length by omega),.inl ⟨h1,rfl⟩⟩
 ·exact⟨aR _,(show p+1≤s.length by omega),.inr ⟨(show 128≤65533 by decide),c 1 (.inl rfl) h1⟩⟩
 ·unfold C2 at h1
  exact⟨(show 1≤2 by decide),(show p+2≤s.length by omega),.inr ⟨b,c 2 (by omega) (by omega)⟩⟩
 ·unfold C3 at h1
  exact⟨(show 1≤3 by decide),(show p+3≤s.length by omega),.inr ⟨b,c 3 (by omega) (by omega)⟩⟩
 ·unfold C4 at h1
  exact⟨(show 1≤4 by decide),(show p+4≤s.length by omega),.inr ⟨b,c 4 (by omega) (by omega)⟩⟩
theorem Hn {s:bB}{p:Nat}(hp:p<s.length)(c:iy (s.getD p 0)=false):(s.drop p).any iy=(s.drop (p+(decodeL (s.drop p)).2)).any iy:=by
 obtain⟨h1,f,a⟩:=qt hp
 have a:(decodeL (s.drop p)).2=1∨∀j,j<(decodeL (s.drop p)).2→128≤bt s (p+j):=a.imp (λq=>by rw[q.2]) (λq=>q.2)
 generalize (decodeL (s.drop p)).2=w at*
 have e:s.drop p=(s.drop p).take w++s.drop (p+w):=by rw[←List.drop_drop,ql]
 rw[e,List.any_append]
 have:((s.drop p).take w).any iy=false:=by
  rw[List.any_eq_false];intro x hx;obtain⟨j,d,rfl⟩:=G8.1 hx;rw[eR,A5]at d;rw[List.getElem_take,List.getElem_drop]
  have b:s[p+j]'(by omega)=s.getD (p+j) 0:=by rw[aw,bU (by omega)];rfl
  rw[b]
  rcases a with q|q
  ·obtain rfl:j=0:=by omega
   rw[j4,c];decide
  ·rw[HD (q j (by omega))];decide
 rw[this,Bool.false_or]
def Lm (s:bB):Nat→Nat→Option Nat
 |0,_=>some 0
 |f+1,p=>if p<s.length then match Y4 s p with
  |none=>none
  |some w=>(Lm s f (p+w)).map (· +1)
  else some 0
theorem Jy (s:bB):∀(f p:Nat),s.length-p≤f→Lm s f p=if validGoD f (s.drop p)&& !(s.drop p).any iy then some (runeCountFrom ⟨s.toArray⟩ f p)else none
 |0,p,h=>by
  rw[j6 (by omega)]
  simp[Lm,validGoD,runeCountFrom]
 |f+1,p,h=>by
  by_cases hp:p<s.length
  ·have hd:s.drop p≠ []:=by intro e;have:=congrArg List.length e;rw[A5,List.length_nil]at this;omega
   have hx:s[p]?=some (s.getD p 0):=La 0 hp
   rw[Lm,aC hp]
   cases a:iy (s.getD p 0)with
   |true=>
    have h1:Y4 s p=none:=by unfold Y4;rw[a];rfl
    have g:(s.drop p).any iy=true:=by rw[bP hx,List.any_cons,a];rfl
    rw[h1,g];simp
   |false=>
    rw[Tu hp a,validGoD,aA hd];obtain⟨j,k,l⟩:=qt hp
    by_cases b:(decodeL (s.drop p)).1=65533∧(decodeL (s.drop p)).2=1
    ·rw[aC b,aC b];rfl
    ·rw[aA b,aA b,Hn hp a,List.drop_drop]
     have i:=Jy s f (p+(decodeL (s.drop p)).2) (by omega)
     show Option.map _ _=_
     rw[i,runeCountFrom]
     have c:p<(⟨s.toArray⟩:ByteArray).size:=by show p<s.toArray.size;simpa using hp
     rw[aC c]
     have d:=decodeL_drop ⟨s.toArray⟩ p
     simp only at d
     rw[←d]
     split
     ·simp[Nat.add_comm]
     ·rfl
  ·rw[Lm,aA hp,j6 (by omega)]
   have c:¬p<(⟨s.toArray⟩:ByteArray).size:=by show ¬p<s.toArray.size;simpa using hp
   simp[validGoD,runeCountFrom,c]
def VA:Option Nat→Bool
 |some n=>decide (1≤n∧n≤30)
 |none=>false
def isWord (s:bB):Bool:=VA (Lm s s.length 0)
theorem Ky (s:bB):isWord s=(decide (1≤runeCountL s)&&decide (runeCountL s≤30)&&validD s&& !s.any iy):=by
 unfold isWord;rw[Jy s s.length 0 (by omega),List.drop_zero]
 have:runeCountFrom ⟨s.toArray⟩ s.length 0=runeCountL s:=by unfold runeCountL runeCount;congr 1
 rw[this];unfold validD
 cases validGoD s.length s<;>cases s.any iy<;>simp[VA]
end Go.J
namespace Go.J
open Go
section
variable {P:Program}{n:Nat}{F:Fr}{A:World→Prop}{c:Ctx}{H R:List ak}{ty:TypeId}{x y:Operand}{v:Value}{Q:Exit→Act→World→Prop}{ops:Array Oper}{rest:List Oper}
 {pos:String} {after:Array Edge} {t e:TypeId} {m k:Nat} {cs:List Value}
theorem Ev.mo {b o cap size:Nat}{i:Int}{kd:IntKind}(d:v= .slice (some ⟨b,o,none⟩) m cap)(hx:ai F x v)(hy:ai F y (.int kd i))(ht:P.underlying t=some (.slice e))(f:(P.info? e).map (·.size)=some size)
 (g:i=k) (hk:k<m):Ev P n F A (.indexAddr t x y) ty (cY v size k 0):= .of_run λa w c _=>by
 subst d;obtain⟨inf,h,j⟩:=di.1 f;subst g
 simp[execOp,hx.eval c,hy.eval c,Instr.indexAt,asIntOf,run_underlying ht,sizeOf,typeInfo,h,j,hk,eE,Addr.add_lit]
theorem DI {size off:Nat}{u:Value}{ρ:Ro}{w:World}(f:eu c (row v e size m cs::R) ρ w)(hk:k<m)(C:off<size):∃b l,cY v size k off= .pointer (some ⟨b,k*size+off,none⟩)∧v.ownBlock=some b∧
 w.cell? ⟨b,k*size+off,none⟩=some l∧w.frozen? ⟨b,k*size+off,none⟩=false∧eu c (row v e size m (cs.set (k*size+off) u)::R) ρ (w.setCell ⟨b,k*size+off,none⟩ u):=by
 have d:=eK.1 (f.dM _ (aP ..))
 have n:k*size+off<cs.length:=by
  rw[d.1]
  have:(k+1)*size≤m*size:=iW _ hk
  rw[jd]at this;omega
 obtain⟨b,o,p,a,q⟩:=k9 d hk (bU n);refine⟨b,_,o,a,p,q,?_⟩;refine f.alter rfl ⟨rfl,aR _⟩ rfl (by simp) (λj D h=> ?_) (eK.2 ?_) (λE i=>by rw[eG]at i⊢;exact .inl i)
 ·rw[eG,a]at h
  simp only[World.setCell,Array.getElem?_modify]
  rw[aA (λe=>h (by rw[e]))]
 ·obtain⟨r,s⟩:=d
  refine⟨by rw[cn];exact r,?_⟩
  rcases s with⟨rfl,rfl⟩|⟨g,cap,cur,rfl,t,x,y,z,A,B⟩
  ·omega
  ·simp only[Value.ownBlock,Option.some.injEq]at a
   subst a;refine .inr ⟨_,cap,_,rfl,t,nP x,y,z,by simp[A],?_⟩;rw[←B,Array.toList_setIfInBounds,List.take_set]
theorem St.Le {d f:Value}[tk:lR v H e 2 m cs R](hx:ai F x (cY v 2 k 0))(hy:ai F y (.agg #[d,f]))(l:(P.info? t).map (·.size)=some 2)(h1:d.oneCell'=true)(o:f.oneCell'=true)
 (hk:k<m) (h:St n F (Mm c (row v e 2 m ((cs.set (k*2) d).set (k*2+1) f)::R)) (wpList P ops Q rest)):
 St n F (Mm c H) (wpList P ops Q ({dst:=none,op:= .store t x y,type:=ty,pos:=pos,after:=after,guard:=none}::rest)):=by
 refine St.lh (K:=λC H'=>H'=row v e 2 m ((cs.set (k*2) d).set (k*2+1) f)::R) ?_ ?_
 ·intro a w ρ g hm
  have p:=hm.perm tk.perm
  obtain⟨b,D,q,r,c1,f1,s⟩:=DI (off:=0) (u:=d) p hk (by omega);obtain⟨E,z2,G,j,c2,f2,z⟩:=DI (off:=1) (u:=f) s hk (by omega)
  rw[r]at j;cases j
  rw[q]at hx;obtain⟨i,A,B⟩:=di.1 l;refine⟨.skip,(w.setCell ⟨b,k*2+0,none⟩ d).setCell ⟨b,k*2+1,none⟩ f,ρ,_,?_,⟨_,.inr ⟨rfl,rfl⟩,rfl⟩,z⟩
  simp only[Nat.add_zero]at hx c1 f1 c2 f2⊢
  simp[execOp,hx.eval g,hy.eval g,Instr.storeAt,Instr.sureAddr,storeVar,sizeOf,typeInfo,A,B,bJ,storeCells,run_store P w _ d _ h1,run_store P _ _ f _ o,c1,f1,c2,f2,Addr.add_zero',Addr.add_lit]
 ·rintro _ _ rfl
  exact h
abbrev Gm (α:Type):=aV×List α×Nat
def gR (α:Type):Rp (Gm α):=⟨2,by decide,λx=>[x.1.1,iv (x.2.2:Nat)],λ_=>True,λ_=>rfl,λx u h=>by
 simp at h;rcases h with rfl|rfl
 ·exact x.1.2
 ·rfl⟩
end
def iP (ds:List du):du:=⟨λρ=>∀d∈ds,d.f ρ,λ_ _ h k d hd=>d.mono _ _ h (k d hd)⟩
theorem eD.all {P:Program}{f:FuncId}{args:Array Value}{ds:List du}{v:Value}(h:eD P f args ds v):eD P f args [iP ds] v:=by
 intro w ρ st
 have a:∀d∈ds,d.f ρ:=dB.1 (st.dM (aB (iP ds)) (by simp))
 have e:jn (ds.map aB)=jn ([iP ds].map aB):=by
  funext b
  apply propext
  constructor
  ·intro h;exact absurd h (j9 ds b)
  ·intro h;exact absurd h (j9 [iP ds] b)
 have vf:eu ⟨w,ρ,jn ([iP ds].map aB),True⟩ [] ρ w:=eu.drop st
 have st2:Start (ds.map aB) ρ w:=by
  have:=vf.AR ds a
  rw[gq]at this;unfold Start;rw[e];exact this
 have:=h w ρ st2
 rw[e]at this;exact this
theorem eD.o6 {P:Program}{f:FuncId}{args:Array Value}{ds a:List du}{v:Value}(h:eD P f args ds v)(c:∀ρ,(∀d∈a,d.f ρ)→∀d∈ds,d.f ρ):eD P f args a v:=by
 intro w ρ st
 have g:∀d∈a,d.f ρ:=λd hd=>dB.1 (st.dM (aB d) (eN hd))
 have e:jn (ds.map aB)=jn (a.map aB):=by
  funext b
  apply propext
  exact⟨λh=>absurd h (j9 ds b),λh=>absurd h (j9 a b)⟩
 have vf:eu ⟨w,ρ,jn (a.map aB),True⟩ [] ρ w:=by
  have:∀(l:List du),eu ⟨w,ρ,jn (a.map aB),True⟩ (l.map aB) ρ w→eu ⟨w,ρ,jn (a.map aB),True⟩ [] ρ w:=by
   intro l
   induction l with
   |nil=>exact λh=>h
   |cons d l i=>exact λh=>i h.drop
  exact this a st
 have st2:Start (ds.map aB) ρ w:=by
  have:=vf.AR ds (c ρ g)
  rw[gq]at this;unfold Start;rw[e];exact this
 have:=h w ρ st2
 rw[e]at this;exact this
theorem il.iP {c:Ctx}{L R:List ak}{ds:List du}(h:il c L R ds):il c L R [J.iP ds]:=λρ w hm d hd=>by
 rw[bO.1 hd]
 exact λa b=>h ρ w hm a b
theorem dm.iP {c:Ctx}{H:List ak}{ds:List du}(h:dm c H ds):dm c H [J.iP ds]:=λρ w hm d hd=>by
 rw[bO.1 hd]
 exact λa b=>h ρ w hm a b
theorem St.cast {n:Nat}{F:Fr}{c:Ctx}{H H':List ak}{T:Act→World→Prop}(h:H=H')(k:St n F (Mm c H') T):St n F (Mm c H) T:=by rw[h];exact k
section
variable {n:Nat}{F:Fr}{c:Ctx}{H R:List ak}{T:Act→World→Prop}{α:Type}
def aF (f:α→du)(xs:List α):du:=⟨λρ=>∀x∈xs,(f x).f ρ,λρ jo h k x hx=>(f x).mono _ _ h (k x hx)⟩
theorem St.cI (f:α→du)(xs:List α){x:α}[hd:lQ (aF f xs) H](hx:x∈xs)(k:St n F (Mm c (aB (f x)::H)) T):St n F (Mm c H) T:=
 St.eY (f x) [aF f xs] (λρ h=>h _ (aP ..) x hx) k
theorem St.dN (f:α→du)(k:St n F (Mm c (aB (aF f [])::H)) T):St n F (Mm c H) T:=
 St.fact (aF f []) (λρ _ _=>λx hx=>by cases hx) k
theorem St.tJ (f:α→du){xs:List α}{x:α}[hd:lQ (aF f xs) H][hx:lQ (f x) H](k:St n F (Mm c (aB (aF f (xs++ [x]))::H)) T):St n F (Mm c H) T:=
 St.eY (aF f (xs++ [x])) [aF f xs,f x] (λρ h y hy=>by
  rcases cD.1 hy with hy|hy
  ·exact h _ (aP ..) y hy
  ·rw[bO.1 hy];exact h _ (cN _ (aP ..))) k
theorem St.mO (f:α→du){xs:List α}{x:α}[hd:lQ (aF f xs) H][hx:lQ (f x) H](k:St n F (Mm c (aB (aF f (x::xs))::H)) T):St n F (Mm c H) T:=
 St.eY (aF f (x::xs)) [aF f xs,f x] (λρ h y hy=>by
  rcases cH.1 hy with rfl|hy
  ·exact h _ (cN _ (aP ..))
  ·exact h _ (aP ..) y hy) k
end
abbrev mr (s:bB):Prop:=s.length≤140737488351232
structure rZ where
 name:bB
 pv:aV
 parents:List Int
structure jI where
 name:bB
 BR:Int
 value:Int
structure dw where
 dF:Int
 tqo:Int
structure df where
 type:Int
 lv:aV
 aq:List dw
structure dD where
 nv:aV
 nodes:List df
inductive fa where
 |mk (base:bB) (av:aV) (args:List fa)
inductive dg where
 |mk (kind:Int) (name:bB) (index:Int) (type:fa) (av:aV) (args:List dg)
inductive dE where
 |mk (rule lex:Int) (kv:aV) (kids:List dE)
def fa.base:fa→bB| .mk b _ _=>b
def fa.av:fa→aV| .mk _ v _=>v
def fa.args:fa→List fa| .mk _ _ l=>l
def dg.kind:dg→Int| .mk k _ _ _ _ _=>k
def dg.name:dg→bB| .mk _ s _ _ _ _=>s
def dg.index:dg→Int| .mk _ _ i _ _ _=>i
def dg.type:dg→fa| .mk _ _ _ t _ _=>t
def dg.av:dg→aV| .mk _ _ _ _ v _=>v
def dg.args:dg→List dg| .mk _ _ _ _ _ l=>l
def dE.rule:dE→Int| .mk r _ _ _=>r
def dE.lex:dE→Int| .mk _ l _ _=>l
def dE.kv:dE→aV| .mk _ _ v _=>v
def dE.kids:dE→List dE| .mk _ _ _ l=>l
structure cZ where
 name:bB
 graph:dD
 kids:Int
 weight:Int
 er:dg
structure eX where
 word:bB
 graph:dD
 weight:Int
 er:dg
structure gb where
 tv:aV
 types:List rZ
 fv:aV
 cB:List jI
 rv:aV
 rules:List cZ
 xv:aV
 aL:List eX
 start:dD
def ml:Rp rZ:=⟨2,by decide,λx=>[sv x.name,x.pv.1],λx=>mr x.name,λ_=>rfl,λx u h=>by simp at h;rcases h with rfl|rfl;rfl;exact x.pv.2⟩
def gY:Rp jI:=⟨3,by decide,λx=>[sv x.name,iv x.BR,iv x.value],λx=>mr x.name∧aa x.BR∧aa x.value,λ_=>rfl,λx u h=>by simp at h;rcases h with rfl|rfl|rfl<;>rfl⟩
def au:Rp dw:=⟨2,by decide,λx=>[iv x.dF,iv x.tqo],λx=>aa x.dF∧aa x.tqo,λ_=>rfl,λx u h=>by simp at h;rcases h with rfl|rfl<;>rfl⟩
def bh:Rp df:=⟨2,by decide,λx=>[iv x.type,x.lv.1],λx=>aa x.type,λ_=>rfl,λx u h=>by simp at h;rcases h with rfl|rfl;rfl;exact x.lv.2⟩
def kL:Rp fa:=⟨2,by decide,λx=>[sv x.base,x.av.1],λx=>mr x.base,λ_=>rfl,λx u h=>by simp at h;rcases h with rfl|rfl;rfl;exact x.av.2⟩
abbrev Pj (x:dg):List Value:=[iv x.kind,sv x.name,iv x.index,sv x.type.base,x.type.av.1,x.av.1]
theorem cC {u:Value}{L:List Value}(h:u.oneCell'=true)(k:∀v∈L,v.oneCell'=true):∀v∈u::L,v.oneCell'=true:=λv a=>by
 rcases cH.1 a with rfl|a
 ·exact h
 ·exact k v a
theorem TB:∀v∈([]:List Value),v.oneCell'=true:=λv a=>by cases a
theorem vn (x:dg):∀u∈Pj x,u.oneCell'=true:=cC rfl (cC rfl (cC rfl (cC rfl (cC x.type.av.2 (cC x.av.2 TB)))))
def dI:Rp dg:=⟨6,by decide,Pj,λx=>aa x.kind∧mr x.name∧aa x.index∧mr x.type.base,λ_=>rfl,λx u h=>vn x u h⟩
abbrev Jm (x:dE):List Value:=[iv x.rule,iv x.lex,x.kv.1]
def dC:Rp dE:=⟨3,by decide,Jm,λx=>aa x.rule∧aa x.lex,λ_=>rfl,λx u h=>by simp at h;rcases h with rfl|rfl|rfl;rfl;rfl;exact x.kv.2⟩
abbrev zU (x:cZ):List Value:=[sv x.name,x.graph.nv.1,iv x.kids,iv x.weight,iv x.er.kind,sv x.er.name,iv x.er.index,sv x.er.type.base,x.er.type.av.1,x.er.av.1]
def cS:Rp cZ:=⟨10,by decide,zU,λx=>mr x.name∧aa x.kids∧aa x.weight∧dI.wf x.er,λ_=>rfl,λx u h=>cC rfl (cC x.graph.nv.2 (cC rfl (cC rfl (vn x.er)))) u h⟩
abbrev Sm (x:eX):List Value:=[sv x.word,x.graph.nv.1,iv x.weight,iv x.er.kind,sv x.er.name,iv x.er.index,sv x.er.type.base,x.er.type.av.1,x.er.av.1]
def dy:Rp eX:=⟨9,by decide,Sm,λx=>mr x.word∧aa x.weight∧dI.wf x.er,λ_=>rfl,λx u h=>cC rfl (cC x.graph.nv.2 (cC rfl (vn x.er))) u h⟩
instance (x:rZ):j7 ml x [sv x.name,x.pv.1]:=⟨rfl⟩
instance (x:jI):j7 gY x [sv x.name,iv x.BR,iv x.value]:=⟨rfl⟩
instance (x:dw):j7 au x [iv x.dF,iv x.tqo]:=⟨rfl⟩
instance (x:df):j7 bh x [iv x.type,x.lv.1]:=⟨rfl⟩
instance (x:fa):j7 kL x [sv x.base,x.av.1]:=⟨rfl⟩
instance (x:dg):j7 dI x (Pj x):=⟨rfl⟩
instance (x:dE):j7 dC x (Jm x):=⟨rfl⟩
instance (x:cZ):j7 cS x (zU x):=⟨rfl⟩
instance (x:eX):j7 dy x (Sm x):=⟨rfl⟩
abbrev iu (g:gb):List Value:=[g.tv.1,g.fv.1,g.rv.1,g.xv.1,g.start.nv.1]
inductive rY (ρ:Ro):fa→Prop
 |mk {x:fa} (h:(sl kL x.av.1 x.args).f ρ) (k:∀y∈x.args,rY ρ y):rY ρ x
inductive oq (ρ:Ro):dg→Prop
 |mk {x:dg} (ht:rY ρ x.type) (h:(sl dI x.av.1 x.args).f ρ) (k:∀y∈x.args,oq ρ y):oq ρ x
inductive ot (ρ:Ro):dE→Prop
 |mk {x:dE} (h:(sl dC x.kv.1 x.kids).f ρ) (k:∀y∈x.kids,ot ρ y):ot ρ x
theorem rY.mono {ρ jo:Ro}(h:∀k o,ρ k=some o→jo k=some o){x:fa}(hx:rY ρ x):rY jo x:=by
 induction hx with
 |mk h1 _ a=>exact .mk ((sl _ _ _).mono _ _ h h1) a
theorem oq.mono {ρ jo:Ro}(h:∀k o,ρ k=some o→jo k=some o){x:dg}(hx:oq ρ x):oq jo x:=by
 induction hx with
 |mk ht h1 _ a=>exact .mk (ht.mono h) ((sl _ _ _).mono _ _ h h1) a
theorem ot.mono {ρ jo:Ro}(h:∀k o,ρ k=some o→jo k=some o){x:dE}(hx:ot ρ x):ot jo x:=by
 induction hx with
 |mk h1 _ a=>exact .mk ((sl _ _ _).mono _ _ h h1) a
def eo (x:fa):du:=⟨λρ=>rY ρ x,λ_ _ h k=>k.mono h⟩
def cm (x:dg):du:=⟨λρ=>oq ρ x,λ_ _ h k=>k.mono h⟩
def br (x:dE):du:=⟨λρ=>ot ρ x,λ_ _ h k=>k.mono h⟩
def ry (x:rZ):du:=sl aI x.pv.1 x.parents
def cA (x:df):du:=sl au x.lv.1 x.aq
def kb (g:dD):List du:=[sl bh g.nv.1 g.nodes,aF cA g.nodes]
def aG (g:dD):du:=iP (kb g)
def PM (x:cZ):List du:=[aG x.graph,cm x.er]
def bx (x:cZ):du:=iP (PM x)
def XB (x:eX):List du:=[aG x.graph,cm x.er]
def eO (x:eX):du:=iP (XB x)
def Ug (tv fv:aV)(ts:List rZ)(a:List jI):List du:=[sl ml tv.1 ts,aF ry ts,sl gY fv.1 a]
def Gv (g:gb):List du:=[sl ml g.tv.1 g.types,aF ry g.types,sl gY g.fv.1 g.cB,sl cS g.rv.1 g.rules,aF bx g.rules,sl dy g.xv.1 g.aL,aF eO g.aL,aG g.start]
def fB (g:gb):du:=iP (Gv g)
section
variable {n:Nat}{F:Fr}{c:Ctx}{H R:List ak}{T:Act→World→Prop}
theorem St.u9 (x:fa)[hd:lQ (eo x) H](k:St n F (Mm c (aB (sl kL x.av.1 x.args)::aB (aF eo x.args)::H)) T):St n F (Mm c H) T:=
 St.jP (ι:=Unit) (eo x) (λ_=>[sl kL x.av.1 x.args,aF eo x.args]) (λρ h=>⟨(),λe he=>by
  cases h with
  |mk h k=>
   simp only[List.mem_cons,List.not_mem_nil,or_false]at he
   rcases he with rfl|rfl
   ·exact h
   ·exact k⟩) λ_=>k
theorem St.Ex (x:dg)[hd:lQ (cm x) H](k:St n F (Mm c (aB (eo x.type)::aB (sl dI x.av.1 x.args)::aB (aF cm x.args)::H)) T):St n F (Mm c H) T:=
 St.jP (ι:=Unit) (cm x) (λ_=>[eo x.type,sl dI x.av.1 x.args,aF cm x.args]) (λρ h=>⟨(),λe he=>by
  cases h with
  |mk ht h k=>
   simp only[List.mem_cons,List.not_mem_nil,or_false]at he
   rcases he with rfl|rfl|rfl
   ·exact ht
   ·exact h
   ·exact k⟩) λ_=>k
theorem St.Ey (x:dE)[hd:lQ (br x) H](k:St n F (Mm c (aB (sl dC x.kv.1 x.kids)::aB (aF br x.kids)::H)) T):St n F (Mm c H) T:=
 St.jP (ι:=Unit) (br x) (λ_=>[sl dC x.kv.1 x.kids,aF br x.kids]) (λρ h=>⟨(),λe he=>by
  cases h with
  |mk h k=>
   simp only[List.mem_cons,List.not_mem_nil,or_false]at he
   rcases he with rfl|rfl
   ·exact h
   ·exact k⟩) λ_=>k
theorem St.JG (L:List du)[hd:lQ (iP L) H](k:St n F (Mm c (L.map aB++H)) T):St n F (Mm c H) T:=
 St.jP (iP L) (λ_:Unit=>L) (λρ h=>⟨(),h⟩) λ_=>k
end
end Go.J
namespace Go.Proofs.YtblifkgpebebmaaGreatDoor
open Go Go.J Tryz
inductive ij where
 |mk (base:bB) (args:List ij)
inductive jK where
 |mk (kind:Int) (name:bB) (index:Int) (type:ij) (args:List jK)
inductive jY where
 |mk (rule lex:Int) (kids:List jY)
mutual
def dc:fa→ij
 | .mk b _ l=> .mk b (JS l)
def JS:List fa→List ij
 | []=>[]
 |x::l=>dc x::JS l
end
mutual
def dH:dg→jK
 | .mk k s i t _ l=> .mk k s i (dc t) (DS l)
def DS:List dg→List jK
 | []=>[]
 |x::l=>dH x::DS l
end
mutual
def cx:dE→jY
 | .mk r x _ l=> .mk r x (DT l)
def DT:List dE→List jY
 | []=>[]
 |x::l=>cx x::DT l
end
theorem vc:∀l:List fa,JS l=l.map dc
 | []=>rfl
 |x::l=>by rw[JS,vc l];rfl
theorem sY:∀l:List dg,DS l=l.map dH
 | []=>rfl
 |x::l=>by rw[DS,sY l];rfl
theorem zp:∀l:List dE,DT l=l.map cx
 | []=>rfl
 |x::l=>by rw[DT,zp l];rfl
def ij.base:ij→bB| .mk b _=>b
def ij.args:ij→List ij| .mk _ l=>l
def jK.kind:jK→Int| .mk k _ _ _ _=>k
def jK.name:jK→bB| .mk _ s _ _ _=>s
def jK.index:jK→Int| .mk _ _ i _ _=>i
def jK.type:jK→ij| .mk _ _ _ t _=>t
def jK.args:jK→List jK| .mk _ _ _ _ l=>l
def jY.rule:jY→Int| .mk r _ _=>r
def jY.lex:jY→Int| .mk _ l _=>l
def jY.kids:jY→List jY| .mk _ _ l=>l
theorem rA (x:fa):(dc x).base=x.base:=by cases x;rfl
theorem kh (x:fa):(dc x).args=x.args.map dc:=by cases x;exact vc _
theorem sZ (x:dg):(dH x).args=x.args.map dH:=by cases x;exact sY _
abbrev ej:=bB×List Int
abbrev od:=bB×Int×Int
abbrev KF:=Int×List (Int×Int)
abbrev dz:=List KF
structure sg where
 name:bB
 graph:dz
 kids:Int
 weight:Int
 er:jK
structure Dn where
 word:bB
 graph:dz
 weight:Int
 er:jK
structure gB where
 types:List ej
 cB:List od
 rules:List sg
 aL:List Dn
 start:dz
def dG (x:rZ):ej:=(x.name,x.parents)
def gy (x:jI):od:=(x.name,x.BR,x.value)
def fR (x:dw):Int×Int:=(x.dF,x.tqo)
def lx (x:df):KF:=(x.type,x.aq.map fR)
def ay (g:dD):dz:=g.nodes.map lx
def lI (x:cZ):sg:=⟨x.name,ay x.graph,x.kids,x.weight,dH x.er⟩
def og (x:eX):Dn:=⟨x.word,ay x.graph,x.weight,dH x.er⟩
def ca (g:gb):gB:=⟨g.types.map dG,g.cB.map gy,g.rules.map lI,g.aL.map og,ay g.start⟩
def rO (i:Int):Int→List Int→Int×Int
 |_,[]=>(0,0)
 |last,p::ps=>if p<0∨i≤p then(3,i)else if p≤last then(13,i)else rO i p ps
def lP:List bB→Nat→List ej→Int×Int
 |_,_,[]=>(0,0)
 |known,i,t::ts=>if isName t.1=false then(10,i)else if t.1∈known then(7,i)else if decide (i=0)≠decide (t.2.length=0)then(5,i)
  else if(rO i (-1) t.2).1≠0 then rO i (-1) t.2 else lP (known++ [t.1]) (i+1) ts
def Aq (l:List ej):Int×Int:=if l.length=0∨60<l.length then(2,-1)else lP [] 0 l
def Q6 (U:List Nat)(i:Nat)(ps:List Int):Nat:=ps.foldl (λu p=>u|||U.getD p.toNat 0) (2^i)
def nU:List Nat→List ej→List Nat
 |U,[]=>U
 |U,t::l=>nU (U++ [Q6 U U.length t.2]) l
def Ar (l:List ej):List Nat:=nU [] l
def iD (l:List ej)(i j:Nat):Bool:=((Ar l).getD i 0).testBit j
def comm (l:List ej)(a b:Nat):List Nat:=(List.range l.length).filter λi=>iD l i a&&iD l i b
def kF (l:List ej)(a b:Nat):Bool:=match comm l a b with
 | []=>false
 |m::r=>r.any λi=> !iD l i m
def wX (l:List ej):Option Nat:=(List.range l.length).find? λb=>(List.range b).any λa=>kF l a b
def mQ (n:Int):List bB→Nat→List od→Int×Int
 |_,_,[]=>(0,0)
 |known,i,f::a=>if isName f.1=false then(10,i)else if f.1∈known then(7,i)else if f.2.1<0∨n≤f.2.1∨f.2.2<0∨n≤f.2.2 then(3,i)else mQ n (known++ [f.1]) (i+1) a
def jO (ts:List ej)(a:List od):Int×Int:=
 if 40<a.length then(2,-1)else if(Aq ts).1≠0 then Aq ts else match wX ts with
  |some b=>(16,b)
  |none=>mQ ts.length [] 0 a
def Ac (nf nn i:Int):Int→List (Int×Int)→Int×Int
 |_,[]=>(0,0)
 |last,x::xs=>if x.1<0∨nf≤x.1∨x.2<0∨nn≤x.2 then(3,i)else if x.1≤last then(13,i)else Ac nf nn i x.1 xs
def fD (nt nf nn:Int):Nat→dz→Int×Int
 |_,[]=>(0,0)
 |i,x::xs=>if x.1<0∨nt≤x.1 then(3,i)else if(Ac nf nn i (-1) x.2).1≠0 then Ac nf nn i (-1) x.2 else fD nt nf nn (i+1) xs
def fX (nt nf:Int)(g:dz):Int×Int:=if g.length=0∨60<g.length then(2,-2)else fD nt nf g.length 0 g
def iK:KF:=(0,[])
def ft0:od:=([],0,0)
def IV (ts:List ej)(a:List od)(g:dz)(t:Int)(x:Int×Int):Bool:=
 !iD ts t.toNat (a.getD x.1.toNat ft0).2.1.toNat|| !iD ts (g.getD x.2.toNat iK).1.toNat (a.getD x.1.toNat ft0).2.2.toNat
def tE (ts:List ej)(a:List od)(g:dz)(i:Nat):Bool:=(g.getD i iK).2.any (IV ts a g (g.getD i iK).1)
def mP (ts:List ej)(a:List od)(g:dz):Option Nat:=(List.range g.length).find? (tE ts a g)
def Ei (i:Nat)(M:List Bool)(x:Int×Int):List Bool:=if M.getD i false then M.set x.2.toNat true else M
def Uw (g:dz)(M:List Bool)(i:Nat):List Bool:=(g.getD i iK).2.foldl (Ei i) M
def pass (g:dz)(M:List Bool):List Bool:=(List.range g.length).foldl (Uw g) M
def eZ (g:dz):Nat→List Bool
 |0=>(List.replicate g.length false).set 0 true
 |k+1=>pass g (eZ g k)
def oz:List Bool→Int
 | []=> -1
 |b::l=>if b=false then 0 else if oz l<0 then-1 else oz l+1
def YX (g:dz):Int:=oz (eZ g g.length)
def dP (ts:List ej)(a:List od)(g:dz):Int×Int:=
 if(fX ts.length a.length g).1≠0 then fX ts.length a.length g else match mP ts a g with
  |some i=>(12,i)
  |none=>if 0≤YX g then(5,YX g)else(0,0)
def rR (g:dz)(k:Int):Int:=match(g.getD 0 iK).2.find? λx=>x.1==k with
 |some x=>x.2
 |none=> -1
def nN (g:dz)(kids:Int):Bool:=(List.range 4).all λk=>decide (0≤rR g k)==decide ((k:Int)≤kids)
abbrev sE:bB:=[101]
abbrev sT:bB:=[116]
def jR (b:bB)(m:Nat):Bool:=(decide (b=sE)||decide (b=sT))&&decide (m=0)||decide (b=[])&&decide (m=2)
mutual
def ly:ij→Nat→Nat→Nat×Int
 | .mk b l,d,n=>if 200<n+1∨40<d then(n+1,1)else if jR b l.length=false then(n+1,5)else lV l (d+1) (n+1)
def lV:List ij→Nat→Nat→Nat×Int
 | [],_,n=>(n,0)
 |x::l,d,n=>if(ly x d n).2≠0 then ly x d n else lV l d (ly x d n).1
end
def vd (s:ij):Int:=(ly s 1 0).2
def pS (s:ij):Bool:=decide (s.base=[])&&decide (s.args.length=0)
mutual
def lU:ij→ij→Bool
 | .mk a l,.mk b m=>decide (a=b)&&decide (l.length=m.length)&&nz l m
def nz:List ij→List ij→Bool
 |x::l,y::m=>lU x y&&nz l m
 |_,_=>true
end
def kD (kind:Int)(name:bB)(index:Int)(type:ij)(m:Nat)(bd:Nat):Int:=
 if kind=1 then(if index≠0∨m≠0 then 5 else if isName name=false then 10 else if vd type≠0 then 12 else 0)
 else if kind=2 then(if name≠ []∨pS type=false∨m≠0 then 5 else if index<0∨(bd:Int)≤index then 15 else 0)
 else if kind=3 then(if name≠ []∨index≠0∨m≠1 then 5 else if vd type≠0 then 12 else 0)
 else if kind=4 then(if name≠ []∨index≠0∨pS type=false∨m≠2 then 5 else 0)
 else 4
mutual
def mF:jK→Nat→Nat→Nat→Nat×Int×Int
 | .mk k s i t l,d,bd,n=>if 200<n+1∨40<d then(n+1,1,n)else if kD k s i t l.length bd≠0 then(n+1,kD k s i t l.length bd,n)else o5 l (d+1) (if k=3 then bd+1 else bd) (n+1)
def o5:List jK→Nat→Nat→Nat→Nat×Int×Int
 | [],_,_,n=>(n,0,0)
 |x::l,d,bd,n=>if(mF x d bd n).2.1≠0 then mF x d bd n else o5 l d bd (mF x d bd n).1
end
def GV:Option ij→Option ij→Option ij
 |some (.mk _ [a,b]),some x=>if lU a x then some b else none
 |_,_=>none
mutual
def xI:jK→List ij→Option ij
 | .mk k _ i t l,c=>if k=1 then some t else if k=2 then c[c.length-1-i.toNat]? else if k=3 then(nS l (c++ [t])).map λb=> .mk [] [t,b]else GV (nS l c) (DV l c)
def nS:List jK→List ij→Option ij
 |x::_,c=>xI x c
 | [],_=>none
def DV:List jK→List ij→Option ij
 |_::l,c=>nS l c
 | [],_=>none
end
def qZ (t:jK):Int×Int:=if(mF t 1 0 0).2.1≠0 then(mF t 1 0 0).2 else if(xI t []).isNone then(12,-1)else(0,0)
def pV (ts:List ej)(a:List od)(r:sg):Int:=
 if r.kids<1∨3<r.kids∨r.weight<0∨1000000<r.weight then 3 else if(dP ts a r.graph).1≠0 then(dP ts a r.graph).1 else if nN r.graph r.kids=false then 5 else(qZ r.er).1
def xD (ts:List ej)(a:List od)(x:Dn):Int:=
 if isWord x.word=false then 10 else if x.weight<0∨1000000<x.weight then 3 else if(dP ts a x.graph).1≠0 then(dP ts a x.graph).1 else(qZ x.er).1
def jb (ts:List ej)(a:List od):List bB→Nat→List sg→Int×Int
 |_,_,[]=>(0,0)
 |known,i,r::rs=>if isName r.name=false then(10,i)else if r.name∈known then(7,i)else if pV ts a r≠0 then(pV ts a r,i)else jb ts a (known++ [r.name]) (i+1) rs
def ja (ts:List ej)(a:List od):Nat→List Dn→Int×Int
 |_,[]=>(0,0)
 |i,x::xs=>if xD ts a x≠0 then(xD ts a x,i)else ja ts a (i+1) xs
def jN (g:gB):Int×Int:=
 if(jO g.types g.cB).1≠0 then jO g.types g.cB else if g.cB.length≤3 then(9,-1)else if 40<g.rules.length∨100<g.aL.length then(2,-1)
 else if(jb g.types g.cB [] 0 g.rules).1≠0 then jb g.types g.cB [] 0 g.rules else if(ja g.types g.cB 0 g.aL).1≠0 then ja g.types g.cB 0 g.aL
 else if(dP g.types g.cB g.start).1≠0 then((dP g.types g.cB g.start).1,-1)else(0,0)
end Go.Proofs.YtblifkgpebebmaaGreatDoor
namespace Go.J
open Go
def cT (u v:Value):du:=⟨λ_=>u=v,λ_ _ _ h=>h⟩
structure uX where
 slot:Nat
 gg:List Nat
 K:Value→du
instance:Inhabited uX:=⟨⟨0,[],λu=>cT u u⟩⟩
def ui (bs:List uX)(e:Nat→Value)(ds:List Nat):Fr:=ds.map λj=>((bs.getD j default).slot,e j)
def pe (bs:List uX)(e:Nat→Value)(ds:List Nat):List ak:=ds.map λj=>aB ((bs.getD j default).K (e j))
def qm (c:Ctx)(H:List ak)(slot:Nat)(K:Value→du)(a:Act)(w:World):Prop:=a.defers=[]∧∃u,a.tmps[slot]?=some u∧Mm c (aB (K u)::H) w
section
variable {P:Program}{ops:Array Oper}{Q:Exit→Act→World→Prop}{n:Nat}{F:Fr}{c:Ctx}{H R:List ak}
class GQ (H H':List ak):Prop where
 eq:∃L,H'=L++H
instance (priority:=high) GQ.here (H:List ak):GQ H H:=⟨[],rfl⟩
instance GQ.there (E:ak)(H H':List ak)[h:GQ H H']:GQ H (E::H'):=⟨let⟨L,e⟩:=h.eq;⟨E::L,by rw[e];rfl⟩⟩
theorem eu.tail {c:Ctx}{L H:List ak}{ρ:Ro}{w:World}(h:eu c (L++H) ρ w):eu c H ρ w:=by
 induction L with
 |nil=>exact h
 |cons E L a=>exact a (eu.drop h)
theorem St.Vf {b:Fr}{H':List ak}{slot:Nat}{K:Value→du}(u:Value)(g:look b slot=some u)(d:du)(hd:K u=d)[h:lQ d H'][tl:GQ H H']:St n b (Mm c H') (qm c H slot K):=
 λa w f hw=>⟨f.defers,u,f.slot _ _ g,by
  rw[hd];obtain⟨ρ,hm⟩:=hw.out
  have i:=dB.1 (hm.dM _ h.mem)
  obtain⟨L,e⟩:=tl.eq;subst e
  exact Mm.mk (hm.tail.fact d i)⟩
def VK (P:Program)(ops:Array Oper)(Q:Exit→Act→World→Prop)(n:Nat)(F:Fr)(dr:Prop)(H:List ak)(bs:List uX)(b:uX)(o:Oper):Prop:=
 ∀(c:Ctx) (e:Nat→Value),(¬dr→¬c.dr)→St n (ui bs e b.gg++F) (Mm c (pe bs e b.gg++H)) (wpList P ops (Exit.then (qm c H b.slot b.K) Q) [o])
theorem VK.mk {dr:Prop}{bs:List uX}{slot:Nat}{gg:List Nat}{K:Value→du}{o:Oper}(a:(Nat→Value)→Fr)(L:(Nat→Value)→List ak)(h1:∀e,ui bs e gg=a e)(b:∀e,pe bs e gg=L e)
 (k:∀(c:Ctx) (e:Nat→Value),(¬dr→¬c.dr)→St n (a e++F) (Mm c (L e++H)) (wpList P ops (Exit.then (qm c H slot K) Q) [o])):VK P ops Q n F dr H bs ⟨slot,gg,K⟩ o:=λc e hd=>by
 show St n (ui bs e gg++F) (Mm c (pe bs e gg++H)) _
 rw[h1,b];exact k c e hd
def ab (P:Program)(ops:Array Oper)(Q:Exit→Act→World→Prop)(n:Nat)(F:Fr)(dr:Prop)(H:List ak)(bs:List uX):List uX→List Oper→Prop
 | [],[]=>True
 |b::l,o::m=>VK P ops Q n F dr H bs b o∧ab P ops Q n F dr H bs l m
 |_,_=>False
theorem ab.nil {dr:Prop}{bs:List uX}:ab P ops Q n F dr H bs [] []:=trivial
theorem ab.cons {dr:Prop}{bs l:List uX}{b:uX}{o:Oper}{m:List Oper}(h:VK P ops Q n F dr H bs b o)(k:ab P ops Q n F dr H bs l m):ab P ops Q n F dr H bs (b::l) (o::m):=⟨h,k⟩
theorem ab.at_ {dr:Prop}{bs:List uX}:∀{l:List uX} {m:List Oper},ab P ops Q n F dr H bs l m→l.length=m.length∧∀(i:Nat) (b:uX) (o:Oper),l[i]?=some b→m[i]?=some o→VK P ops Q n F dr H bs b o
 | [],[],_=>⟨rfl,λi b o h=>by simp at h⟩
 | [],_::_,h=>h.elim
 |_::_,[],h=>h.elim
 |b::l,o::m,h=>by
  obtain⟨h1,d⟩:=ab.at_ h.2;refine⟨by simp[h1],λi e o' a c=> ?_⟩
  cases i with
  |zero=>simp at a c;subst a c;exact h.1
  |succ i=>exact d i e o' (by simpa using a) (by simpa using c)
def MO (n b:Nat)(ex:List Nat)(a:List (Nat×List Nat))(hd:List Oper):Bool:=
 (a.zip hd).all (λp=>p.2.guard.isNone&&p.2.dst==some p.1.1&&Nat.ble (p.1.1+1) n&&(Nat.ble b p.1.1||ex.contains p.1.1)&&p.1.2.all (λj=>Nat.ble (j+1) a.length&&p.2.after.any λe=>Region.binds .any e&&e.on==j))&&
  (a.map (·.1)).Nodup
theorem Y2 {o:Oper}{a:Act}{w:World}{K:Act→World→Prop}(h:o.wp P a w K Q):o.wp P a w (λb w'=>K b w'∧((∃v,b=a.put o.dst v)∨b.defers≠ [])) Q:=by
 unfold Oper.wp at*
 generalize (execOp a.eval o).run P w=r at*
 cases r with
 |ok g w'=>
  cases g<;>simp only[Oper.upon]at h⊢
  case value u=>exact⟨h,.inl ⟨u,rfl⟩⟩
  case skip=>exact⟨h,.inl ⟨undef,rfl⟩⟩
  case defer d=>exact⟨h,.inr (by cases o.dst<;>simp[Act.put])⟩
  case enter f args=>
   refine Calls.mono h λe i he=> ?_
   cases e with
   |returned u=>exact⟨he,.inl ⟨u,rfl⟩⟩
   |panicked c=>exact he
   |outgrown=>exact he
  case row j args=>exact Rows.mono h λu i he=>⟨he,.inl ⟨u,rfl⟩⟩
  all_goals exact h
 |halt x w'=>
  cases x<;>simp only[Oper.upon]at h⊢
  all_goals exact h
theorem Bw {i:Nat}{o:Oper}(c:ops[i]?=some o)(d:o.guard=none){a:Act}{w:World}{K:Act→World→Prop}(h:wpOp P ops Q i K a w):wpOp P ops Q i (λb w'=>K b w'∧((∃v,b=a.put o.dst v)∨b.defers≠ [])) a w:=by
 unfold wpOp at*;rw[c]at h⊢
 have hw:Region.wanted o (yielded ops a.tmps)=true:=by unfold Region.wanted;rw[d]
 simp only[hw,if_true]at h⊢
 exact h.imp Y2 id
theorem Gj {p q:Nat→Bool}{i:Nat}(hp:p i=true)(a:q i=false)(h:∀j,j≠i→p j=q j):∀m,i<m→(List.range m).countP p=(List.range m).countP q+1:=by
 have eq:∀m,m≤i→(List.range m).countP p=(List.range m).countP q:=by
  intro m hm
  refine List.countP_congr λj b=> ?_
  have:=dq.1 b
  rw[h j (by omega)]
 intro m
 induction m with
 |zero=>intro h;omega
 |succ m c=>
  intro hm;rw[uW,List.countP_append,List.countP_append,List.countP_singleton,List.countP_singleton]
  by_cases e:i=m
  ·subst e
   rw[eq i (aR _),hp,a];simp
  ·rw[c (by omega),h m (Ne.symm e)];omega
def Ql (m:Nat)(listed:Array Bool):Nat:=(List.range m).countP λj=> !listed.getD j true
theorem eu.TI {c:Ctx}{H:List ak}{ρ:Ro}{w:World}(h:eu c H ρ w):eu ⟨w,ρ,jn H,c.dr⟩ H ρ w:=
 ⟨rfl,⟨rfl,λ_=>aR _⟩,rfl,aR _,λ_ _ _=>rfl,h.fits,Ro.le_refl _,λ_ _ _=>rfl,h.dM,λE a b d=>⟨(h.own E a b d).1,.inr ⟨E,a,d⟩⟩,h.EG⟩
theorem Ee:∀{F:Fr} {t:Nat} {x:Value},look F t=some x→t∈F.map (·.1)
 | [],_,_,h=>by simp[look]at h
 |(k,u)::F,t,x,h=>by
  simp only[look]at h
  cases a:Nat.beq t k with
  |true=>rw[mh a];simp
  |false=>
   simp only[a,cond_false]at h
   have:=Ee h
   simp only[List.map_cons,List.mem_cons];exact .inr this
def D6 (acc:List Nat)(o:Oper):Nat:=o.after.toList.foldl (λu e=>if Region.binds .any e then u|||(2^e.on|||acc.getD e.on 0)else u) 0
def gm:List Oper→List Nat→List Nat
 | [],acc=>acc
 |o::l,acc=>gm l (acc++ [D6 acc o])
theorem HM (acc:List Nat)(o:Oper){j:Nat}(h:(D6 acc o).testBit j=true):∃e∈o.after,Region.binds .any e=true∧(e.on=j∨(acc.getD e.on 0).testBit j=true):=by
 have key:∀(l:List Edge) (u:Nat),(l.foldl (λu e=>if Region.binds .any e then u|||(2^e.on|||acc.getD e.on 0)else u) u).testBit j=true→u.testBit j=true∨∃e∈l,Region.binds .any e=true∧(e.on=j∨(acc.getD e.on 0).testBit j=true):=by
  intro l
  induction l with
  |nil=>intro u h;exact .inl h
  |cons e l a=>
   intro u h;rw[we]at h
   rcases a _ h with h1|⟨b,he,h1⟩
   ·split at h1
    ·rename_i c
     rw[Nat.testBit_or,Nat.testBit_or,Bool.or_eq_true,Bool.or_eq_true,Nat.testBit_two_pow,fz]at h1
     rcases h1 with h1|h1
     ·exact .inl h1
     ·exact .inr ⟨e,aP ..,c,h1⟩
    ·exact .inl h1
   ·exact .inr ⟨b,cN _ he,h1⟩
 rcases key _ _ h with h1|⟨e,he,h1⟩
 ·rw[Nat.zero_testBit]at h1;cases h1
 ·exact⟨e,by simpa using he,h1⟩
theorem p8:∀(l m:List Oper) (acc:List Nat),gm (l++m) acc=gm m (gm l acc)
 | [],_,_=>rfl
 |o::l,m,acc=>by rw[wZ,gm,gm,p8 l m]
theorem vL:∀(l:List Oper) (acc:List Nat),(gm l acc).length=acc.length+l.length
 | [],_=>rfl
 |o::l,acc=>by rw[gm,vL l];simp;omega
theorem vM:∀(l:List Oper) (acc:List Nat) (i:Nat),i<acc.length→(gm l acc)[i]?=acc[i]?
 | [],_,_,_=>rfl
 |o::l,acc,i,h=>by rw[gm,vM l _ i (by simp;omega),ob h]
theorem OK {l:List Oper}{i:Nat}{o:Oper}(h:l[i]?=some o):(gm l []).getD i 0=D6 (gm (l.take i) []) o:=by
 have a:=(ez.1 h).1
 have e:gm l []=gm (l.drop (i+1)) (gm (l.take i) []++ [D6 (gm (l.take i) []) o]):=by
  conv=>lhs;rw[←ql i l]
  rw[p8,List.drop_eq_getElem_cons a,gm];rw[bU a]at h;rw[Option.some.inj h]
 have b:(gm (l.take i) []).length=i:=by rw[vL,eR];simp;omega
 rw[e,aw,vM _ _ _ (by simp[b]),lZ (by omega),b,ff];rfl
theorem HO {l:List Oper}{i j:Nat}(h:j<i)(a:i≤l.length):(gm (l.take i) []).getD j 0=(gm l []).getD j 0:=by
 have e:gm l []=gm (l.drop i) (gm (l.take i) []):=by rw[←p8,ql]
 rw[e,aw,aw,vM (l.drop i) (gm (l.take i) []) j (by rw[vL,eR];simp;omega)]
def qX (l:List Oper)(m:Nat):Bool:=
 ((List.range l.length).all λi=>match l[i]? with
  |some o=>(o.after.all λe=>Nat.ble (e.on+1) i)&&(Nat.ble i m||o.after.any λe=>Region.binds .any e&&e.on==i-1)
  |none=>false)&&(Nat.ble l.length m||(gm l []).getD m 0==2^m-1)
theorem mZ {l:List Oper}{m i:Nat}{o:Oper}(h:qX l m=true)(a:l[i]?=some o):∀e∈o.after,e.on<i:=by
 have b:=(ez.1 a).1
 simp only[qX,Bool.and_eq_true]at h
 have h1:=eW.1 h.1 i (dq.2 b)
 simp only[a,Bool.and_eq_true]at h1
 intro e he;exact dR ((Array.all_eq_true_iff_forall_mem.1 h1.1) e he)
theorem zk {l:List Oper}{m i:Nat}{o:Oper}(h:qX l m=true)(c:l[i]?=some o)(hm:m<i):∃e∈o.after,Region.binds .any e=true∧e.on=i-1:=by
 have d:=(ez.1 c).1
 simp only[qX,Bool.and_eq_true]at h
 have h1:=eW.1 h.1 i (dq.2 d)
 simp only[c,Bool.and_eq_true,Bool.or_eq_true]at h1
 rcases h1.2 with a|a
 ·have:=dR a;omega
 ·obtain⟨e,he,b⟩:=Array.any_eq_true'.1 a
  simp only[Bool.and_eq_true,beq_iff_eq]at b
  exact⟨e,he,b.1,b.2⟩
def xK (l:List Oper)(listed:Array Bool):Prop:=∀i o,l[i]?=some o→listed.getD i false=true→∀e∈o.after,Region.binds .any e=true→listed.getD e.on false=true
theorem xK.all {l:List Oper}{m:Nat}{listed:Array Bool}(g:qX l m=true)(h:xK l listed):∀(i:Nat) (o:Oper),l[i]?=some o→(∀e∈o.after,Region.binds .any e=true→listed.getD e.on false=true)→∀j,((gm l []).getD i 0).testBit j=true→listed.getD j false=true:=by
 intro i
 induction i using Nat.strongRecOn with
 |ind i k=>
  intro o b n j c
  have q:=(ez.1 b).1
  rw[OK b]at c;obtain⟨e,he,p,h1⟩:=HM _ _ c
  have d:=mZ g b e he
  have f:=n e he p
  rcases h1 with rfl|h1
  ·exact f
  ·rw[HO d (by omega)]at h1
   have a:l[e.on]?=some l[e.on]:=bU (by omega)
   exact k e.on d _ a (h _ _ a f) j h1
theorem uS {l:List Oper}{m:Nat}(d:qX l m=true):∀(r:List Oper) (k:Nat) (listed:Array Bool) (a:Act) (w:World),m≤k→(∀j:Nat,r[j]?=l[k+j]?)→k+r.length=l.length→DY k listed l.length→
 wpList P l.toArray Q r a w→wpAny P .any l.toArray Q r.length listed a w
 | [],k,listed,a,w,_,_,c,hu,h=>by
  refine⟨?_,h⟩;unfold Region.ready;rw[List.filter_eq_nil_iff];intro i f
  have p:=dq.1 f
  simp only[List.size_toArray]at p
  have:listed.getD i true=true:=by rw[hu.getD i true p];simp at c;simp;omega
  simp[this]
 |o::r,k,listed,a,w,y,q,c,hu,h=>by
  have hk:k<l.length:=by simp at c;omega
  have s:l[k]?=some o:=by simpa using (q 0).symm
  have t:l.toArray[k]?=some o:=by simpa using s
  have G:listed.size=l.length:=hu.1
  refine⟨λz=> ?_,λi f=> ?_⟩
  ·have:k∈Region.ready .any l.toArray listed:=mem_ready.2 ⟨by rw[hu.getD k true hk];simp,o,t,λe he _=>by
    have:=mZ d s e he
    rw[hu.getD e.on false (by omega)];simp[this]⟩
   rw[z]at this;cases this
  ·obtain⟨u,A,v,B⟩:=mem_ready.1 f
   have C:i<l.length:=by have:=(wA.1 v).1;simpa using this
   have D:l[i]?=some A:=by simpa using v
   rw[hu.getD i true C]at u
   have H:k≤i:=by simpa using u
   have g:i=k:=by
    rcases eM k i with h1|h1
    ·obtain⟨e,he,E,n⟩:=zk d D (by omega)
     have x:=B e he E
     rw[n,hu.getD (i-1) _ (by omega)]at x
     simp at x;omega
    ·omega
   subst g
   have F:=uS d r (i+1) (listed.setIfInBounds i true)
   have b:∀a w,wpList P l.toArray Q r a w→wpAny P .any l.toArray Q r.length (listed.setIfInBounds i true) a w:=λa w h=>
    F a w (by omega) (λj=>by have:=q (j+1);simpa[Nat.add_assoc,Nat.add_comm 1 j]using this) (by simp at c⊢;omega) hu.set h
   unfold wpOp;rw[t]
   simp only[wpList]at h
   simp only
   split
   ·rename_i hw
    simp only[hw,if_true]at h
    exact h.imp (Oper.wp_mono b) id
   ·rename_i hw
    simp only[hw]at h
    exact b _ _ h
def Xok:Option (Nat×TypeId×Array Value)→Array Bool→(Nat→Value)→List ak→Prop
 |none,_,_,X=>X=[]
 |some (a,c,Z),listed,e,X=>(listed.getD a false=true∧∃b,e a= .pointer (some ⟨b,0,none⟩)∧X=[aW b (.cells Z c (0,0))])∨(listed.getD a false=false∧X=[])
structure GH (al:Option (Nat×TypeId×Array Value))(n:Nat)(F:Fr)(c:Ctx)(H:List ak)(bs:List uX)(listed:Array Bool)(a:Act)(w:World)(e:Nat→Value)(ρ:Ro)(X:List ak):Prop where
 has:Has n a F
 mem:eu c (H++X) ρ w
 xok:Xok al listed e X
 got:∀(i:Nat) (b:uX),bs[i]?=some b→listed.getD i false=true→a.tmps[b.slot]?=some (e i)∧(b.K (e i)).f ρ
theorem GH.use {al:Option (Nat×TypeId×Array Value)}{X:List ak}{bs:List uX}{listed:Array Bool}{a:Act}{w:World}{e:Nat→Value}{ρ:Ro}(h:GH al n F c H bs listed a w e ρ X)(ds:List Nat)(hd:∀j∈ds,j<bs.length∧listed.getD j false=true):
 Has n a (ui bs e ds++F)∧eu c (pe bs e ds++(H++X)) ρ w:=by
 have gd:∀j,j<bs.length→bs[j]?=some (bs.getD j default):=λj f=>by rw[aw,bU f];rfl
 constructor
 ·refine⟨h.has.size,h.has.defers,λt v b=> ?_⟩
  induction ds with
  |nil=>exact h.has.slot t v b
  |cons j ds m=>
   simp only[ui,List.map_cons,List.cons_append,look]at b
   cases g:Nat.beq t (bs.getD j default).slot with
   |true=>
    have i:=mh g
    simp only[g,cond_true,Option.some.injEq]at b
    subst b;obtain⟨h1,l⟩:=hd j (aP ..)
    rw[i];exact(h.got j _ (gd j h1) l).1
   |false=>
    simp only[g,cond_false]at b
    exact m (λk hk=>hd k (cN _ hk)) b
 ·have i:pe bs e ds=(ds.map λj=>(bs.getD j default).K (e j)).map aB:=by unfold pe;rw[kH];rfl
  rw[i]
  refine h.mem.AR _ λd o=> ?_
  obtain⟨j,f,rfl⟩:=cy.1 o;obtain⟨h1,l⟩:=hd j f;exact(h.got j _ (gd j h1) l).2
def YY (P:Program)(ops:Array Oper)(n:Nat)(bs:List uX):Option (Nat×TypeId×Array Value)→Prop
 |none=>True
 |some (a,b,Z)=>(∃d ty pos after,ops[a]?=some {dst:=some d,op:= .alloc b,type:=ty,pos:=pos,after:=after,guard:=none}∧Nat.ble (d+1) n=true)∧(P.info? b).bind (λi=>i.zero.map Value.cells)=some Z∧(bs.getD a default).K=(λu=>cT u u)
def alE (al:Option (Nat×TypeId×Array Value))(e:Nat→Value)(H:List ak)(h:List ak→Prop):Prop:=match al with
 |none=>h H
 |some (a,c,Z)=>∀b,e a= .pointer (some ⟨b,0,none⟩)→h (aW b (.cells Z c (0,0))::H)
theorem Ve {al:Option (Nat×TypeId×Array Value)}{bs:List uX}(hal:YY P ops n bs al){hd tl:List Oper}{lo:Nat}{ex:List Nat}{sd:List (Nat×List Nat)}(hsd:bs.map (λb=>(b.slot,b.gg))=sd)(hlo:F.all (λp=>Nat.ble (p.1+1) lo&& !(ex.contains p.1))=true)(W:ops=(hd++tl).toArray)(S:qX (hd++tl) hd.length=true)(J:MO n lo ex sd hd=true)(hH:ab P ops Q n F c.dr H bs bs hd)(T8:List Nat)(Uj:T8.all (λj=>Nat.ble (j+1) sd.length)=true)
 (hia:∀z r Z,al=some (z,r,Z)→z<hd.length)
 (ac4:∀e,alE al e H λH'=>St n (ui bs e T8++F) (Mm c (pe bs e T8++H')) (wpList P ops Q tl)):
 ∀(f:Nat) (listed:Array Bool) (a:Act) (w:World) (e:Nat→Value) (ρ:Ro) (X:List ak),listed.size=ops.size→xK (hd++tl) listed→(∀j,hd.length≤j→j<ops.size→listed[j]?=some false)→Ql hd.length listed=f→
  GH al n F c H bs listed a w e ρ X→wpAny P .any ops Q (f+tl.length) listed a w:=by
 obtain⟨hlen,S9⟩:=hH.at_
 have SQ:ops.size=hd.length+tl.length:=by rw[W];simp
 have ajZ:∀i,i<hd.length→ops[i]?=hd[i]?:=λi hi=>by rw[W];simp[List.getElem?_append_left hi]
 subst hsd
 simp only[MO,Bool.and_eq_true,decide_eq_true_eq]at J
 obtain⟨Iz,Di⟩:=J;rw[kH]at Di
 change (bs.map (·.slot)).Nodup at Di
 rw[aN]at Uj
 have Iz:=eW.1 Iz
 have each:∀(i:Nat) (b:uX) (o:Oper),bs[i]?=some b→hd[i]?=some o→o.guard=none∧o.dst=some b.slot∧b.slot<n∧b.slot∉F.map (·.1)∧∀j∈b.gg,j<bs.length∧∃ed∈o.after,Region.binds .any ed=true∧ed.on=j:=by
  intro i b o T Y
  have h1:=Iz ((b.slot,b.gg),o) (ae (i:=i) (by rw[List.getElem?_zip_eq_some];exact⟨by rw[bQ,T];rfl,Y⟩))
  simp only[Bool.and_eq_true,Option.isNone_iff_eq_none,beq_iff_eq,Bool.not_eq_true']at h1
  obtain⟨⟨⟨⟨h1,B⟩,l⟩,h4⟩,h5⟩:=h1
  refine⟨h1,B,dR l,λhm=>(by
   obtain⟨p,hp,he⟩:=cy.1 hm
   have q0:=eW.1 hlo p hp
   simp only[Bool.and_eq_true,Bool.not_eq_true']at q0
   have q1:=dR q0.1
   have q3:p.1=b.slot:=he
   rcases Bool.or_eq_true _ _|>.mp h4 with U|U
   ·have U:=dR U
    omega
   ·rw[q3]at q0;rw[U]at q0;cases q0.2),λj g=> ?_⟩
  have h6:=eW.1 h5 j g
  simp only[Bool.and_eq_true]at h6
  obtain⟨ed,s,Lu⟩:=Array.any_eq_true'.1 h6.2
  simp only[Bool.and_eq_true,beq_iff_eq]at Lu
  exact⟨by have:=dR h6.1;rwa[aN]at this,ed,s,Lu.1,Lu.2⟩
 intro f
 induction f with
 |zero=>
  intro listed a w e ρ X hs NV htl hu m
  have all:∀j,j<hd.length→listed[j]?=some true:=λj g=>by
   have h1:¬0<Ql hd.length listed:=by omega
   unfold Ql at h1;rw[List.countP_pos_iff]at h1
   have C:j<listed.size:=by omega
   cases hv:listed[j]? with
   |none=>rw[Array.getElem?_eq_none_iff]at hv;omega
   |some b=>
    cases b with
    |true=>rfl
    |false=>exact absurd ⟨j,dq.2 g,by rw[pw,hv];rfl⟩ h1
  have hup:DY hd.length listed ops.size:=⟨hs,λj g=>by
   rcases eM j hd.length with h|h
   ·rw[all j h];simp[h]
   ·rw[htl j h g];simp[Nat.not_lt.2 h]⟩
  rw[jG];rw[W]at hup⊢;refine uS S tl hd.length listed a w (aR _) (λj=>by simp[List.getElem?_append_right]) (by simp) (by simpa using hup) ?_;rw[←W]
  obtain⟨h1,B⟩:=m.use T8 λj g=>by
   have l:=dR (eW.1 Uj j g)
   exact⟨l,by rw[pw,all j (by omega)];rfl⟩
  have ht:=ac4 e
  have hx:=m.xok
  cases al with
  |none=>
   have hx:X=[]:=hx
   subst hx;exact ht a w h1 (Mm.mk (by rw[gq]at B;exact B))
  |some q=>
   obtain⟨z,r,Z⟩:=q
   have hl:listed.getD z false=true:=by rw[pw,all z (hia z r Z rfl)];rfl
   rcases hx with⟨_,b,J,rfl⟩|⟨J,_⟩
   ·exact ht b J a w h1 (Mm.mk (B.perm (G5 _ (jX (l₁:=H) (l₂:=[aW b (.cells Z r (0,0))])))))
   ·rw[hl]at J;cases J
 |succ f ih=>
  intro listed a w e ρ X hs NV htl hu m
  have hex:∃j,j<hd.length∧listed.getD j true=false:=by
   have h1:0<Ql hd.length listed:=by omega
   unfold Ql at h1;rw[List.countP_pos_iff]at h1;obtain⟨j,g,h⟩:=h1;exact⟨j,dq.1 g,by simpa using h⟩
  rw[show f+1+tl.length=(f+tl.length)+1 by omega];refine⟨λh0=> ?_,λi hi=> ?_⟩
  ·obtain⟨j,g,y⟩:=hex
   exact absurd h0 (AW hs (λi o Y=>mZ S (by rw[W]at Y;simpa using Y)) ⟨j,by omega,y⟩)
  ·obtain⟨hif,o,D,Kj⟩:=mem_ready.1 hi
   have hiN:i<ops.size:=(wA.1 D).1
   have him:i<hd.length:=by
    rcases eM i hd.length with h|h
    ·exact h
    ·obtain⟨j,g,y⟩:=hex
     exfalso
     have SJ:(hd++tl)[i]?=some o:=by rw[W]at D;simpa using D
     rcases eM hd.length i with B|B
     ·obtain⟨ed,s,Lu,he3⟩:=zk S SJ B
      have h1:=Kj ed s Lu
      rw[he3]at h1
      have l:=htl (i-1) (by omega) (by omega)
      rw[pw,l]at h1
      cases h1
     ·obtain rfl:i=hd.length:=by omega
      have NX:(gm (hd++tl) []).getD hd.length 0=2^hd.length-1:=by
       simp only[qX,Bool.and_eq_true,Bool.or_eq_true]at S
       rcases S.2 with l|l
       ·have:=dR l
        have C:=(ez.1 SJ).1
        omega
       ·simpa using l
      have h1:=NV.all S _ o SJ (λed s Lu=>by
       have l:=Kj ed s Lu
       have C:=mZ S SJ ed s
       rw[pw,Dc (show ed.on<listed.size by omega)]at l⊢
       simpa using l) j (by rw[NX,Nat.testBit_two_pow_sub_one];simpa using g)
      have C:j<listed.size:=by omega
      rw[pw,Dc C]at h1 y
      simp at h1 y
      rw[h1]at y;cases y
   have hho:hd[i]?=some o:=by rw[←ajZ i him];exact D
   have T:bs[i]?=some (bs[i]'(by omega)):=bU (by omega)
   generalize bs[i]'(by omega)=b at T
   obtain⟨g1,g2,g3,g4,g5⟩:=each i b o T hho
   have hop:=S9 i b o T hho
   obtain⟨u1,u2⟩:=m.use b.gg λj g=>by
    obtain⟨q1,ed,U,q3,q4⟩:=g5 j g;refine⟨q1,?_⟩
    have h1:=Kj ed U q3
    rw[q4]at h1
    have C:j<listed.size:=by omega
    rw[pw,Dc C]at h1⊢
    simpa using h1
   have C:i<listed.size:=by omega
   have abU:Ql hd.length (listed.setIfInBounds i true)=f:=by
    have h1:=Gj (p:=λj=> !listed.getD j true) (q:=λj=> !(listed.setIfInBounds i true).getD j true) (i:=i) (by simp[hif]) (by simp[Array.getD_eq_getD_getElem?,C]) (λj g=>by
     simp only[Array.getD_eq_getD_getElem?,Array.getElem?_setIfInBounds];rw[aA (Ne.symm g)]) hd.length him
    unfold Ql at hu⊢;omega
   have ac5:∀j,hd.length≤j→j<ops.size→(listed.setIfInBounds i true)[j]?=some false:=λj g hjN=>by
    rw[QU,aA (by omega)];exact htl j g hjN
   have other:∀j,j≠i→(listed.setIfInBounds i true).getD j false=listed.getD j false:=λj g=>by
    rw[pw,pw,QU,aA (Ne.symm g)]
   have abT:xK (hd++tl) (listed.setIfInBounds i true):=λj oj g E ed he J=>by
    have N:ed.on≠i→(listed.setIfInBounds i true).getD ed.on false=listed.getD ed.on false:=λh=>other _ h
    have acY:(listed.setIfInBounds i true).getD i false=true:=by rw[pw,QU,aC rfl,aC C];rfl
    by_cases L:ed.on=i
    ·rw[L];exact acY
    ·rw[N L]
     by_cases e2:j=i
     ·subst e2
      have:oj=o:=by
       have q:(hd++tl)[j]?=some o:=by rw[W]at D;simpa using D
       rw[q]at g;exact(Option.some.inj g).symm
      subst this
      have l:=Kj ed he J
      have anG:=mZ S g ed he
      rw[pw,Dc (show ed.on<listed.size by omega)]at l⊢
      simpa using l
     ·rw[other _ e2]at E
      exact NV j oj g E ed he J
   have abQ:∀v,Has n (a.put (some b.slot) v) F:=λv=>by
    refine⟨by simp[Act.put,m.has.size],by simp[Act.put,m.has.defers],λt x hx=> ?_⟩
    have N:b.slot≠t:=λh=>g4 (h▸Ee hx)
    simp[Act.put,N,m.has.slot t x hx]
   have Zz:∀(v:Value) (jo:Ro),Ro.le ρ jo→(b.K v).f jo→∀(j:Nat) (V:uX),bs[j]?=some V→(listed.setIfInBounds i true).getD j false=true→
    (a.put (some b.slot) v).tmps[V.slot]?=some (if j=i then v else e j)∧(V.K (if j=i then v else e j)).f jo:=λv jo hle hKv j V O E=>by
    by_cases L:j=i
    ·subst L
     rw[T]at O;cases O
     have hsl:b.slot<a.tmps.size:=by rw[m.has.size];exact g3
     refine⟨by rw[aC rfl];simp[Act.put,hsl],by rw[aC rfl];exact hKv⟩
    ·rw[aA L]
     rw[other j L]at E;obtain⟨k1,k2⟩:=m.got j V O E;refine⟨?_,(V.K (e j)).mono ρ jo hle k2⟩
     have N:b.slot≠V.slot:=λh=>by
      have q1:(bs.map (·.slot))[i]?=some b.slot:=by rw[bQ,T];rfl
      have U:(bs.map (·.slot))[j]?=some V.slot:=by rw[bQ,O];rfl
      have:=(List.getElem?_inj (i:=i) (j:=j) (by rw[aN];omega) Di).1 (by rw[q1,U,h])
      exact L this.symm
     simp[Act.put,N,k1]
   have r0:eu ⟨w,ρ,jn H,c.dr⟩ H ρ w:=(m.mem.left).TI
   by_cases abO:∃r Z,al=some (i,r,Z)
   ·obtain⟨r,Z,rfl⟩:=abO
    obtain⟨⟨d0,ty0,alJ,af0,ab6,hd0⟩,hz,hK⟩:=hal;rw[D]at ab6
    have Y:o={dst:=some d0,op:= .alloc r,type:=ty0,pos:=alJ,after:=af0,guard:=none}:=Option.some.inj ab6
    have hd1:d0=b.slot:=by rw[Y]at g2;exact Option.some.inj g2
    have hX0:X=[]:=by
     rcases m.xok with⟨hx,_⟩|⟨_,hx⟩
     ·rw[pw,Dc C]at hif hx
      simp at hif hx
      rw[hif]at hx;cases hx
     ·exact hx
    subst hX0
    have k1:wpOp P ops Q i (λa' w'=>a'.defers=[]∧∃G,a'.tmps[b.slot]?=some (.pointer (some ⟨G,0,none⟩))∧Mm ⟨w,ρ,jn H,c.dr⟩ (aW G (.cells Z r (0,0))::H) w') a w:=by
     refine St.one (n:=n) (F:=F) (A:=Mm ⟨w,ρ,jn H,c.dr⟩ H) D ?_ a w m.has (Mm.mk r0);rw[Y];refine St.alloc hz hd0 (λG=>St.nil (St.wS λa' w' ha' hw'=>⟨ha'.defers,G,?_,hw'⟩));rw[←hd1];exact ha'.slot _ _ (by simp[look])
    refine wpOp_mono (λa' w' hk=> ?_) (Bw D g1 k1);obtain⟨⟨hdf,G,I,M⟩,Ks⟩:=hk
    rcases Ks with⟨v,rfl⟩|WM
    ·obtain⟨jo,M⟩:=M.out
     have Nn:eu c (H++ [aW G (.cells Z r (0,0))]) jo w':=by
      have:=eu.step (R:=[]) m.mem M
      rw[gq]at this;exact this.perm (jX (l₁:=[aW G (.cells Z r (0,0))]) (l₂:=H))
     rw[g2]at I⊢
     have huv:v= .pointer (some ⟨G,0,none⟩):=by
      have:b.slot<a.tmps.size:=by rw[m.has.size];exact g3
      simpa[Act.put,this]using I
     have hKb:b.K=λu=>cT u u:=by
      have:bs.getD i default=b:=by rw[aw,T];rfl
      rw[←this];exact hK
     refine ih (listed.setIfInBounds i true) _ w' (λk=>if k=i then v else e k) jo _ (by simp[hs]) abT ac5 abU ⟨abQ v,Nn,.inl ⟨?_,G,?_,rfl⟩,Zz v jo M.le ?_⟩
     ·rw[pw,QU,aC rfl,aC C];rfl
     ·show(if i=i then v else e i)=_
      rw[aC rfl];exact huv
     ·rw[hKb];exact rfl
    ·exact absurd hdf WM
   ·have k1:=St.one (i:=i) D (hop ⟨w,ρ,jn H,c.dr⟩ e (λh=>h)) a w u1 (Mm.mk (by
     have L:pe bs e b.gg=(b.gg.map λj=>(bs.getD j default).K (e j)).map aB:=by unfold pe;rw[kH];rfl
     rw[L]
     refine r0.AR _ λd hd'=> ?_
     have:=u2.dM (aB d) (kW _ (by rw[L];exact eN hd'))
     exact dB.1 this))
    refine wpOp_mono (λa' w' hk=> ?_) (Bw D g1 k1);obtain⟨⟨hdf,u,I,M⟩,Ks⟩:=hk
    rcases Ks with⟨v,rfl⟩|WM
    ·obtain⟨jo,M⟩:=M.out
     have hKu:(b.K u).f jo:=dB.1 (M.dM _ (aP ..))
     have Nn:eu c (H++X) jo w':=eu.step m.mem M.drop
     rw[g2]at I⊢
     have huv:v=u:=by
      have:b.slot<a.tmps.size:=by rw[m.has.size];exact g3
      simpa[Act.put,this]using I
     subst huv;refine ih (listed.setIfInBounds i true) _ w' (λk=>if k=i then v else e k) jo X (by simp[hs]) abT ac5 abU ⟨abQ v,Nn,?_,Zz v jo M.le hKu⟩
     have hx:=m.xok
     cases al with
     |none=>exact hx
     |some q=>
      obtain⟨z,r,Z⟩:=q
      have N:z≠i:=λh=>abO ⟨r,Z,by rw[h]⟩
      rcases hx with⟨h1,G,B,l⟩|⟨h1,B⟩
      ·refine .inl ⟨by rw[other z N];exact h1,G,?_,l⟩
       show(if z=i then v else e z)=_
       rw[aA N];exact B
      ·exact .inr ⟨by rw[other z N];exact h1,B⟩
    ·exact absurd hdf WM
theorem St.Yx {id:Nat}(al:Option (Nat×TypeId×Array Value))(m k:Nat)(ex:List Nat){l:List Oper}(bs:List uX)(g:List (Nat×List Nat))(f:List Nat)(t:YY P l.toArray n bs al)(u:∀o v Z,al=some (o,v,Z)→o<(l.take m).length)(x:bs.map (λb=>(b.slot,b.gg))=g)(y:F.all (λp=>Nat.ble (p.1+1) k&& !(ex.contains p.1))=true)(hm:P.follows .mixedOrders=true)(z:qX l (l.take m).length=true)(A:MO n k ex g (l.take m)=true)(B:f.all (λj=>Nat.ble (j+1) g.length)=true)
 (hH:ab P l.toArray Q n F c.dr H bs bs (l.take m)) (C:∀e,alE al e H λH'=>St n (ui bs e f++F) (Mm c (pe bs e f++H')) (wpList P l.toArray Q (l.drop m))):
 St n F (Mm c H) ((Code.region id l.toArray true).wp P Q):=by
 intro a w D hw;refine wp_region_any hm ?_
 have E:=(Mm.drawn c H) w hw
 obtain⟨ρ,G⟩:=E.out
 have hlen:l.length=(l.take m).length+(l.drop m).length:=by rw[←bN,ql]
 have no:∀i,(Array.replicate l.length false).getD i false=false:=λi=>by
  rw[pw,Array.getElem?_replicate];split<;>rfl
 have r:=Ve (ops:=l.toArray) (hd:=l.take m) (tl:=l.drop m) t x y (by rw[ql]) (by rw[ql];exact z) A hH f B u C (Ql (l.take m).length (Array.replicate l.length false)) (Array.replicate l.length false) a {w with drawn:=w.drawn+1} (λ_=>undef) ρ [] (by simp) (λi _ _ d=>by rw[no]at d;cases d) (λj s h=>by
  rw[Array.getElem?_replicate,aC (by simpa using h)]) rfl ⟨D,by rw[List.append_nil];exact G,by
   cases al with
   |none=>exact rfl
   |some q=>exact .inr ⟨no _,rfl⟩,λi b _ d=>by rw[no]at d;cases d⟩
 have hu:Ql (l.take m).length (Array.replicate l.length false)=(l.take m).length:=by
  unfold Ql;rw[List.countP_eq_length.2,jV];intro j s
  have:=dq.1 s
  rw[pw,Array.getElem?_replicate,aC (by omega)];rfl
 rw[hu,←hlen]at r
 simpa using r
theorem St.CO {T:Act→World→Prop}{a b d e f:ak}(h:St n F (Mm c (a::b::d::e::f::R)) T):St n F (Mm c ([a,b,d,e,f]++R)) T:=h
theorem St.R3 {T:Act→World→Prop}{a b d e f g:ak}(h:St n F (Mm c (a::b::d::e::f::g::R)) T):St n F (Mm c ([a,b,d,e,f,g]++R)) T:=h
theorem St.U4 {id:Nat}(m f:Nat)(ex:List Nat){l:List Oper}(bs:List uX)(a:List (Nat×List Nat))(d:List Nat)(k:bs.map (λb=>(b.slot,b.gg))=a)(o:F.all (λp=>Nat.ble (p.1+1) f&& !(ex.contains p.1))=true)(hm:P.follows .mixedOrders=true)(q:qX l (l.take m).length=true)(r:MO n f ex a (l.take m)=true)(s:d.all (λj=>Nat.ble (j+1) a.length)=true)
 (g:(Nat→Value)→Fr) (i:(Nat→Value)→List ak) (t1:∀e,ui bs e d=g e) (t2:∀e,pe bs e d=i e)
 (hH:ab P l.toArray Q n F c.dr H bs bs (l.take m)) (t:∀e,St n (g e++F) (Mm c (i e++H)) (wpList P l.toArray Q (l.drop m))):
 St n F (Mm c H) ((Code.region id l.toArray true).wp P Q):=St.Yx none m f ex bs a d trivial (λ_ _ _ h=>by cases h) k o hm q r s hH (λe=>by show St _ _ _ _;rw[t1,t2];exact t e)
theorem St.agZ {id:Nat}(a:Nat){f:TypeId}{Z:Array Value}{d0 r:Nat}{s:String}{d:Array Edge}(m o:Nat)(ex:List Nat){l:List Oper}(bs:List uX)(g:List (Nat×List Nat))(k:List Nat)
 (w:l.toArray[a]?=some {dst:=some d0,op:= .alloc f,type:=r,pos:=s,after:=d,guard:=none}) (x:Nat.ble (d0+1) n=true) (hz:(P.info? f).bind (λi=>i.zero.map Value.cells)=some Z) (y:(bs.getD a default).K=(λu=>cT u u)) (z:Nat.ble (a+1) (l.take m).length=true)
 (A:bs.map (λb=>(b.slot,b.gg))=g) (B:F.all (λp=>Nat.ble (p.1+1) o&& !(ex.contains p.1))=true) (hm:P.follows .mixedOrders=true) (C:qX l (l.take m).length=true) (q:MO n o ex g (l.take m)=true) (D:k.all (λj=>Nat.ble (j+1) g.length)=true)
 (t:(Nat→Value)→Fr) (v:(Nat→Value)→List ak) (t1:∀e,ui bs e k=t e) (t2:∀e,pe bs e k=v e)
 (hH:ab P l.toArray Q n F c.dr H bs bs (l.take m)) (E:∀e b,e a= .pointer (some ⟨b,0,none⟩)→St n (t e++F) (Mm c (v e++(aW b (.cells Z f (0,0))::H))) (wpList P l.toArray Q (l.drop m))):
 St n F (Mm c H) ((Code.region id l.toArray true).wp P Q):=
 St.Yx (some (a,f,Z)) m o ex bs g k ⟨⟨d0,r,s,d,w,x⟩,hz,y⟩ (λi _ _ h=>by cases h;exact dR z) A B hm C q D hH (λe b q=>by rw[t1,t2];exact E e b q)
end
end Go.J
namespace Go.J
open Go Go.Proofs.YtblifkgpebebmaaGreatDoor
abbrev aU (x:fa):Value:= .agg #[sv x.base,x.av.1]
abbrev cM (x:dg):Value:= .agg #[iv x.kind,sv x.name,iv x.index,sv x.type.base,x.type.av.1,x.av.1]
abbrev uM (x:dE):Value:= .agg #[iv x.rule,iv x.lex,x.kv.1]
abbrev bA (x:dD):Value:= .agg #[x.nv.1]
abbrev rm (x:cZ):Value:= .agg #[sv x.name,x.graph.nv.1,iv x.kids,iv x.weight,iv x.er.kind,sv x.er.name,iv x.er.index,sv x.er.type.base,x.er.type.av.1,x.er.av.1]
abbrev ad9 (x:eX):Value:= .agg #[sv x.word,x.graph.nv.1,iv x.weight,iv x.er.kind,sv x.er.name,iv x.er.index,sv x.er.type.base,x.er.type.av.1,x.er.av.1]
abbrev fV (g:gb):Value:= .agg #[g.tv.1,g.fv.1,g.rv.1,g.xv.1,g.start.nv.1]
def dZ (s:ij)(u:Value):du:=⟨λρ=>∃x:fa,u=aU x∧dc x=s∧kL.wf x∧rY ρ x,λ_ _ h ⟨x,a,b,c,d⟩=>⟨x,a,b,c,d.mono h⟩⟩
def isTerm (t:jK)(u:Value):du:=⟨λρ=>∃x:dg,u=cM x∧dH x=t∧dI.wf x∧oq ρ x,λ_ _ h ⟨x,a,b,c,d⟩=>⟨x,a,b,c,d.mono h⟩⟩
def bK (g:dz)(u:Value):du:=⟨λρ=>∃x:dD,u=bA x∧ay x=g∧(aG x).f ρ,λ_ _ h ⟨x,a,b,c⟩=>⟨x,a,b,(aG x).mono _ _ h c⟩⟩
def fC (r:sg)(u:Value):du:=⟨λρ=>∃x:cZ,u=rm x∧lI x=r∧cS.wf x∧(bx x).f ρ,λ_ _ h ⟨x,a,b,c,d⟩=>⟨x,a,b,c,(bx x).mono _ _ h d⟩⟩
def wK (g:gB)(u:Value):du:=⟨λρ=>∃x:gb,u=fV x∧ca x=g∧(fB x).f ρ,λ_ _ h ⟨x,a,b,c⟩=>⟨x,a,b,(fB x).mono _ _ h c⟩⟩
def lq (ts:List jK)(u:Value):du:=⟨λρ=>u.oneCell'=true∧∃xs:List dg,xs.map dH=ts∧(sl dI u xs).f ρ∧(aF cm xs).f ρ,λ_ _ h ⟨a,xs,b,c,d⟩=>⟨a,xs,b,(sl _ _ _).mono _ _ h c,(aF _ _).mono _ _ h d⟩⟩
def p5 (rs:List sg)(u:Value):du:=⟨λρ=>u.oneCell'=true∧∃xs:List cZ,xs.map lI=rs∧(sl cS u xs).f ρ∧(aF bx xs).f ρ,λ_ _ h ⟨a,xs,b,c,d⟩=>⟨a,xs,b,(sl _ _ _).mono _ _ h c,(aF _ _).mono _ _ h d⟩⟩
def fW {α:Type}(R:Rp α)(xs:List α)(u:Value):du:=⟨λρ=>u.oneCell'=true∧(sl R u xs).f ρ,λ_ _ h ⟨a,b⟩=>⟨a,(sl _ _ _).mono _ _ h b⟩⟩
def fS {α:Type}(R:Rp α)(xs:List (List α))(u:Value):du:=⟨λρ=>u.oneCell'=true∧(pT R u xs).f ρ,λ_ _ h ⟨a,b⟩=>⟨a,(pT _ _ _).mono _ _ h b⟩⟩
section
variable {n:Nat}{F:Fr}{c:Ctx}{H R:List ak}{T:Act→World→Prop}
theorem St.bX {P:Program}(k:Nat)(u v:Value)[hd:lQ (cT u v) H](hk:look F k=some u)(h:St n ((k,v)::F) (Mm c H) T):St n F (Mm c H) T:=by
 intro a w b hw;obtain⟨ρ,hm⟩:=hw.out
 have e:u=v:=dB.1 (hm.dM _ hd.mem)
 subst e;refine h a w ⟨b.size,b.defers,λt x hx=> ?_⟩ hw
 simp only[look]at hx
 cases d:Nat.beq t k with
 |true=>
  rw[mh d]
  simp only[d,cond_true,Option.some.injEq]at hx
  subst hx;exact b.slot _ _ hk
 |false=>simp only[d,cond_false]at hx;exact b.slot _ _ hx
theorem St.u7 {ι:Sort _}(d:du)[hd:lQ d H](p:ι→Prop)(L:ι→List du)(h:∀ρ,d.f ρ→∃x,p x∧∀e∈L x,e.f ρ)(k:∀x,p x→St n F (Mm c ((L x).map aB++H)) T):St n F (Mm c H) T:=by
 intro a w b hw;obtain⟨ρ,hm⟩:=hw.out;obtain⟨x,hp,hx⟩:=h ρ (dB.1 (hm.dM _ hd.mem));exact k x hp a w b (Mm.mk (hm.AR (L x) hx))
theorem St.dZ (s:ij)(u:Value)[hd:lQ (J.dZ s u) H](k:∀x:fa,u=aU x∧dc x=s∧kL.wf x→St n F (Mm c (aB (eo x)::H)) T):St n F (Mm c H) T:=
 St.u7 (J.dZ s u) _ (λx=>[eo x]) (λρ ⟨x,a,b,c,d⟩=>⟨x,⟨a,b,c⟩,λe he=>by rw[bO.1 he];exact d⟩) k
theorem St.isTerm (t:jK)(u:Value)[hd:lQ (J.isTerm t u) H](k:∀x:dg,u=cM x∧dH x=t∧dI.wf x→St n F (Mm c (aB (cm x)::H)) T):St n F (Mm c H) T:=
 St.u7 (J.isTerm t u) _ (λx=>[cm x]) (λρ ⟨x,a,b,c,d⟩=>⟨x,⟨a,b,c⟩,λe he=>by rw[bO.1 he];exact d⟩) k
theorem St.bK (g:dz)(u:Value)[hd:lQ (J.bK g u) H](k:∀x:dD,u=bA x∧ay x=g→St n F (Mm c (aB (aG x)::H)) T):St n F (Mm c H) T:=
 St.u7 (J.bK g u) _ (λx=>[aG x]) (λρ ⟨x,a,b,c⟩=>⟨x,⟨a,b⟩,λe he=>by rw[bO.1 he];exact c⟩) k
theorem St.fC (r:sg)(u:Value)[hd:lQ (J.fC r u) H](k:∀x:cZ,u=rm x∧lI x=r∧cS.wf x→St n F (Mm c (aB (bx x)::H)) T):St n F (Mm c H) T:=
 St.u7 (J.fC r u) _ (λx=>[bx x]) (λρ ⟨x,a,b,c,d⟩=>⟨x,⟨a,b,c⟩,λe he=>by rw[bO.1 he];exact d⟩) k
theorem St.wK (g:gB)(u:Value)[hd:lQ (J.wK g u) H](k:∀x:gb,u=fV x∧ca x=g→St n F (Mm c (aB (fB x)::H)) T):St n F (Mm c H) T:=
 St.u7 (J.wK g u) _ (λx=>[fB x]) (λρ ⟨x,a,b,c⟩=>⟨x,⟨a,b⟩,λe he=>by rw[bO.1 he];exact c⟩) k
theorem St.lq (ts:List jK)(u:Value)[hd:lQ (J.lq ts u) H](k:∀xs:List dg,u.oneCell'=true∧xs.map dH=ts→St n F (Mm c (aB (sl dI u xs)::aB (aF cm xs)::H)) T):St n F (Mm c H) T:=
 St.u7 (J.lq ts u) _ (λxs=>[sl dI u xs,aF cm xs]) (λρ ⟨a,xs,b,c,d⟩=>⟨xs,⟨a,b⟩,λe he=>by
  simp only[List.mem_cons,List.not_mem_nil,or_false]at he
  rcases he with rfl|rfl
  ·exact c
  ·exact d⟩) k
theorem St.p5 (ts:List sg)(u:Value)[hd:lQ (J.p5 ts u) H](k:∀xs:List cZ,u.oneCell'=true∧xs.map lI=ts→St n F (Mm c (aB (sl cS u xs)::aB (aF bx xs)::H)) T):St n F (Mm c H) T:=
 St.u7 (J.p5 ts u) _ (λxs=>[sl cS u xs,aF bx xs]) (λρ ⟨a,xs,b,c,d⟩=>⟨xs,⟨a,b⟩,λe he=>by
  simp only[List.mem_cons,List.not_mem_nil,or_false]at he
  rcases he with rfl|rfl
  ·exact c
  ·exact d⟩) k
theorem St.fW {α:Type}(Rr:Rp α)(xs:List α)(u:Value)[hd:lQ (J.fW Rr xs u) H](k:u.oneCell'=true→St n F (Mm c (aB (sl Rr u xs)::H)) T):St n F (Mm c H) T:=
 St.u7 (ι:=Unit) (J.fW Rr xs u) (λ_=>u.oneCell'=true) (λ_=>[sl Rr u xs]) (λρ ⟨a,b⟩=>⟨(),a,λe he=>by rw[bO.1 he];exact b⟩) λ_=>k
theorem St.fS {α:Type}(Rr:Rp α)(xs:List (List α))(u:Value)[hd:lQ (J.fS Rr xs u) H](k:u.oneCell'=true→St n F (Mm c (aB (pT Rr u xs)::H)) T):St n F (Mm c H) T:=
 St.u7 (ι:=Unit) (J.fS Rr xs u) (λ_=>u.oneCell'=true) (λ_=>[pT Rr u xs]) (λρ ⟨a,b⟩=>⟨(),a,λe he=>by rw[bO.1 he];exact b⟩) λ_=>k
theorem St.tn (b:bB)(u:Value)(hu:u.oneCell'=true)(l:List fa)[h1:lQ (sl kL u l) H][a:lQ (aF eo l) H](k:St n F (Mm c (aB (eo (.mk b ⟨u,hu⟩ l))::H)) T):St n F (Mm c H) T:=
 St.eY (eo (.mk b ⟨u,hu⟩ l)) [sl kL u l,aF eo l] (λρ h=> .mk (h _ (aP ..)) (h _ (cN _ (aP ..)))) k
theorem St.D8 (kd:Int)(nm:bB)(i:Int)(s:fa)(u:Value)(hu:u.oneCell'=true)(l:List dg)[a:lQ (eo s) H][h1:lQ (sl dI u l) H][b:lQ (aF cm l) H](k:St n F (Mm c (aB (cm (.mk kd nm i s ⟨u,hu⟩ l))::H)) T):St n F (Mm c H) T:=
 St.eY (cm (.mk kd nm i s ⟨u,hu⟩ l)) [eo s,sl dI u l,aF cm l] (λρ h=> .mk (h (eo s) (by simp)) (h (sl dI u l) (by simp)) (h (aF cm l) (by simp))) k
theorem St.V9 (x:fa){s:ij}(u:Value)(hu:u=aU x)(a:dc x=s)(hw:kL.wf x)[hd:lQ (eo x) H](k:St n F (Mm c (aB (J.dZ s u)::H)) T):St n F (Mm c H) T:=
 St.eY (J.dZ s u) [eo x] (λρ h=>⟨x,hu,a,hw,h _ (aP ..)⟩) k
theorem St.toTerm (x:dg){s:jK}(u:Value)(hu:u=cM x)(a:dH x=s)(hw:dI.wf x)[hd:lQ (cm x) H](k:St n F (Mm c (aB (J.isTerm s u)::H)) T):St n F (Mm c H) T:=
 St.eY (J.isTerm s u) [cm x] (λρ h=>⟨x,hu,a,hw,h _ (aP ..)⟩) k
theorem St.Tf (x:dD){g:dz}(u:Value)(hu:u=bA x)(a:ay x=g)[hd:lQ (aG x) H](k:St n F (Mm c (aB (J.bK g u)::H)) T):St n F (Mm c H) T:=
 St.eY (J.bK g u) [aG x] (λρ h=>⟨x,hu,a,h _ (aP ..)⟩) k
theorem St.Xp {α:Type}{Rr:Rp α}{xs:List α}(u:Value)(hu:u.oneCell'=true)[hd:lQ (sl Rr u xs) H](k:St n F (Mm c (aB (J.fW Rr xs u)::H)) T):St n F (Mm c H) T:=
 St.eY (J.fW Rr xs u) [sl Rr u xs] (λρ h=>⟨hu,h _ (aP ..)⟩) k
theorem St.amS {α:Type}{Rr:Rp α}{xs:List (List α)}(u:Value)(hu:u.oneCell'=true)[hd:lQ (pT Rr u xs) H](k:St n F (Mm c (aB (J.fS Rr xs u)::H)) T):St n F (Mm c H) T:=
 St.eY (J.fS Rr xs u) [pT Rr u xs] (λρ h=>⟨hu,h _ (aP ..)⟩) k
end
abbrev bT:aV:=⟨.slice none 0 0,rfl⟩
end Go.J
namespace Go.J
open Go Go.ChangeShapes Go.WideShapes Go.ChangeAt Go.RowKit Go.Deep Go.Proofs.YtblifkgpebebmaaGreatDoor
section
variable {H:Type}{enc:TypeId×Value→H}{P:Program}{W:World}{α:Type}
abbrev Tr (enc:TypeId×Value→H)(P:Program)(W:World)(n:Nat)(t:TypeId)(cs:List Value)(y:DataW H×List MemPlace):Prop:=DataW.trod enc P W 0 (λ_=>true) true n t cs=some y
theorem IG {t:TypeId}{a:Array Field}{ps:List (DataW H)}(ht:P.underlying t=some (.struct a))(h:n9 ((DataW.agg ps).weights P t)=true):n9 (DataW.weightsEach P (a.toList.map (·.type)) ps)=true:=by
 simpa only[DataW.weights,ht]using h
theorem gp {t:TypeId}{a:Array Field}{n:Nat}{cs:List Value}{y:DataW H×List MemPlace}(ht:P.underlying t=some (.struct a))(h:Tr enc P W n t cs y)(hw:n9 (y.1.weights P t)=true):
 ∃m,n=m+1∧∀(i:Nat) (f:Field),a[i]?=some f→∃z,Tr enc P W m f.type ((cs.drop f.offset).take (P.cellsOf f.type)) z∧n9 (z.1.weights P f.type)=true:=by
 obtain⟨xs,m,e,hy,_,k,g⟩:=DataW.trod_struct ht h;subst hy;refine⟨m,e,λi f b=> ?_⟩
 have h1:=g i f b
 have l:i<a.size:=(wA.1 b).1
 have c:xs[i]?=some (xs[i]'(by omega)):=bU (by omega)
 refine⟨xs[i]'(by omega),h1.trans c,?_⟩;refine qg (IG ht hw) (j:=i) (t:=f.type) (d:=(xs[i]'(by omega)).1) ?_ ?_
 ·rw[bQ,QV,b];rfl
 ·rw[bQ,c];rfl
theorem cX {a:Array Field}{m:Nat}{cs:List Value}(hp:∀(i:Nat) (f:Field),a[i]?=some f→∃z,Tr enc P W m f.type ((cs.drop f.offset).take (P.cellsOf f.type)) z∧n9 (z.1.weights P f.type)=true)
 (i:Nat) {f:Field} {t:TypeId} {o k:Nat} (b:a[i]?=some f) (ht:f.type=t) (c:f.offset=o) (hk:P.cellsOf t=k):∃z,Tr enc P W m t ((cs.drop o).take k) z∧n9 (z.1.weights P t)=true:=by
 subst ht c hk;exact hp i f b
theorem LW (R:Rp α){t e:TypeId}{G:List Value}{d:DataW H}{p:List MemPlace}{fuel:Nat}(ht:P.underlying t=some (.slice e))(M:P.cellsOf e=R.size)
 (N:∀(n:Nat),n<fuel→∀(cs:List Value) (y:DataW H×List MemPlace),cs.length=R.size→Tr enc P W n e cs y→n9 (y.1.weights P e)=true→∃x:α,cs=R.cells x∧R.wf x)
 (I:n9 (d.weights P t)=true) (O:Tr enc P W fuel t G (d,p)):∃(v:Value) (xs:List α),G=[v]∧v.oneCell'=true∧(sl R v xs).f (J.all W)∧((d= .nil∧xs=[])∨∃es sp,d= .slice es sp∧es.length=xs.length):=by
 rcases DataW.trod_slice ht O with⟨r,l⟩|⟨a,len,cap,elems,rest,n,hn,r,l,_,Q,hm,hlen,he,_,_⟩
 ·exact⟨.slice none 0 0,[],r,rfl,sV _ _,.inl ⟨by simpa using (Prod.mk.inj l).1,rfl⟩⟩
 ·refine⟨.slice (some a) len cap,?_⟩
  rw[r]
  suffices s:∃xs:List α,(sl R (.slice (some a) len cap) xs).f (J.all W)∧((d= .nil∧xs=[])∨∃es sp,d= .slice es sp∧es.length=xs.length) by
   obtain⟨xs,h1,m⟩:=s;exact⟨xs,rfl,rfl,h1,m⟩
  rcases Nat.eq_zero_or_pos len with hz|ab7
  ·refine⟨[],⟨_,cap,by rw[hz];rfl,aO _,hm,(λx hx=>by cases hx),.inl rfl⟩,.inr ⟨_,_,(Prod.mk.inj l).1,by rw[aN,hlen,hz];rfl⟩⟩
  have each:∀i,i<len→∃x:α,R.wf x∧∀k u,k<R.size→(R.cells x)[k]?=some u→W.cell? ((a.add (i*R.size)).add k)=some u:=λi w=>by
   have c:=he i w
   rw[bU (show i<elems.length by omega)]at c;obtain⟨cs,h1,m⟩:=pO.1 c;rw[M]at h1;obtain⟨_,z,S⟩:=World.cells?_some h1;obtain⟨x,rfl,hw⟩:=N n (by omega) cs _ z m (Bv ht (by rw[(Prod.mk.inj l).1]at I;exact I) (.inl (eN (gz (show i<elems.length by omega)))));exact⟨x,hw,λk u hk hu=>by rw[S k hk,hu]⟩
  obtain⟨x0,H8⟩:=each 0 (by omega)
  haveI:Inhabited α:=⟨x0⟩
  obtain⟨X,A⟩:=choose_lt (α:=α) each
  have B:((List.range len).map X).length=len:=by simp
  obtain⟨b,off,spot⟩:=a
  have g:∃u,(R.cells (X 0))[0]?=some u:=by
   have:=R.len (X 0)
   have:=R.pos
   exact⟨_,bU (by omega)⟩
  obtain⟨T,g⟩:=g
  have K:=(A 0 (by omega)).2 0 T R.pos g
  rw[Nat.zero_mul,Deep.add_add]at K;obtain⟨s,C,L,fr,o,_⟩:=je K
  have U:spot=none:=by simpa[Addr.add]using s
  subst U
  have o:W.heap[b]?=some (.cells C L fr):=by simpa[Addr.add]using o
  refine⟨(List.range len).map X,⟨some ⟨b,off,none⟩,cap,by rw[B],by rw[B];exact Q,hm,?_,.inr ⟨b,off,C,L,fr,rfl,o,?_⟩⟩,.inr ⟨_,_,(Prod.mk.inj l).1,by simp[hlen]⟩⟩
  ·intro x V
   obtain⟨i,w,rfl⟩:=cy.1 V;exact(A i (dq.1 w)).1
  ·intro j u Y
   obtain⟨i,k,x,h1,m,Z,z⟩:=DJ _ _ _ Y
   have D:i<((List.range len).map X).length:=(ez.1 h1).1
   rw[B]at D
   have SY:x=X i:=by simpa[D]using h1.symm
   subst SY
   have:=(A i D).2 k u m z
   rw[Deep.add_add,←Z]at this;obtain⟨_,C',E,F,h,q⟩:=je this
   have h:W.heap[b]?=some (.cells C' E F):=by
    by_cases c:j=0
    ·subst c;simpa[Addr.add]using h
    ·simpa[Addr.add,c]using h
   have q:C'[off+j]?=some u:=by
    by_cases c:j=0
    ·subst c;simpa[Addr.add]using q
    ·simpa[Addr.add,c]using q
   rw[o]at h
   simp only[Option.some.injEq,Obj.cells.injEq]at h
   rw[h.1];exact q
def Rp.with {α:Type}(R:Rp α)(p:α→Prop):Rp α:=⟨R.size,R.pos,R.cells,λx=>R.wf x∧p x,R.len,R.one⟩
theorem JX {R:Rp α}{p:α→Prop}{v:Value}{xs:List α}{ρ:Ro}(h:(sl (R.with p) v xs).f ρ):(sl R v xs).f ρ∧∀x∈xs,p x:=by
 obtain⟨a,cap,h1,c,d,b,e⟩:=h;exact⟨⟨a,cap,h1,c,d,λx hx=>(b x hx).1,e⟩,λx hx=>(b x hx).2⟩
theorem Bu {t e:TypeId}{es sp:List (DataW H)}(ht:P.underlying t=some (.slice e))(h:n9 ((DataW.slice es sp).weights P t)=true):es.length*P.bytesOf e≤140737488351232:=by
 simp only[n9,DataW.weights,ht,List.all_cons,Bool.and_eq_true,decide_eq_true_eq]at h
 have h1:=h.1
 have a:es.length*P.bytesOf e≤(es.length+sp.length)*P.bytesOf e:=iW _ (by omega)
 unfold reachBytes at h1;omega
theorem kA (R:Rp α)(p:α→Prop){t e:TypeId}{h:List Value}{y:DataW H×List MemPlace}{fuel:Nat}(ht:P.underlying t=some (.slice e))(i:P.cellsOf e=R.size)
 (j:∀(n:Nat),n<fuel→∀(cs:List Value) (y:DataW H×List MemPlace),cs.length=R.size→Tr enc P W n e cs y→n9 (y.1.weights P e)=true→∃x:α,cs=R.cells x∧R.wf x∧p x)
 (k:Tr enc P W fuel t h y) (c:n9 (y.1.weights P t)=true):∃(v:aV) (xs:List α),h=[v.1]∧(sl R v.1 xs).f (J.all W)∧(∀x∈xs,p x)∧xs.length*P.bytesOf e≤140737488351232:=by
 obtain⟨v,xs,h1,l,m,o⟩:=LW (R.with p) (d:=y.1) (p:=y.2) ht i (λn q cs y g hy hw=>by
  obtain⟨x,a,b⟩:=j n q cs y g hy hw
  exact⟨x,a,b⟩) c k
 obtain⟨r,s⟩:=JX m;refine⟨⟨v,l⟩,xs,h1,r,s,?_⟩
 rcases o with⟨_,rfl⟩|⟨es,sp,he,g⟩
 ·simp
 ·rw[he]at c
  rw[←g];exact Bu ht c
theorem mc {e:TypeId}(he:P.underlying e=some (.int .i64)){n:Nat}{cs:List Value}{y:DataW H×List MemPlace}(h:Tr enc P W n e cs y):∃x:Int,cs=[iv x]∧aa x:=by
 obtain⟨z,rfl,_,hw⟩:=DataW.trod_int he h;exact⟨z,rfl,wf_i64 hw⟩
theorem vo {e:TypeId}(he:P.underlying e=some .string){n:Nat}{cs:List Value}{y:DataW H×List MemPlace}(h:Tr enc P W n e cs y)(a:n9 (y.1.weights P e)=true):∃x:bB,cs=[sv x]∧mr x:=by
 obtain⟨s,rfl,hy,hw⟩:=DataW.trod_string he h;refine⟨s.data.toList,by rw[Pd],?_⟩;subst hy
 simp only[n9,DataW.weights,reachBytes,List.all_cons,List.all_nil,Bool.and_true]at a
 exact ei a
end
end Go.J
namespace Go.J
open Go Go.ChangeShapes Go.WideShapes Go.ChangeAt Go.RowKit Go.Deep
section
variable {H:Type}{enc:TypeId×Value→H}{P:Program}{W:World}{α:Type}
theorem LF (Rr:Rp α){t e ee:TypeId}{v:Value}{d:DataW H}{p:List MemPlace}{r:Nat}(ht:P.underlying t=some (.slice e))(w:P.cellsOf e=1)(he:P.underlying e=some (.slice ee))(g:P.cellsOf ee=Rr.size)
 (z:∀(n:Nat) (cs:List Value) (y:DataW H×List MemPlace),cs.length=Rr.size→DataW.trod enc P W 0 (λ_=>true) true n ee cs=some y→n9 (y.1.weights P ee)=true→∃x:α,cs=Rr.cells x∧Rr.wf x)
 (A:Value.okWide P W .any r t v) (B:n9 (d.weights P t)=true) (h:DataW.Trod enc P W 0 (λ_=>true) true t v d p):∃xs:List (List α),(pT Rr v xs).f (J.all W)∧((d= .nil∧xs=[])∨∃es sp,d= .slice es sp∧es.length=xs.length)∧∀s∈xs,s.length*P.bytesOf ee≤140737488351232:=by
 obtain⟨xs,k,D⟩:=TQ ((Uq Rr W).with λx=>x.2.length*P.bytesOf ee≤140737488351232) ht w (λn cs y _ hy hw=>by
  obtain⟨v,xs,E,e2,F,G⟩:=FY Rr he g z hw (d:=y.1) (p:=y.2) hy;refine⟨(⟨v,e2⟩,xs),E,F,?_⟩
  rcases G with⟨_,rfl⟩|⟨es,sp,I,c⟩
  ·simp
  ·rw[I]at hw
   show xs.length*_≤_
   rw[←c];exact Bu he hw) A B h
 obtain⟨h1,K⟩:=JX k
 have m:∀l:List (aV×List α),rows (Uq Rr W) l=rows bS (l.map Prod.fst):=by
  intro l
  induction l with
  |nil=>rfl
  |cons x l o=>simp only[rows,List.flatMap_cons,List.map_cons]at o⊢;rw[o];rfl
 refine⟨xs.map Prod.snd,⟨xs.map Prod.fst,by simp,?_,?_⟩,?_,?_⟩
 ·obtain⟨a,cap,g1,g2,g3,g4,g5⟩:=h1
  refine⟨a,cap,by rw[aN];exact g1,by rw[aN];exact g2,g3,λ_ _=>trivial,?_⟩
  rcases g5 with rfl|⟨b,off,C,L,fr,M,N,O⟩
  ·exact .inl rfl
  ·exact .inr ⟨b,off,C,L,fr,M,N,λj u Q=>O j u (by rw[m];exact Q)⟩
 ·obtain⟨a,cap,_,_,_,g4,_⟩:=h1
  intro i u l hu c;rw[bQ]at hu c
  cases hx:xs[i]? with
  |none=>rw[hx]at hu;cases hu
  |some x=>
   rw[hx]at hu c
   simp only[Option.map_some,Option.some.injEq]at hu c
   subst hu c;exact g4 x (ae hx)
 ·rcases D with⟨q,rfl⟩|⟨es,sp,q,c⟩
  ·exact .inl ⟨q,rfl⟩
  ·exact .inr ⟨es,sp,q,by rw[aN];exact c⟩
 ·intro s R
  obtain⟨x,hx,rfl⟩:=cy.1 R;exact K x hx
end
end Go.J
namespace Go.Proofs.YtblifkgpebebmaaGreatDoor
open Go Go.J Go.ChangeShapes Go.WideShapes Go.ChangeAt Go.RowKit Go.Deep
theorem ad2 {α:Type}{l:List α}(h:l.length=1):∃a0,l=[a0]:=match l,h with
 | [a0],_=>⟨a0,rfl⟩
theorem Ec {α:Type}{l:List α}(h:l.length=2):∃a0 a,l=[a0,a]:=match l,h with
 | [a0,a],_=>⟨a0,a,rfl⟩
theorem ad3 {α:Type}{l:List α}(h:l.length=3):∃a0 a a2,l=[a0,a,a2]:=match l,h with
 | [a0,a,a2],_=>⟨a0,a,a2,rfl⟩
theorem ad4 {α:Type}{l:List α}(h:l.length=5):∃a0 a a2 a3 a4,l=[a0,a,a2,a3,a4]:=match l,h with
 | [a0,a,a2,a3,a4],_=>⟨a0,a,a2,a3,a4,rfl⟩
theorem ad5 {α:Type}{l:List α}(h:l.length=6):∃a0 a a2 a3 a4 a5,l=[a0,a,a2,a3,a4,a5]:=match l,h with
 | [a0,a,a2,a3,a4,a5],_=>⟨a0,a,a2,a3,a4,a5,rfl⟩
theorem ad6 {α:Type}{l:List α}(h:l.length=9):∃a0 a a2 a3 a4 a5 b c d,l=[a0,a,a2,a3,a4,a5,b,c,d]:=match l,h with
 | [a0,a,a2,a3,a4,a5,b,c,d],_=>⟨a0,a,a2,a3,a4,a5,b,c,d,rfl⟩
theorem Ww {α:Type}{l:List α}(h:l.length=10):∃a0 a a2 a3 a4 a5 b c d a9,l=[a0,a,a2,a3,a4,a5,b,c,d,a9]:=match l,h with
 | [a0,a,a2,a3,a4,a5,b,c,d,a9],_=>⟨a0,a,a2,a3,a4,a5,b,c,d,a9,rfl⟩
theorem mN:Tryz.prog.cellsOf 3=1:=by kernel_rfl
theorem qG:Tryz.prog.cellsOf 9=1:=by kernel_rfl
theorem RN:Tryz.prog.cellsOf 22=1:=by kernel_rfl
theorem RO:Tryz.prog.cellsOf 23=1:=by kernel_rfl
theorem RP:Tryz.prog.cellsOf 25=2:=by kernel_rfl
theorem RQ:Tryz.prog.cellsOf 26=1:=by kernel_rfl
theorem RR:Tryz.prog.cellsOf 27=1:=by kernel_rfl
theorem RS:Tryz.prog.cellsOf 28=1:=by kernel_rfl
theorem Cc:Tryz.prog.cellsOf 30=1:=by kernel_rfl
theorem RT:Tryz.prog.cellsOf 32=5:=by kernel_rfl
theorem RX:Tryz.prog.cellsOf 58=1:=by kernel_rfl
theorem Mo:Tryz.prog.cellsOf 103=1:=by kernel_rfl
theorem E8:Tryz.prog.cellsOf 105=2:=by kernel_rfl
theorem Mp:Tryz.prog.cellsOf 106=1:=by kernel_rfl
theorem yT:Tryz.prog.cellsOf 108=6:=by kernel_rfl
theorem Mq:Tryz.prog.cellsOf 110=10:=by kernel_rfl
theorem Mr:Tryz.prog.cellsOf 115=9:=by kernel_rfl
theorem Ms:Tryz.prog.cellsOf 135=3:=by kernel_rfl
theorem Mt:Tryz.prog.cellsOf 156=2:=by kernel_rfl
theorem Mu:Tryz.prog.cellsOf 161=1:=by kernel_rfl
theorem Mv:Tryz.prog.cellsOf 163=2:=by kernel_rfl
theorem Mw:Tryz.prog.cellsOf 165=2:=by kernel_rfl
section
variable {H:Type}{enc:TypeId×Value→H}{W:World}
theorem Rm:∀(n:Nat) (cs:List Value) (y:DataW H×List MemPlace),cs.length=2→Tr enc Tryz.prog W n 165 cs y→n9 (y.1.weights Tryz.prog 165)=true→∃x:dw,cs=au.cells x∧au.wf x∧True:=by
 intro n;intro cs y b h hw;obtain⟨c0,c1,rfl⟩:=Ec b;obtain⟨m,rfl,hp⟩:=gp Tryz.underlying165 h hw;obtain⟨z0,t0,g⟩:=cX hp 0 rfl rfl rfl mN
 have t0:Tr enc Tryz.prog W m 3 [c0] z0:=t0
 obtain⟨x0,e0,c⟩:=mc Tryz.underlying3 t0;obtain⟨d,t1,i⟩:=cX hp 1 rfl rfl rfl mN
 have t1:Tr enc Tryz.prog W m 3 [c1] d:=t1
 obtain⟨e,a,f⟩:=mc Tryz.underlying3 t1
 simp only[List.cons.injEq,and_true]at e0
 subst e0
 simp only[List.cons.injEq,and_true]at a
 subst a;exact⟨⟨x0,e⟩,rfl,⟨c,f⟩,trivial⟩
theorem Rn:∀(n:Nat) (cs:List Value) (y:DataW H×List MemPlace),cs.length=2→Tr enc Tryz.prog W n 163 cs y→n9 (y.1.weights Tryz.prog 163)=true→∃x:df,cs=bh.cells x∧bh.wf x∧(cA x).f (J.all W):=by
 intro n;intro cs y b h hw;obtain⟨c0,c1,rfl⟩:=Ec b;obtain⟨m,rfl,hp⟩:=gp Tryz.underlying163 h hw;obtain⟨z0,t0,j⟩:=cX hp 0 rfl rfl rfl mN
 have t0:Tr enc Tryz.prog W m 3 [c0] z0:=t0
 obtain⟨x0,e0,c⟩:=mc Tryz.underlying3 t0;obtain⟨d,t1,e⟩:=cX hp 1 rfl rfl rfl Mu
 have t1:Tr enc Tryz.prog W m 161 [c1] d:=t1
 obtain⟨g,i,a,f1,k,s1⟩:=kA au (λ_=>True) Tryz.underlying161 Mw (λn _=>Rm n) t1 e
 simp only[List.cons.injEq,and_true]at e0
 subst e0
 simp only[List.cons.injEq,and_true]at a
 subst a;exact⟨⟨x0,g,i⟩,rfl,c,f1⟩
theorem yf:∀(n:Nat) (cs:List Value) (y:DataW H×List MemPlace),cs.length=1→Tr enc Tryz.prog W n 30 cs y→n9 (y.1.weights Tryz.prog 30)=true→∃x:dD,cs=[x.nv.1]∧(aG x).f (J.all W):=by
 intro n;intro cs y a h hw;obtain⟨c0,rfl⟩:=ad2 a;obtain⟨m,rfl,hp⟩:=gp Tryz.underlying30 h hw;obtain⟨z0,t0,b⟩:=cX hp 0 rfl rfl rfl RS
 have t0:Tr enc Tryz.prog W m 28 [c0] z0:=t0
 obtain⟨x0,l0,e0,f0,c,s0⟩:=kA bh (λx=>(cA x).f (J.all W)) Tryz.underlying28 Mv (λn _=>Rn n) t0 b
 simp only[List.cons.injEq,and_true]at e0
 subst e0
 exact⟨⟨x0,l0⟩,rfl,λd hd=>by
  simp only[kb,List.mem_cons,List.not_mem_nil,or_false]at hd
  rcases hd with rfl|rfl
  ·exact f0
  ·exact c⟩
theorem Zx:∀(n:Nat) (cs:List Value) (y:DataW H×List MemPlace),cs.length=2→Tr enc Tryz.prog W n 156 cs y→n9 (y.1.weights Tryz.prog 156)=true→∃x:rZ,cs=ml.cells x∧ml.wf x∧(ry x).f (J.all W):=by
 intro n;intro cs y a h hw;obtain⟨c0,c1,rfl⟩:=Ec a;obtain⟨m,rfl,hp⟩:=gp Tryz.underlying156 h hw;obtain⟨z0,t0,c⟩:=cX hp 0 rfl rfl rfl qG
 have t0:Tr enc Tryz.prog W m 9 [c0] z0:=t0
 obtain⟨x0,e0,d⟩:=vo Tryz.underlying9 t0 c;obtain⟨g,t1,i⟩:=cX hp 1 rfl rfl rfl RX
 have t1:Tr enc Tryz.prog W m 58 [c1] g:=t1
 obtain⟨j,k,b,f1,l,s1⟩:=kA aI (λ_=>True) Tryz.underlying58 mN (λn _ cs y a h _=>by obtain⟨x,e,w⟩:=mc Tryz.underlying3 h;exact⟨x,e,w,trivial⟩) t1 i
 simp only[List.cons.injEq,and_true]at e0
 subst e0
 simp only[List.cons.injEq,and_true]at b
 subst b;exact⟨⟨x0,j,k⟩,rfl,d,f1⟩
theorem Rk:∀(n:Nat) (cs:List Value) (y:DataW H×List MemPlace),cs.length=3→Tr enc Tryz.prog W n 135 cs y→n9 (y.1.weights Tryz.prog 135)=true→∃x:jI,cs=gY.cells x∧gY.wf x∧True:=by
 intro n;intro cs y b h hw;obtain⟨c0,c1,c2,rfl⟩:=ad3 b;obtain⟨m,rfl,hp⟩:=gp Tryz.underlying135 h hw;obtain⟨z0,t0,c⟩:=cX hp 0 rfl rfl rfl qG
 have t0:Tr enc Tryz.prog W m 9 [c0] z0:=t0
 obtain⟨x0,e0,d⟩:=vo Tryz.underlying9 t0 c;obtain⟨e,t1,k⟩:=cX hp 1 rfl rfl rfl mN
 have t1:Tr enc Tryz.prog W m 3 [c1] e:=t1
 obtain⟨f,a,g⟩:=mc Tryz.underlying3 t1;obtain⟨z2,t2,l⟩:=cX hp 2 rfl rfl rfl mN
 have t2:Tr enc Tryz.prog W m 3 [c2] z2:=t2
 obtain⟨i,e2,j⟩:=mc Tryz.underlying3 t2
 simp only[List.cons.injEq,and_true]at e0
 subst e0
 simp only[List.cons.injEq,and_true]at a
 subst a
 simp only[List.cons.injEq,and_true]at e2
 subst e2;exact⟨⟨x0,f,i⟩,rfl,⟨d,g,j⟩,trivial⟩
theorem W6:∀(n:Nat) (cs:List Value) (y:DataW H×List MemPlace),cs.length=2→Tr enc Tryz.prog W n 105 cs y→n9 (y.1.weights Tryz.prog 105)=true→∃x:fa,cs=kL.cells x∧kL.wf x∧rY (J.all W) x:=by
 intro n
 induction n using Nat.strongRecOn with
 |_ n b=>
 intro cs y c h hw;obtain⟨c0,c1,rfl⟩:=Ec c;obtain⟨m,rfl,hp⟩:=gp Tryz.underlying105 h hw;obtain⟨z0,t0,d⟩:=cX hp 0 rfl rfl rfl qG
 have t0:Tr enc Tryz.prog W m 9 [c0] z0:=t0
 obtain⟨x0,e0,e⟩:=vo Tryz.underlying9 t0 d;obtain⟨f,t1,g⟩:=cX hp 1 rfl rfl rfl Mo
 have t1:Tr enc Tryz.prog W m 103 [c1] f:=t1
 obtain⟨i,j,a,f1,l,s1⟩:=kA kL (rY (J.all W)) Tryz.underlying103 E8 (λk hk=>b k (by omega)) t1 g
 simp only[List.cons.injEq,and_true]at e0
 subst e0
 simp only[List.cons.injEq,and_true]at a
 subst a;exact⟨.mk x0 i j,rfl,e,.mk f1 l⟩
theorem Il:∀(n:Nat) (cs:List Value) (y:DataW H×List MemPlace),cs.length=6→Tr enc Tryz.prog W n 108 cs y→n9 (y.1.weights Tryz.prog 108)=true→∃x:dg,cs=dI.cells x∧dI.wf x∧oq (J.all W) x:=by
 intro n
 induction n using Nat.strongRecOn with
 |_ n c=>
 intro cs y d h hw;obtain⟨c0,c1,c2,c3,e,c5,rfl⟩:=ad5 d;obtain⟨m,rfl,hp⟩:=gp Tryz.underlying108 h hw;obtain⟨z0,t0,z⟩:=cX hp 0 rfl rfl rfl mN
 have t0:Tr enc Tryz.prog W m 3 [c0] z0:=t0
 obtain⟨x0,e0,f⟩:=mc Tryz.underlying3 t0;obtain⟨g,t1,i⟩:=cX hp 1 rfl rfl rfl qG
 have t1:Tr enc Tryz.prog W m 9 [c1] g:=t1
 obtain⟨j,a,l⟩:=vo Tryz.underlying9 t1 i;obtain⟨z2,t2,A⟩:=cX hp 2 rfl rfl rfl mN
 have t2:Tr enc Tryz.prog W m 3 [c2] z2:=t2
 obtain⟨o,e2,p⟩:=mc Tryz.underlying3 t2;obtain⟨z3,t3,q⟩:=cX hp 3 rfl rfl rfl E8
 have t3:Tr enc Tryz.prog W m 105 [c3,e] z3:=t3
 obtain⟨x3,r,k3,s⟩:=W6 _ _ _ rfl t3 q;obtain⟨z4,t4,t⟩:=cX hp 4 rfl rfl rfl Mp
 have t4:Tr enc Tryz.prog W m 106 [c5] z4:=t4
 obtain⟨u,v,b,f4,w,B⟩:=kA dI (oq (J.all W)) Tryz.underlying106 yT (λk hk=>c k (by omega)) t4 t
 simp only[List.cons.injEq,and_true]at e0
 subst e0
 simp only[List.cons.injEq,and_true]at a
 subst a
 simp only[List.cons.injEq,and_true]at e2
 subst e2
 cases r
 simp only[List.cons.injEq,and_true]at b
 subst b;exact⟨.mk x0 j o x3 u v,rfl,⟨f,l,p,k3⟩,.mk s f4 w⟩
theorem Rq:∀(n:Nat) (cs:List Value) (y:DataW H×List MemPlace),cs.length=10→Tr enc Tryz.prog W n 110 cs y→n9 (y.1.weights Tryz.prog 110)=true→∃x:cZ,cs=cS.cells x∧cS.wf x∧(bx x).f (J.all W):=by
 intro n;intro cs y b h hw;obtain⟨c0,c1,c2,c3,c,c5,e,g,i,j,rfl⟩:=Ww b;obtain⟨m,rfl,hp⟩:=gp Tryz.underlying110 h hw;obtain⟨z0,t0,k⟩:=cX hp 0 rfl rfl rfl qG
 have t0:Tr enc Tryz.prog W m 9 [c0] z0:=t0
 obtain⟨x0,e0,l⟩:=vo Tryz.underlying9 t0 k;obtain⟨o,t1,p⟩:=cX hp 1 rfl rfl rfl Cc
 have t1:Tr enc Tryz.prog W m 30 [c1] o:=t1
 obtain⟨q,r,s⟩:=yf _ _ _ rfl t1 p;obtain⟨z2,t2,C⟩:=cX hp 2 rfl rfl rfl mN
 have t2:Tr enc Tryz.prog W m 3 [c2] z2:=t2
 obtain⟨t,e2,u⟩:=mc Tryz.underlying3 t2;obtain⟨z3,t3,D⟩:=cX hp 3 rfl rfl rfl mN
 have t3:Tr enc Tryz.prog W m 3 [c3] z3:=t3
 obtain⟨x3,a,k3⟩:=mc Tryz.underlying3 t3;obtain⟨z4,t4,v⟩:=cX hp 4 rfl rfl rfl yT
 have t4:Tr enc Tryz.prog W m 108 [c,c5,e,g,i,j] z4:=t4
 obtain⟨w,z,A,B⟩:=Il _ _ _ rfl t4 v
 simp only[List.cons.injEq,and_true]at e0
 subst e0
 cases r
 simp only[List.cons.injEq,and_true]at e2
 subst e2
 simp only[List.cons.injEq,and_true]at a
 subst a
 cases z
 exact⟨⟨x0,q,t,x3,w⟩,rfl,⟨l,u,k3,A⟩,λd hd=>by
  simp only[PM,List.mem_cons,List.not_mem_nil,or_false]at hd
  rcases hd with rfl|rfl
  ·exact s
  ·exact B⟩
theorem W5:∀(n:Nat) (cs:List Value) (y:DataW H×List MemPlace),cs.length=9→Tr enc Tryz.prog W n 115 cs y→n9 (y.1.weights Tryz.prog 115)=true→∃x:eX,cs=dy.cells x∧dy.wf x∧(eO x).f (J.all W):=by
 intro n;intro cs y a h hw;obtain⟨c0,c1,c2,c3,b,c5,c,e,g,rfl⟩:=ad6 a;obtain⟨m,rfl,hp⟩:=gp Tryz.underlying115 h hw;obtain⟨z0,t0,i⟩:=cX hp 0 rfl rfl rfl qG
 have t0:Tr enc Tryz.prog W m 9 [c0] z0:=t0
 obtain⟨x0,e0,j⟩:=vo Tryz.underlying9 t0 i;obtain⟨k,t1,l⟩:=cX hp 1 rfl rfl rfl Cc
 have t1:Tr enc Tryz.prog W m 30 [c1] k:=t1
 obtain⟨o,p,q⟩:=yf _ _ _ rfl t1 l;obtain⟨z2,t2,w⟩:=cX hp 2 rfl rfl rfl mN
 have t2:Tr enc Tryz.prog W m 3 [c2] z2:=t2
 obtain⟨r,e2,s⟩:=mc Tryz.underlying3 t2;obtain⟨z3,t3,t⟩:=cX hp 3 rfl rfl rfl yT
 have t3:Tr enc Tryz.prog W m 108 [c3,b,c5,c,e,g] z3:=t3
 obtain⟨x3,u,k3,v⟩:=Il _ _ _ rfl t3 t
 simp only[List.cons.injEq,and_true]at e0
 subst e0
 cases p
 simp only[List.cons.injEq,and_true]at e2
 subst e2
 cases u
 exact⟨⟨x0,o,r,x3⟩,rfl,⟨j,s,k3⟩,λd hd=>by
  simp only[XB,List.mem_cons,List.not_mem_nil,or_false]at hd
  rcases hd with rfl|rfl
  ·exact q
  ·exact v⟩
theorem Rl:∀(n:Nat) (cs:List Value) (y:DataW H×List MemPlace),cs.length=2→Tr enc Tryz.prog W n 25 cs y→n9 (y.1.weights Tryz.prog 25)=true→∃(tv:aV) (ts:List rZ) (fv:aV) (b:List jI),cs=[tv.1,fv.1]∧∀d∈Ug tv fv ts b,d.f (J.all W):=by
 intro n;intro cs y c h hw;obtain⟨c0,c1,rfl⟩:=Ec c;obtain⟨m,rfl,hp⟩:=gp Tryz.underlying25 h hw;obtain⟨z0,t0,e⟩:=cX hp 0 rfl rfl rfl RN
 have t0:Tr enc Tryz.prog W m 22 [c0] z0:=t0
 obtain⟨x0,l0,e0,f0,g,s0⟩:=kA ml (λx=>(ry x).f (J.all W)) Tryz.underlying22 Mt (λn _=>Zx n) t0 e;obtain⟨i,t1,j⟩:=cX hp 1 rfl rfl rfl RO
 have t1:Tr enc Tryz.prog W m 23 [c1] i:=t1
 obtain⟨k,l,a,f1,o,s1⟩:=kA gY (λ_=>True) Tryz.underlying23 Ms (λn _=>Rk n) t1 j
 simp only[List.cons.injEq,and_true]at e0
 subst e0
 simp only[List.cons.injEq,and_true]at a
 subst a
 exact⟨x0,l0,k,l,rfl,λd hd=>by
  simp only[Ug,List.mem_cons,List.not_mem_nil,or_false]at hd
  rcases hd with rfl|rfl|rfl
  ·exact f0
  ·exact g
  ·exact f1⟩
theorem W4:∀(n:Nat) (cs:List Value) (y:DataW H×List MemPlace),cs.length=5→Tr enc Tryz.prog W n 32 cs y→n9 (y.1.weights Tryz.prog 32)=true→∃x:gb,cs=iu x∧(fB x).f (J.all W):=by
 intro n cs y e h hw;obtain⟨c0,c1,c2,c3,g,rfl⟩:=ad4 e;obtain⟨m,rfl,hp⟩:=gp Tryz.underlying32 h hw;obtain⟨z0,t0,i⟩:=cX hp 0 rfl rfl rfl RP
 have t0:Tr enc Tryz.prog W m 25 [c0,c1] z0:=t0
 obtain⟨tv,ts,fv,j,e0,a⟩:=Rl _ _ _ rfl t0 i;obtain⟨k,t1,l⟩:=cX hp 1 rfl rfl rfl RQ
 have t1:Tr enc Tryz.prog W m 26 [c2] k:=t1
 obtain⟨o,p,b,f1,q,_⟩:=kA cS (λx=>(bx x).f (J.all W)) Tryz.underlying26 Mq (λn _=>Rq n) t1 l;obtain⟨z2,t2,r⟩:=cX hp 2 rfl rfl rfl RR
 have t2:Tr enc Tryz.prog W m 27 [c3] z2:=t2
 obtain⟨s,t,e2,f2,u,_⟩:=kA dy (λx=>(eO x).f (J.all W)) Tryz.underlying27 Mr (λn _=>W5 n) t2 r;obtain⟨z3,t3,v⟩:=cX hp 3 rfl rfl rfl Cc
 have t3:Tr enc Tryz.prog W m 30 [g] z3:=t3
 obtain⟨x3,c,w⟩:=yf _ _ _ rfl t3 v
 simp only[List.cons.injEq,and_true]at e0 b e2 c
 obtain⟨rfl,rfl⟩:=e0;subst b e2 c;refine⟨⟨tv,ts,fv,j,o,p,s,t,x3⟩,rfl,λd hd=> ?_⟩
 have z:=a _ (aP ..)
 have h1:=a _ (cN _ (aP ..))
 have A:=a _ (cN _ (cN _ (aP ..)))
 simp only[Gv,List.mem_cons,List.not_mem_nil,or_false]at hd
 rcases hd with rfl|rfl|rfl|rfl|rfl|rfl|rfl|rfl
 ·exact z
 ·exact h1
 ·exact A
 ·exact f1
 ·exact q
 ·exact f2
 ·exact u
 ·exact w
theorem Oc {v:Value}{d:DataW H}{p:List MemPlace}{a:Nat}(b:Value.okWide Tryz.prog W .any a 32 v)(hw:n9 (d.weights Tryz.prog 32)=true)(h:DataW.Trod enc Tryz.prog W 0 (λ_=>true) true 32 v d p):∃x:gb,v=fV x∧(fB x).f (J.all W):=by
 obtain⟨cs,rfl,c⟩:=okWide_struct Tryz.underlying32 b;obtain⟨fuel,g⟩:=h;obtain⟨x,e,q⟩:=W4 fuel cs.toList (d,p) (by rw[Array.length_toList,c,RT]) g hw;exact⟨x,congrArg Value.agg (Array.toList_inj.1 e),q⟩
end
end Go.Proofs.YtblifkgpebebmaaGreatDoor
namespace Go.J
open Go
theorem Sq.slot {n:Nat}{F:Fr}{T:Act→Prop}{v:Value}(k:Nat)(v':Value)(hk:look F k=some v)(h:v=v')(d:Sq n ((k,v')::F) T):Sq n F T:=by
 subst h
 refine λa b=>d a ⟨b.size,b.defers,λt u hu=> ?_⟩
 simp only[look]at hu
 cases c:Nat.beq t k with
 |true=>
  have e:=mh c
  subst e
  simp only[c,cond_true,Option.some.injEq]at hu
  subst hu;exact b.slot _ _ hk
 |false=>
  simp only[c,cond_false]at hu
  exact b.slot _ _ hu
theorem Ev.ak9 {P:Program}{n:Nat}{F:Fr}{A:World→Prop}{ty:TypeId}{x:Operand}{a:Addr}(hx:ai F x (.pointer (some a))):Ev P n F A (.nilCheck x) ty (.pointer (some a)):= .of_run λac w b _=>by simp[execOp,hx.eval b]
def bE {α:Type}(f:α→List ak)(l:List α):List ak:=l.flatMap f
theorem iw {α:Type}(f:α→List ak)(a:α)(l:List α):bE f (a::l)=f a++bE f l:=rfl
theorem S3 {α:Type}(f:α→List ak)(l m:List α):bE f (l++m)=bE f l++bE f m:=Bx
theorem nI {α:Type}(f:α→List ak):∀{l:List α} {i:Nat} {a:α},l[i]?=some a→(bE f l).Perm (f a++bE f (l.eraseIdx i))
 | [],_,_,h=>by cases h
 |b::l,0,a,h=>by
  obtain rfl:=Option.some.inj h;exact .refl _
 |b::l,i+1,a,h=>by
  rw[List.eraseIdx_cons_succ,iw,iw];refine((nI f (l:=l) h).append_left (f b)).trans ?_;rw[←dp,←dp];exact jX.append_right _
theorem sN {α:Type}(f:α→List ak):∀{l:List α} {i:Nat} (a:α),i<l.length→(f a++bE f (l.eraseIdx i)).Perm (bE f (l.set i a))
 | [],_,_,h=>by cases h
 |b::l,0,a,_=> .refl _
 |b::l,i+1,a,h=>by
  rw[List.eraseIdx_cons_succ,wg,iw,iw];refine List.Perm.trans ?_ ((sN f (l:=l) a (Nat.lt_of_succ_lt_succ h)).append_left (f b));rw[←dp,←dp];exact jX.append_right _
class jD (X X' H:List ak)(H':outParam (List ak)):Prop where
 eq:∃L,H=L++X∧H'=L++X'
instance (priority:=high) jD.here (X X':List ak):jD X X' X X':=⟨⟨[],rfl,rfl⟩⟩
instance jD.there (X X' H H':List ak)(E:ak)[h:jD X X' H H']:jD X X' (E::H) (E::H'):=⟨let⟨L,a,b⟩:=h.eq;⟨E::L,by rw[a];rfl,by rw[b];rfl⟩⟩
section
variable {n:Nat}{F:Fr}{c:Ctx}{H H' R:List ak}{T:Act→World→Prop}
theorem St.perm (hp:H.Perm H')(h:St n F (Mm c H') T):St n F (Mm c H) T:=h.o6 λ_ hw=>let⟨_,k⟩:=hw.out;Mm.mk (k.perm hp)
theorem St.tail (X X':List ak)(hp:X.Perm X')[t:jD X X' H H'](h:St n F (Mm c H') T):St n F (Mm c H) T:=by
 obtain⟨L,a,b⟩:=t.eq;refine St.perm ?_ h;rw[a,b];exact hp.append_left L
theorem St.ma (r X X':List ak)(hp:(r++X).Perm X')[tk:eT r H R][t:jD X X' R H'](h:St n F (Mm c H') T):St n F (Mm c H) T:=by
 obtain⟨L,a,b⟩:=t.eq;refine St.perm (tk.perm.trans ?_) h;rw[a,b,←dp];refine(jX.append_right X).trans ?_;rw[dp];exact hp.append_left L
end
theorem gw.bE {α:Type}(f:α→List ak)(b:∀a,gw (f a))(l:List α):gw (J.bE f l):=λE c ρ jo w k=>by
 obtain⟨a,_,h⟩:=List.mem_flatMap.1 c;exact b a E h ρ jo w k
class yA (X H:List ak)(R:outParam (List ak→List ak)):Prop where
 eq:∃L,H=L++X∧∀Y,R Y=L++Y
instance (priority:=high) yA.here (X:List ak):yA X X (λY=>Y):=⟨⟨[],rfl,λ_=>rfl⟩⟩
instance yA.there (X H:List ak)(R:List ak→List ak)(E:ak)[h:yA X H R]:yA X (E::H) (λY=>E::R Y):=⟨let⟨L,a,b⟩:=h.eq;⟨E::L,by rw[a];rfl,λY=>by rw[b];rfl⟩⟩
instance (priority:=high) eT.tail {α β:Type}(f:α→List ak)(g:β→List ak)(l:List α)(m:List β):eT (bE f l++bE g m) (bE f l++bE g m) []:=⟨by rw[gq]⟩
instance eT.YU {α β:Type}(f:α→List ak)(g:β→List ak)(l:List α)(m:List β)(E:ak)(H R:List ak)[h:eT (bE f l++bE g m) H R]:eT (bE f l++bE g m) (E::H) (E::R):=
 ⟨(h.perm.cons E).trans qk.symm⟩
section
variable {P:Program}{n:Nat}{F:Fr}{c:Ctx}{H H1:List ak}{Q:Exit→Act→World→Prop}{ops:Array Oper}{rest:List Oper}{d:Nat}{ty:TypeId}{pos:String}{after:Array Edge}
theorem St.wF {dr:Prop}{f:FuncId}{xs:List Operand}{g:Array TypeId}{vs:List Value}{ds:List du}{L X:List ak}{R:List ak→List ak}{post:Value→List ak→List ak→Prop}(i:c.dr→dr)
 (j:Df dr P f vs.toArray (ds.map aB++(L++X)) (λv H'=>∃L' X',H'=L'++X'∧post v L' X')) (l:aJ P f) (hx:bH F xs vs) (hd:Nat.ble (d+1) n=true) [r:kY ds H] [tk:eT L H H1] [m:yA X H1 R]
 (h:∀v L' X',post v L' X'→St n ((d,v)::F) (Mm c (L'++R X')) (wpList P ops Q rest)):
 St n F (Mm c H) (wpList P ops Q ({dst:=some d,op:= .call {callee:= .value (.func f),args:=xs.toArray,argTypes:=g},type:=ty,pos:=pos,after:=after,guard:=none}::rest)):=by
 intro a w b hw;obtain⟨K,o,e2⟩:=m.eq;refine gH rfl (gN (caps:=[]) l (bH.cons (ai.mk rfl) hx) b w ?_)
 simp only[List.append_nil]
 have hp:(ds.map aB++H).Perm ((ds.map aB++(L++X))++K):=by
  rw[dp];refine G5 _ (tk.perm.trans ?_);rw[o,dp];exact G5 L jX
 obtain⟨_,k⟩:=(hw.mg (ds:=ds)).out;refine(Mm.wF j i (Mm.mk (k.perm hp))).mono ?_;rintro e w' ⟨u,H',rfl,⟨L',X',rfl,p⟩,hm⟩;refine⟨u,rfl,h u L' X' p _ w' (b.put (dR hd) u) ?_⟩;obtain⟨_,q⟩:=hm.out;refine Mm.mk (q.perm ?_);rw[e2,dp];exact G5 L' jX
theorem St.pQ {f:FuncId}{xs:List Operand}{a:Array TypeId}{vs:List Value}{ds:List du}{L X:List ak}{R:List ak→List ak}{post:Value→List ak→List ak→Prop}
 (b:dx P f vs.toArray (ds.map aB++(L++X)) (λv H'=>∃L' X',H'=L'++X'∧post v L' X')) (e:aJ P f) (hx:bH F xs vs) (hd:Nat.ble (d+1) n=true) [g:kY ds H] [tk:eT L H H1] [i:yA X H1 R]
 (h:∀v L' X',post v L' X'→St n ((d,v)::F) (Mm c (L'++R X')) (wpList P ops Q rest)):
 St n F (Mm c H) (wpList P ops Q ({dst:=some d,op:= .call {callee:= .value (.func f),args:=xs.toArray,argTypes:=a},type:=ty,pos:=pos,after:=after,guard:=none}::rest)):=
 St.wF (λ_=>trivial) b e hx hd h
end
section
variable {P:Program}{n:Nat}{F:Fr}{c:Ctx}{H:List ak}{ty t e:TypeId}{x:Operand}{v:Value}{m k:Nat}{α:Type}
theorem Ev.vJ {R:Rp α}{l:List α}{g:α}{dd:TypeDesc}[d:wj v H e R.size m (rows R l)](hx:ai F x (cY v R.size k 0))(f:l[k]?=some g)(ht:P.underlying t=some dd)(q:(match dd with| .struct _| .array _ _=>True|_=>False))
 (r:(P.info? t).map (·.size)=some R.size) (hk:k<m):Ev P n F (Mm c H) (.load t x) ty (.agg (R.cells g).toArray):= .of_run λa w s hw=>by
 obtain⟨ρ,hm⟩:=hw.out
 have h:(rows R l)[k*R.size+0]?=(R.cells g)[0]?:=eL R l k 0 g f R.pos
 have y:0<(R.cells g).length:=by rw[R.len];exact R.pos
 rw[bU y]at h;obtain⟨b,z,c1,A,_⟩:=k9 (hm.row d) (off:=0) hk h;rw[z]at hx
 have i:=eP (P:=P) (w:=w) (b:=b) (off:=k*R.size+0) (L:=R.cells g) ht q (by rw[r,R.len]) (λj u o=>by
  have B:j<R.size:=by rw[←R.len g];exact(ez.1 o).1
  have C:(rows R l)[k*R.size+j]?=some u:=by rw[eL R l k j g f B,o]
  obtain⟨D,e2,c2,p,_⟩:=k9 (hm.row d) (off:=j) hk C
  rw[A]at p;cases p
  simpa using c2)
 simp at hx i
 simp[execOp,hx.eval s,Instr.loadAt,Instr.sureAddr,i]
theorem vW (R:Rp α):∀(l:List α) (k:Nat),(rows R l).take (k*R.size)=rows R (l.take k)
 | [],k=>by simp[rows]
 |a::l,0=>by simp[rows]
 |a::l,k+1=>by
  have e:(k+1)*R.size=(R.cells a).length+k*R.size:=by rw[R.len,jd];omega
  show(R.cells a++rows R l).take _=R.cells a++rows R (l.take k)
  rw[e,List.take_length_add_append,vW R l k]
theorem uE (R:Rp α)(l:List α)(a:α):(rows R (l++ [a])).take (l.length*R.size)=rows R l:=by rw[vW,List.take_left' rfl]
end
end Go.J
namespace Go.J
open Go Go.Proofs.YtblifkgpebebmaaGreatDoor
section
variable {P:Program}{n:Nat}{F:Fr}{c:Ctx}{H R:List ak}{ty t e:TypeId}{x y:Operand}{v:Value}{Q:Exit→Act→World→Prop}{ops:Array Oper}{rest:List Oper}{d:Nat}{pos:String}{after:Array Edge}{m k:Nat}{α:Type}
theorem Ev.Ea {Rr:Rp α}{xs:List α}{g:α}{dd:TypeDesc}{sz off:Nat}[hd:sG v H α Rr xs](hx:ai F x (cY v Rr.size k off))(hk:xs[k]?=some g)(ht:P.underlying t=some dd)(e:(match dd with| .struct _| .array _ _=>True|_=>False))
 (f:(P.info? t).map (·.size)=some sz) (p:off+sz≤Rr.size) (q:off<Rr.size):Ev P n F (Mm c H) (.load t x) ty (.agg (((Rr.cells g).drop off).take sz).toArray):= .of_run λa w h hw=>by
 obtain⟨ρ,hm⟩:=hw.out;obtain⟨b,o,h1,i⟩:=DL hm hd hk (off:=off);rw[h1]at hx
 have l:=eP (P:=P) (w:=w) (b:=b) (off:=o) (L:=((Rr.cells g).drop off).take sz) ht e (by rw[f,eR,A5,Rr.len,kn (by omega)]) (λj u d=>by
  have m:j<sz:=by
   have:=(ez.1 d).1
   rw[eR]at this;omega
  rw[s8,aC m,A4]at d
  rw[i j (by omega)];exact d)
 simp[execOp,hx.eval h,Instr.loadAt,Instr.sureAddr,l]
theorem St.nJ {Rr:Rp α}{g:α}{sz:Nat}(A:Rr.size=sz){zv:Value}{yP:Nat}{i j:Int}{kl p:IntKind}(hx:ai F x (.int kl i))(hy:ai F y (.int p j))(ht:P.underlying t=some (.slice e))(q:(P.info? e).map (·.size)=some Rr.size)(hz:(P.info? e).bind (·.zero)=some zv)(f:(P.info? e).map (·.bytes)=some yP)
 (hm:i=m) (B:j=m) (C:yP*m≤281474976710656∧m≤9223372036854775807) (h1:zv.cells=(Rr.cells g).toArray) (hd:Nat.ble (d+1) n=true)
 (h:∀b,St n ((d,.slice (some ⟨b,0,none⟩) m m)::F) (Mm c (row (.slice (some ⟨b,0,none⟩) m m) e sz m (rows Rr (List.replicate m g))::H)) (wpList P ops Q rest)):
 St n F (Mm c H) (wpList P ops Q ({dst:=some d,op:= .makeSlice t x y,type:=ty,pos:=pos,after:=after,guard:=none}::rest)):=by
 subst hm B A;refine St.Qc (K:=λu H'=>∃b,u= .slice (some ⟨b,0,none⟩) m m∧H'=row (.slice (some ⟨b,0,none⟩) m m) e Rr.size m (rows Rr (List.replicate m g))::H) ?_ hd ?_
 ·intro a w ρ r D
  obtain⟨i,s,O⟩:=di.1 q;obtain⟨E,G,I⟩:=qh q hz f s
  have v:=run_make (P:=P) w t e i zv ht s G kl p m m (by omega) (by omega) (by rw[I,←Int.natCast_mul];exact Int.ofNat_le.2 C.1) (by omega)
  have hlen:(rows Rr (List.replicate m g)).length=m*Rr.size:=by rw[j0,kG]
  have J:madeCells zv.cells (m*i.size)=(rows Rr (List.replicate m g)).toArray:=by
   rw[E,h1]
   apply Array.ext
   ·simp[madeCells,hlen]
   ·intro k L R
    have z:k<m*Rr.size:=by simpa[madeCells]using L
    have hp:=Rr.pos
    have M:k/Rr.size<m:=Nat.div_lt_of_lt_mul (by rw[Nat.mul_comm];exact z)
    have o:k%Rr.size<Rr.size:=Nat.mod_lt _ hp
    have l:=eL Rr (List.replicate m g) (k/Rr.size) (k%Rr.size) g (by rw[s7,aC M]) o
    have N:k/Rr.size*Rr.size+k%Rr.size=k:=by rw[Nat.mul_comm];exact Nat.div_add_mod k Rr.size
    rw[N,bU (by rw[hlen];exact z),bU (by rw[Rr.len];exact o)]at l
    have l:=Option.some.inj l
    simp only[madeCells,List.getElem_toArray]
    rw[l]
    simp[Rr.len,o]
  simp only[Int.toNat_natCast,J]at v
  refine⟨.value (.slice (some ⟨w.heap.size,0,none⟩) m m),w.alloc (.cells (rows Rr (List.replicate m g)).toArray e),ρ,_,?_,⟨_,.inl rfl,_,rfl,rfl⟩,?_⟩
  ·simp[execOp,hx.eval r,hy.eval r,v]
  ·refine D.Ag rfl ⟨rfl,aR _⟩ rfl (by simp) (λk hk=>RowKit.Below.heap_alloc w _ k hk) (eK.2 ⟨hlen,.inr ⟨w.heap.size,m,_,rfl,aO _,heap_alloc_new w _,aR _,by unfold maxLen;omega,by simp[hlen],by rw[←hlen];simp⟩⟩) ?_
   intro b f;rw[eG]at f;simp[Value.ownBlock]at f;omega
 ·rintro _ _ ⟨b,rfl,rfl⟩
  exact h b
end
section
variable {P:Program}{n:Nat}{F:Fr}{c:Ctx}{H H' R:List ak}{ty t e:TypeId}{x y:Operand}{v:Value}{Q:Exit→Act→World→Prop}{ops:Array Oper}{rest:List Oper}{d:Nat}{pos:String}{after:Array Edge}{m k:Nat}{α:Type}{T:Act→World→Prop}
theorem Ev.O8 {Rr:Rp α}{l:List α}{g:α}{dd:TypeDesc}{sz off:Nat}[h:wj v H e Rr.size m (rows Rr l)](hx:ai F x (cY v Rr.size k off))(i:l[k]?=some g)(ht:P.underlying t=some dd)(r:(match dd with| .struct _| .array _ _=>True|_=>False))
 (s:(P.info? t).map (·.size)=some sz) (hk:k<m) (E:off+sz≤Rr.size) (o:off<Rr.size):Ev P n F (Mm c H) (.load t x) ty (.agg (((Rr.cells g).drop off).take sz).toArray):= .of_run λa w y hw=>by
 obtain⟨ρ,hm⟩:=hw.out
 have p:(rows Rr l)[k*Rr.size+off]?=(Rr.cells g)[off]?:=eL Rr l k off g i o
 have d:(Rr.cells g)[off]?=some ((Rr.cells g)[off]'(by rw[Rr.len];exact o)):=bU _
 rw[d]at p;obtain⟨b,z,c1,A,_⟩:=k9 (hm.row h) (off:=off) hk p;rw[z]at hx
 have B:=eP (P:=P) (w:=w) (b:=b) (off:=k*Rr.size+off) (L:=((Rr.cells g).drop off).take sz) ht r (by rw[s,eR,A5,Rr.len,kn (by omega)]) (λj u f=>by
  have C:j<sz:=by
   have:=(ez.1 f).1
   rw[eR]at this;omega
  rw[s8,aC C,A4]at f
  have D:(rows Rr l)[k*Rr.size+(off+j)]?=some u:=by rw[eL Rr l k (off+j) g i (by omega),f]
  obtain⟨G,e2,c2,q,_⟩:=k9 (hm.row h) (off:=off+j) hk D
  rw[A]at q;cases q
  rw[qi];exact c2)
 simp[execOp,hx.eval y,Instr.loadAt,Instr.sureAddr,B]
instance (priority:=high) eT.am3 {β:Type}(f:β→List ak)(l:List β):eT (bE f l) (bE f l) []:=⟨by rw[gq]⟩
instance eT.YE {β:Type}(f:β→List ak)(l:List β)(E:ak)(H R:List ak)[h:eT (bE f l) H R]:eT (bE f l) (E::H) (E::R):=
 ⟨(h.perm.cons E).trans qk.symm⟩
theorem Mm.TF {f:α→List ak}{g:α→du}(b:∀a H w,Mm c (f a++H) w→Mm c (aB (g a)::H) w):∀(l:List α) (H:List ak) (w:World),Mm c (bE f l++H) w→Mm c (aB (aF g l)::H) w
 | [],H,w,h=>h.fact (aF g []) λρ _ x hx=>by cases hx
 |a::l,H,w,h=>by
  rw[iw,dp]at h
  have h1:=b a _ w h
  obtain⟨n,d⟩:=h1.out
  have e:Mm c (bE f l++(aB (g a)::H)) w:=Mm.mk (d.perm qk.symm)
  have i:=Mm.TF b l _ w e
  refine(λ(j:Mm c (aB (aF g (a::l))::aB (aF g l)::aB (g a)::H) w)=> ?_) (i.fact _ ?_)
  ·obtain⟨ρ,k⟩:=j.out
   have m:eu c (aB (aF g l)::aB (g a)::aB (aF g (a::l))::H) ρ w:=k.perm ((List.Perm.swap _ _ _).trans ((List.Perm.swap _ _ _).cons _))
   exact Mm.mk m.drop.drop
  ·intro ρ hm x hx
   rcases cH.1 hx with rfl|hx
   ·exact dB.1 (hm.dM (aB (g x)) (by simp))
   ·exact dB.1 (hm.dM (aB (aF g l)) (by simp)) x hx
theorem St.TF {f:α→List ak}(g:α→du)(l:List α)(d:∀a H w,Mm c (f a++H) w→Mm c (aB (g a)::H) w)[e:jD (bE f l) [] H H'](h:St n F (Mm c (aB (aF g l)::H')) T):St n F (Mm c H) T:=by
 obtain⟨L,a,b⟩:=e.eq
 refine h.o6 λw hw=> ?_
 rw[b,gq];refine Mm.TF d l L w ?_;obtain⟨ρ,k⟩:=hw.out;refine Mm.mk (k.perm ?_);rw[a];exact jX
end
end Go.J
namespace Go.J
open Go Go.RowKit
def sS:List Value→Nat→List Value→List Value
 |cs,_,[]=>cs
 |cs,p,u::us=>sS (cs.set p u) (p+1) us
theorem FV (x:List Value):∀(us rest:List Value) (p:Nat),sS (x++rest) (x.length+p) us=x++sS rest p us
 | [],_,_=>rfl
 |u::us,rest,p=>by
  rw[sS,lG _ _ (by omega),show x.length+p-x.length=p by omega,sS,←FV x us _ (p+1),qi]
theorem Ba:∀(y pre x rest:List Value),x.length=y.length→sS (pre++(x++rest)) pre.length y=pre++(y++rest)
 | [],pre,x,rest,h=>by
  obtain rfl:x=[]:=lD (by simpa using h);rfl
 |u::us,pre,x,rest,h=>by
  cases x with
  |nil=>cases h
  |cons a x=>
   rw[sS,lG _ _ (aR _),ff]
   have:=Ba us (pre++ [u]) x rest (by simpa using h)
   rw[bN]at this
   simp only[List.append_assoc,List.cons_append,List.nil_append,List.length_cons,List.length_nil]at this
   simpa using this
theorem BX {α:Type}(Rr:Rp α)(g:α):∀(l:List α) (k:Nat),k<l.length→sS (rows Rr l) (k*Rr.size) (Rr.cells g)=rows Rr (l.set k g)
 | [],_,h=>by cases h
 |a::l,0,_=>by
  have:=Ba (Rr.cells g) [] (Rr.cells a) (rows Rr l) (by rw[Rr.len,Rr.len])
  rw[Nat.zero_mul,sD];exact this
 |a::l,k+1,h=>by
  have e:(k+1)*Rr.size=(Rr.cells a).length+k*Rr.size:=by rw[Rr.len,jd];omega
  rw[wg]
  show sS (Rr.cells a++rows Rr l) _ _=Rr.cells a++rows Rr (l.set k g)
  rw[e,FV,BX Rr g l k (by rw[fA]at h;omega)]
section
variable {P:Program}{n:Nat}{F:Fr}{c:Ctx}{H R:List ak}{ty t e:TypeId}{x y:Operand}{v:Value}{Q:Exit→Act→World→Prop}{ops:Array Oper}{rest:List Oper}{pos:String}{after:Array Edge}{m k size:Nat}
theorem mX {ρ:Ro}{b:Nat}(a:v.ownBlock=some b)(hk:k<m):∀(us:List Value) (j:Nat) (cs:List Value) (w:World),eu c (row v e size m cs::R) ρ w→j+us.length≤size→(∀u∈us,u.oneCell'=true)→
 ∃w',(storeCells ⟨b,k*size,none⟩ us j).run P w= .ok () w'∧eu c (row v e size m (sS cs (k*size+j) us)::R) ρ w'
 | [],j,cs,w,hm,_,_=>⟨w,rfl,hm⟩
 |u::us,j,cs,w,hm,f,h1=>by
  rw[fA]at f;obtain⟨l,n,o,d,c1,f1,g⟩:=DI (off:=j) (u:=u) hm hk (by omega)
  rw[a]at d;cases d
  obtain⟨w',h,i⟩:=mX a hk us (j+1) _ _ g (by omega) (λz hz=>h1 z (by simp[hz]));refine⟨w',?_,by rw[sS];exact i⟩;rw[storeCells]
  simp[run_store P w _ u _ (h1 u (by simp)),c1,f1,Addr.add_lit,h]
theorem St.uJ {α:Type}{Rr:Rp α}{l:List α}{sz:Nat}(p:Rr.size=sz)(g:α)[tk:lR v H e sz m (rows Rr l) R](hx:ai F x (cY v sz k 0))(hy:ai F y (.agg (Rr.cells g).toArray))(q:(P.info? t).map (·.size)=some sz)(hk:k<m)(d:k<l.length)
 (h:St n F (Mm c (row v e sz m (rows Rr (l.set k g))::R)) (wpList P ops Q rest)):
 St n F (Mm c H) (wpList P ops Q ({dst:=none,op:= .store t x y,type:=ty,pos:=pos,after:=after,guard:=none}::rest)):=by
 subst p;refine St.lh (K:=λC H'=>H'=row v e Rr.size m (rows Rr (l.set k g))::R) ?_ ?_
 ·intro a w ρ f hm
  have j:=hm.perm tk.perm
  have r:(rows Rr l)[k*Rr.size+0]?=some ((Rr.cells (l[k]'d))[0]'(by rw[Rr.len];exact Rr.pos)):=by
   rw[eL Rr l k 0 (l[k]'d) (bU d) Rr.pos,bU]
  obtain⟨b,s,_,u,_⟩:=k9 (eK.1 (j.dM _ (aP ..))) hk r;rw[s,j4]at hx;obtain⟨w',z,o⟩:=mX (P:=P) (k:=k) u hk (Rr.cells g) 0 _ w j (by rw[Rr.len];omega) (Rr.one g);rw[j4,BX Rr g l k d]at o;obtain⟨i,A,B⟩:=di.1 q;refine⟨.skip,w',ρ,_,?_,⟨_,.inr ⟨rfl,rfl⟩,rfl⟩,o⟩
  simp[execOp,hx.eval f,hy.eval f,Instr.storeAt,Instr.sureAddr,storeVar,sizeOf,typeInfo,A,B,bJ,Rr.len,z]
 ·rintro _ _ rfl
  exact h
end
end Go.J
namespace Go.J
open Go Go.Proofs.YtblifkgpebebmaaGreatDoor
structure y5 (P:Program)(t:TypeId)(nm:String)(f:Nat)(byP:Bool)(e:TypeId):Prop where
 row:((P.info? t).bind λi=>(i.methods.find? λm=>m.name==nm).map λm=>(m.path.isEmpty,m.func))=some (true,some (f,byP))
 und:P.underlying t=some (.pointer e)
theorem y5.out {P:Program}{t e:TypeId}{nm:String}{f:Nat}{byP:Bool}(h:y5 P t nm f byP e):∃i m,P.info? t=some i∧i.methods.find? (λm=>m.name==nm)=some m∧m.path= #[]∧m.func=some (f,byP):=by
 obtain⟨i,b,c⟩:=pO.1 h.row;obtain⟨m,hm,a⟩:=di.1 c
 have d:=congrArg Prod.fst a
 have g:=congrArg Prod.snd a
 exact⟨i,m,b,hm,by simpa using d,g⟩
theorem HP {P:Program}{t e:TypeId}{nm:String}{f:Nat}(h:y5 P t nm f true e)(k:Nat)(v:Value)(w:World):(method (k+1) t v nm).run P w= .ok (f,v) w:=by
 obtain⟨i,m,a,hm,hp,b⟩:=h.out
 have hu:=h.und
 simp[method,typeInfo,a,hm,hp,b,follow,receiverAt,run_underlying hu,Place.get]
theorem QI (t:TypeId)(a:Addr)(s m:String):Builtin.ssaWrapNilChk_ #[t] t #[.pointer (some a),strVal s,strVal m]=pure (.pointer (some a)):=rfl
theorem HQ {P:Program}{t e:TypeId}{nm:String}{f:Nat}{a:Addr}{u:Value}(h:y5 P t nm f false e)(k:Nat)(w:World)(b:(loadVar e a).run P w= .ok u w):(method (k+1) t (.pointer (some a)) nm).run P w= .ok (f,u) w:=by
 obtain⟨i,m,c,hm,hp,d⟩:=h.out
 have hu:=h.und
 simp[method,typeInfo,c,hm,hp,d,follow,receiverAt,run_underlying hu,Place.get,QI,asAddr,b]
section
variable {P:Program}{n:Nat}{F:Fr}{c:Ctx}{H R:List ak}{ty t e e2:TypeId}{x:Operand}{r u v:Value}{nm:String}{Q:Exit→Act→World→Prop}{ops:Array Oper}{rest:List Oper}{d:Nat}{pos:String}{after:Array Edge}{f:Nat}
def Recv (P:Program)(c:Ctx)(H:List ak)(t:TypeId)(r:Value)(nm:String)(f:Nat)(u:Value):Prop:=∀w,Mm c H w→(method (P.types.size+Made.depth) t r nm).run P w= .ok (f,u) w
theorem Recv.ptr (h:y5 P t nm f true e):Recv P c H t r nm f r:=λw _=>HP h (P.types.size+99) r w
theorem Recv.row {m k off size:Nat}{cs:List Value}{dd:TypeDesc}[a:wj v H e2 size m cs](h:y5 P t nm f false e)(hu:P.underlying e=some dd)(d:(match dd with| .struct _| .array _ _=>False|_=>True))(hk:k<m)(g:cs[k*size+off]?=some u):
 Recv P c H t (cY v size k off) nm f u:=λw hw=>by
 obtain⟨ρ,hm⟩:=hw.out;obtain⟨b,h1,i,_⟩:=k9 (hm.row a) hk g;rw[h1];exact HQ h (P.types.size+99) w (fP hu d i)
theorem wH {xs:List Operand}{c:Array TypeId}{vs:List Value}(d:aJ P f)(hx:bH F (x::xs) (.iface t r::vs)){a:Act}(b:Has n a F){w:World}(e:(method (P.types.size+Made.depth) t r nm).run P w= .ok (f,u) w):
 (execOp a.eval (bare (.call {callee:= .invoke x nm,args:=xs.toArray,argTypes:=c}) ty)).run P w= .ok (.enter f (u::vs).toArray) w:=by
 have h1:=hx.1.eval b
 have g:=bH.eval b hx.2
 have h:(#[Value.iface t r]++xs.toArray.map a.eval)=(Value.iface t r::vs).toArray:=by simp[g]
 have e2:((Value.iface t r::vs).toArray).extract 1 (Value.iface t r::vs).toArray.size=vs.toArray:=by simp
 simp only[execOp,resolve,h1,Sem.run_bind,Sem.run_pure,Result.andThen_ok,invoke,h,e2]
 have i:(Value.iface t r::vs).toArray[0]?=some (Value.iface t r):=by simp
 simp only[i,callMethod,Sem.run_bind,run_program,Result.andThen_ok,e]
 have j:(#[u]++vs.toArray)=(u::vs).toArray:=by simp
 rw[j];exact d.run
theorem Ev.qx {xs:List Operand}{d:Array TypeId}{vs:List Value}{ds:List du}(g:Recv P c H t r nm f u)(i:eD P f (u::vs).toArray ds v)(j:aJ P f)(hx:bH F (x::xs) (.iface t r::vs))(k:dm c H ds):
 Ev P n F (Mm c H) (.call {callee:= .invoke x nm,args:=xs.toArray,argTypes:=d}) ty v:=by
 intro a w l hw;rw[wH j hx l (g w hw)]
 simp only[Oper.quietUpon,true_and]
 refine(Mm.Wx (post:=λu H'=>u=v∧H'=[]) (λw ρ m=>(i w ρ m).mono λe w' ⟨u,H',h1,o,b⟩=>⟨u,[],h1,⟨o,rfl⟩,?_⟩) k (λ_ _ h=>by rw[h.2];exact gw.nil) hw).mono ?_
 ·obtain⟨jo,b⟩:=b.out
  exact Mm.mk (eu.left (L:=[]) b)
 ·rintro e w' ⟨u,H',rfl,⟨rfl,rfl⟩,hm⟩
  exact⟨rfl,hm⟩
theorem yg {xs:List Operand}{b:Array TypeId}{vs:List Value}(c:aJ P f)(hx:bH F (x::xs) (.iface t r::vs)){a:Act}(d:Has n a F){w:World}(i:(method (P.types.size+Made.depth) t r nm).run P w= .ok (f,u) w){K:Act→World→Prop}
 {dd:Option Tmp} {g:Option (Nat×Bool)}
 (hk:Calls P f (u::vs).toArray w λe w'=>∃v,e= .returned v∧K (a.put dd v) w'):
 ({dst:=dd,op:= .call {callee:= .invoke x nm,args:=xs.toArray,argTypes:=b},type:=ty,pos:=pos,after:=after,guard:=g}:Oper).wp P a w K Q:=by
 unfold Oper.wp Oper.upon;rw[gx,wH c hx d i]
 exact hk.mono λe w' ⟨v,he,h⟩=>by subst he;exact h
theorem St.ivk {xs:List Operand}{g:Array TypeId}{vs:List Value}{pre:List ak}{post:Value→List ak→Prop}(i:Recv P c H t r nm f u)(j:dx P f (u::vs).toArray pre post)(k:aJ P f)(hx:bH F (x::xs) (.iface t r::vs))(hd:Nat.ble (d+1) n=true)[tk:eT pre H R]
 (h:∀v H',post v H'→St n ((d,v)::F) (Mm c (H'++R)) (wpList P ops Q rest)):
 St n F (Mm c H) (wpList P ops Q ({dst:=some d,op:= .call {callee:= .invoke x nm,args:=xs.toArray,argTypes:=g},type:=ty,pos:=pos,after:=after,guard:=none}::rest)):=by
 intro a w b hw;refine gH rfl (yg k hx b (i w hw) ?_);refine(Mm.call j (hw.take (L:=pre))).mono ?_;rintro e w' ⟨u,H',rfl,hp,hm⟩;exact⟨u,rfl,h u H' hp _ w' (b.put (dR hd) u) hm⟩
theorem Ev.iface {A:World→Prop}{dd:TypeDesc}(hx:ai F x v)(ht:P.underlying t=some dd)(hk:(match dd with| .interface _=>False|_=>True)):Ev P n F A (.makeInterface t x) ty (.iface t v):= .of_run λa w b _=>by
 cases dd<;>simp_all [execOp,Instr.makeInterface,hx.eval b,run_underlying ht]
theorem Ev.assert {A:World→Prop}{dd:TypeDesc}{b:TypeId}(hx:ai F x (.iface t v))(ht:P.underlying t=some dd)(hk:(match dd with| .interface _=>False|_=>True)):Ev P n F A (.typeAssert x b t false) ty v:= .of_run λa w c _=>by
 cases dd<;>simp_all [execOp,Instr.typeAssert,hx.eval c,run_underlying ht]
end
end Go.J
namespace Go.J
open Go
section
variable {P:Program}{n:Nat}{F:Fr}{A:World→Prop}{c:Ctx}{H R:List ak}{ty:TypeId}{x y:Operand}{v:Value}{Q:Exit→Act→World→Prop}{ops:Array Oper}{rest:List Oper}
 {pos:String} {after:Array Edge} {t e:TypeId}
theorem xN {b off:Nat}{L:List Value}{u:Value}{ρ:Ro}{w:World}(d:eu c (aW b (.cells L.toArray e (0,0))::R) ρ w)(h:off<L.length):w.cell? ⟨b,off,none⟩=some L[off]∧w.frozen? ⟨b,off,none⟩=false∧
 eu c (aW b (.cells (L.set off u).toArray e (0,0))::R) ρ (w.setCell ⟨b,off,none⟩ u):=by
 have a:=fm.1 (d.dM _ (aP ..))
 refine⟨by rw[cU a];simp,by simp[World.frozen?,a],?_⟩;refine d.alter rfl ⟨rfl,aR _⟩ rfl (by simp) (λk hk f=> ?_) (fm.2 ?_) (λi g=>by rw[iY]at g⊢;exact .inl g)
 ·rw[iY]at f
  simp only[World.setCell,Array.getElem?_modify]
  rw[aA (λe=>f (by rw[e]))]
 ·rw[nP a];simp
theorem St.o4 {T:Act→World→Prop}(L:List ak)(a:L.Sublist H)(k:St n F (Mm c L) T):St n F (Mm c H) T:=k.o6 λw hw=>by
 obtain⟨ρ,h⟩:=hw.out;exact Mm.mk ⟨h.os,h.tape,h.output,h.size,h.AA,h.fits,h.le,h.new,λE b=>h.dM E (a.subset b),λE b=>h.own E (a.subset b),h.EG.sublist a⟩
theorem St.Fc {b off:Nat}{L L':List Value}{d:Value}[tk:ku b H (.cells L.toArray e (0,0)) R](hx:ai F x (.pointer (some ⟨b,off,none⟩)))(hy:ai F y (.agg #[d]))(g:(P.info? t).map (·.size)=some 1)(h1:d.oneCell'=true)
 (j:Nat.ble (off+1) L.length=true) (k:L.set off d=L') (h:St n F (Mm c (aW b (.cells L'.toArray e (0,0))::R)) (wpList P ops Q rest)):
 St n F (Mm c H) (wpList P ops Q ({dst:=none,op:= .store t x y,type:=ty,pos:=pos,after:=after,guard:=none}::rest)):=by
 subst k;refine St.lh (K:=λu H'=>H'=aW b (.cells (L.set off d).toArray e (0,0))::R) ?_ ?_
 ·intro a w ρ f hm
  have l:=hm.perm tk.perm
  obtain⟨c1,f1,m⟩:=xN (u:=d) l (dR j);obtain⟨i,o,p⟩:=di.1 g;refine⟨.skip,_,ρ,_,?_,⟨_,.inr ⟨rfl,rfl⟩,rfl⟩,m⟩
  simp[execOp,hx.eval f,hy.eval f,Instr.storeAt,Instr.sureAddr,storeVar,sizeOf,typeInfo,o,p,bJ,storeCells,run_store P w _ d _ h1,c1,f1,Addr.add_zero',Addr.add_lit]
 ·rintro _ _ rfl
  exact h
theorem St.PY {b off:Nat}{L L':List Value}{d f:Value}[tk:ku b H (.cells L.toArray e (0,0)) R](hx:ai F x (.pointer (some ⟨b,off,none⟩)))(hy:ai F y (.agg #[d,f]))(j:(P.info? t).map (·.size)=some 2)(h1:d.oneCell'=true)(k:f.oneCell'=true)
 (l:Nat.ble (off+2) L.length=true) (m:(L.set off d).set (off+1) f=L') (h:St n F (Mm c (aW b (.cells L'.toArray e (0,0))::R)) (wpList P ops Q rest)):
 St n F (Mm c H) (wpList P ops Q ({dst:=none,op:= .store t x y,type:=ty,pos:=pos,after:=after,guard:=none}::rest)):=by
 subst m;refine St.lh (K:=λu H'=>H'=aW b (.cells ((L.set off d).set (off+1) f).toArray e (0,0))::R) ?_ ?_
 ·intro a w ρ g hm
  have o:=hm.perm tk.perm
  have v:=dR l
  obtain⟨c1,f1,p⟩:=xN (u:=d) o (show off<L.length by omega);obtain⟨c2,f2,q⟩:=xN (u:=f) p (show off+1<(L.set off d).length by rw[cn];omega);obtain⟨i,r,s⟩:=di.1 j;refine⟨.skip,_,ρ,_,?_,⟨_,.inr ⟨rfl,rfl⟩,rfl⟩,q⟩
  simp[execOp,hx.eval g,hy.eval g,Instr.storeAt,Instr.sureAddr,storeVar,sizeOf,typeInfo,r,s,bJ,storeCells,run_store P w _ d _ h1,run_store P _ _ f _ k,c1,f1,c2,f2,Addr.add_zero',Addr.add_lit]
 ·rintro _ _ rfl
  exact h
end
section
variable {P:Program}{n:Nat}{F:Fr}{c:Ctx}{H R:List ak}{ty:TypeId}{x y:Operand}{t e:TypeId}
theorem Ev.iV {b off:Nat}{dd:TypeDesc}{fr:Nat×Nat}{L L':List Value}[f:Av b H (.cells L.toArray e fr)](m:Nat)(hx:ai F x (.pointer (some ⟨b,off,none⟩)))(ht:P.underlying t=some dd)(g:(match dd with| .struct _| .array _ _=>True|_=>False))
 (h:(P.info? t).map (·.size)=some m) (i:(L.drop off).take m=L') (k:L'.length=m):Ev P n F (Mm c H) (.load t x) ty (.agg L'.toArray):= .of_run λa w l hw=>by
 obtain⟨ρ,hm⟩:=hw.out
 have h1:=fm.1 (hm.dM _ f.mem)
 have o:=eP (P:=P) (w:=w) (b:=b) (off:=off) (L:=L') ht g (by rw[k];exact h) (λj u d=>by
  rw[cU h1];rw[←i,s8]at d
  split at d
  ·rw[A4]at d;simpa using d
  ·cases d)
 simp[execOp,hx.eval l,Instr.loadAt,Instr.sureAddr,o]
end
theorem fa.ind {p:fa→Prop}(h:∀x,(∀y∈x.args,p y)→p x)(x:fa):p x:=
 fa.rec (motive_1:=p) (motive_2:=λl=>∀y∈l,p y) (λb v l c=>h (.mk b v l) c) (λy hy=>by cases hy) (λa l d e y hy=>by
  rcases cH.1 hy with rfl|hy
  ·exact d
  ·exact e y hy) x
theorem dg.ind {p:dg→Prop}(h:∀x,(∀y∈x.args,p y)→p x)(x:dg):p x:=
 dg.rec (motive_1:=p) (motive_2:=λl=>∀y∈l,p y) (λk s i t v l b=>h (.mk k s i t v l) b) (λy hy=>by cases hy) (λa l c d y hy=>by
  rcases cH.1 hy with rfl|hy
  ·exact c
  ·exact d y hy) x
theorem dE.ind {p:dE→Prop}(h:∀x,(∀y∈x.kids,p y)→p x)(x:dE):p x:=
 dE.rec (motive_1:=p) (motive_2:=λl=>∀y∈l,p y) (λr i v l b=>h (.mk r i v l) b) (λy hy=>by cases hy) (λa l c d y hy=>by
  rcases cH.1 hy with rfl|hy
  ·exact c
  ·exact d y hy) x
section
variable {P:Program}{n:Nat}{F:Fr}{A:World→Prop}{c:Ctx}{H R:List ak}{ty:TypeId}{x y z:Operand}{v:Value}{Q:Exit→Act→World→Prop}{ops:Array Oper}{rest:List Oper}
 {d:Nat} {pos:String} {after:Array Edge} {t e:TypeId} {size m:Nat} {cs:List Value}
end
section
variable {P:Program}{n:Nat}{F:Fr}{A:World→Prop}{c:Ctx}{H R:List ak}{ty:TypeId}{x y z:Operand}{v:Value}{Q:Exit→Act→World→Prop}{ops:Array Oper}{rest:List Oper}
 {d:Nat} {pos:String} {after:Array Edge} {t e:TypeId} {size m:Nat} {cs:List Value}
def EB:Value→Value
 | .slice a m _=> .slice a m m
 |v=>v
theorem Ev.clip {α:Type}{Rr:Rp α}{xs:List α}{i j:Int}{g h:IntKind}{d f:Operand}[hd:sG v H α Rr xs](hx:ai F x v)(k:ai F d (.int g i))(hm:ai F f (.int h j))(ht:P.underlying t=some (.slice e))(l:(P.info? e).map (·.size)=some Rr.size)
 (h1:i=xs.length) (m:j=xs.length):Ev P n F (Mm c H) (.slice t x none (some d) (some f)) ty (EB v):= .of_run λa w b hw=>by
 obtain⟨ρ,o⟩:=hw.out;obtain⟨inf,p,q⟩:=di.1 l;obtain⟨ad,cap,rfl,u,_⟩:=o.sl hd;subst h1 m
 have r:(0:Int)≤(xs.length:Int)∧(xs.length:Int)≤(cap:Int):=by omega
 have s:(0:Int)≤(xs.length:Int)∧(xs.length:Int)≤(xs.length:Int):=by omega
 simp only[execOp,hx.eval b,k.eval b,hm.eval b,Option.map_some,Option.map_none,Instr.sliceAt,Instr.slice,Instr.sliceBounds,Instr.sliceBound,asIntOf,Sem.run_bind,run_underlying ht,Result.andThen_ok,Sem.run_pure,r,s,and_self,if_true,Int.toNat_natCast,sizeOf,typeInfo,run_program,p,q,EB,Nat.sub_zero,Nat.zero_mul]
 cases ad with
 |none=>simp
 |some a=>simp[Addr.add_zero']
theorem St.yH {α:Type}{Rr:Rp α}{xs:List α}{v2:Value}{m2:Nat}{news:List Value}{zv:Value}{yP:Nat}[t2:lR v2 H e Rr.size m2 news R][t1:sG v H α Rr xs]
 (hx:ai F x (EB v)) (hy:ai F y v2) (ht:P.underlying t=some (.slice e)) (D:(P.info? e).map (·.size)=some Rr.size) (hz:(P.info? e).bind (·.zero)=some zv) (o:(P.info? e).map (·.bytes)=some yP)
 (anI:∀u∈news,u.oneCell'=true) (hlen:xs.length+m2≤9223372036854775807) (O:(xs.length+m2)*yP≤140737488355328) (S:zv.cells.size=Rr.size) (ab7:Nat.ble 1 Rr.size=true) (T:Nat.ble 1 m2=true) (hd:Nat.ble (d+1) n=true)
 (h:∀v',v'.oneCell'=true→St n ((d,v')::F) (Mm c (row v' e Rr.size (xs.length+m2) (rows Rr xs++news)::R)) (wpList P ops Q rest)):
 St n F (Mm c H) (wpList P ops Q ({dst:=some d,op:= .call {callee:= .builtin .append,args:= #[x,y],argTypes:= #[t,t]},type:=ty,pos:=pos,after:=after,guard:=none}::rest)):=by
 refine St.Qc (K:=λv' H'=>v'.oneCell'=true∧H'=row v' e Rr.size (xs.length+m2) (rows Rr xs++news)::R) ?_ hd ?_
 ·intro a w ρ E hm
  have G:=hm.perm t2.perm
  have p:=eK.1 (G.dM _ (aP ..))
  obtain⟨ad,cap,rfl,_,_,_,f⟩:=hm.sl t1
  have U:=dR T
  obtain⟨i,q,SQ⟩:=di.1 D;obtain⟨I,J,V⟩:=qh D hz o q
  rcases p.2 with⟨_,rfl⟩|⟨g2,r,W,rfl,_,s,hc1,hc2,X,z⟩
  ·omega
  ·have L:∀j u,news[j]?=some u→w.cell? ((⟨g2,0,none⟩:Addr).add j)=some u:=λj u l=>by
    rw[Addr.add_lit,jG,cU s];rw[←z,s8]at l
    split at l
    ·simpa using l
    ·simp at l
   have A:xs.length+m2≤9223372036854775807:=hlen
   have M:(xs.length+m2)*i.bytes≤140737488355328:=by rw[V];exact O
   have Y:(rows Rr xs).length=xs.length*i.size:=by rw[j0,I]
   have m:news.length=m2*i.size:=by rw[p.1,I]
   have Z:∃(g:Nat),(Builtin.append_ #[t,t] ty #[EB (.slice ad xs.length cap),.slice (some ⟨g2,0,none⟩) m2 r]).run P w= .ok (.slice (some ⟨w.heap.size,0,none⟩) (xs.length+m2) g) (w.drew.alloc (.cells ((rows Rr xs).toArray++news.toArray++Builtin.zeroCells zv.cells (g-(xs.length+m2))) e))∧xs.length+m2≤g∧g≤maxLen:=by
    cases ad with
    |none=>
     rcases f with f|⟨b,off,C,e',fr,f,_⟩
     ·subst f
      refine⟨grownCap w (([]:List α).length+m2) 0 e,?_,grownCap_ge ..,grownCap_le_maxLen _ _ _ _ (by unfold maxLen;omega)⟩
      have hr:=run_append_nil (P:=P) w t ty e i zv ht q J ⟨g2,0,none⟩ m2 r news m L (by omega) (by simp at A;omega) (by simp at M;omega)
      simpa[EB,rows]using hr
     ·cases f
    |some ad=>
     refine⟨grownCap w (xs.length+m2) xs.length e,?_,grownCap_ge ..,grownCap_le_maxLen _ _ _ _ (by unfold maxLen;omega)⟩;refine run_append_grow (P:=P) w t ty e i zv ht q J ad xs.length xs.length (rows Rr xs) Y (λj u l=> ?_) ⟨g2,0,none⟩ m2 r news m L (by omega) (by omega) (growslice_fits (by omega) M)
     rcases f with f|⟨b,off,C,e',fr,f,h6,h7⟩
     ·subst f;simp[rows]at l
     ·cases f
      rw[Addr.add_lit,cU (hm.fits _ _ h6)];exact h7 j u l
   obtain⟨g,akA,hc3,B⟩:=Z;refine⟨.value (.slice (some ⟨w.heap.size,0,none⟩) (xs.length+m2) g),w.drew.alloc (.cells ((rows Rr xs).toArray++news.toArray++Builtin.zeroCells zv.cells (g-(xs.length+m2))) e),ρ,_,?_,⟨_,.inl rfl,rfl,rfl⟩,?_⟩
   ·simp[execOp,resolve,invoke,builtin,hx.eval E,hy.eval E,akA]
   ·have N:(rows Rr xs++news).length=(xs.length+m2)*Rr.size:=by rw[bN,p.1,j0,jd]
    refine G.drop.Ag rfl ⟨rfl,Nat.le_succ _⟩ rfl (by simp) (λk hk=>heap_alloc_old w.drew _ hk) (eK.2 ⟨N,.inr ⟨w.heap.size,g,_,rfl,aO _,heap_alloc_new w.drew _,hc3,B,?_,?_⟩⟩) ?_
    ·simp only[Array.size_append,List.size_toArray,size_zeroCells,S,j0,p.1,←Nat.add_mul]
     congr 1
     omega
    ·simp only[Array.toList_append,List.append_assoc]
     rw[←dp,←N];exact List.take_left
    ·intro b o;rw[eG]at o;simp[Value.ownBlock]at o;omega
 ·rintro _ _ ⟨h1,rfl⟩
  exact h _ h1
end
section
variable {P:Program}{n:Nat}{F F0:Fr}{A:World→Prop}{c:Ctx}{H R:List ak}{ty:TypeId}{x y:Operand}{v:Value}{Q:Exit→Act→World→Prop}{ops:Array Oper}{rest:List Oper}{d:Nat}{pos:String}{after:Array Edge}{op:Op}{t u e:TypeId}{i j:Int}{k:IntKind}
theorem St.ee (a:Ev P n F A op ty v)(h:St n ((d,v)::F) A (wpList P ops Q rest))(hd:Nat.ble (d+1) n=true:=by rfl):St n F A (wpList P ops Q ({dst:=some d,op:=op,type:=ty,pos:=pos,after:=after,guard:=none}::rest)):=St.ev v a hd h
theorem Sq.ee {T:Act→Prop}(a:Ev P n F A op ty v)(h:Sq n ((d,v)::F) (wpQuiet P ops A T rest))(hd:Nat.ble (d+1) n=true:=by rfl):Sq n F (wpQuiet P ops A T ({dst:=some d,op:=op,type:=ty,pos:=pos,after:=after,guard:=none}::rest)):=Sq.ev v a hd h
theorem St.sA {b m:Nat}{L L':List Value}[tk:ku b H (.cells L.toArray t (0,0)) R](hx:ai F x (.pointer (some ⟨b,0,none⟩)))(hy:ai F y (.agg L'.toArray))(a:(P.info? e).map (·.size)=some m)(h:St n F (Mm c (aW b (.cells L'.toArray t (0,0))::R)) (wpList P ops Q rest))
 (hm:m=L'.length:=by rfl) (d:L.length=L'.length:=by first|simp only[List.length_cons,List.length_nil]|rfl) (h1:L'.all (·.oneCell')=true:=by rfl):
 St n F (Mm c H) (wpList P ops Q ({dst:=none,op:= .store e x y,type:=ty,pos:=pos,after:=after,guard:=none}::rest)):=St.PX hx hy (by rw[a,hm]) d h1 h
theorem ab.cc {dr:Prop}{bs l:List uX}{slot:Nat}{gg:List Nat}{K:Value→du}{o:Oper}{m:List Oper}(a:(Nat→Value)→Fr)(L:(Nat→Value)→List ak)(h:∀(c:Ctx) (e:Nat→Value),(¬dr→¬c.dr)→St n (a e++F) (Mm c (L e++H)) (wpList P ops (Exit.then (qm c H slot K) Q) [o]))(k:ab P ops Q n F dr H bs l m)(h1:∀e,ui bs e gg=a e:=by exact λ_=>rfl)(b:∀e,pe bs e gg=L e:=by exact λ_=>rfl):ab P ops Q n F dr H bs (⟨slot,gg,K⟩::l) (o::m):=⟨VK.mk a L h1 b h,k⟩
theorem ab.c0 {dr:Prop}{bs l:List uX}{slot:Nat}{gg:List Nat}{K:Value→du}{o:Oper}{m:List Oper}(h:∀(c:Ctx) (e:Nat→Value),(¬dr→¬c.dr)→St n ((λe=>[]) e++F) (Mm c ((λe=>[]) e++H)) (wpList P ops (Exit.then (qm c H slot K) Q) [o]))(k:ab P ops Q n F dr H bs l m)(h1:∀e,ui bs e gg=(λe=>[]) e:=by exact λ_=>rfl)(a:∀e,pe bs e gg=(λe=>[]) e:=by exact λ_=>rfl):ab P ops Q n F dr H bs (⟨slot,gg,K⟩::l) (o::m):=⟨VK.mk (λe=>[]) (λe=>[]) h1 a h,k⟩
theorem St.rT {fn:Func}{post:Value→List ak→Prop}{a:List ResultVar}(vs:List Value)(H':List ak)(b:fn.results=a.toArray)(d:Qv P F H a vs)(hp:post (He vs) H')(hH:∀w,Mm c H w→Mm c H' w:=by exact λ_ hw=>hw.sub):
 St n F (Mm c H) (bodyPost P fn (λe w'=>∃v H',e= .returned v∧post v H'∧Mm c H' w') .ret):=St.LL vs H' b d hp hH
theorem St.rU {fn:Func}{post:Value→List ak→Prop}{a:List ResultVar}(vs:List Value)(H':List ak)(b:fn.results=a.toArray)(hp:post (He vs) H')(d:Qv P F H a vs:=by first|exact⟨rfl,trivial⟩|exact⟨⟨_,_,_,_,rfl,Av.mem,.inl ⟨⟨_,f⟩,g,rfl⟩⟩,trivial⟩)(hH:∀w,Mm c H w→Mm c H' w:=by exact λ_ hw=>hw.sub):
 St n F (Mm c H) (bodyPost P fn (λe w'=>∃v H',e= .returned v∧post v H'∧Mm c H' w') .ret):=St.LL vs H' b d hp hH
theorem St.sr {id:Nat}{l:List Oper}{y:Code}(h:St n F A (wpList P l.toArray (Exit.then (y.wp P Q) Q) l)):St n F A ((Code.seq (Code.region id l.toArray false) y).wp P Q):=St.seq (St.rg h)
theorem St.te {ι κ:Type}{body:Code}(G:ι→κ→Fr→Fr)(a:ι→κ→List ak)(φ:ι→κ→Prop)(μ:ι→κ→Nat)(b:ι)(d:κ)(hk:aD F F0)(e:φ b d)
 (round:∀x z,φ x z→St n (G x z F0) (Mm c (a x z)) (body.wp P (Exit.then (C9 n G F0 φ μ c a (μ x z)) Q))) (f:Sub (G b d F0) F:=by repeat(first|exact Sub.nil|refine Sub.cons (by first|rfl|exact congrArg (λz=>some (iv z)) (by first|omega|(dsimp only;omega))|exact congrArg (λz=>some (Value.bool z)) (by first|assumption|exact j5 (by assumption))) ?_)) (hH:∀w,Mm c H w→Mm c (a b d) w:=by exact λ_ hw=>hw.sub):
 St n F (Mm c H) ((Code.loop body).wp P Q):=St.XD G a φ μ b d hk e f hH round
theorem St.lH {ι:Type}{body:Code}(G:ι→Fr→Fr)(a:ι→List ak)(φ:ι→Prop)(μ:ι→Nat)(b:ι)(hk:aD F F0)(d:φ b)
 (round:∀x,φ x→St n (G x F0) (Mm c (a x)) (body.wp P (Exit.then (wB n G F0 φ μ c a (μ x)) Q))) (e:Sub (G b F0) F:=by repeat(first|exact Sub.nil|refine Sub.cons (by first|rfl|exact congrArg (λz=>some (iv z)) (by first|omega|(dsimp only;omega))|exact congrArg (λz=>some (Value.bool z)) (by first|assumption|exact j5 (by assumption))) ?_)) (hH:∀w,Mm c H w→Mm c (a b) w:=by exact λ_ hw=>hw.sub):
 St n F (Mm c H) ((Code.loop body).wp P Q):=St.Ef G a φ μ b hk d e hH round
theorem St.lS {ι:Type}{body:Code}(G:ι→Fr→Fr)(φ:ι→Prop)(μ:ι→Nat)(a:ι)(hk:aD F F0)(b:φ a)
 (round:∀x,φ x→St n (G x F0) (Mm c H) (body.wp P (Exit.then (wB n G F0 φ μ c (λ_=>H) (μ x)) Q))) (d:Sub (G a F0) F:=by repeat(first|exact Sub.nil|refine Sub.cons (by first|rfl|exact congrArg (λz=>some (iv z)) (by first|omega|(dsimp only;omega))|exact congrArg (λz=>some (Value.bool z)) (by first|assumption|exact j5 (by assumption))) ?_)):
 St n F (Mm c H) ((Code.loop body).wp P Q):=St.aeA G φ μ a hk b d round
theorem St.ue {ι κ:Type}{G:ι→κ→Fr→Fr}{a:ι→κ→List ak}{φ:ι→κ→Prop}{μ:ι→κ→Nat}{k:Nat}(y:ι)(z:κ)(b:φ y z)(hm:μ y z<k:=by first|omega|(dsimp only;omega))(d:Sub (G y z F0) F:=by repeat(first|exact Sub.nil|refine Sub.cons (by first|rfl|exact congrArg (λz=>some (iv z)) (by first|omega|(dsimp only;omega))|exact congrArg (λz=>some (Value.bool z)) (by first|assumption|exact j5 (by assumption))) ?_))(e:∀w,Mm c H w→Mm c (a y z) w:=by exact λ_ hw=>hw.sub):
 St n F (Mm c H) (C9 n G F0 φ μ c a k):=St.nC y z b hm d e
theorem St.aH {ι:Type}{G:ι→Fr→Fr}{a:ι→List ak}{φ:ι→Prop}{μ:ι→Nat}{k:Nat}(y:ι)(b:φ y)(hm:μ y<k:=by first|omega|(dsimp only;omega))(d:Sub (G y F0) F:=by repeat(first|exact Sub.nil|refine Sub.cons (by first|rfl|exact congrArg (λz=>some (iv z)) (by first|omega|(dsimp only;omega))|exact congrArg (λz=>some (Value.bool z)) (by first|assumption|exact j5 (by assumption))) ?_))(e:∀w,Mm c H w→Mm c (a y) w:=by exact λ_ hw=>hw.sub):
 St n F (Mm c H) (wB n G F0 φ μ c a k):=St.sK y b hm d e
theorem St.aS {ι:Type}{G:ι→Fr→Fr}{φ:ι→Prop}{μ:ι→Nat}{k:Nat}{H':List ak}(y:ι)(a:φ y)(hm:μ y<k:=by first|omega|(dsimp only;omega))(b:Sub (G y F0) F:=by repeat(first|exact Sub.nil|refine Sub.cons (by first|rfl|exact congrArg (λz=>some (iv z)) (by first|omega|(dsimp only;omega))|exact congrArg (λz=>some (Value.bool z)) (by first|assumption|exact j5 (by assumption))) ?_))(d:∀w,Mm c H w→Mm c H' w:=by exact λ_ hw=>hw.sub):
 St n F (Mm c H) (wB n G F0 φ μ c (λ_=>H') k):=St.MG y a hm b d
theorem St.mE {ι:Type}{G:ι→Fr→Fr}{a:ι→List ak}{φ:ι→Prop}(y:ι)(b:φ y)(d:Sub (G y F0) F:=by repeat(first|exact Sub.nil|refine Sub.cons (by first|rfl|exact congrArg (λz=>some (iv z)) (by first|omega|(dsimp only;omega))|exact congrArg (λz=>some (Value.bool z)) (by first|assumption|exact j5 (by assumption))) ?_))(e:∀w,Mm c H w→Mm c (a y) w:=by exact λ_ hw=>hw.sub):
 St n F (Mm c H) (Met n G F0 φ c a):=St.met y b d e
theorem Ev.l0 {b off:Nat}{fr:Nat×Nat}{d:TypeDesc}{u:Value}{L:List Value}[f:Av b H (.cells L.toArray e fr)](hx:ai F x (.pointer (some ⟨b,off,none⟩)))(ht:P.underlying t=some d)(a:(match d with| .struct _| .array _ _=>False|_=>True):=by trivial)
 (hu:L[off]?=some u:=by rfl):Ev P n F (Mm c H) (.load t x) ty u:=Ev.kP hx ht a hu
theorem Ev.o0 {p q:Bool}(hx:ai F x (.bool p):=by exact .mk rfl)(hy:(!p)=true→ai F y (.bool q):=by exact λhp=>ai.gv rfl hp):Ev P n F A (.pick x (.const (.bool true)) y) ty (.bool (p||q)):=Ev.or hx hy
theorem Ev.n0 {p q:Bool}(hx:ai F x (.bool p):=by exact .mk rfl)(hy:p=true→ai F y (.bool q):=by exact λhp=>ai.gv rfl hp):Ev P n F A (.pick x y (.const (.bool false))) ty (.bool (p&&q)):=Ev.and hx hy
theorem Ev.a0 (hx:ai F x (iv i):=by exact .mk rfl)(hy:ai F y (iv j):=by exact .mk rfl)(h: -9223372036854775808≤i+j∧i+j≤9223372036854775807:=by omega):Ev P n F A (.binOp .add t x y u) ty (iv (i+j)):=Ev.add hx hy h
theorem Ev.s0 (hx:ai F x (iv i):=by exact .mk rfl)(hy:ai F y (iv j):=by exact .mk rfl)(h: -9223372036854775808≤i-j∧i-j≤9223372036854775807:=by omega):Ev P n F A (.binOp .sub t x y u) ty (iv (i-j)):=Ev.sub hx hy h
theorem Ev.lt0 (hx:ai F x (.int k i):=by exact .mk rfl)(hy:ai F y (.int k j):=by exact .mk rfl):Ev P n F A (.binOp .lss t x y u) ty (.bool (decide (i<j))):=Ev.lss hx hy
theorem Ev.eq0 (hx:ai F x (.int k i):=by exact .mk rfl)(hy:ai F y (.int k j):=by exact .mk rfl):Ev P n F A (.binOp .eql t x y u) ty (.bool (decide (i=j))):=Ev.eql hx hy
theorem Ev.ne0 (hx:ai F x (.int k i):=by exact .mk rfl)(hy:ai F y (.int k j):=by exact .mk rfl):Ev P n F A (.binOp .neq t x y u) ty (.bool (!decide (i=j))):=Ev.neq hx hy
theorem Ev.gt0 (hx:ai F x (.int k i):=by exact .mk rfl)(hy:ai F y (.int k j):=by exact .mk rfl):Ev P n F A (.binOp .gtr t x y u) ty (.bool (decide (j<i))):=Ev.gtr hx hy
theorem Ev.ge0 (hx:ai F x (.int k i):=by exact .mk rfl)(hy:ai F y (.int k j):=by exact .mk rfl):Ev P n F A (.binOp .geq t x y u) ty (.bool (decide (j≤i))):=Ev.geq hx hy
theorem Ev.le0 (hx:ai F x (.int k i):=by exact .mk rfl)(hy:ai F y (.int k j):=by exact .mk rfl):Ev P n F A (.binOp .leq t x y u) ty (.bool (decide (i≤j))):=Ev.leq hx hy
theorem St.nn {K:Act→World→Prop}(h:St n F A K):St n F A (wpList P ops (Exit.then K Q) []):=h
theorem St.dup (d:du){T:Act→World→Prop}[hd:kY [d] H](k:St n F (Mm c (aB d::H)) T):St n F (Mm c H) T:=St.eY d [d] (λρ h=>h _ (aP ..)) k
end
section
variable {P:Program}{ops:Array Oper}{Q:Exit→Act→World→Prop}{n:Nat}{F:Fr}{c:Ctx}{H Fp r r' C':List ak}{f:Nat}{listed:Array Bool}{d:Nat}{op:Op}{ty:TypeId}{pos:String}{after:Array Edge}{v:Value}
theorem SW.dd (i:Nat)(a:ops[i]?=some {dst:=some d,op:=op,type:=ty,pos:=pos,after:=after,guard:=none})(b:∀R,Ev P n F (Mm c (Fp++R)) op ty v)(h:SW P ops Q n ((d,v)::F) c Fp r f (listed.setIfInBounds i true))
 (e:NP Q:=by assumption) (g:Region.noSelect ops=true:=by assumption) (j:((Region.ready .any ops listed).contains i&&Region.free .any ops listed i)=true:=by decide+kernel) (hd:Nat.ble (d+1) n=true:=by rfl):SW P ops Q n F c Fp r (f+1) listed:=SW.defer i e g a b j hd h
end
end Go.J
namespace Go.Proofs
open Tryz
theorem YW:type_of% @underlying0:=underlying0
theorem gG:type_of% @underlying3:=underlying3
theorem IA:type_of% @underlying4:=underlying4
theorem GG:type_of% @underlying5:=underlying5
theorem wW:type_of% @underlying9:=underlying9
theorem vq:type_of% @underlying22:=underlying22
theorem Fw:type_of% @underlying23:=underlying23
theorem Px:type_of% @underlying26:=underlying26
theorem I9:type_of% @underlying27:=underlying27
theorem oZ:type_of% @underlying28:=underlying28
theorem mf:type_of% @underlying30:=underlying30
theorem Xs:type_of% @underlying32:=underlying32
theorem mz:type_of% @underlying33:=underlying33
theorem Li:type_of% @underlying35:=underlying35
theorem zw:type_of% @underlying44:=underlying44
theorem pK:type_of% @underlying49:=underlying49
theorem bI:type_of% @underlying58:=underlying58
theorem IB:type_of% @underlying69:=underlying69
theorem IC:type_of% @underlying71:=underlying71
theorem Lj:type_of% @underlying84:=underlying84
theorem vr:type_of% @underlying98:=underlying98
theorem wT:type_of% @underlying100:=underlying100
theorem pY:type_of% @underlying102:=underlying102
theorem j3:type_of% @underlying103:=underlying103
theorem lW:type_of% @underlying105:=underlying105
theorem iE:type_of% @underlying106:=underlying106
theorem lX:type_of% @underlying108:=underlying108
theorem uO:type_of% @underlying110:=underlying110
theorem zt:type_of% @underlying115:=underlying115
theorem nT:type_of% @underlying118:=underlying118
theorem fJ:type_of% @underlying138:=underlying138
theorem Jp:type_of% @underlying156:=underlying156
theorem lY:type_of% @underlying157:=underlying157
theorem eV:type_of% @underlying161:=underlying161
theorem wU:type_of% @underlying163:=underlying163
theorem lB:type_of% @underlying165:=underlying165
theorem jj:type_of% @underlying171:=underlying171
theorem Bm:type_of% @underlying177:=underlying177
theorem Fv:type_of% @underlying183:=underlying183
theorem uP:type_of% @underlying184:=underlying184
theorem oY:type_of% @underlying190:=underlying190
theorem ib:type_of% @underlying192:=underlying192
theorem uQ:type_of% @underlying196:=underlying196
theorem Bn:type_of% @underlying218:=underlying218
theorem Bo:type_of% @underlying232:=underlying232
theorem zu:type_of% @underlying234:=underlying234
theorem Bp:type_of% @underlying243:=underlying243
theorem wV:type_of% @underlying271:=underlying271
end Go.Proofs
namespace Go.J
open Go
class UT (P:Program)(t:TypeId)(d:outParam TypeDesc):Prop where h:P.underlying t=some d
class pd (P:Program)(t:TypeId)(m:outParam Nat):Prop where h:(P.info? t).map (·.size)=some m
class gu (P:Program)(s i:Nat)(o:outParam Nat):Prop where h:bf P s i=some o
class rf (P:Program)(t:TypeId)(Z:outParam (Array Value)):Prop where h:(P.info? t).bind (λi=>i.zero.map Value.cells)=some Z
class om (v:Value):Prop where h:v.oneCell'=true
instance om.sub (u:aV):om u.1:=⟨u.2⟩
instance om.int (k:IntKind)(i:Int):om (.int k i):=⟨rfl⟩
instance om.bool (b:Bool):om (.bool b):=⟨rfl⟩
instance om.str (s:ByteArray):om (.string s):=⟨rfl⟩
instance om.sv (s:bB):om (sv s):=⟨rfl⟩
instance om.sl (a:Option Addr)(m c:Nat):om (.slice a m c):=⟨rfl⟩
instance om.ptr (a:Option Addr):om (.pointer a):=⟨rfl⟩
instance om.map (a:Option Nat):om (.map a):=⟨rfl⟩
instance om.fn (f:Fn)(a c:Array Value):om (.func f a c):=⟨rfl⟩
class KG (L:List Value):Prop where h:L.all (·.oneCell')=true
instance KG.nil:KG []:=⟨rfl⟩
instance KG.cons (v:Value)(L:List Value)[a:om v][b:KG L]:KG (v::L):=⟨by rw[List.all_cons,a.h,b.h];rfl⟩
section
variable {P:Program}{n:Nat}{F F0:Fr}{A:World→Prop}{c:Ctx}{H R:List ak}{ty:TypeId}{x y:Operand}{v:Value}{Q:Exit→Act→World→Prop}{ops:Array Oper}{rest:List Oper}{d:Nat}{pos:String}{after:Array Edge}{op:Op}{t u e s:TypeId}{i j:Int}{k:IntKind}
variable {b off:Nat}{L:List Value}{fr:Nat×Nat}{dd:TypeDesc}{α:Type}{Rr:Rp α}{xs:List α}
theorem Ev.g0 [d:Av b H (.cells L.toArray e fr)][ut:UT P t dd](hx:ai F x (.pointer (some ⟨b,off,none⟩)))(a:(match dd with| .struct _| .array _ _=>False|_=>True):=by exact True.intro)(hu:L[off]?=some v:=by rfl):Ev P n F (Mm c H) (.load t x) ty v:=Ev.kP hx ut.h (by cases dd<;>exact a) hu
theorem Ev.gA [d:Av b H (.cells L.toArray e fr)][ut:UT P t dd]{m:Nat}[sz:pd P t m](hx:ai F x (.pointer (some ⟨b,0,none⟩)))(a:(match dd with| .struct _| .array _ _=>True|_=>False):=by exact True.intro)(hm:m=L.length:=by rfl):Ev P n F (Mm c H) (.load t x) ty (.agg L.toArray):=Ev.Wt hx ut.h (by cases dd<;>exact a) (by rw[sz.h,hm])
theorem Ev.gF {o q:Nat}[a:gu P s q o](hx:ai F x (.pointer (some ⟨b,off,none⟩))):Ev P n F A (.fieldAddr s x q) ty (.pointer (some ⟨b,off+o,none⟩)):=Ev.W9 hx a.h
theorem Ev.gF0 {o q:Nat}[a:gu P s q o](hx:ai F x (.pointer (some ⟨b,0,none⟩))):Ev P n F A (.fieldAddr s x q) ty (.pointer (some ⟨b,o,none⟩)):=Ev.dV hx a.h
theorem Ev.gE {o q m:Nat}[hd:sG v H α Rr xs][a:gu P s q o](hx:ai F x (cY v Rr.size m off))(hk:m<xs.length:=by omega):Ev P n F (Mm c H) (.fieldAddr s x q) ty (cY v Rr.size m (off+o)):=Ev.UQ hx hk a.h
theorem Ev.gR {o q m k sz:Nat}{cs:List Value}[b:wj v H e sz m cs][a:gu P s q o](hx:ai F x (cY v sz k off))(hk:k<m:=by omega):Ev P n F (Mm c H) (.fieldAddr s x q) ty (cY v sz k (off+o)):=Ev.WA hx hk a.h
theorem Ev.gL [hd:sG v H α Rr xs][ut:UT P t (.slice e)](hx:ai F x v):Ev P n F (Mm c H) (.call {callee:= .builtin .len,args:= #[x],argTypes:= #[t]}) ty (iv xs.length):=Ev.fj hx ut.h
theorem Ev.gM {sz m:Nat}{cs:List Value}[a:wj v H e sz m cs][ut:UT P t (.slice s)](hx:ai F x v):Ev P n F (Mm c H) (.call {callee:= .builtin .len,args:= #[x],argTypes:= #[t]}) ty (iv m):=Ev.Wz hx ut.h
theorem Ev.gS {s:bB}[ut:UT P t .string](hx:ai F x (sv s)):Ev P n F A (.call {callee:= .builtin .len,args:= #[x],argTypes:= #[t]}) ty (iv s.length):=Ev.O9 hx ut.h
theorem Ev.g1 {m:Nat}{z:α}[hd:sG v H α Rr xs][ut:UT P t dd]{u:Value}(hx:ai F x (cY v Rr.size m off))(hk:xs[m]?=some z:=by assumption)(a:(match dd with| .struct _| .array _ _=>False|_=>True):=by exact True.intro)(hu:(Rr.cells z)[off]?=some u:=by rfl):Ev P n F (Mm c H) (.load t x) ty u:=Ev.ld1 hx hk ut.h (by cases dd<;>exact a) hu
theorem Ev.gI {m:Nat}{kd:IntKind}[hd:sG v H α Rr xs][ut:UT P t (.slice e)]{z:Nat}[sz:pd P e z](hx:ai F x v)(hy:ai F y (.int kd (m:Nat)))(hz:z=Rr.size:=by rfl)(hk:m<xs.length:=by omega):Ev P n F (Mm c H) (.indexAddr t x y) ty (cY v Rr.size m 0):=Ev.cL hx hy ut.h (by rw[sz.h,hz]) rfl hk
theorem Ev.gJ {m q sz:Nat}{kd:IntKind}{cs:List Value}[b:wj v H s sz m cs][ut:UT P t (.slice e)]{z:Nat}[a:pd P e z](hx:ai F x v)(hy:ai F y (.int kd (q:Nat)))(hz:z=sz:=by rfl)(he:s=e:=by rfl)(hk:q<m:=by omega):Ev P n F (Mm c H) (.indexAddr t x y) ty (cY v sz q 0):=by
 subst he;exact Ev.dX hx hy ut.h (by rw[a.h,hz]) rfl hk
theorem Ev.gC {u:Value}[d:rX b H u][ut:UT P t dd](hx:ai F x (.pointer (some ⟨b,0,none⟩)))(a:(match dd with| .struct _| .array _ _=>False|_=>True):=by exact True.intro):Ev P n F (Mm c H) (.load t x) ty u:=Ev.ad1 hx ut.h (by cases dd<;>exact a)
theorem Ev.iM (h:Ev P n F A (.move x) ty v):Ev P n F A (.move x) ty v:=h
theorem Ev.iA (h:Ev P n F A (.assign x) ty v):Ev P n F A (.assign x) ty v:=h
theorem Ev.iF {q:Nat}(h:Ev P n F A (.fieldAddr s x q) ty v):Ev P n F A (.fieldAddr s x q) ty v:=h
theorem Ev.iL (h:Ev P n F A (.load t x) ty v):Ev P n F A (.load t x) ty v:=h
theorem Ev.iB {o:BinOp}(h:Ev P n F A (.binOp o t x y u) ty v):Ev P n F A (.binOp o t x y u) ty v:=h
theorem Ev.iC {a:Builtin}{az:Array Operand}{b:Array TypeId}(h:Ev P n F A (.call {callee:= .builtin a,args:=az,argTypes:=b}) ty v):Ev P n F A (.call {callee:= .builtin a,args:=az,argTypes:=b}) ty v:=h
theorem Ev.iI (h:Ev P n F A (.indexAddr t x y) ty v):Ev P n F A (.indexAddr t x y) ty v:=h
theorem Ev.go (h:Ev P n F A op ty v:=by
 first
 |with_reducible apply Ev.iM
  exact Ev.move (.mk rfl)
 |with_reducible apply Ev.iA
  exact Ev.assign (.mk rfl)
 |with_reducible apply Ev.iF
  first
  |exact Ev.gF0 (.mk rfl)
  |exact Ev.gE (.mk rfl)
  |exact Ev.gF (.mk rfl)
  |exact Ev.gR (.mk rfl)
 |with_reducible apply Ev.iL
  first
  |exact Ev.g0 (.mk rfl)
  |exact Ev.gA (.mk rfl)
  |exact Ev.g1 (.mk rfl)
  |exact Ev.gC (.mk rfl)
 |with_reducible apply Ev.iB
  first
  |exact Ev.lt0
  |exact Ev.a0
  |exact Ev.eq0
  |exact Ev.ne0
  |exact Ev.gt0
  |exact Ev.ge0
  |exact Ev.le0
  |exact Ev.s0
  |exact Ev.Pa (.mk rfl) (.mk rfl)
  |exact Ev.ae3 (.mk rfl) (.mk rfl)
 |with_reducible apply Ev.iC
  first
  |exact Ev.gL (.mk rfl)
  |exact Ev.gM (.mk rfl)
  |exact Ev.gS (.mk rfl)
 |with_reducible apply Ev.iI
  first
  |exact Ev.gI (.mk rfl) (.mk rfl)
  |exact Ev.gJ (.mk rfl) (.mk rfl)
 |exact Ev.extract (.mk rfl) rfl
 |exact Ev.not (.mk rfl)
 |exact Ev.o0
 |exact Ev.n0
 |exact Ev.ak9 (.mk rfl)):Ev P n F A op ty v:=h
theorem St.oo {b m:Nat}{L L':List Value}[tk:ku b H (.cells L.toArray t (0,0)) R][sz:pd P e m](hx:ai F x (.pointer (some ⟨b,0,none⟩)))(hy:ai F y (.agg L'.toArray))[o:KG L'](h:St n F (Mm c (aW b (.cells L'.toArray t (0,0))::R)) (wpList P ops Q rest))
 (hm:m=L'.length:=by rfl) (a:L.length=L'.length:=by first|simp only[List.length_cons,List.length_nil]|rfl):
 St n F (Mm c H) (wpList P ops Q ({dst:=none,op:= .store e x y,type:=ty,pos:=pos,after:=after,guard:=none}::rest)):=St.PX hx hy (by rw[sz.h,hm]) a o.h h
theorem St.al {Z:Array Value}[a:rf P t Z](h:∀b,St n ((d,.pointer (some ⟨b,0,none⟩))::F) (Mm c (aW b (.cells Z t (0,0))::H)) (wpList P ops Q rest))(hd:Nat.ble (d+1) n=true:=by rfl):
 St n F (Mm c H) (wpList P ops Q ({dst:=some d,op:= .alloc t,type:=ty,pos:=pos,after:=after,guard:=none}::rest)):=St.alloc a.h hd h
theorem F1 {p q:Prop}(h:p→q:=by
 first
 |with_reducible exact St.nil
 |with_reducible exact St.wS
 |with_reducible exact St.seq
 |with_reducible exact St.rg
 |with_reducible exact St.block
 |with_reducible exact St.skip
 |with_reducible exact St.Ku
 |with_reducible exact St.alK
 |with_reducible exact St.Po
 |with_reducible exact St.Wp
 |with_reducible exact St.exit
 |with_reducible exact St.Lg
 |with_reducible exact St.Wo
 |with_reducible exact Sq.nil
 |with_reducible exact Sq.tail
 |exact λh=>St.ee Ev.go h
 |exact λh=>Sq.ee Ev.go h
 |exact λh=>St.oo (.mk rfl) (.mk rfl) h
 |exact St.Sb rfl):p→q:=h
theorem go {p q:Prop}(hp:p)(h:p→q:=by exact F1):q:=h hp
theorem F2 {p q r:Prop}(b:q→r:=by exact F1)(a:p→q:=by exact F1):p→r:=λh=>b (a h)
theorem F3 {p q r:Prop}(b:q→r:=by exact F1)(a:p→q:=by exact F2):p→r:=λh=>b (a h)
theorem F4 {p q r:Prop}(b:q→r:=by exact F2)(a:p→q:=by exact F2):p→r:=λh=>b (a h)
theorem F5 {p q r:Prop}(b:q→r:=by exact F2)(a:p→q:=by exact F3):p→r:=λh=>b (a h)
theorem F6 {p q r:Prop}(b:q→r:=by exact F3)(a:p→q:=by exact F3):p→r:=λh=>b (a h)
theorem F7 {p q r:Prop}(b:q→r:=by exact F3)(a:p→q:=by exact F4):p→r:=λh=>b (a h)
theorem F8 {p q r:Prop}(b:q→r:=by exact F4)(a:p→q:=by exact F4):p→r:=λh=>b (a h)
theorem F9 {p q r:Prop}(b:q→r:=by exact F4)(a:p→q:=by exact F5):p→r:=λh=>b (a h)
theorem Yb {p q r:Prop}(b:q→r:=by exact F5)(a:p→q:=by exact F5):p→r:=λh=>b (a h)
theorem Yc {p q r:Prop}(b:q→r:=by exact F5)(a:p→q:=by exact F6):p→r:=λh=>b (a h)
theorem Yd {p q r:Prop}(b:q→r:=by exact F6)(a:p→q:=by exact F6):p→r:=λh=>b (a h)
theorem Ye {p q r:Prop}(b:q→r:=by exact F6)(a:p→q:=by exact F7):p→r:=λh=>b (a h)
theorem Yf {p q r:Prop}(b:q→r:=by exact F7)(a:p→q:=by exact F7):p→r:=λh=>b (a h)
theorem F15 {p q r:Prop}(b:q→r:=by exact F7)(a:p→q:=by exact F8):p→r:=λh=>b (a h)
theorem F16 {p q r:Prop}(b:q→r:=by exact F8)(a:p→q:=by exact F8):p→r:=λh=>b (a h)
theorem F17 {p q r:Prop}(b:q→r:=by exact F8)(a:p→q:=by exact F9):p→r:=λh=>b (a h)
theorem F18 {p q r:Prop}(b:q→r:=by exact F9)(a:p→q:=by exact F9):p→r:=λh=>b (a h)
theorem F19 {p q r:Prop}(b:q→r:=by exact F9)(a:p→q:=by exact Yb):p→r:=λh=>b (a h)
theorem F20 {p q r:Prop}(b:q→r:=by exact Yb)(a:p→q:=by exact Yb):p→r:=λh=>b (a h)
theorem F21 {p q r:Prop}(b:q→r:=by exact Yb)(a:p→q:=by exact Yc):p→r:=λh=>b (a h)
theorem F22 {p q r:Prop}(b:q→r:=by exact Yc)(a:p→q:=by exact Yc):p→r:=λh=>b (a h)
theorem F23 {p q r:Prop}(b:q→r:=by exact Yc)(a:p→q:=by exact Yd):p→r:=λh=>b (a h)
theorem F24 {p q r:Prop}(b:q→r:=by exact Yd)(a:p→q:=by exact Yd):p→r:=λh=>b (a h)
theorem F25 {p q r:Prop}(b:q→r:=by exact Yd)(a:p→q:=by exact Ye):p→r:=λh=>b (a h)
theorem F26 {p q r:Prop}(b:q→r:=by exact Ye)(a:p→q:=by exact Ye):p→r:=λh=>b (a h)
theorem F27 {p q r:Prop}(b:q→r:=by exact Ye)(a:p→q:=by exact Yf):p→r:=λh=>b (a h)
theorem F28 {p q r:Prop}(b:q→r:=by exact Yf)(a:p→q:=by exact Yf):p→r:=λh=>b (a h)
theorem F29 {p q r:Prop}(b:q→r:=by exact Yf)(a:p→q:=by exact F15):p→r:=λh=>b (a h)
theorem F30 {p q r:Prop}(b:q→r:=by exact F15)(a:p→q:=by exact F15):p→r:=λh=>b (a h)
theorem g2 {p q:Prop}(hp:p)(h:p→q:=by exact F2):q:=h hp
theorem g3 {p q:Prop}(hp:p)(h:p→q:=by exact F3):q:=h hp
theorem g4 {p q:Prop}(hp:p)(h:p→q:=by exact F4):q:=h hp
theorem g5 {p q:Prop}(hp:p)(h:p→q:=by exact F5):q:=h hp
theorem g6 {p q:Prop}(hp:p)(h:p→q:=by exact F6):q:=h hp
theorem g7 {p q:Prop}(hp:p)(h:p→q:=by exact F7):q:=h hp
theorem g8 {p q:Prop}(hp:p)(h:p→q:=by exact F8):q:=h hp
theorem g9 {p q:Prop}(hp:p)(h:p→q:=by exact F9):q:=h hp
theorem g10 {p q:Prop}(hp:p)(h:p→q:=by exact Yb):q:=h hp
theorem g11 {p q:Prop}(hp:p)(h:p→q:=by exact Yc):q:=h hp
theorem g12 {p q:Prop}(hp:p)(h:p→q:=by exact Yd):q:=h hp
theorem g13 {p q:Prop}(hp:p)(h:p→q:=by exact Ye):q:=h hp
theorem g14 {p q:Prop}(hp:p)(h:p→q:=by exact Yf):q:=h hp
theorem g15 {p q:Prop}(hp:p)(h:p→q:=by exact F15):q:=h hp
theorem g16 {p q:Prop}(hp:p)(h:p→q:=by exact F16):q:=h hp
theorem g17 {p q:Prop}(hp:p)(h:p→q:=by exact F17):q:=h hp
theorem g18 {p q:Prop}(hp:p)(h:p→q:=by exact F18):q:=h hp
theorem g19 {p q:Prop}(hp:p)(h:p→q:=by exact F19):q:=h hp
theorem g20 {p q:Prop}(hp:p)(h:p→q:=by exact F20):q:=h hp
theorem g21 {p q:Prop}(hp:p)(h:p→q:=by exact F21):q:=h hp
theorem g22 {p q:Prop}(hp:p)(h:p→q:=by exact F22):q:=h hp
theorem g23 {p q:Prop}(hp:p)(h:p→q:=by exact F23):q:=h hp
theorem g24 {p q:Prop}(hp:p)(h:p→q:=by exact F24):q:=h hp
theorem g25 {p q:Prop}(hp:p)(h:p→q:=by exact F25):q:=h hp
theorem g26 {p q:Prop}(hp:p)(h:p→q:=by exact F26):q:=h hp
theorem g27 {p q:Prop}(hp:p)(h:p→q:=by exact F27):q:=h hp
theorem g28 {p q:Prop}(hp:p)(h:p→q:=by exact F28):q:=h hp
theorem g29 {p q:Prop}(hp:p)(h:p→q:=by exact F29):q:=h hp
theorem g30 {p q:Prop}(hp:p)(h:p→q:=by exact F30):q:=h hp
theorem bH.ar {F:Fr}{x0:Operand}{v0:Value}(a:vl F x0=some v0):bH F [x0] [v0]:= .cons (.mk a) .nil
theorem bH.aY {F:Fr}{x0 a:Operand}{v0 v1:Value}(b:vl F x0=some v0)(h1:vl F a=some v1):bH F [x0,a] [v0,v1]:= .cons (.mk b) (.cons (.mk h1) .nil)
theorem bH.eh {F:Fr}{x0 a b:Operand}{v0 v1 v2:Value}(c:vl F x0=some v0)(h1:vl F a=some v1)(d:vl F b=some v2):bH F [x0,a,b] [v0,v1,v2]:= .cons (.mk c) (.cons (.mk h1) (.cons (.mk d) .nil))
theorem bH.gW {F:Fr}{x0 a b x3:Operand}{v0 v1 v2 v3:Value}(c:vl F x0=some v0)(h1:vl F a=some v1)(d:vl F b=some v2)(e:vl F x3=some v3):bH F [x0,a,b,x3] [v0,v1,v2,v3]:= .cons (.mk c) (.cons (.mk h1) (.cons (.mk d) (.cons (.mk e) .nil)))
theorem bH.Aj {F:Fr}{x0 a b x3 c:Operand}{v0 v1 v2 v3 v4:Value}(d:vl F x0=some v0)(h1:vl F a=some v1)(e:vl F b=some v2)(f:vl F x3=some v3)(g:vl F c=some v4):bH F [x0,a,b,x3,c] [v0,v1,v2,v3,v4]:= .cons (.mk d) (.cons (.mk h1) (.cons (.mk e) (.cons (.mk f) (.cons (.mk g) .nil))))
theorem bH.XM {F:Fr}{x0 a b x3 c d:Operand}{v0 v1 v2 v3 v4 v5:Value}(e:vl F x0=some v0)(h1:vl F a=some v1)(f:vl F b=some v2)(g:vl F x3=some v3)(h:vl F c=some v4)(i:vl F d=some v5):bH F [x0,a,b,x3,c,d] [v0,v1,v2,v3,v4,v5]:= .cons (.mk e) (.cons (.mk h1) (.cons (.mk f) (.cons (.mk g) (.cons (.mk h) (.cons (.mk i) .nil)))))
theorem bH.aeG {F:Fr}{x0 a b x3 c d e:Operand}{v0 v1 v2 v3 v4 v5 v6:Value}(f:vl F x0=some v0)(h1:vl F a=some v1)(g:vl F b=some v2)(h:vl F x3=some v3)(i:vl F c=some v4)(j:vl F d=some v5)(k:vl F e=some v6):bH F [x0,a,b,x3,c,d,e] [v0,v1,v2,v3,v4,v5,v6]:= .cons (.mk f) (.cons (.mk h1) (.cons (.mk g) (.cons (.mk h) (.cons (.mk i) (.cons (.mk j) (.cons (.mk k) .nil))))))
theorem bH.alF {F:Fr}{x0 a b x3 c d e f:Operand}{v0 v1 v2 v3 v4 v5 v6 g:Value}(h:vl F x0=some v0)(h1:vl F a=some v1)(i:vl F b=some v2)(j:vl F x3=some v3)(k:vl F c=some v4)(l:vl F d=some v5)(m:vl F e=some v6)(n:vl F f=some g):bH F [x0,a,b,x3,c,d,e,f] [v0,v1,v2,v3,v4,v5,v6,g]:= .cons (.mk h) (.cons (.mk h1) (.cons (.mk i) (.cons (.mk j) (.cons (.mk k) (.cons (.mk l) (.cons (.mk m) (.cons (.mk n) .nil)))))))
theorem St.bg {d:du}{slot:Nat}{K:Value→du}{H2:List ak}(u:Value)(a:look F slot=some u:=by rfl)(hd:K u=d:=by rfl)[b:lQ d H][tl:GQ H2 H]:St n F (Mm c H) (wpList P ops (Exit.then (qm c H2 slot K) Q) []):=St.Vf u a d hd
theorem St.rV {fn:Func}{post:Value→List ak→Prop}{a:List ResultVar}(vs:List Value)(H':List ak)(hp:post (He vs) H')(b:fn.results=a.toArray:=by rfl)(d:Qv P F H a vs:=by
 repeat(first
 |exact trivial
 |refine⟨rfl,?_⟩
 |refine⟨⟨_,_,_,_,rfl,Av.mem,.inl ⟨⟨_,UT.h⟩,pd.h,rfl⟩⟩,?_⟩
 |refine⟨⟨_,_,_,_,rfl,Av.mem,.inr ⟨by rw[UT.h];trivial,rfl⟩⟩,?_⟩)) (hH:∀w,Mm c H w→Mm c H' w:=by exact λ_ hw=>hw.sub):
 St n F (Mm c H) (bodyPost P fn (λe w'=>∃v H',e= .returned v∧post v H'∧Mm c H' w') .ret):=St.LL vs H' b d hp hH
end
section
variable {P:Program}{ops:Array Oper}{Q:Exit→Act→World→Prop}{n:Nat}{F:Fr}{c:Ctx}{H Fp r r' C':List ak}{f:Nat}{listed:Array Bool}{d:Nat}{op:Op}{ty:TypeId}{pos:String}{after:Array Edge}{v:Value}
theorem SW.gd (i:Nat)(h:SW P ops Q n ((d,v)::F) c Fp r f (listed.setIfInBounds i true))(a:((Region.ready .any ops listed).contains i&&Region.free .any ops listed i)=true:=by decide+kernel)(b:ops[i]?=some {dst:=some d,op:=op,type:=ty,pos:=pos,after:=after,guard:=none}:=by rfl)(e:∀R,Ev P n F (Mm c (Fp++R)) op ty v:=by exact λ_=>Ev.go)
 (g:NP Q:=by assumption) (j:Region.noSelect ops=true:=by assumption) (hd:Nat.ble (d+1) n=true:=by rfl):SW P ops Q n F c Fp r (f+1) listed:=SW.defer i g j b e a hd h
theorem SW.me (h:SW P ops Q n F c Fp r f listed):SW P ops Q n F c Fp r f listed:=h
theorem SW.ck (i:Nat)(h:SW P ops Q n F c Fp r f listed)(a:((Region.ready .any ops listed).contains i&&Region.free .any ops listed i)=true:=by decide+kernel):SW P ops Q n F c Fp r f listed:=h
theorem SW.dn [ap:App Fp r C'](h:St n F (Mm c C') (Q .normal))(a:Region.ready .any ops listed=[]:=by decide+kernel):SW P ops Q n F c Fp r f listed:=SW.done a h
theorem SW.t1 (i:Nat){o:Oper}[ap:App Fp r C'](h:St n F (Mm c C') (wpList P ops (Exit.then (KW P ops Q n c Fp f (listed.setIfInBounds i true)) Q) [o]))(a:Region.ready .any ops listed=[i]:=by decide+kernel)(b:ops[i]?=some o:=by rfl):SW P ops Q n F c Fp r (f+1) listed:=SW.afB a b h
theorem SW.t2 (i j:Nat){o o':Oper}[ap:App Fp r C'](h:St n F (Mm c C') (wpList P ops (Exit.then (KW P ops Q n c Fp f (listed.setIfInBounds i true)) Q) [o]))(b:St n F (Mm c C') (wpList P ops (Exit.then (KW P ops Q n c Fp f (listed.setIfInBounds j true)) Q) [o']))
 (d:Region.ready .any ops listed=[i,j]:=by decide+kernel) (e:ops[i]?=some o:=by rfl) (a:ops[j]?=some o':=by rfl):SW P ops Q n F c Fp r (f+1) listed:=SW.afC d e a h b
end
end Go.J
namespace Go.Proofs
open J Tryz
instance:type_of%(UT.mk wT):=⟨wT⟩
instance:type_of%(UT.mk pY):=⟨pY⟩
instance:type_of%(UT.mk j3):=⟨j3⟩
instance:type_of%(UT.mk lW):=⟨lW⟩
instance:type_of%(UT.mk iE):=⟨iE⟩
instance:type_of%(UT.mk lX):=⟨lX⟩
instance:type_of%(UT.mk uO):=⟨uO⟩
instance:type_of%(UT.mk zt):=⟨zt⟩
instance:type_of%(UT.mk nT):=⟨nT⟩
instance:type_of%(UT.mk underlying120):=⟨underlying120⟩
instance:type_of%(UT.mk underlying125):=⟨underlying125⟩
instance:type_of%(UT.mk fJ):=⟨fJ⟩
instance:type_of%(UT.mk underlying148):=⟨underlying148⟩
instance:type_of%(UT.mk Jp):=⟨Jp⟩
instance:type_of%(UT.mk eV):=⟨eV⟩
instance:type_of%(UT.mk wU):=⟨wU⟩
instance:type_of%(UT.mk lB):=⟨lB⟩
instance:type_of%(UT.mk underlying169):=⟨underlying169⟩
instance:type_of%(UT.mk underlying170):=⟨underlying170⟩
instance:type_of%(UT.mk jj):=⟨jj⟩
instance:type_of%(UT.mk underlying172):=⟨underlying172⟩
instance:type_of%(UT.mk underlying174):=⟨underlying174⟩
instance:type_of%(UT.mk Bm):=⟨Bm⟩
instance:type_of%(UT.mk Fv):=⟨Fv⟩
instance:type_of%(UT.mk uP):=⟨uP⟩
instance:type_of%(UT.mk oY):=⟨oY⟩
instance:type_of%(UT.mk ib):=⟨ib⟩
instance:type_of%(UT.mk uQ):=⟨uQ⟩
instance:type_of%(UT.mk underlying200):=⟨underlying200⟩
instance:type_of%(UT.mk vq):=⟨vq⟩
instance:type_of%(UT.mk underlying225):=⟨underlying225⟩
instance:type_of%(UT.mk Fw):=⟨Fw⟩
instance:type_of%(UT.mk Bo):=⟨Bo⟩
instance:type_of%(UT.mk zu):=⟨zu⟩
instance:type_of%(UT.mk underlying239):=⟨underlying239⟩
instance:type_of%(UT.mk Bp):=⟨Bp⟩
instance:type_of%(UT.mk underlying25):=⟨underlying25⟩
instance:type_of%(UT.mk Px):=⟨Px⟩
instance:type_of%(UT.mk underlying260):=⟨underlying260⟩
instance:type_of%(UT.mk I9):=⟨I9⟩
instance:type_of%(UT.mk wV):=⟨wV⟩
instance:type_of%(UT.mk oZ):=⟨oZ⟩
instance:type_of%(UT.mk gG):=⟨gG⟩
instance:type_of%(UT.mk mf):=⟨mf⟩
instance:type_of%(UT.mk Xs):=⟨Xs⟩
instance:type_of%(UT.mk mz):=⟨mz⟩
instance:type_of%(UT.mk Li):=⟨Li⟩
instance:type_of%(UT.mk IA):=⟨IA⟩
instance:type_of%(UT.mk zw):=⟨zw⟩
instance:type_of%(UT.mk pK):=⟨pK⟩
instance:type_of%(UT.mk bI):=⟨bI⟩
instance:type_of%(UT.mk IB):=⟨IB⟩
instance:type_of%(UT.mk IC):=⟨IC⟩
instance:type_of%(UT.mk underlying77):=⟨underlying77⟩
instance:type_of%(UT.mk underlying87):=⟨underlying87⟩
instance:type_of%(UT.mk wW):=⟨wW⟩
instance:type_of%(UT.mk vr):=⟨vr⟩
end Go.Proofs
namespace Go.J
open Go
theorem wfi {l:List Int}(h:l.all (λx=>decide (-9223372036854775808≤x)&&decide (x≤9223372036854775807))=true):∀x∈l,aI.wf x:=λx hx=>by
 have:=eW.1 h x hx
 simp only[Bool.and_eq_true,decide_eq_true_eq]at this
 exact this
class KC (vs:List Value)(ga:List (List Int))(H:List ak):Prop where mem:∀p∈vs.zip ga,aB (sl aI p.1 p.2)∈H
instance KC.nil (H:List ak):KC [] [] H:=⟨λ_ h=>by simp at h⟩
instance KC.cons (v:Value)(xs:List Int)(vs:List Value)(ga:List (List Int))(H:List ak)[h:lQ (sl aI v xs) H][k:KC vs ga H]:KC (v::vs) (xs::ga) H:=
 ⟨λp hp=>by rw[List.zip_cons_cons]at hp;rcases cH.1 hp with rfl|hp;exact h.mem;exact k.mem p hp⟩
section
variable {P:Program}{n:Nat}{F:Fr}{c:Ctx}{H:List ak}{Q:Exit→Act→World→Prop}{ops:Array Oper}{rest:List Oper}{d:Nat}{ty t e:TypeId}{pos:String}{after:Array Edge}{m:Nat}{ps:List (Nat×Operand)}{zv:Value}
theorem Uv (F:Fr):∀xs:List Int,bH F (xs.map λx=>Operand.const (.int .i64 x)) (xs.map λx=>Value.int .i64 x)
 | []=>bH.nil
 |_::xs=>bH.cons (.mk rfl) (Uv F xs)
theorem V3:∀xs:List Int,((xs.map λx=>Value.int .i64 x).flatMap λu=>u.cells.toList)=rows aI xs
 | []=>rfl
 |x::xs=>by
  have:=V3 xs
  simp only[rows]at this⊢
  rw[fL,jU,jU,this];rfl
theorem St.bi (xs:List Int)(h:∀b,St n ((d,.slice (some ⟨b,0,none⟩) m m)::F) (Mm c (aB (sl aI (.slice (some ⟨b,0,none⟩) m m) xs)::H)) (wpList P ops Q rest))
 (ht:P.underlying t=some (.slice e)) (a:(P.info? e).map (·.size)=some 1) (hz:(P.info? e).bind (·.zero)=some zv)
 (hp:ps=(xs.map λx=>Operand.const (.int .i64 x)).zipIdx.map λp=>(p.2,p.1):=by exact rfl) (hm:m=xs.length:=by exact rfl) (f:Nat.ble xs.length 16777216=true:=by exact rfl) (hw:∀x∈xs,aI.wf x:=by exact wfi (by decide)) (hd:Nat.ble (d+1) n=true:=by exact rfl):
 St n F (Mm c H) (wpList P ops Q ({dst:=some d,op:= .buildSlice t m ps.toArray,type:=ty,pos:=pos,after:=after,guard:=none}::rest)):=
 St.Ca (size:=1) hp (Uv F xs) ht a hz rfl (by rw[aN,gX];exact f) (by
  intro u hu;obtain⟨x,_,rfl⟩:=cy.1 hu;rfl) hd (by rw[aN];exact hm)
  (λb=>St.bR _ aI xs (V3 xs) hm hw (h b))
theorem ab.bi {dr:Prop}{bs l:List uX}{slot:Nat}{xs:List Int}{q:List Oper}(k:ab P ops Q n F dr H bs l q)
 (ht:P.underlying t=some (.slice e)) (a:(P.info? e).map (·.size)=some 1) (hz:(P.info? e).bind (·.zero)=some zv)
 (hp:ps=(xs.map λx=>Operand.const (.int .i64 x)).zipIdx.map λp=>(p.2,p.1):=by exact rfl) (hm:m=xs.length:=by exact rfl) (d:Nat.ble xs.length 16777216=true:=by exact rfl) (hw:∀x∈xs,aI.wf x:=by exact wfi (by decide)) (hd:Nat.ble (slot+1) n=true:=by exact rfl):
 ab P ops Q n F dr H bs (⟨slot,[],λu=>fW aI xs u⟩::l) ({dst:=some slot,op:= .buildSlice t m ps.toArray,type:=ty,pos:=pos,after:=after,guard:=none}::q):=
 ab.c0 (λc e _=>by
  show St n F (Mm c H) _
  refine St.bi xs (λb=> ?_) ht a hz hp hm d hw hd;refine St.Xp (Rr:=aI) (xs:=xs) (.slice (some ⟨b,0,none⟩) m m) rfl ?_
  exact St.bg (.slice (some ⟨b,0,none⟩) m m) (by simp[look]) rfl) k
theorem Uu:∀L:List (Value×List Int),(∀p∈L,p.1.oneCell'=true)→∃vs:List aV,vs.map (·.1)=L.map (·.1)
 | [],_=>⟨[],rfl⟩
 |p::L,h=>let⟨vs,e⟩:=Uu L λq a=>h q (cN _ a);⟨⟨p.1,h p (aP ..)⟩::vs,by rw[fL,fL,e]⟩
theorem V4:∀vs:List aV,((vs.map (·.1)).flatMap λu=>u.cells.toList)=rows bS vs
 | []=>rfl
 |v::vs=>by
  have:=V4 vs
  simp only[rows]at this⊢
  rw[fL,jU,jU,this,J.cells_one v.2];rfl
theorem St.bwc (L:List (Value×List Int))(o:∀p∈L,p.1.oneCell'=true)(q:∀ρ w,eu c H ρ w→∀p∈L,(sl aI p.1 p.2).f ρ)
 (h:∀b,St n ((d,.slice (some ⟨b,0,none⟩) m m)::F) (Mm c (aB (J.fS aI (L.map (·.2)) (.slice (some ⟨b,0,none⟩) m m))::H)) (wpList P ops Q rest))
 (ht:P.underlying t=some (.slice e)) (r:(P.info? e).map (·.size)=some 1) (hz:(P.info? e).bind (·.zero)=some zv)
 {xs:List Operand} (hp:ps=xs.zipIdx.map λp=>(p.2,p.1)) (hx:bH F xs (L.map (·.1))) (hm:m=L.length) (s:Nat.ble L.length 16777216=true) (hd:Nat.ble (d+1) n=true):
 St n F (Mm c H) (wpList P ops Q ({dst:=some d,op:= .buildSlice t m ps.toArray,type:=ty,pos:=pos,after:=after,guard:=none}::rest)):=by
 obtain⟨vs,a⟩:=Uu L o
 have v:vs.length=L.length:=by have:=congrArg List.length a;simpa using this
 refine St.Ca (size:=1) hp hx ht r hz rfl (by rw[aN,gX];exact s) (λu hu=> ?_) hd (by rw[aN];exact hm) (λb=> ?_)
 ·rw[←a]at hu
  obtain⟨x,_,rfl⟩:=cy.1 hu
  have:=congrArg Array.size (J.cells_one x.2)
  simpa using this
 ·refine St.bR (.slice (some ⟨b,0,none⟩) m m) bS vs (by rw[←a];exact V4 vs) (by omega) (λ_ _=>trivial) ?_
  refine St.fact (J.fS aI (L.map (·.2)) (.slice (some ⟨b,0,none⟩) m m)) (λρ w j=>⟨rfl,vs,by rw[v,aN],dB.1 (j.dM _ (aP ..)),λi u x hu g=> ?_⟩) ?_
  ·have h1:(L.map (·.1))[i]?=some u.1:=by rw[←a,bQ,hu];rfl
   rw[bQ]at h1 g;obtain⟨p,l,y⟩:=di.1 h1;rw[l]at g
   have z:p.2=x:=by simpa using g
   have:=q ρ w j.drop p (ae l)
   rw[y,z]at this;exact this
  ·exact(h b).o6 λw hw=>let⟨_,k⟩:=hw.out;Mm.mk (k.perm (List.Perm.swap ..)).drop
theorem St.bw (vs:List Value)(ga:List (List Int))[a:KC vs ga H](h:∀b,St n ((d,.slice (some ⟨b,0,none⟩) m m)::F) (Mm c (aB (J.fS aI ga (.slice (some ⟨b,0,none⟩) m m))::H)) (wpList P ops Q rest))
 (ht:P.underlying t=some (.slice e)) (f:(P.info? e).map (·.size)=some 1) (hz:(P.info? e).bind (·.zero)=some zv) (hx:bH F (ps.map (·.2)) vs)
 (hp:ps=(ps.map (·.2)).zipIdx.map λp=>(p.2,p.1):=by exact rfl) (g:vs.all (λp=>p.oneCell')=true:=by exact rfl) (h1:(vs.zip ga).map (·.1)=vs:=by exact rfl) (i:(vs.zip ga).map (·.2)=ga:=by exact rfl) (hm:m=(vs.zip ga).length:=by exact rfl) (j:Nat.ble (vs.zip ga).length 16777216=true:=by exact rfl) (hd:Nat.ble (d+1) n=true:=by exact rfl):
 St n F (Mm c H) (wpList P ops Q ({dst:=some d,op:= .buildSlice t m ps.toArray,type:=ty,pos:=pos,after:=after,guard:=none}::rest)):=
 St.bwc (vs.zip ga) (λp hp=>eW.1 g _ (by rw[←h1];exact cy.2 ⟨p,hp,rfl⟩)) (λρ w k p hp=>dB.1 (k.dM _ (a.mem p hp))) (by rw[i];exact h) ht f hz hp (by rw[h1];exact hx) hm j hd
theorem ab.bw {dr:Prop}{bs l:List uX}{slot:Nat}{gg:List Nat}{ga:List (List Int)}{q:List Oper}(k:ab P ops Q n F dr H bs l q)
 (ht:P.underlying t=some (.slice e)) (o:(P.info? e).map (·.size)=some 1) (hz:(P.info? e).bind (·.zero)=some zv)
 (hx:∀e:Nat→Value,bH (ui bs e gg++F) (ps.map (·.2)) ((gg.zip ga).map λp=>e p.1))
 (r:∀e:Nat→Value,pe bs e gg=(gg.zip ga).map (λp=>aB (J.fW aI p.2 (e p.1))):=by exact λ_=>rfl) (g:(gg.zip ga).map (·.2)=ga:=by exact rfl)
 (hp:ps=(ps.map (·.2)).zipIdx.map λp=>(p.2,p.1):=by exact rfl) (hm:m=(gg.zip ga).length:=by exact rfl) (s:Nat.ble (gg.zip ga).length 16777216=true:=by exact rfl) (hd:Nat.ble (slot+1) n=true:=by exact rfl):
 ab P ops Q n F dr H bs (⟨slot,gg,λu=>J.fS aI ga u⟩::l) ({dst:=some slot,op:= .buildSlice t m ps.toArray,type:=ty,pos:=pos,after:=after,guard:=none}::q):=by
 refine⟨λc e _=> ?_,k⟩
 show St n (ui bs e gg++F) (Mm c (pe bs e gg++H)) _
 have j:∀ρ w,eu c (pe bs e gg++H) ρ w→∀p∈gg.zip ga,(J.fW aI p.2 (e p.1)).f ρ:=λρ w h p d=>
  dB.1 (h.dM _ (kW _ (by rw[r e];exact cy.2 ⟨p,d,rfl⟩)))
 intro a w v hw
 have x:∀p∈gg.zip ga,(e p.1).oneCell'=true:=by obtain⟨ρ,h1⟩:=hw.out;exact λp d=>(j ρ w h1 p d).1
 refine St.bwc (L:=(gg.zip ga).map λp=>(e p.1,p.2)) ?_ ?_ (λb=> ?_) ht o hz hp ?_ ?_ ?_ hd a w v hw
 ·intro p d;obtain⟨z,i,rfl⟩:=cy.1 d;exact x z i
 ·intro ρ w h p d;obtain⟨z,i,rfl⟩:=cy.1 d;exact(j ρ w h z i).2
 ·have y:((gg.zip ga).map λp=>(e p.1,p.2)).map (·.2)=ga:=by rw[kH];exact g
  rw[y];refine St.o6 (A':=Mm c (aB (J.fS aI ga (.slice (some ⟨b,0,none⟩) m m))::H)) (λw hw=> ?_) (St.bg (.slice (some ⟨b,0,none⟩) m m) (by simp[look]) rfl);obtain⟨ρ,h1⟩:=hw.out;exact Mm.mk (eu.tail (L:=pe bs e gg) (h1.perm qk.symm))
 ·rw[kH];exact hx e
 ·rw[aN];exact hm
 ·rw[aN];exact s
end
end Go.J
namespace Go.Proofs.YtblifkgpebebmaaGreatDoor
open Go Go.J Tryz
theorem mixed:prog.follows .mixedOrders=true:=by kernel_rfl
theorem G3:(prog.info? 105).bind (λi=>i.zero.map Value.cells)=some #[.string ⟨#[]⟩,.slice none 0 0]:=by kernel_rfl
instance:type_of%(rf.mk G3):=⟨G3⟩
theorem Om (w:World):cu prog 105 w= .ok #[(0,1),(1,1)] w:=by kernel_rfl
theorem iZ:(prog.info? 105).map (·.size)=some 2:=by kernel_rfl
instance:type_of%(pd.mk iZ):=⟨iZ⟩
theorem K8:(prog.info? 105).bind (·.zero)=some (Value.agg #[.string ⟨#[]⟩,.slice none 0 0]):=by kernel_rfl
theorem A1:(prog.info? 108).bind (λi=>i.zero.map Value.cells)=some #[.int .i64 0,.string ⟨#[]⟩,.int .i64 0,.string ⟨#[]⟩,.slice none 0 0,.slice none 0 0]:=by kernel_rfl
instance:type_of%(rf.mk A1):=⟨A1⟩
theorem JK (w:World):cu prog 108 w= .ok #[(0,1),(1,1),(2,1),(3,2),(5,1)] w:=by kernel_rfl
theorem fc:(prog.info? 108).map (·.size)=some 6:=by kernel_rfl
instance:type_of%(pd.mk fc):=⟨fc⟩
theorem QW:(prog.info? 108).bind (·.zero)=some (Value.agg #[.int .i64 0,.string ⟨#[]⟩,.int .i64 0,.string ⟨#[]⟩,.slice none 0 0,.slice none 0 0]):=by kernel_rfl
theorem KY:aJ prog 54:=⟨_,func54,rfl,by kernel_rfl⟩
theorem qF:aJ prog 55:=⟨_,func55,rfl,by kernel_rfl⟩
theorem ng:aJ prog 61:=⟨_,func61,rfl,by kernel_rfl⟩
theorem mM:aJ prog 64:=⟨_,func64,rfl,by kernel_rfl⟩
theorem ox:aJ prog 63:=⟨_,func63,rfl,by kernel_rfl⟩
theorem mL:aJ prog 62:=⟨_,func62,rfl,by kernel_rfl⟩
theorem Tv:(prog.info? 30).bind (λi=>i.zero.map Value.cells)=some #[.slice none 0 0]:=by kernel_rfl
instance:type_of%(rf.mk Tv):=⟨Tv⟩
theorem fE:(prog.info? 58).map (·.size)=some 1:=by kernel_rfl
instance:type_of%(pd.mk fE):=⟨fE⟩
theorem dL:(prog.info? 3).map (·.size)=some 1:=by kernel_rfl
instance:type_of%(pd.mk dL):=⟨dL⟩
theorem aeM (w:World):cu prog 163 w= .ok #[(0,1),(1,1)] w:=by kernel_rfl
theorem QO:(prog.info? 163).bind (λi=>i.zero.map Value.cells)=some #[.int .i64 0,.slice none 0 0]:=by kernel_rfl
instance:type_of%(rf.mk QO):=⟨QO⟩
theorem jS:(prog.info? 163).map (·.size)=some 2:=by kernel_rfl
instance:type_of%(pd.mk jS):=⟨jS⟩
theorem tQ:bf prog 163 1=some 1:=by kernel_rfl
instance:type_of%(gu.mk tQ):=⟨tQ⟩
theorem aeN (w:World):cu prog 165 w= .ok #[(0,1),(1,1)] w:=by kernel_rfl
theorem QP:(prog.info? 165).bind (λi=>i.zero.map Value.cells)=some #[.int .i64 0,.int .i64 0]:=by kernel_rfl
instance:type_of%(rf.mk QP):=⟨QP⟩
theorem dh:(prog.info? 165).map (·.size)=some 2:=by kernel_rfl
instance:type_of%(pd.mk dh):=⟨dh⟩
theorem kI:(prog.info? 165).bind (·.zero)=some (Value.agg #[.int .i64 0,.int .i64 0]):=by kernel_rfl
theorem qC:(prog.info? 165).map (·.bytes)=some 16:=by kernel_rfl
theorem pX:(prog.info? 161).map (·.size)=some 1:=by kernel_rfl
instance:type_of%(pd.mk pX):=⟨pX⟩
theorem uy:bf prog 30 0=some 0:=by kernel_rfl
instance:type_of%(gu.mk uy):=⟨uy⟩
theorem GB:(prog.info? 163).bind (·.zero)=some (Value.agg #[.int .i64 0,.slice none 0 0]):=by kernel_rfl
theorem Md:(prog.info? 163).map (·.bytes)=some 32:=by kernel_rfl
theorem ae9:(prog.info? 28).map (·.size)=some 1:=by kernel_rfl
theorem jT:(prog.info? 30).map (·.size)=some 1:=by kernel_rfl
instance:type_of%(pd.mk jT):=⟨jT⟩
instance:rf prog 25 #[.slice none 0 0,.slice none 0 0]:=⟨by kernel_rfl⟩
theorem Jk:(prog.info? 9).map (·.size)=some 1:=by kernel_rfl
instance:type_of%(pd.mk Jk):=⟨Jk⟩
theorem aeL (w:World):cu prog 156 w= .ok #[(0,1),(1,1)] w:=by kernel_rfl
theorem QN:(prog.info? 156).bind (λi=>i.zero.map Value.cells)=some #[.string ⟨#[]⟩,.slice none 0 0]:=by kernel_rfl
instance:type_of%(rf.mk QN):=⟨QN⟩
theorem Bg:(prog.info? 156).map (·.size)=some 2:=by kernel_rfl
instance:type_of%(pd.mk Bg):=⟨Bg⟩
theorem eQ:(prog.info? 3).bind (·.zero)=some (Value.int .i64 0):=by kernel_rfl
instance:gu prog 156 1 1:=⟨by kernel_rfl⟩
theorem ux:bf prog 25 0=some 0:=by kernel_rfl
instance:type_of%(gu.mk ux):=⟨ux⟩
theorem VD:(prog.info? 156).bind (·.zero)=some (Value.agg #[.string ⟨#[]⟩,.slice none 0 0]):=by kernel_rfl
theorem Z5:(prog.info? 156).map (·.bytes)=some 40:=by kernel_rfl
theorem alO:(prog.info? 22).map (·.size)=some 1:=by kernel_rfl
theorem Cr:bf prog 25 1=some 1:=by kernel_rfl
instance:type_of%(gu.mk Cr):=⟨Cr⟩
theorem alP:(prog.info? 23).map (·.size)=some 1:=by kernel_rfl
theorem Ph:(prog.info? 25).map (·.size)=some 2:=by kernel_rfl
instance:type_of%(pd.mk Ph):=⟨Ph⟩
theorem Gq:bf prog 32 2=some 3:=by kernel_rfl
instance:type_of%(gu.mk Gq):=⟨Gq⟩
theorem E7:aJ prog 58:=⟨_,func58,rfl,by kernel_rfl⟩
theorem aeI (w:World):cu prog 115 w= .ok #[(0,1),(1,1),(2,1),(3,6)] w:=by kernel_rfl
theorem QL:(prog.info? 115).bind (λi=>i.zero.map Value.cells)=some #[.string ⟨#[]⟩,.slice none 0 0,.int .i64 0,.int .i64 0,.string ⟨#[]⟩,.int .i64 0,.string ⟨#[]⟩,.slice none 0 0,.slice none 0 0]:=by kernel_rfl
instance:type_of%(rf.mk QL):=⟨QL⟩
theorem nR:(prog.info? 115).map (·.size)=some 9:=by kernel_rfl
instance:type_of%(pd.mk nR):=⟨nR⟩
theorem VC:(prog.info? 115).bind (·.zero)=some (Value.agg #[.string ⟨#[]⟩,.slice none 0 0,.int .i64 0,.int .i64 0,.string ⟨#[]⟩,.int .i64 0,.string ⟨#[]⟩,.slice none 0 0,.slice none 0 0]):=by kernel_rfl
theorem Z4:(prog.info? 115).map (·.bytes)=some 144:=by kernel_rfl
theorem alR:(prog.info? 27).map (·.size)=some 1:=by kernel_rfl
instance:rf prog 32 #[.slice none 0 0,.slice none 0 0,.slice none 0 0,.slice none 0 0,.slice none 0 0]:=⟨by kernel_rfl⟩
theorem QZ:(prog.info? 9).bind (·.zero)=some (Value.string ⟨#[]⟩):=by kernel_rfl
theorem aeK (w:World):cu prog 135 w= .ok #[(0,1),(1,1),(2,1)] w:=by kernel_rfl
theorem QM:(prog.info? 135).bind (λi=>i.zero.map Value.cells)=some #[.string ⟨#[]⟩,.int .i64 0,.int .i64 0]:=by kernel_rfl
instance:type_of%(rf.mk QM):=⟨QM⟩
theorem Bf:(prog.info? 135).map (·.size)=some 3:=by kernel_rfl
instance:type_of%(pd.mk Bf):=⟨Bf⟩
theorem afM:(prog.info? 135).bind (·.zero)=some (Value.agg #[.string ⟨#[]⟩,.int .i64 0,.int .i64 0]):=by kernel_rfl
theorem ahE:aJ prog 56:=⟨_,func56,rfl,by kernel_rfl⟩
instance:gu prog 32 0 0:=⟨by kernel_rfl⟩
theorem ahF:aJ prog 57:=⟨_,func57,rfl,by kernel_rfl⟩
theorem kJ:(prog.info? 58).bind (·.zero)=some (Value.slice none 0 0):=by kernel_rfl
theorem Ux (w:World):cu prog 110 w= .ok #[(0,1),(1,1),(2,1),(3,1),(4,6)] w:=by kernel_rfl
theorem K0:(prog.info? 110).bind (λi=>i.zero.map Value.cells)=some #[.string ⟨#[]⟩,.slice none 0 0,.int .i64 0,.int .i64 0,.int .i64 0,.string ⟨#[]⟩,.int .i64 0,.string ⟨#[]⟩,.slice none 0 0,.slice none 0 0]:=by kernel_rfl
instance:type_of%(rf.mk K0):=⟨K0⟩
theorem kV:(prog.info? 110).map (·.size)=some 10:=by kernel_rfl
instance:type_of%(pd.mk kV):=⟨kV⟩
theorem afL:(prog.info? 110).bind (·.zero)=some (Value.agg #[.string ⟨#[]⟩,.slice none 0 0,.int .i64 0,.int .i64 0,.int .i64 0,.string ⟨#[]⟩,.int .i64 0,.string ⟨#[]⟩,.slice none 0 0,.slice none 0 0]):=by kernel_rfl
instance:gu prog 32 1 2:=⟨by kernel_rfl⟩
theorem alQ:(prog.info? 26).map (·.size)=some 1:=by kernel_rfl
theorem Vu:aJ prog 60:=⟨_,func60,rfl,by kernel_rfl⟩
theorem nc:aJ prog 59:=⟨_,func59,rfl,by kernel_rfl⟩
instance:gu prog 32 3 4:=⟨by kernel_rfl⟩
theorem Tb:(prog.info? 32).map (·.size)=some 5:=by kernel_rfl
instance:type_of%(pd.mk Tb):=⟨Tb⟩
theorem QT:(prog.info? 35).bind (λi=>i.zero.map Value.cells)=some #[.int .i64 0,.int .i64 0]:=by kernel_rfl
instance:type_of%(rf.mk QT):=⟨QT⟩
theorem XP (w:World):cu prog 35 w= .ok #[(0,1),(1,1)] w:=by kernel_rfl
instance:pd prog 35 2:=⟨by kernel_rfl⟩
theorem xQ:bf prog 105 0=some 0:=by kernel_rfl
instance:type_of%(gu.mk xQ):=⟨xQ⟩
theorem lj:bf prog 105 1=some 1:=by kernel_rfl
instance:type_of%(gu.mk lj):=⟨lj⟩
theorem UL:aJ prog 139:=⟨_,func139,rfl,by kernel_rfl⟩
instance:rf prog 3 #[.int .i64 0]:=⟨by kernel_rfl⟩
instance:rf prog 260 #[.nilFunc]:=⟨by kernel_rfl⟩
theorem ae8:(prog.info? 260).map (·.size)=some 1:=by kernel_rfl
theorem UM:aJ prog 140:=⟨_,func140,rfl,by kernel_rfl⟩
theorem rh:aJ prog 113:=⟨_,func113,rfl,by kernel_rfl⟩
instance:gu prog 108 0 0:=⟨by kernel_rfl⟩
theorem tN:bf prog 108 2=some 2:=by kernel_rfl
instance:type_of%(gu.mk tN):=⟨tN⟩
theorem qv:bf prog 108 4=some 5:=by kernel_rfl
instance:type_of%(gu.mk qv):=⟨qv⟩
instance:gu prog 108 1 1:=⟨by kernel_rfl⟩
theorem RI:aJ prog 46:=⟨_,func46,rfl,by kernel_rfl⟩
theorem xR:bf prog 108 3=some 3:=by kernel_rfl
instance:type_of%(gu.mk xR):=⟨xR⟩
theorem UB:aJ prog 114:=⟨_,func114,rfl,by kernel_rfl⟩
theorem UC:aJ prog 115:=⟨_,func115,rfl,by kernel_rfl⟩
theorem Ia:aJ prog 112:=⟨_,func112,rfl,by kernel_rfl⟩
theorem Ct:bf prog 35 0=some 0:=by kernel_rfl
instance:type_of%(gu.mk Ct):=⟨Ct⟩
theorem Z3:(prog.info? 105).map (·.bytes)=some 40:=by kernel_rfl
theorem Ib:aJ prog 116:=⟨_,func116,rfl,by kernel_rfl⟩
instance:rf prog 225 #[.nilFunc]:=⟨by kernel_rfl⟩
theorem ae6:(prog.info? 225).map (·.size)=some 1:=by kernel_rfl
theorem yR:aJ prog 78:=⟨_,func78,rfl,by kernel_rfl⟩
instance:gu prog 156 0 0:=⟨by kernel_rfl⟩
theorem QK:(prog.info? 100).bind (λi=>i.zero.map Value.cells)=some #[.slice none 0 0,.slice none 0 0]:=by kernel_rfl
instance:type_of%(rf.mk QK):=⟨QK⟩
theorem l9:(prog.info? 157).map (·.size)=some 1:=by kernel_rfl
instance:type_of%(pd.mk l9):=⟨l9⟩
theorem VE:(prog.info? 157).bind (·.zero)=some (Value.int .u64 0):=by kernel_rfl
theorem U7:(prog.info? 157).map (·.bytes)=some 8:=by kernel_rfl
theorem aeH (w:World):cu prog 100 w= .ok #[(0,1),(1,1)] w:=by kernel_rfl
theorem wQ:(prog.info? 100).map (·.size)=some 2:=by kernel_rfl
instance:type_of%(pd.mk wQ):=⟨wQ⟩
instance:gu prog 100 0 0:=⟨by kernel_rfl⟩
instance:gu prog 100 1 1:=⟨by kernel_rfl⟩
theorem UA:aJ prog 110:=⟨_,func110,rfl,by kernel_rfl⟩
theorem ahK:aJ prog 79:=⟨_,func79,rfl,by kernel_rfl⟩
theorem Vs:aJ prog 45:=⟨_,func45,rfl,by kernel_rfl⟩
theorem Vw:aJ prog 80:=⟨_,func80,rfl,by kernel_rfl⟩
instance:gu prog 135 0 0:=⟨by kernel_rfl⟩
theorem Cm:bf prog 135 1=some 1:=by kernel_rfl
instance:type_of%(gu.mk Cm):=⟨Cm⟩
theorem Cn:bf prog 135 2=some 2:=by kernel_rfl
theorem Ka:aJ prog 85:=⟨_,func85,rfl,by kernel_rfl⟩
theorem tP:bf prog 163 0=some 0:=by kernel_rfl
instance:type_of%(gu.mk tP):=⟨tP⟩
theorem Co:bf prog 165 0=some 0:=by kernel_rfl
instance:type_of%(gu.mk Co):=⟨Co⟩
theorem tS:bf prog 165 1=some 1:=by kernel_rfl
instance:type_of%(gu.mk tS):=⟨tS⟩
theorem Bj:(prog.info? 4).map (·.size)=some 1:=by kernel_rfl
instance:type_of%(pd.mk Bj):=⟨Bj⟩
theorem Qm:(prog.info? 4).bind (·.zero)=some (Value.bool false):=by kernel_rfl
theorem YC:(prog.info? 4).map (·.bytes)=some 1:=by kernel_rfl
theorem xO:(prog.info? 3).map (·.bytes)=some 8:=by kernel_rfl
theorem ZK:aJ prog 117:=⟨_,func117,rfl,by kernel_rfl⟩
theorem ahM:aJ prog 83:=⟨_,func83,rfl,by kernel_rfl⟩
theorem Zu:aJ prog 84:=⟨_,func84,rfl,by kernel_rfl⟩
theorem ahN:aJ prog 86:=⟨_,func86,rfl,by kernel_rfl⟩
theorem UJ:aJ prog 133:=⟨_,func133,rfl,by kernel_rfl⟩
theorem qE:aJ prog 100:=⟨_,func100,rfl,by kernel_rfl⟩
theorem UK:aJ prog 138:=⟨_,func138,rfl,by kernel_rfl⟩
theorem ZR:aJ prog 137:=⟨_,func137,rfl,by kernel_rfl⟩
theorem IZ:aJ prog 111:=⟨_,func111,rfl,by kernel_rfl⟩
theorem MU {a:Value}(b:a.oneCell'=true)(w:World):(Instr.build 105 #[(0,a)]).run prog w= .ok (.agg #[a,.slice none 0 0]) w:=
 bM G3 (Om w) (by simp[Instr.fill,J.bJ,J.cells_one b])
theorem CV {a b c d:Value}(e:a.oneCell'=true)(h1:b.oneCell'=true)(w:World):(Instr.build 108 #[(0,a),(1,b),(3,.agg #[c,d])]).run prog w= .ok (.agg #[a,b,.int .i64 0,c,d,.slice none 0 0]) w:=
 bM A1 (JK w) (by simp[Instr.fill,J.bJ,J.cells_one e,J.cells_one h1])
theorem GY {a b:Value}(c:a.oneCell'=true)(d:b.oneCell'=true)(w:World):(Instr.build 108 #[(0,a),(2,b)]).run prog w= .ok (.agg #[a,.string ⟨#[]⟩,b,.string ⟨#[]⟩,.slice none 0 0,.slice none 0 0]) w:=
 bM A1 (JK w) (by simp[Instr.fill,J.bJ,J.cells_one c,J.cells_one d])
theorem CW {a c d b:Value}(e:a.oneCell'=true)(f:b.oneCell'=true)(w:World):(Instr.build 108 #[(0,a),(3,.agg #[c,d]),(4,b)]).run prog w= .ok (.agg #[a,.string ⟨#[]⟩,.int .i64 0,c,d,b]) w:=
 bM A1 (JK w) (by simp[Instr.fill,J.bJ,J.cells_one e,J.cells_one f])
theorem GZ {a b:Value}(c:a.oneCell'=true)(d:b.oneCell'=true)(w:World):(Instr.build 108 #[(0,a),(4,b)]).run prog w= .ok (.agg #[a,.string ⟨#[]⟩,.int .i64 0,.string ⟨#[]⟩,.slice none 0 0,b]) w:=
 bM A1 (JK w) (by simp[Instr.fill,J.bJ,J.cells_one c,J.cells_one d])
theorem MV {a:Value}(b:a.oneCell'=true)(w:World):(Instr.build 156 #[(0,a)]).run prog w= .ok (.agg #[a,.slice none 0 0]) w:=
 bM QN (aeL w) (by simp[Instr.fill,J.bJ,J.cells_one b])
theorem yL {e f g h a b c d i:Value}(j:e.oneCell'=true)(k:f.oneCell'=true)(w:World):(Instr.build 115 #[(0,e),(2,f),(3,.agg #[g,h,a,b,c,d]),(1,.agg #[i])]).run prog w= .ok (.agg #[e,i,f,g,h,a,b,c,d]) w:=
 bM QL (aeI w) (by simp[Instr.fill,J.bJ,J.cells_one j,J.cells_one k])
theorem ju {a b c:Value}(d:a.oneCell'=true)(h1:b.oneCell'=true)(e:c.oneCell'=true)(w:World):(Instr.build 135 #[(0,a),(1,b),(2,c)]).run prog w= .ok (.agg #[a,b,c]) w:=
 bM QM (aeK w) (by simp[Instr.fill,J.bJ,J.cells_one d,J.cells_one h1,J.cells_one e])
theorem qA {a b c d e f g h i:Value}(j:a.oneCell'=true)(k:b.oneCell'=true)(w:World):(Instr.build 110 #[(0,a),(2,b),(4,.agg #[c,d,e,f,g,h]),(1,.agg #[i])]).run prog w= .ok (.agg #[a,i,b,.int .i64 0,c,d,e,f,g,h]) w:=
 bM K0 (Ux w) (by simp[Instr.fill,J.bJ,J.cells_one j,J.cells_one k])
theorem j8 {a b c d e f g h i j:Value}(k:a.oneCell'=true)(l:b.oneCell'=true)(m:c.oneCell'=true)(w:World):(Instr.build 110 #[(0,a),(2,b),(3,c),(4,.agg #[d,e,f,g,h,i]),(1,.agg #[j])]).run prog w= .ok (.agg #[a,j,b,c,d,e,f,g,h,i]) w:=
 bM K0 (Ux w) (by simp[Instr.fill,J.bJ,J.cells_one k,J.cells_one l,J.cells_one m])
theorem RC {a:Value}(b:a.oneCell'=true)(w:World):(Instr.build 35 #[(0,a)]).run prog w= .ok (.agg #[a,.int .i64 0]) w:=
 bM QT (XP w) (by simp[Instr.fill,J.bJ,J.cells_one b])
theorem E4 {a:Value}(h1:a.oneCell'=true)(w:World):(Instr.build 105 #[(1,a)]).run prog w= .ok (.agg #[.string ⟨#[]⟩,a]) w:=
 bM G3 (Om w) (by simp[Instr.fill,J.bJ,J.cells_one h1])
theorem xM (w:World):(Instr.build 105 #[]).run prog w= .ok (.agg #[.string ⟨#[]⟩,.slice none 0 0]) w:=
 bM G3 (Om w) (by simp[Instr.fill,J.bJ])
theorem GX {a b:Value}(c:a.oneCell'=true)(h1:b.oneCell'=true)(w:World):(Instr.build 100 #[(0,a),(1,b)]).run prog w= .ok (.agg #[a,b]) w:=
 bM QK (aeH w) (by simp[Instr.fill,J.bJ,J.cells_one c,J.cells_one h1])
theorem E5 {a:Value}(b:a.oneCell'=true)(w:World):(Instr.build 163 #[(0,a)]).run prog w= .ok (.agg #[a,.slice none 0 0]) w:=
 bM QO (aeM w) (by simp[Instr.fill,J.bJ,J.cells_one b])
theorem ow {a b:Value}(c:a.oneCell'=true)(h1:b.oneCell'=true)(w:World):(Instr.build 165 #[(0,a),(1,b)]).run prog w= .ok (.agg #[a,b]) w:=
 bM QP (aeN w) (by simp[Instr.fill,J.bJ,J.cells_one c,J.cells_one h1])
theorem gj {a b:Value}(c:a.oneCell'=true)(h1:b.oneCell'=true)(w:World):(Instr.build 35 #[(0,a),(1,b)]).run prog w= .ok (.agg #[a,b]) w:=
 bM QT (XP w) (by simp[Instr.fill,J.bJ,J.cells_one c,J.cells_one h1])
theorem jv (w:World):(Instr.build 35 #[]).run prog w= .ok (.agg #[.int .i64 0,.int .i64 0]) w:=
 bM QT (XP w) (by simp[Instr.fill,J.bJ])
end Go.Proofs.YtblifkgpebebmaaGreatDoor
