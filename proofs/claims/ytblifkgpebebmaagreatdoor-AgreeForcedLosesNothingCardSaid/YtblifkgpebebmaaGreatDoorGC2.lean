/-
  Laws of walks through programs, and facts on grammars, trees and queries.
  Conditions: none.
-/
import Derived.Test.YtblifkgpebebmaaGreatDoorGC1
import Derived.Lib.Mul64
import Derived.Shelf.Spec.BitsCarry
import Derived.Laws.IdiomStrings
import Derived.Stop.IfaceNil
import Derived.Below
import Derived.Lib.ValidU
import Derived.Lib.RuneCount
import Derived.Lib.IndexAny
import Derived.Lib.TrimUEq
import Derived.Test.YtblifkgpebebmaaGreatDoorChecked
import Derived.Lib.SliceRun
set_option maxRecDepth 20000
set_option linter.unusedVariables false
set_option linter.unusedSimpArgs false
namespace Go.J
open Go
section
variable {P:Program}{n:Nat}{F:Fr}{A:World→Prop}{ty:TypeId}{x y:Operand}{t u:TypeId}{a b:Nat}
theorem afM {i:Int}:IntKind.u64.wrap i=i%18446744073709551616:=by
 simp only[IntKind.wrap,IntKind.bits,IntKind.signed];simp
theorem ob (m:Nat):IntKind.u64.wrap (m:Int)=((m%18446744073709551616:Nat):Int):=by rw[afM];omega
theorem Ev.Xg {k:IntKind}{j:Int}(c m:Nat)(hm:2^c=m)(hx:ai F x (uv a))(hy:ai F y (.int k j))(h:j=c∧c≤64):Ev P n F A (.binOp .shr t x y u) ty (uv (a/m)):=by
 subst hm;obtain⟨rfl,d⟩:=h
 have:=Ev.shr (P:=P) (n:=n) (A:=A) (ty:=ty) (t:=t) (u:=u) hx hy (by omega)
 have e:(a:Int).fdiv (2^(min (c:Int).toNat IntKind.u64.bits))=((a/2^c:Nat):Int):=by
  have b:min (c:Int).toNat IntKind.u64.bits=c:=by
   have:IntKind.u64.bits=64:=rfl
   rw[this,Int.toNat_natCast];omega
  rw[b,Int.fdiv_eq_ediv_of_nonneg _ (Int.le_of_lt (Int.pow_pos (by omega)))]
  simp
 rw[e]at this;exact this
theorem Ev.alX {k:IntKind}{j:Int}(c m:Nat)(hm:2^c=m)(hx:ai F x (uv a))(hy:ai F y (.int k j))(h:j=c∧c≤64):Ev P n F A (.binOp .shl t x y u) ty (uv (a*m%18446744073709551616)):=by
 subst hm;obtain⟨rfl,d⟩:=h
 have:=Ev.alY (P:=P) (n:=n) (A:=A) (ty:=ty) (t:=t) (u:=u) hx hy (by omega)
 have e:(a:Int)*2^(min (c:Int).toNat IntKind.u64.bits)=((a*2^c:Nat):Int):=by
  have b:min (c:Int).toNat IntKind.u64.bits=c:=by
   have:IntKind.u64.bits=64:=rfl
   rw[this,Int.toNat_natCast];omega
  rw[b];simp
 rw[e,ob]at this;exact this
theorem MW (c:Nat)(h:a<18446744073709551616)(b:c≤64):bits .and .u64 (a:Int) ((2^c-1:Nat):Int)=((a%2^c:Nat):Int):=by
 have d:2^c-1<2^64:=by have:=si (n:=2) (by omega) b;have:=Nat.pow_pos (n:=c) (a:=2) (by omega);omega
 have e:(BitVec.ofInt IntKind.u64.bits (a:Int)&&&BitVec.ofInt IntKind.u64.bits ((2^c-1:Nat):Int)).toNat=a%2^c:=by
  show(BitVec.ofInt 64 (a:Int)&&&BitVec.ofInt 64 ((2^c-1:Nat):Int)).toNat=_
  rw[BitVec.toNat_and,Lw,Lw,Lx,Lx,mw h,mw d,Nat.and_two_pow_sub_one_eq_mod]
 simp only[bits,e]
 rw[ob,mw (wF (Nat.mod_le a _) h)]
theorem Ev.Yv (c m:Nat)(hm:2^c=m)(hx:ai F x (uv a))(hy:ai F y (uv b))(h:a<18446744073709551616∧b=2^c-1∧c≤64):Ev P n F A (.binOp .and t x y u) ty (uv (a%m)):= .of_run λa' w ha _=>by
 subst hm;obtain⟨h1,rfl,h3⟩:=h
 simp only[execOp,hx.eval ha,hy.eval ha];simp only[go_sem,MW c h1 h3];simp
theorem Ev.W9 (m:Nat){i:Int}{s d:TypeId}(hx:ai F x (iv i))(a:(P.underlying s).isSome=true)(hd:P.underlying d=some (.int .u64))(h:i=m∧m<18446744073709551616):Ev P n F A (.convert s d x) ty (uv m):=by
 obtain⟨rfl,h⟩:=h
 have:=Ev.tM (P:=P) (n:=n) (A:=A) (ty:=ty) hx a hd
 rwa[ob,mw h]at this
theorem Ev.WA {k:IntKind}{s d:TypeId}(hx:ai F x (.int k (a:Int)))(b:(P.underlying s).isSome=true)(hd:P.underlying d=some (.int .i64))(h:a<9223372036854775808):Ev P n F A (.convert s d x) ty (iv a):=by
 have:=Ev.tM (P:=P) (n:=n) (A:=A) (ty:=ty) hx b hd
 rwa[uY (by omega)]at this
end
section
variable {P:Program}{n:Nat}{F:Fr}{A:World→Prop}{ty:TypeId}{x y:Operand}{t:TypeId}
end
section
variable {P:Program}{n:Nat}{F:Fr}{A:World→Prop}{c:Ctx}{H R:List ak}{T:Act→World→Prop}{v v':Value}
theorem St.mP (b:Nat){e:TypeId}{L:List Value}(L':List Value)[tk:l3 b H (.cells L.toArray e (0,0)) R](h:L=L')(a:St n F (Mm c (aW b (.cells L'.toArray e (0,0))::R)) T):St n F (Mm c H) T:=by
 subst h
 refine a.o9 λw hw=> ?_
 obtain⟨ρ,hm⟩:=hw.out;exact Mm.mk (hm.perm tk.perm)
end
end Go.J
namespace Go.J
open Go Go.RowKit
section
variable {P:Program}{n:Nat}{F:Fr}{A:World→Prop}{c:Ctx}{H R:List ak}{ty t e:TypeId}{x y:Operand}{Q:Exit→Act→World→Prop}{ops:Array Oper}{rest:List Oper}{pos:String}{after:Array Edge}
theorem Ev.HO {b k N:Nat}{i:Int}{kd:IntKind}(hx:ai F x (.pointer (some ⟨b,0,none⟩)))(hy:ai F y (.int kd i))(ht:P.underlying t=some (.array N e))(d:(P.info? e).map (·.size)=some 1)
 (f:i=k) (hk:k<N):Ev P n F A (.indexAddr t x y) ty (.pointer (some ⟨b,k,none⟩)):= .of_run λa w c hw=>by
 obtain⟨inf,g,h⟩:=dp.1 d;subst f
 simp[execOp,hx.eval c,hy.eval c,Instr.indexAt,Instr.sureAddr,asIntOf,run_underlying ht,sizeOf,typeInfo,g,h,hk,Addr.add_lit]
theorem St.Jl {b off:Nat}{L:List Value}{v:Value}(L':List Value)[tk:l3 b H (.cells L.toArray e (0,0)) R](hx:ai F x (.pointer (some ⟨b,off,none⟩)))(hy:ai F y v)(a:L.set off v=L')(d:(P.info? t).map (·.size)=some 1)(h1:v.oneCell'=true)
 (f:off<L.length) (h:St n F (Mm c (aW b (.cells L'.toArray e (0,0))::R)) (wpList P ops Q rest)):
 St n F (Mm c H) (wpList P ops Q ({dst:=none,op:= .store t x y,type:=ty,pos:=pos,after:=after,guard:=none}::rest)):=by
 haveI:E4 L off v L':=⟨a⟩
 exact St.cH hx hy d h1 (Nat.ble_eq_true_of_le f) h
end
theorem Hw {P:Program}{t e:TypeId}{N size:Nat}{Z cs:Array Value}{parts:Array (Nat×Value)}{w:World}(ht:P.underlying t=some (.array N e))(hz:(P.info? t).bind (λi=>i.zero.map Value.cells)=some Z)(c:(P.info? e).map (·.size)=some size)
 (d:Instr.fill (λi=>some (i*size,size)) Z parts.toList=some cs):(Instr.build t parts).run P w= .ok (.agg cs) w:=by
 obtain⟨i,f,g⟩:=pQ.1 hz;obtain⟨zv,a,rfl⟩:=dp.1 g;obtain⟨j,h,b⟩:=dp.1 c;subst b
 simp[Instr.build,zeroValue,typeInfo,f,a,run_underlying ht,sizeOf,h,d]
def du.of (X:World→Prop):du:=⟨λρ=>∀w,(∀k o,ρ k=some o→w.heap[k]?=some o)→X w,λ_ _ h k w hw=>k w λb o a=>hw b o (h b o a)⟩
theorem sm.qQ {P:Program}{f:FuncId}{args:Array Value}{X:World→Prop}{post:Value→List ak→Prop}(h:∀w,X w→Calls P f args w λe w'=>∃v,e= .returned v∧post v []∧Below w.heap.size w w'):
 sm P f args ([du.of X].map aB) post:=by
 intro w ρ b
 have hx:X w:=dB.1 (b.dM (aB (du.of X)) (aQ ..)) w b.fits
 refine(h w hx).mono ?_;rintro e w' ⟨v,rfl,hp,a⟩;refine⟨v,[],rfl,hp,Mm.mk (ρ:=ρ) ⟨a.os,⟨a.tape,λh=>h.elim⟩,a.output,a.size,λk hk _=>a.block k hk,λk o hk=> ?_,Ro.le_refl _,λ_ _ _=>rfl,λ_ h=>by simp at h,λ_ h=>by simp at h,.nil⟩⟩;rw[a.block k (b.AK hk)];exact b.fits k o hk
theorem kW.qQ {P:Program}{f:FuncId}{args:Array Value}{X:World→Prop}{v:Value}(h:∀w,X w→Calls P f args w λe w'=>e= .returned v∧Below w.heap.size w w'):kW P f args [du.of X] v:=
 sm.qQ λw hw=>(h w hw).mono λ_ _ ⟨h1,a⟩=>⟨v,h1,rfl,a⟩
end Go.J
namespace Go.J
open Go Go.ChangeShapes Go.WideShapes Go.ChangeAt Go.RowKit Go.Deep
section
variable {H:Type}{enc:TypeId×Value→H}{P:Program}{W:World}
theorem Mj {nm:String}{g T e n:Nat}{L:List Nat}(d:P.globalNamed nm=some g)(hy:(P.globals[g]?).map (·.type)=some T)(ht:P.underlying T=some (.array n e))(he:P.underlying e=some (.int .u8))(i:P.cellsOf e=1)(b:P.cellsOf T=n)
 (h:Lib.VarReads P W nm (Lib.tabData .u8 (L.map λx:Nat=>(x:Int)))):∀w:World,(∀k o,J.all W k=some o→w.heap[k]?=some o)→∀j,j<L.length→w.cell? ⟨g,j,none⟩=some (.int .u8 (L.getD j 0)):=by
 obtain⟨u,t,cs,fuel,p,c,l,m,hd⟩:=h;obtain rfl:=Option.some.inj (d.symm.trans c);obtain rfl:=Option.some.inj (hy.symm.trans l)
 have q:=Lib.cells_of_tab ht he i b hd
 intro w hw j f
 have a:=World.var?_cell d m j
 rw[←QS,q]at a
 have a:W.cell? ⟨g,j,none⟩=some (.int .u8 (L.getD j 0)):=by
  rw[a,bP,bP,bU f,ar,bU f];rfl
 obtain⟨_,C,v,fr,r,s⟩:=jd a
 rw[cV (hw _ _ r)];exact s
end
end Go.J
namespace Go.J
open Go Go.Lib
def xN:ax:=[32,9,10,40,41,91,93,44,59]
def iw (b:UInt8):Bool:=xN.contains b
theorem L6 {b:UInt8}:iw b=true↔b.toNat=32∨b.toNat=9∨b.toNat=10∨b.toNat=40∨b.toNat=41∨b.toNat=91∨b.toNat=93∨b.toNat=44∨b.toNat=59:=by
 unfold iw xN
 simp only[List.contains_cons,List.contains_nil,Bool.or_false,Bool.or_eq_true,beq_iff_eq,←UInt8.toNat_inj]
 exact Iff.rfl
theorem HP {b:UInt8}(h:128≤b.toNat):iw b=false:=by
 cases a:iw b with
 |false=>rfl
 |true=>have:=L6.1 a;omega
def more (b:Nat):Nat:=if 194≤b∧b≤223 then 1 else if 224≤b∧b≤239 then 2 else if 240≤b∧b≤244 then 3 else 0
def YZ (b:Nat):Nat:=if b=224 then 160 else if b=240 then 144 else 128
def YP (b:Nat):Nat:=if b=237 then 159 else if b=244 then 143 else 191
def bt (s:ax)(i:Nat):Nat:=(s.getD i 0).toNat
def tJ (b:Nat):Bool:=decide (128≤b∧more b=0)
def ir (s:ax)(p k:Nat):Bool:=decide (p+1+k<s.length∧(if k=0 then YZ (bt s p)else 128)≤bt s (p+1+k)∧bt s (p+1+k)≤(if k=0 then YP (bt s p)else 191))
def YD (s:ax)(p:Nat):Option Nat:=
 if iw (s.getD p 0)then none else if tJ (bt s p)then none else if(List.range (more (bt s p))).all (ir s p)then some (more (bt s p)+1)else none
theorem pR (s:ax)(i:Nat):bt s i<256:=(s.getD i 0).toNat_lt
theorem vB (s:ax)(p:Nat):decodeL (s.drop p)=decodeN (s.length-p) (bt s p) (bt s (p+1)) (bt s (p+2)) (bt s (p+3)):=by
 rw[decodeL_N,AE,getD_dropU,getD_dropU,getD_dropU,getD_dropU,j3];rfl
def C2 (n a b:Nat):Prop:=194≤a∧a≤223∧1<n∧128≤b∧b≤191
def C3 (n a b c:Nat):Prop:=224≤a∧a≤239∧1<n∧128≤b∧b≤191∧(a=224→160≤b)∧(a=237→b≤159)∧2<n∧128≤c∧c≤191
def C4 (n a b c d:Nat):Prop:=240≤a∧a≤244∧1<n∧128≤b∧b≤191∧(a=240→144≤b)∧(a=244→b≤143)∧2<n∧128≤c∧c≤191∧3<n∧128≤d∧d≤191
theorem vA {n a b c d:Nat}(l:a<256)(h1:b<256)(m:c<256)(o:d<256):
 (a<128∧decodeN n a b c d=(a,1))∨(128≤a∧¬C2 n a b∧¬C3 n a b c∧¬C4 n a b c d∧decodeN n a b c d=(65533,1))∨
 (C2 n a b∧∃r,128≤r∧decodeN n a b c d=(r,2))∨(C3 n a b c∧∃r,128≤r∧decodeN n a b c d=(r,3))∨(C4 n a b c d∧∃r,128≤r∧decodeN n a b c d=(r,4)):=by
 unfold C2 C3 C4 decodeN
 by_cases e:a<128
 ·rw[aC e];exact .inl ⟨e,rfl⟩
 ·rw[aA e]
  right
  by_cases g:a/32=6∧(1<n∧b/64=2)
  ·rw[aC g]
   by_cases f:a%32*64+b%64≥128
   ·rw[aC f];exact .inr (.inl ⟨by omega,_,f,rfl⟩)
   ·rw[aA f];exact .inl ⟨by omega,by omega,by omega,by omega,rfl⟩
  ·rw[aA g]
   by_cases h:a/16=14∧(1<n∧b/64=2)∧(2<n∧c/64=2)
   ·rw[aC h]
    by_cases i:a%16*4096+b%64*64+c%64≥2048∧(a%16*4096+b%64*64+c%64<55296∨(57344≤a%16*4096+b%64*64+c%64∧a%16*4096+b%64*64+c%64≤1114111))
    ·rw[aC i];exact .inr (.inr (.inl ⟨by omega,_,by omega,rfl⟩))
    ·rw[aA i];exact .inl ⟨by omega,by omega,by omega,by omega,rfl⟩
   ·rw[aA h]
    by_cases j:a/8=30∧(1<n∧b/64=2)∧(2<n∧c/64=2)∧(3<n∧d/64=2)
    ·rw[aC j]
     by_cases k:a%8*262144+b%64*4096+c%64*64+d%64≥65536∧(a%8*262144+b%64*4096+c%64*64+d%64<55296∨(57344≤a%8*262144+b%64*4096+c%64*64+d%64∧a%8*262144+b%64*4096+c%64*64+d%64≤1114111))
     ·rw[aC k];exact .inr (.inr (.inr ⟨by omega,_,by omega,rfl⟩))
     ·rw[aA k];exact .inl ⟨by omega,by omega,by omega,by omega,rfl⟩
    ·rw[aA j];exact .inl ⟨by omega,by omega,by omega,by omega,rfl⟩
theorem OD (b:Nat):(b=224∧YZ b=160)∨(b=240∧YZ b=144)∨(b≠224∧b≠240∧YZ b=128):=by
 unfold YZ;split
 ·exact .inl ⟨by assumption,rfl⟩
 ·split
  ·exact .inr (.inl ⟨by assumption,rfl⟩)
  ·exact .inr (.inr ⟨by assumption,by assumption,rfl⟩)
theorem Na (b:Nat):(b=237∧YP b=159)∨(b=244∧YP b=143)∨(b≠237∧b≠244∧YP b=191):=by
 unfold YP;split
 ·exact .inl ⟨by assumption,rfl⟩
 ·split
  ·exact .inr (.inl ⟨by assumption,rfl⟩)
  ·exact .inr (.inr ⟨by assumption,by assumption,rfl⟩)
theorem LI (b:Nat):(more b=1∧194≤b∧b≤223)∨(more b=2∧224≤b∧b≤239)∨(more b=3∧240≤b∧b≤244)∨(more b=0∧(b<194∨244<b)):=by
 unfold more
 split
 ·exact .inl ⟨rfl,by assumption⟩
 ·split
  ·exact .inr (.inl ⟨rfl,by assumption⟩)
  ·split
   ·exact .inr (.inr (.inl ⟨rfl,by assumption⟩))
   ·exact .inr (.inr (.inr ⟨rfl,by omega⟩))
theorem BN {s:ax}{p:Nat}:ir s p 0=true↔p+1<s.length∧YZ (bt s p)≤bt s (p+1)∧bt s (p+1)≤YP (bt s p):=by
 unfold ir;rw[aC rfl,aC rfl,fy]
theorem Iv {s:ax}{p:Nat}:ir s p 1=true↔p+2<s.length∧128≤bt s (p+2)∧bt s (p+2)≤191:=by
 unfold ir;rw[aA (by decide),aA (by decide),fy]
theorem UW {s:ax}{p:Nat}:ir s p 2=true↔p+3<s.length∧128≤bt s (p+3)∧bt s (p+3)≤191:=by
 unfold ir;rw[aA (by decide),aA (by decide),fy]
theorem pO {s:ax}{p m:Nat}(a:iw (s.getD p 0)=false)(hm:more (bt s p)=m)(b:¬(128≤bt s p∧m=0)):YD s p=if(List.range m).all (ir s p)then some (m+1)else none:=by
 unfold YD
 have h1:tJ (bt s p)=false:=by unfold tJ;rw[hm];exact fL b
 rw[a,h1,hm];rfl
theorem Tz {s:ax}{p:Nat}(hp:p<s.length)(a:iw (s.getD p 0)=false):
 YD s p=if(decodeL (s.drop p)).1=65533∧(decodeL (s.drop p)).2=1 then none else some (decodeL (s.drop p)).2:=by
 rw[vB]
 have k:=OD (bt s p)
 have i:=Na (bt s p)
 have c:=LI (bt s p)
 have e:(List.range 1).all (ir s p)=ir s p 0:=by simp[List.range_succ]
 have f:(List.range 2).all (ir s p)=(ir s p 0&&ir s p 1):=by simp[List.range_succ]
 have g:(List.range 3).all (ir s p)=(ir s p 0&&ir s p 1&&ir s p 2):=by simp[List.range_succ,Bool.and_assoc]
 rcases vA (n:=s.length-p) (pR s p) (pR s (p+1)) (pR s (p+2)) (pR s (p+3))with⟨h1,b⟩|⟨h1,j,n3,n4,b⟩|⟨h1,r,h,b⟩|⟨h1,r,h,b⟩|⟨h1,r,h,b⟩<;>rw[b]
 ·rw[aA (by simp only;omega),pO a (m:=0) (by omega) (by omega)];rfl
 ·rw[aC (by simp)]
  unfold C2 at j;unfold C3 at n3;unfold C4 at n4
  rcases c with⟨hm,d⟩|⟨hm,d⟩|⟨hm,d⟩|⟨hm,d⟩
  ·rw[pO a hm (by omega),e,aA (by rw[BN];omega)]
  ·rw[pO a hm (by omega),f,aA (by rw[qi,BN,Iv];omega)]
  ·rw[pO a hm (by omega),g,aA (by rw[qi,qi,BN,Iv,UW];omega)]
  ·unfold YD
   rw[a,show tJ (bt s p)=true by unfold tJ;exact eB ⟨h1,hm⟩];rfl
 ·unfold C2 at h1
  rw[aA (by simp),pO a (m:=1) (by omega) (by omega),e,if_pos (by rw[BN];omega)]
 ·unfold C3 at h1
  rw[aA (by simp),pO a (m:=2) (by omega) (by omega),f,if_pos (by rw[Bool.and_eq_true,BN,Iv];omega)]
 ·unfold C4 at h1
  rw[aA (by simp),pO a (m:=3) (by omega) (by omega),g,if_pos (by rw[Bool.and_eq_true,Bool.and_eq_true,BN,Iv,UW];omega)]
theorem qs {s:ax}{p:Nat}(hp:p<s.length):1≤(decodeL (s.drop p)).2∧p+(decodeL (s.drop p)).2≤s.length∧
 ((bt s p<128∧decodeL (s.drop p)=(bt s p,1))∨(128≤(decodeL (s.drop p)).1∧∀j,j<(decodeL (s.drop p)).2→128≤bt s (p+j))):=by
 rw[vB]
 have e0:bt s (p+0)=bt s p:=rfl
 have c:∀w,(w=1∨(w=2∧128≤bt s (p+1))∨(w=3∧128≤bt s (p+1)∧128≤bt s (p+2))∨(w=4∧128≤bt s (p+1)∧128≤bt s (p+2)∧128≤bt s (p+3)))→128≤bt s p→∀j,j<w→128≤bt s (p+j):=by
  intro w h d j e
  have:j=0∨j=1∨j=2∨j=3:=by omega
  rcases this with rfl|rfl|rfl|rfl
  ·exact d
  ·omega
  ·omega
  ·omega
 rcases vA (n:=s.length-p) (pR s p) (pR s (p+1)) (pR s (p+2)) (pR s (p+3))with⟨h1,a⟩|⟨h1,f,n3,n4,a⟩|⟨h1,r,b,a⟩|⟨h1,r,b,a⟩|⟨h1,r,b,a⟩<;>rw[a]
 ·exact⟨aR _,(show p+1≤s.length by omega),.inl ⟨h1,rfl⟩⟩
 ·exact⟨aR _,(show p+1≤s.length by omega),.inr ⟨(show 128≤65533 by decide),c 1 (.inl rfl) h1⟩⟩
 ·unfold C2 at h1
  exact⟨(show 1≤2 by decide),(show p+2≤s.length by omega),.inr ⟨b,c 2 (by omega) (by omega)⟩⟩
 ·unfold C3 at h1
  exact⟨(show 1≤3 by decide),(show p+3≤s.length by omega),.inr ⟨b,c 3 (by omega) (by omega)⟩⟩
 ·unfold C4 at h1
  exact⟨(show 1≤4 by decide),(show p+4≤s.length by omega),.inr ⟨b,c 4 (by omega) (by omega)⟩⟩
theorem Hz {s:ax}{p:Nat}(hp:p<s.length)(c:iw (s.getD p 0)=false):(s.drop p).any iw=(s.drop (p+(decodeL (s.drop p)).2)).any iw:=by
 obtain⟨h1,f,a⟩:=qs hp
 have a:(decodeL (s.drop p)).2=1∨∀j,j<(decodeL (s.drop p)).2→128≤bt s (p+j):=a.imp (λq=>by rw[q.2]) (λq=>q.2)
 generalize (decodeL (s.drop p)).2=w at*
 have e:s.drop p=(s.drop p).take w++s.drop (p+w):=by rw[←List.drop_drop,qk]
 rw[e,List.any_append]
 have:((s.drop p).take w).any iw=false:=by
  rw[List.any_eq_false];intro x hx;obtain⟨j,d,rfl⟩:=GI.1 hx;rw[eX,AE]at d;rw[List.getElem_take,List.getElem_drop]
  have b:s[p+j]'(by omega)=s.getD (p+j) 0:=by rw[ar,bU (by omega)];rfl
  rw[b]
  rcases a with q|q
  ·obtain rfl:j=0:=by omega
   rw[j3,c];decide
  ·rw[HP (q j (by omega))];decide
 rw[this,Bool.false_or]
def Lq (s:ax):Nat→Nat→Option Nat
 |0,_=>some 0
 |f+1,p=>if p<s.length then match YD s p with
  |none=>none
  |some w=>(Lq s f (p+w)).map (· +1)
  else some 0
theorem K6 (s:ax):∀(f p:Nat),s.length-p≤f→Lq s f p=if validGoD f (s.drop p)&& !(s.drop p).any iw then some (runeCountFrom ⟨s.toArray⟩ f p)else none
 |0,p,h=>by
  rw[j4 (by omega)]
  simp[Lq,validGoD,runeCountFrom]
 |f+1,p,h=>by
  by_cases hp:p<s.length
  ·have hd:s.drop p≠ []:=by intro e;have:=congrArg List.length e;rw[AE,List.length_nil]at this;omega
   have hx:s[p]?=some (s.getD p 0):=Lf 0 hp
   rw[Lq,aC hp]
   cases a:iw (s.getD p 0)with
   |true=>
    have h1:YD s p=none:=by unfold YD;rw[a];rfl
    have g:(s.drop p).any iw=true:=by rw[bN hx,List.any_cons,a];rfl
    rw[h1,g];simp
   |false=>
    rw[Tz hp a,validGoD,aA hd];obtain⟨j,k,l⟩:=qs hp
    by_cases b:(decodeL (s.drop p)).1=65533∧(decodeL (s.drop p)).2=1
    ·rw[aC b,aC b];rfl
    ·rw[aA b,aA b,Hz hp a,List.drop_drop]
     have i:=K6 s f (p+(decodeL (s.drop p)).2) (by omega)
     show Option.map _ _=_
     rw[i,runeCountFrom]
     have c:p<(⟨s.toArray⟩:ByteArray).size:=by show p<s.toArray.size;simpa using hp
     rw[aC c]
     have d:=decodeL_drop ⟨s.toArray⟩ p
     simp only at d
     rw[←d]
     split
     ·simp[Nat.add_comm]
     ·rfl
  ·rw[Lq,aA hp,j4 (by omega)]
   have c:¬p<(⟨s.toArray⟩:ByteArray).size:=by show ¬p<s.toArray.size;simpa using hp
   simp[validGoD,runeCountFrom,c]
def VH:Option Nat→Bool
 |some n=>decide (1≤n∧n≤30)
 |none=>false
def isWord (s:ax):Bool:=VH (Lq s s.length 0)
theorem L7 (s:ax):isWord s=(decide (1≤runeCountL s)&&decide (runeCountL s≤30)&&validD s&& !s.any iw):=by
 unfold isWord;rw[K6 s s.length 0 (by omega),List.drop_zero]
 have:runeCountFrom ⟨s.toArray⟩ s.length 0=runeCountL s:=by unfold runeCountL runeCount;congr 1
 rw[this];unfold validD
 cases validGoD s.length s<;>cases s.any iw<;>simp[VH]
end Go.J
namespace Go.J
open Go
section
variable {P:Program}{n:Nat}{F:Fr}{A:World→Prop}{c:Ctx}{H R:List ak}{ty:TypeId}{x y:Operand}{v:Value}{Q:Exit→Act→World→Prop}{ops:Array Oper}{rest:List Oper}
 {pos:String} {after:Array Edge} {t e:TypeId} {m k:Nat} {cs:List Value}
theorem Ev.nB {b o cap size:Nat}{i:Int}{kd:IntKind}(d:v= .slice (some ⟨b,o,none⟩) m cap)(hx:ai F x v)(hy:ai F y (.int kd i))(ht:P.underlying t=some (.slice e))(f:(P.info? e).map (·.size)=some size)
 (g:i=k) (hk:k<m):Ev P n F A (.indexAddr t x y) ty (cZ v size k 0):= .of_run λa w c _=>by
 subst d;obtain⟨inf,h,j⟩:=dp.1 f;subst g
 simp[execOp,hx.eval c,hy.eval c,Instr.indexAt,asIntOf,run_underlying ht,sizeOf,typeInfo,h,j,hk,eG,Addr.add_lit]
theorem DT {size off:Nat}{u:Value}{ρ:Ro}{w:World}(f:ew c (row v e size m cs::R) ρ w)(hk:k<m)(C:off<size):∃b l,cZ v size k off= .pointer (some ⟨b,k*size+off,none⟩)∧v.ownBlock=some b∧
 w.cell? ⟨b,k*size+off,none⟩=some l∧w.frozen? ⟨b,k*size+off,none⟩=false∧ew c (row v e size m (cs.set (k*size+off) u)::R) ρ (w.setCell ⟨b,k*size+off,none⟩ u):=by
 have d:=eM.1 (f.dM _ (aQ ..))
 have n:k*size+off<cs.length:=by
  rw[d.1]
  have:(k+1)*size≤m*size:=iU _ hk
  rw[jc]at this;omega
 obtain⟨b,o,p,a,q⟩:=jz d hk (bU n);refine⟨b,_,o,a,p,q,?_⟩;refine f.alter rfl ⟨rfl,aR _⟩ rfl (by simp) (λj D h=> ?_) (eM.2 ?_) (λE i=>by rw[eI]at i⊢;exact .inl i)
 ·rw[eI,a]at h
  simp only[World.setCell,Array.getElem?_modify]
  rw[aA (λe=>h (by rw[e]))]
 ·obtain⟨r,s⟩:=d
  refine⟨by rw[cn];exact r,?_⟩
  rcases s with⟨rfl,rfl⟩|⟨g,cap,cur,rfl,t,x,y,z,A,B⟩
  ·omega
  ·simp only[Value.ownBlock,Option.some.injEq]at a
   subst a;refine .inr ⟨_,cap,_,rfl,t,nU x,y,z,by simp[A],?_⟩;rw[←B,Array.toList_setIfInBounds,List.take_set]
theorem St.Li {d f:Value}[tk:lX v H e 2 m cs R](hx:ai F x (cZ v 2 k 0))(hy:ai F y (.agg #[d,f]))(l:(P.info? t).map (·.size)=some 2)(h1:d.oneCell'=true)(o:f.oneCell'=true)
 (hk:k<m) (h:St n F (Mm c (row v e 2 m ((cs.set (k*2) d).set (k*2+1) f)::R)) (wpList P ops Q rest)):
 St n F (Mm c H) (wpList P ops Q ({dst:=none,op:= .store t x y,type:=ty,pos:=pos,after:=after,guard:=none}::rest)):=by
 refine St.lx (K:=λC H'=>H'=row v e 2 m ((cs.set (k*2) d).set (k*2+1) f)::R) ?_ ?_
 ·intro a w ρ g hm
  have p:=hm.perm tk.perm
  obtain⟨b,D,q,r,c1,f1,s⟩:=DT (off:=0) (u:=d) p hk (by omega);obtain⟨E,z2,G,j,c2,f2,z⟩:=DT (off:=1) (u:=f) s hk (by omega)
  rw[r]at j;cases j
  rw[q]at hx;obtain⟨i,A,B⟩:=dp.1 l;refine⟨.skip,(w.setCell ⟨b,k*2+0,none⟩ d).setCell ⟨b,k*2+1,none⟩ f,ρ,_,?_,⟨_,.inr ⟨rfl,rfl⟩,rfl⟩,z⟩
  simp only[Nat.add_zero]at hx c1 f1 c2 f2⊢
  simp[execOp,hx.eval g,hy.eval g,Instr.storeAt,Instr.sureAddr,storeVar,sizeOf,typeInfo,A,B,bK,storeCells,run_store P w _ d _ h1,run_store P _ _ f _ o,c1,f1,c2,f2,Addr.add_zero',Addr.add_lit]
 ·rintro _ _ rfl
  exact h
abbrev Gm (α:Type):=aV×List α×Nat
def gR (α:Type):Rp (Gm α):=⟨2,by decide,λx=>[x.1.1,iv (x.2.2:Nat)],λ_=>True,λ_=>rfl,λx u h=>by
 simp at h;rcases h with rfl|rfl
 ·exact x.1.2
 ·rfl⟩
end
def iK (ds:List du):du:=⟨λρ=>∀d∈ds,d.f ρ,λ_ _ h k d hd=>d.mono _ _ h (k d hd)⟩
theorem eC.all {P:Program}{f:FuncId}{args:Array Value}{ds:List du}{v:Value}(h:eC P f args ds v):eC P f args [iK ds] v:=by
 intro w ρ st
 have a:∀d∈ds,d.f ρ:=dB.1 (st.dM (aB (iK ds)) (by simp))
 have e:jm (ds.map aB)=jm ([iK ds].map aB):=by
  funext b
  apply propext
  constructor
  ·intro h;exact absurd h (j7 ds b)
  ·intro h;exact absurd h (j7 [iK ds] b)
 have vn:ew ⟨w,ρ,jm ([iK ds].map aB),True⟩ [] ρ w:=ew.drop st
 have st2:Start (ds.map aB) ρ w:=by
  have:=vn.Ab ds a
  rw[gx]at this;unfold Start;rw[e];exact this
 have:=h w ρ st2
 rw[e]at this;exact this
theorem eC.o9 {P:Program}{f:FuncId}{args:Array Value}{ds a:List du}{v:Value}(h:eC P f args ds v)(c:∀ρ,(∀d∈a,d.f ρ)→∀d∈ds,d.f ρ):eC P f args a v:=by
 intro w ρ st
 have g:∀d∈a,d.f ρ:=λd hd=>dB.1 (st.dM (aB d) (eP hd))
 have e:jm (ds.map aB)=jm (a.map aB):=by
  funext b
  apply propext
  exact⟨λh=>absurd h (j7 ds b),λh=>absurd h (j7 a b)⟩
 have vn:ew ⟨w,ρ,jm (a.map aB),True⟩ [] ρ w:=by
  have:∀(l:List du),ew ⟨w,ρ,jm (a.map aB),True⟩ (l.map aB) ρ w→ew ⟨w,ρ,jm (a.map aB),True⟩ [] ρ w:=by
   intro l
   induction l with
   |nil=>exact λh=>h
   |cons d l i=>exact λh=>i h.drop
  exact this a st
 have st2:Start (ds.map aB) ρ w:=by
  have:=vn.Ab ds (c ρ g)
  rw[gx]at this;unfold Start;rw[e];exact this
 have:=h w ρ st2
 rw[e]at this;exact this
theorem il.iK {c:Ctx}{L R:List ak}{ds:List du}(h:il c L R ds):il c L R [J.iK ds]:=λρ w hm d hd=>by
 rw[bO.1 hd]
 exact λa b=>h ρ w hm a b
theorem dW.iK {c:Ctx}{H:List ak}{ds:List du}(h:dW c H ds):dW c H [J.iK ds]:=λρ w hm d hd=>by
 rw[bO.1 hd]
 exact λa b=>h ρ w hm a b
theorem St.cast {n:Nat}{F:Fr}{c:Ctx}{H H':List ak}{T:Act→World→Prop}(h:H=H')(k:St n F (Mm c H') T):St n F (Mm c H) T:=by rw[h];exact k
section
variable {n:Nat}{F:Fr}{c:Ctx}{H R:List ak}{T:Act→World→Prop}{α:Type}
def aF (f:α→du)(xs:List α):du:=⟨λρ=>∀x∈xs,(f x).f ρ,λρ jn h k x hx=>(f x).mono _ _ h (k x hx)⟩
theorem St.cK (f:α→du)(xs:List α){x:α}[hd:lW (aF f xs) H](hx:x∈xs)(k:St n F (Mm c (aB (f x)::H)) T):St n F (Mm c H) T:=
 St.eZ (f x) [aF f xs] (λρ h=>h _ (aQ ..) x hx) k
theorem St.dN (f:α→du)(k:St n F (Mm c (aB (aF f [])::H)) T):St n F (Mm c H) T:=
 St.fact (aF f []) (λρ _ _=>λx hx=>by cases hx) k
theorem St.tN (f:α→du){xs:List α}{x:α}[hd:lW (aF f xs) H][hx:lW (f x) H](k:St n F (Mm c (aB (aF f (xs++ [x]))::H)) T):St n F (Mm c H) T:=
 St.eZ (aF f (xs++ [x])) [aF f xs,f x] (λρ h y hy=>by
  rcases cD.1 hy with hy|hy
  ·exact h _ (aQ ..) y hy
  ·rw[bO.1 hy];exact h _ (cO _ (aQ ..))) k
theorem St.mU (f:α→du){xs:List α}{x:α}[hd:lW (aF f xs) H][hx:lW (f x) H](k:St n F (Mm c (aB (aF f (x::xs))::H)) T):St n F (Mm c H) T:=
 St.eZ (aF f (x::xs)) [aF f xs,f x] (λρ h y hy=>by
  rcases cJ.1 hy with rfl|hy
  ·exact h _ (cO _ (aQ ..))
  ·exact h _ (aQ ..) y hy) k
end
abbrev nD (s:ax):Prop:=s.length≤140737488351232
structure re where
 name:ax
 pv:aV
 parents:List Int
structure jG where
 name:ax
 Bc:Int
 value:Int
structure dx where
 dF:Int
 tqo:Int
structure dh where
 type:Int
 lv:aV
 aq:List dx
structure dD where
 nv:aV
 nodes:List dh
inductive fa where
 |mk (base:ax) (av:aV) (args:List fa)
inductive di where
 |mk (kind:Int) (name:ax) (index:Int) (type:fa) (av:aV) (args:List di)
inductive dE where
 |mk (rule lex:Int) (kv:aV) (kids:List dE)
def fa.base:fa→ax| .mk b _ _=>b
def fa.av:fa→aV| .mk _ v _=>v
def fa.args:fa→List fa| .mk _ _ l=>l
def di.kind:di→Int| .mk k _ _ _ _ _=>k
def di.name:di→ax| .mk _ s _ _ _ _=>s
def di.index:di→Int| .mk _ _ i _ _ _=>i
def di.type:di→fa| .mk _ _ _ t _ _=>t
def di.av:di→aV| .mk _ _ _ _ v _=>v
def di.args:di→List di| .mk _ _ _ _ _ l=>l
def dE.rule:dE→Int| .mk r _ _ _=>r
def dE.lex:dE→Int| .mk _ l _ _=>l
def dE.kv:dE→aV| .mk _ _ v _=>v
def dE.kids:dE→List dE| .mk _ _ _ l=>l
structure ca where
 name:ax
 graph:dD
 kids:Int
 weight:Int
 eu:di
structure eY where
 word:ax
 graph:dD
 weight:Int
 eu:di
structure gQ where
 tv:aV
 types:List re
 fv:aV
 cB:List jG
 rv:aV
 rules:List ca
 xv:aV
 aL:List eY
 start:dD
def n5:Rp re:=⟨2,by decide,λx=>[sv x.name,x.pv.1],λx=>nD x.name,λ_=>rfl,λx u h=>by simp at h;rcases h with rfl|rfl;rfl;exact x.pv.2⟩
def gY:Rp jG:=⟨3,by decide,λx=>[sv x.name,iv x.Bc,iv x.value],λx=>nD x.name∧aZ x.Bc∧aZ x.value,λ_=>rfl,λx u h=>by simp at h;rcases h with rfl|rfl|rfl<;>rfl⟩
def aw:Rp dx:=⟨2,by decide,λx=>[iv x.dF,iv x.tqo],λx=>aZ x.dF∧aZ x.tqo,λ_=>rfl,λx u h=>by simp at h;rcases h with rfl|rfl<;>rfl⟩
def bh:Rp dh:=⟨2,by decide,λx=>[iv x.type,x.lv.1],λx=>aZ x.type,λ_=>rfl,λx u h=>by simp at h;rcases h with rfl|rfl;rfl;exact x.lv.2⟩
def kL:Rp fa:=⟨2,by decide,λx=>[sv x.base,x.av.1],λx=>nD x.base,λ_=>rfl,λx u h=>by simp at h;rcases h with rfl|rfl;rfl;exact x.av.2⟩
abbrev Pf (x:di):List Value:=[iv x.kind,sv x.name,iv x.index,sv x.type.base,x.type.av.1,x.av.1]
theorem cC {u:Value}{L:List Value}(h:u.oneCell'=true)(k:∀v∈L,v.oneCell'=true):∀v∈u::L,v.oneCell'=true:=λv a=>by
 rcases cJ.1 a with rfl|a
 ·exact h
 ·exact k v a
theorem TF:∀v∈([]:List Value),v.oneCell'=true:=λv a=>by cases a
theorem vu (x:di):∀u∈Pf x,u.oneCell'=true:=cC rfl (cC rfl (cC rfl (cC rfl (cC x.type.av.2 (cC x.av.2 TF)))))
def dI:Rp di:=⟨6,by decide,Pf,λx=>aZ x.kind∧nD x.name∧aZ x.index∧nD x.type.base,λ_=>rfl,λx u h=>vu x u h⟩
abbrev Jt (x:dE):List Value:=[iv x.rule,iv x.lex,x.kv.1]
def dC:Rp dE:=⟨3,by decide,Jt,λx=>aZ x.rule∧aZ x.lex,λ_=>rfl,λx u h=>by simp at h;rcases h with rfl|rfl|rfl;rfl;rfl;exact x.kv.2⟩
abbrev zd (x:ca):List Value:=[sv x.name,x.graph.nv.1,iv x.kids,iv x.weight,iv x.eu.kind,sv x.eu.name,iv x.eu.index,sv x.eu.type.base,x.eu.type.av.1,x.eu.av.1]
def cT:Rp ca:=⟨10,by decide,zd,λx=>nD x.name∧aZ x.kids∧aZ x.weight∧dI.wf x.eu,λ_=>rfl,λx u h=>cC rfl (cC x.graph.nv.2 (cC rfl (cC rfl (vu x.eu)))) u h⟩
abbrev Sr (x:eY):List Value:=[sv x.word,x.graph.nv.1,iv x.weight,iv x.eu.kind,sv x.eu.name,iv x.eu.index,sv x.eu.type.base,x.eu.type.av.1,x.eu.av.1]
def e7:Rp eY:=⟨9,by decide,Sr,λx=>nD x.word∧aZ x.weight∧dI.wf x.eu,λ_=>rfl,λx u h=>cC rfl (cC x.graph.nv.2 (cC rfl (vu x.eu))) u h⟩
instance (x:re):j5 n5 x [sv x.name,x.pv.1]:=⟨rfl⟩
instance (x:jG):j5 gY x [sv x.name,iv x.Bc,iv x.value]:=⟨rfl⟩
instance (x:dx):j5 aw x [iv x.dF,iv x.tqo]:=⟨rfl⟩
instance (x:dh):j5 bh x [iv x.type,x.lv.1]:=⟨rfl⟩
instance (x:fa):j5 kL x [sv x.base,x.av.1]:=⟨rfl⟩
instance (x:di):j5 dI x (Pf x):=⟨rfl⟩
instance (x:dE):j5 dC x (Jt x):=⟨rfl⟩
instance (x:ca):j5 cT x (zd x):=⟨rfl⟩
instance (x:eY):j5 e7 x (Sr x):=⟨rfl⟩
abbrev jD (g:gQ):List Value:=[g.tv.1,g.fv.1,g.rv.1,g.xv.1,g.start.nv.1]
inductive rZ (ρ:Ro):fa→Prop
 |mk {x:fa} (h:(sl kL x.av.1 x.args).f ρ) (k:∀y∈x.args,rZ ρ y):rZ ρ x
inductive ot (ρ:Ro):di→Prop
 |mk {x:di} (ht:rZ ρ x.type) (h:(sl dI x.av.1 x.args).f ρ) (k:∀y∈x.args,ot ρ y):ot ρ x
inductive ou (ρ:Ro):dE→Prop
 |mk {x:dE} (h:(sl dC x.kv.1 x.kids).f ρ) (k:∀y∈x.kids,ou ρ y):ou ρ x
theorem rZ.mono {ρ jn:Ro}(h:∀k o,ρ k=some o→jn k=some o){x:fa}(hx:rZ ρ x):rZ jn x:=by
 induction hx with
 |mk h1 _ a=>exact .mk ((sl _ _ _).mono _ _ h h1) a
theorem ot.mono {ρ jn:Ro}(h:∀k o,ρ k=some o→jn k=some o){x:di}(hx:ot ρ x):ot jn x:=by
 induction hx with
 |mk ht h1 _ a=>exact .mk (ht.mono h) ((sl _ _ _).mono _ _ h h1) a
theorem ou.mono {ρ jn:Ro}(h:∀k o,ρ k=some o→jn k=some o){x:dE}(hx:ou ρ x):ou jn x:=by
 induction hx with
 |mk h1 _ a=>exact .mk ((sl _ _ _).mono _ _ h h1) a
def ep (x:fa):du:=⟨λρ=>rZ ρ x,λ_ _ h k=>k.mono h⟩
def cm (x:di):du:=⟨λρ=>ot ρ x,λ_ _ h k=>k.mono h⟩
def br (x:dE):du:=⟨λρ=>ou ρ x,λ_ _ h k=>k.mono h⟩
def ry (x:re):du:=sl aJ x.pv.1 x.parents
def cA (x:dh):du:=sl aw x.lv.1 x.aq
def kb (g:dD):List du:=[sl bh g.nv.1 g.nodes,aF cA g.nodes]
def aG (g:dD):du:=iK (kb g)
def PK (x:ca):List du:=[aG x.graph,cm x.eu]
def bx (x:ca):du:=iK (PK x)
def XK (x:eY):List du:=[aG x.graph,cm x.eu]
def eQ (x:eY):du:=iK (XK x)
def Um (tv fv:aV)(ts:List re)(a:List jG):List du:=[sl n5 tv.1 ts,aF ry ts,sl gY fv.1 a]
def H8 (g:gQ):List du:=[sl n5 g.tv.1 g.types,aF ry g.types,sl gY g.fv.1 g.cB,sl cT g.rv.1 g.rules,aF bx g.rules,sl e7 g.xv.1 g.aL,aF eQ g.aL,aG g.start]
def er (g:gQ):du:=iK (H8 g)
section
variable {n:Nat}{F:Fr}{c:Ctx}{H R:List ak}{T:Act→World→Prop}
theorem St.uE (x:fa)[hd:lW (ep x) H](k:St n F (Mm c (aB (sl kL x.av.1 x.args)::aB (aF ep x.args)::H)) T):St n F (Mm c H) T:=
 St.jN (ι:=Unit) (ep x) (λ_=>[sl kL x.av.1 x.args,aF ep x.args]) (λρ h=>⟨(),λe he=>by
  cases h with
  |mk h k=>
   simp only[List.mem_cons,List.not_mem_nil,or_false]at he
   rcases he with rfl|rfl
   ·exact h
   ·exact k⟩) λ_=>k
theorem St.FG (x:di)[hd:lW (cm x) H](k:St n F (Mm c (aB (ep x.type)::aB (sl dI x.av.1 x.args)::aB (aF cm x.args)::H)) T):St n F (Mm c H) T:=
 St.jN (ι:=Unit) (cm x) (λ_=>[ep x.type,sl dI x.av.1 x.args,aF cm x.args]) (λρ h=>⟨(),λe he=>by
  cases h with
  |mk ht h k=>
   simp only[List.mem_cons,List.not_mem_nil,or_false]at he
   rcases he with rfl|rfl|rfl
   ·exact ht
   ·exact h
   ·exact k⟩) λ_=>k
theorem St.FH (x:dE)[hd:lW (br x) H](k:St n F (Mm c (aB (sl dC x.kv.1 x.kids)::aB (aF br x.kids)::H)) T):St n F (Mm c H) T:=
 St.jN (ι:=Unit) (br x) (λ_=>[sl dC x.kv.1 x.kids,aF br x.kids]) (λρ h=>⟨(),λe he=>by
  cases h with
  |mk h k=>
   simp only[List.mem_cons,List.not_mem_nil,or_false]at he
   rcases he with rfl|rfl
   ·exact h
   ·exact k⟩) λ_=>k
theorem St.JO (L:List du)[hd:lW (iK L) H](k:St n F (Mm c (L.map aB++H)) T):St n F (Mm c H) T:=
 St.jN (iK L) (λ_:Unit=>L) (λρ h=>⟨(),h⟩) λ_=>k
end
end Go.J
namespace Go.Proofs.YtblifkgpebebmaaGreatDoor
open Go Go.J Tryz
inductive ig where
 |mk (base:ax) (args:List ig)
inductive jI where
 |mk (kind:Int) (name:ax) (index:Int) (type:ig) (args:List jI)
inductive jW where
 |mk (rule lex:Int) (kids:List jW)
mutual
def df:fa→ig
 | .mk b _ l=> .mk b (Jb l)
def Jb:List fa→List ig
 | []=>[]
 |x::l=>df x::Jb l
end
mutual
def dH:di→jI
 | .mk k s i t _ l=> .mk k s i (df t) (Dc l)
def Dc:List di→List jI
 | []=>[]
 |x::l=>dH x::Dc l
end
mutual
def cy:dE→jW
 | .mk r x _ l=> .mk r x (Dd l)
def Dd:List dE→List jW
 | []=>[]
 |x::l=>cy x::Dd l
end
theorem vj:∀l:List fa,Jb l=l.map df
 | []=>rfl
 |x::l=>by rw[Jb,vj l];rfl
theorem sa:∀l:List di,Dc l=l.map dH
 | []=>rfl
 |x::l=>by rw[Dc,sa l];rfl
theorem zz:∀l:List dE,Dd l=l.map cy
 | []=>rfl
 |x::l=>by rw[Dd,zz l];rfl
def ig.base:ig→ax| .mk b _=>b
def ig.args:ig→List ig| .mk _ l=>l
def jI.kind:jI→Int| .mk k _ _ _ _=>k
def jI.name:jI→ax| .mk _ s _ _ _=>s
def jI.index:jI→Int| .mk _ _ i _ _=>i
def jI.type:jI→ig| .mk _ _ _ t _=>t
def jI.args:jI→List jI| .mk _ _ _ _ l=>l
def jW.rule:jW→Int| .mk r _ _=>r
def jW.lex:jW→Int| .mk _ l _=>l
def jW.kids:jW→List jW| .mk _ _ l=>l
theorem rA (x:fa):(df x).base=x.base:=by cases x;rfl
theorem km (x:fa):(df x).args=x.args.map df:=by cases x;exact vj _
theorem sb (x:di):(dH x).args=x.args.map dH:=by cases x;exact sa _
abbrev ek:=ax×List Int
abbrev oe:=ax×Int×Int
abbrev KM:=Int×List (Int×Int)
abbrev e8:=List KM
structure sq where
 name:ax
 graph:e8
 kids:Int
 weight:Int
 eu:jI
structure Dz where
 word:ax
 graph:e8
 weight:Int
 eu:jI
structure fj where
 types:List ek
 cB:List oe
 rules:List sq
 aL:List Dz
 start:e8
def dG (x:re):ek:=(x.name,x.parents)
def gw (x:jG):oe:=(x.name,x.Bc,x.value)
def fS (x:dx):Int×Int:=(x.dF,x.tqo)
def mD (x:dh):KM:=(x.type,x.aq.map fS)
def ay (g:dD):e8:=g.nodes.map mD
def lL (x:ca):sq:=⟨x.name,ay x.graph,x.kids,x.weight,dH x.eu⟩
def oh (x:eY):Dz:=⟨x.word,ay x.graph,x.weight,dH x.eu⟩
def cE (g:gQ):fj:=⟨g.types.map dG,g.cB.map gw,g.rules.map lL,g.aL.map oh,ay g.start⟩
def rP (i:Int):Int→List Int→Int×Int
 |_,[]=>(0,0)
 |last,p::ps=>if p<0∨i≤p then(3,i)else if p≤last then(13,i)else rP i p ps
def lV:List ax→Nat→List ek→Int×Int
 |_,_,[]=>(0,0)
 |known,i,t::ts=>if isName t.1=false then(10,i)else if t.1∈known then(7,i)else if decide (i=0)≠decide (t.2.length=0)then(5,i)
  else if(rP i (-1) t.2).1≠0 then rP i (-1) t.2 else lV (known++ [t.1]) (i+1) ts
def B4 (l:List ek):Int×Int:=if l.length=0∨60<l.length then(2,-1)else lV [] 0 l
def Q3 (U:List Nat)(i:Nat)(ps:List Int):Nat:=ps.foldl (λu p=>u|||U.getD p.toNat 0) (2^i)
def nZ:List Nat→List ek→List Nat
 |U,[]=>U
 |U,t::l=>nZ (U++ [Q3 U U.length t.2]) l
def B5 (l:List ek):List Nat:=nZ [] l
def iD (l:List ek)(i j:Nat):Bool:=((B5 l).getD i 0).testBit j
def comm (l:List ek)(a b:Nat):List Nat:=(List.range l.length).filter λi=>iD l i a&&iD l i b
def kD (l:List ek)(a b:Nat):Bool:=match comm l a b with
 | []=>false
 |m::r=>r.any λi=> !iD l i m
def wh (l:List ek):Option Nat:=(List.range l.length).find? λb=>(List.range b).any λa=>kD l a b
def mW (n:Int):List ax→Nat→List oe→Int×Int
 |_,_,[]=>(0,0)
 |known,i,f::a=>if isName f.1=false then(10,i)else if f.1∈known then(7,i)else if f.2.1<0∨n≤f.2.1∨f.2.2<0∨n≤f.2.2 then(3,i)else mW n (known++ [f.1]) (i+1) a
def jM (ts:List ek)(a:List oe):Int×Int:=
 if 40<a.length then(2,-1)else if(B4 ts).1≠0 then B4 ts else match wh ts with
  |some b=>(16,b)
  |none=>mW ts.length [] 0 a
def Am (nf nn i:Int):Int→List (Int×Int)→Int×Int
 |_,[]=>(0,0)
 |last,x::xs=>if x.1<0∨nf≤x.1∨x.2<0∨nn≤x.2 then(3,i)else if x.1≤last then(13,i)else Am nf nn i x.1 xs
def fD (nt nf nn:Int):Nat→e8→Int×Int
 |_,[]=>(0,0)
 |i,x::xs=>if x.1<0∨nt≤x.1 then(3,i)else if(Am nf nn i (-1) x.2).1≠0 then Am nf nn i (-1) x.2 else fD nt nf nn (i+1) xs
def fX (nt nf:Int)(g:e8):Int×Int:=if g.length=0∨60<g.length then(2,-2)else fD nt nf g.length 0 g
def iJ:KM:=(0,[])
def ft0:oe:=([],0,0)
def Ih (ts:List ek)(a:List oe)(g:e8)(t:Int)(x:Int×Int):Bool:=
 !iD ts t.toNat (a.getD x.1.toNat ft0).2.1.toNat|| !iD ts (g.getD x.2.toNat iJ).1.toNat (a.getD x.1.toNat ft0).2.2.toNat
def tK (ts:List ek)(a:List oe)(g:e8)(i:Nat):Bool:=(g.getD i iJ).2.any (Ih ts a g (g.getD i iJ).1)
def mV (ts:List ek)(a:List oe)(g:e8):Option Nat:=(List.range g.length).find? (tK ts a g)
def Ew (i:Nat)(M:List Bool)(x:Int×Int):List Bool:=if M.getD i false then M.set x.2.toNat true else M
def V2 (g:e8)(M:List Bool)(i:Nat):List Bool:=(g.getD i iJ).2.foldl (Ew i) M
def pass (g:e8)(M:List Bool):List Bool:=(List.range g.length).foldl (V2 g) M
def ea (g:e8):Nat→List Bool
 |0=>(List.replicate g.length false).set 0 true
 |k+1=>pass g (ea g k)
def p5:List Bool→Int
 | []=> -1
 |b::l=>if b=false then 0 else if p5 l<0 then-1 else p5 l+1
def Yg (g:e8):Int:=p5 (ea g g.length)
def dP (ts:List ek)(a:List oe)(g:e8):Int×Int:=
 if(fX ts.length a.length g).1≠0 then fX ts.length a.length g else match mV ts a g with
  |some i=>(12,i)
  |none=>if 0≤Yg g then(5,Yg g)else(0,0)
def rS (g:e8)(k:Int):Int:=match(g.getD 0 iJ).2.find? λx=>x.1==k with
 |some x=>x.2
 |none=> -1
def nS (g:e8)(kids:Int):Bool:=(List.range 4).all λk=>decide (0≤rS g k)==decide ((k:Int)≤kids)
abbrev sE:ax:=[101]
abbrev sT:ax:=[116]
def jP (b:ax)(m:Nat):Bool:=(decide (b=sE)||decide (b=sT))&&decide (m=0)||decide (b=[])&&decide (m=2)
mutual
def mF:ig→Nat→Nat→Nat×Int
 | .mk b l,d,n=>if 200<n+1∨40<d then(n+1,1)else if jP b l.length=false then(n+1,5)else lf l (d+1) (n+1)
def lf:List ig→Nat→Nat→Nat×Int
 | [],_,n=>(n,0)
 |x::l,d,n=>if(mF x d n).2≠0 then mF x d n else lf l d (mF x d n).1
end
def vk (s:ig):Int:=(mF s 1 0).2
def pU (s:ig):Bool:=decide (s.base=[])&&decide (s.args.length=0)
mutual
def lZ:ig→ig→Bool
 | .mk a l,.mk b m=>decide (a=b)&&decide (l.length=m.length)&&o5 l m
def o5:List ig→List ig→Bool
 |x::l,y::m=>lZ x y&&o5 l m
 |_,_=>true
end
def kC (kind:Int)(name:ax)(index:Int)(type:ig)(m:Nat)(bd:Nat):Int:=
 if kind=1 then(if index≠0∨m≠0 then 5 else if isName name=false then 10 else if vk type≠0 then 12 else 0)
 else if kind=2 then(if name≠ []∨pU type=false∨m≠0 then 5 else if index<0∨(bd:Int)≤index then 15 else 0)
 else if kind=3 then(if name≠ []∨index≠0∨m≠1 then 5 else if vk type≠0 then 12 else 0)
 else if kind=4 then(if name≠ []∨index≠0∨pU type=false∨m≠2 then 5 else 0)
 else 4
mutual
def mK:jI→Nat→Nat→Nat→Nat×Int×Int
 | .mk k s i t l,d,bd,n=>if 200<n+1∨40<d then(n+1,1,n)else if kC k s i t l.length bd≠0 then(n+1,kC k s i t l.length bd,n)else o8 l (d+1) (if k=3 then bd+1 else bd) (n+1)
def o8:List jI→Nat→Nat→Nat→Nat×Int×Int
 | [],_,_,n=>(n,0,0)
 |x::l,d,bd,n=>if(mK x d bd n).2.1≠0 then mK x d bd n else o8 l d bd (mK x d bd n).1
end
def Gf:Option ig→Option ig→Option ig
 |some (.mk _ [a,b]),some x=>if lZ a x then some b else none
 |_,_=>none
mutual
def xP:jI→List ig→Option ig
 | .mk k _ i t l,c=>if k=1 then some t else if k=2 then c[c.length-1-i.toNat]? else if k=3 then(nX l (c++ [t])).map λb=> .mk [] [t,b]else Gf (nX l c) (Df l c)
def nX:List jI→List ig→Option ig
 |x::_,c=>xP x c
 | [],_=>none
def Df:List jI→List ig→Option ig
 |_::l,c=>nX l c
 | [],_=>none
end
def qY (t:jI):Int×Int:=if(mK t 1 0 0).2.1≠0 then(mK t 1 0 0).2 else if(xP t []).isNone then(12,-1)else(0,0)
def pW (ts:List ek)(a:List oe)(r:sq):Int:=
 if r.kids<1∨3<r.kids∨r.weight<0∨1000000<r.weight then 3 else if(dP ts a r.graph).1≠0 then(dP ts a r.graph).1 else if nS r.graph r.kids=false then 5 else(qY r.eu).1
def xK (ts:List ek)(a:List oe)(x:Dz):Int:=
 if isWord x.word=false then 10 else if x.weight<0∨1000000<x.weight then 3 else if(dP ts a x.graph).1≠0 then(dP ts a x.graph).1 else(qY x.eu).1
def ja (ts:List ek)(a:List oe):List ax→Nat→List sq→Int×Int
 |_,_,[]=>(0,0)
 |known,i,r::rs=>if isName r.name=false then(10,i)else if r.name∈known then(7,i)else if pW ts a r≠0 then(pW ts a r,i)else ja ts a (known++ [r.name]) (i+1) rs
def jZ (ts:List ek)(a:List oe):Nat→List Dz→Int×Int
 |_,[]=>(0,0)
 |i,x::xs=>if xK ts a x≠0 then(xK ts a x,i)else jZ ts a (i+1) xs
def jL (g:fj):Int×Int:=
 if(jM g.types g.cB).1≠0 then jM g.types g.cB else if g.cB.length≤3 then(9,-1)else if 40<g.rules.length∨100<g.aL.length then(2,-1)
 else if(ja g.types g.cB [] 0 g.rules).1≠0 then ja g.types g.cB [] 0 g.rules else if(jZ g.types g.cB 0 g.aL).1≠0 then jZ g.types g.cB 0 g.aL
 else if(dP g.types g.cB g.start).1≠0 then((dP g.types g.cB g.start).1,-1)else(0,0)
end Go.Proofs.YtblifkgpebebmaaGreatDoor
namespace Go.J
open Go
def cU (u v:Value):du:=⟨λ_=>u=v,λ_ _ _ h=>h⟩
structure uc where
 slot:Nat
 gb:List Nat
 K:Value→du
instance:Inhabited uc:=⟨⟨0,[],λu=>cU u u⟩⟩
def uq (bs:List uc)(e:Nat→Value)(ds:List Nat):Fr:=ds.map λj=>((bs.getD j default).slot,e j)
def pe (bs:List uc)(e:Nat→Value)(ds:List Nat):List ak:=ds.map λj=>aB ((bs.getD j default).K (e j))
def ql (c:Ctx)(H:List ak)(slot:Nat)(K:Value→du)(a:Act)(w:World):Prop:=a.defers=[]∧∃u,a.tmps[slot]?=some u∧Mm c (aB (K u)::H) w
section
variable {P:Program}{ops:Array Oper}{Q:Exit→Act→World→Prop}{n:Nat}{F:Fr}{c:Ctx}{H R:List ak}
class Ga (H H':List ak):Prop where
 eq:∃L,H'=L++H
instance (priority:=high) Ga.here (H:List ak):Ga H H:=⟨[],rfl⟩
instance Ga.there (E:ak)(H H':List ak)[h:Ga H H']:Ga H (E::H'):=⟨let⟨L,e⟩:=h.eq;⟨E::L,by rw[e];rfl⟩⟩
theorem ew.tail {c:Ctx}{L H:List ak}{ρ:Ro}{w:World}(h:ew c (L++H) ρ w):ew c H ρ w:=by
 induction L with
 |nil=>exact h
 |cons E L a=>exact a (ew.drop h)
theorem St.Vn {b:Fr}{H':List ak}{slot:Nat}{K:Value→du}(u:Value)(g:look b slot=some u)(d:du)(hd:K u=d)[h:lW d H'][tl:Ga H H']:St n b (Mm c H') (ql c H slot K):=
 λa w f hw=>⟨f.defers,u,f.slot _ _ g,by
  rw[hd];obtain⟨ρ,hm⟩:=hw.out
  have i:=dB.1 (hm.dM _ h.mem)
  obtain⟨L,e⟩:=tl.eq;subst e
  exact Mm.mk (hm.tail.fact d i)⟩
def VS (P:Program)(ops:Array Oper)(Q:Exit→Act→World→Prop)(n:Nat)(F:Fr)(dr:Prop)(H:List ak)(bs:List uc)(b:uc)(o:Oper):Prop:=
 ∀(c:Ctx) (e:Nat→Value),(¬dr→¬c.dr)→St n (uq bs e b.gb++F) (Mm c (pe bs e b.gb++H)) (wpList P ops (Exit.then (ql c H b.slot b.K) Q) [o])
theorem VS.mk {dr:Prop}{bs:List uc}{slot:Nat}{gb:List Nat}{K:Value→du}{o:Oper}(a:(Nat→Value)→Fr)(L:(Nat→Value)→List ak)(h1:∀e,uq bs e gb=a e)(b:∀e,pe bs e gb=L e)
 (k:∀(c:Ctx) (e:Nat→Value),(¬dr→¬c.dr)→St n (a e++F) (Mm c (L e++H)) (wpList P ops (Exit.then (ql c H slot K) Q) [o])):VS P ops Q n F dr H bs ⟨slot,gb,K⟩ o:=λc e hd=>by
 show St n (uq bs e gb++F) (Mm c (pe bs e gb++H)) _
 rw[h1,b];exact k c e hd
def ab (P:Program)(ops:Array Oper)(Q:Exit→Act→World→Prop)(n:Nat)(F:Fr)(dr:Prop)(H:List ak)(bs:List uc):List uc→List Oper→Prop
 | [],[]=>True
 |b::l,o::m=>VS P ops Q n F dr H bs b o∧ab P ops Q n F dr H bs l m
 |_,_=>False
theorem ab.nil {dr:Prop}{bs:List uc}:ab P ops Q n F dr H bs [] []:=trivial
theorem ab.cons {dr:Prop}{bs l:List uc}{b:uc}{o:Oper}{m:List Oper}(h:VS P ops Q n F dr H bs b o)(k:ab P ops Q n F dr H bs l m):ab P ops Q n F dr H bs (b::l) (o::m):=⟨h,k⟩
theorem ab.at_ {dr:Prop}{bs:List uc}:∀{l:List uc} {m:List Oper},ab P ops Q n F dr H bs l m→l.length=m.length∧∀(i:Nat) (b:uc) (o:Oper),l[i]?=some b→m[i]?=some o→VS P ops Q n F dr H bs b o
 | [],[],_=>⟨rfl,λi b o h=>by simp at h⟩
 | [],_::_,h=>h.elim
 |_::_,[],h=>h.elim
 |b::l,o::m,h=>by
  obtain⟨h1,d⟩:=ab.at_ h.2;refine⟨by simp[h1],λi e o' a c=> ?_⟩
  cases i with
  |zero=>simp at a c;subst a c;exact h.1
  |succ i=>exact d i e o' (by simpa using a) (by simpa using c)
def MS (n b:Nat)(ex:List Nat)(a:List (Nat×List Nat))(hd:List Oper):Bool:=
 (a.zip hd).all (λp=>p.2.guard.isNone&&p.2.dst==some p.1.1&&Nat.ble (p.1.1+1) n&&(Nat.ble b p.1.1||ex.contains p.1.1)&&p.1.2.all (λj=>Nat.ble (j+1) a.length&&p.2.after.any λe=>Region.binds .any e&&e.on==j))&&
  (a.map (·.1)).Nodup
theorem YB {o:Oper}{a:Act}{w:World}{K:Act→World→Prop}(h:o.wp P a w K Q):o.wp P a w (λb w'=>K b w'∧((∃v,b=a.put o.dst v)∨b.defers≠ [])) Q:=by
 unfold Oper.wp at*
 generalize (execOp a.eval o).run P w=r at*
 cases r with
 |ok g w'=>
  cases g<;>simp only[Oper.upon]at h⊢
  case value u=>exact⟨h,.inl ⟨u,rfl⟩⟩
  case skip=>exact⟨h,.inl ⟨undef,rfl⟩⟩
  case defer d=>exact⟨h,.inr (by cases o.dst<;>simp[Act.put])⟩
  case enter f args=>
   refine Calls.mono h λe i he=> ?_
   cases e with
   |returned u=>exact⟨he,.inl ⟨u,rfl⟩⟩
   |panicked c=>exact he
   |outgrown=>exact he
  case row j args=>exact Rows.mono h λu i he=>⟨he,.inl ⟨u,rfl⟩⟩
  all_goals exact h
 |halt x w'=>
  cases x<;>simp only[Oper.upon]at h⊢
  all_goals exact h
theorem C9 {i:Nat}{o:Oper}(c:ops[i]?=some o)(d:o.guard=none){a:Act}{w:World}{K:Act→World→Prop}(h:wpOp P ops Q i K a w):wpOp P ops Q i (λb w'=>K b w'∧((∃v,b=a.put o.dst v)∨b.defers≠ [])) a w:=by
 unfold wpOp at*;rw[c]at h⊢
 have hw:Region.wanted o (yielded ops a.tmps)=true:=by unfold Region.wanted;rw[d]
 simp only[hw,if_true]at h⊢
 exact h.imp YB id
theorem Gv {p q:Nat→Bool}{i:Nat}(hp:p i=true)(a:q i=false)(h:∀j,j≠i→p j=q j):∀m,i<m→(List.range m).countP p=(List.range m).countP q+1:=by
 have eq:∀m,m≤i→(List.range m).countP p=(List.range m).countP q:=by
  intro m hm
  refine List.countP_congr λj b=> ?_
  have:=dt.1 b
  rw[h j (by omega)]
 intro m
 induction m with
 |zero=>intro h;omega
 |succ m c=>
  intro hm;rw[ub,List.countP_append,List.countP_append,List.countP_singleton,List.countP_singleton]
  by_cases e:i=m
  ·subst e
   rw[eq i (aR _),hp,a];simp
  ·rw[c (by omega),h m (Ne.symm e)];omega
def Qj (m:Nat)(listed:Array Bool):Nat:=(List.range m).countP λj=> !listed.getD j true
theorem ew.TM {c:Ctx}{H:List ak}{ρ:Ro}{w:World}(h:ew c H ρ w):ew ⟨w,ρ,jm H,c.dr⟩ H ρ w:=
 ⟨rfl,⟨rfl,λ_=>aR _⟩,rfl,aR _,λ_ _ _=>rfl,h.fits,Ro.le_refl _,λ_ _ _=>rfl,h.dM,λE a b d=>⟨(h.own E a b d).1,.inr ⟨E,a,d⟩⟩,h.ES⟩
theorem Ep:∀{F:Fr} {t:Nat} {x:Value},look F t=some x→t∈F.map (·.1)
 | [],_,_,h=>by simp[look]at h
 |(k,u)::F,t,x,h=>by
  simp only[look]at h
  cases a:Nat.beq t k with
  |true=>rw[mr a];simp
  |false=>
   simp only[a,cond_false]at h
   have:=Ep h
   simp only[List.map_cons,List.mem_cons];exact .inr this
def DF (acc:List Nat)(o:Oper):Nat:=o.after.toList.foldl (λu e=>if Region.binds .any e then u|||(2^e.on|||acc.getD e.on 0)else u) 0
def gl:List Oper→List Nat→List Nat
 | [],acc=>acc
 |o::l,acc=>gl l (acc++ [DF acc o])
theorem HY (acc:List Nat)(o:Oper){j:Nat}(h:(DF acc o).testBit j=true):∃e∈o.after,Region.binds .any e=true∧(e.on=j∨(acc.getD e.on 0).testBit j=true):=by
 have key:∀(l:List Edge) (u:Nat),(l.foldl (λu e=>if Region.binds .any e then u|||(2^e.on|||acc.getD e.on 0)else u) u).testBit j=true→u.testBit j=true∨∃e∈l,Region.binds .any e=true∧(e.on=j∨(acc.getD e.on 0).testBit j=true):=by
  intro l
  induction l with
  |nil=>intro u h;exact .inl h
  |cons e l a=>
   intro u h;rw[s6]at h
   rcases a _ h with h1|⟨b,he,h1⟩
   ·split at h1
    ·rename_i c
     rw[Nat.testBit_or,Nat.testBit_or,Bool.or_eq_true,Bool.or_eq_true,Nat.testBit_two_pow,fy]at h1
     rcases h1 with h1|h1
     ·exact .inl h1
     ·exact .inr ⟨e,aQ ..,c,h1⟩
    ·exact .inl h1
   ·exact .inr ⟨b,cO _ he,h1⟩
 rcases key _ _ h with h1|⟨e,he,h1⟩
 ·rw[Nat.zero_testBit]at h1;cases h1
 ·exact⟨e,by simpa using he,h1⟩
theorem p9:∀(l m:List Oper) (acc:List Nat),gl (l++m) acc=gl m (gl l acc)
 | [],_,_=>rfl
 |o::l,m,acc=>by rw[wj,gl,gl,p9 l m]
theorem vR:∀(l:List Oper) (acc:List Nat),(gl l acc).length=acc.length+l.length
 | [],_=>rfl
 |o::l,acc=>by rw[gl,vR l];simp;omega
theorem vS:∀(l:List Oper) (acc:List Nat) (i:Nat),i<acc.length→(gl l acc)[i]?=acc[i]?
 | [],_,_,_=>rfl
 |o::l,acc,i,h=>by rw[gl,vS l _ i (by simp;omega),oc h]
theorem OJ {l:List Oper}{i:Nat}{o:Oper}(h:l[i]?=some o):(gl l []).getD i 0=DF (gl (l.take i) []) o:=by
 have a:=(fA.1 h).1
 have e:gl l []=gl (l.drop (i+1)) (gl (l.take i) []++ [DF (gl (l.take i) []) o]):=by
  conv=>lhs;rw[←qk i l]
  rw[p9,List.drop_eq_getElem_cons a,gl];rw[bU a]at h;rw[Option.some.inj h]
 have b:(gl (l.take i) []).length=i:=by rw[vR,eX];simp;omega
 rw[e,ar,vS _ _ _ (by simp[b]),lp (by omega),b,ff];rfl
theorem HZ {l:List Oper}{i j:Nat}(h:j<i)(a:i≤l.length):(gl (l.take i) []).getD j 0=(gl l []).getD j 0:=by
 have e:gl l []=gl (l.drop i) (gl (l.take i) []):=by rw[←p9,qk]
 rw[e,ar,ar,vS (l.drop i) (gl (l.take i) []) j (by rw[vR,eX];simp;omega)]
def qW (l:List Oper)(m:Nat):Bool:=
 ((List.range l.length).all λi=>match l[i]? with
  |some o=>(o.after.all λe=>Nat.ble (e.on+1) i)&&(Nat.ble i m||o.after.any λe=>Region.binds .any e&&e.on==i-1)
  |none=>false)&&(Nat.ble l.length m||(gl l []).getD m 0==2^m-1)
theorem ml {l:List Oper}{m i:Nat}{o:Oper}(h:qW l m=true)(a:l[i]?=some o):∀e∈o.after,e.on<i:=by
 have b:=(fA.1 a).1
 simp only[qW,Bool.and_eq_true]at h
 have h1:=eW.1 h.1 i (dt.2 b)
 simp only[a,Bool.and_eq_true]at h1
 intro e he;exact dR ((Array.all_eq_true_iff_forall_mem.1 h1.1) e he)
theorem zu {l:List Oper}{m i:Nat}{o:Oper}(h:qW l m=true)(c:l[i]?=some o)(hm:m<i):∃e∈o.after,Region.binds .any e=true∧e.on=i-1:=by
 have d:=(fA.1 c).1
 simp only[qW,Bool.and_eq_true]at h
 have h1:=eW.1 h.1 i (dt.2 d)
 simp only[c,Bool.and_eq_true,Bool.or_eq_true]at h1
 rcases h1.2 with a|a
 ·have:=dR a;omega
 ·obtain⟨e,he,b⟩:=Array.any_eq_true'.1 a
  simp only[Bool.and_eq_true,beq_iff_eq]at b
  exact⟨e,he,b.1,b.2⟩
def xS (l:List Oper)(listed:Array Bool):Prop:=∀i o,l[i]?=some o→listed.getD i false=true→∀e∈o.after,Region.binds .any e=true→listed.getD e.on false=true
theorem xS.all {l:List Oper}{m:Nat}{listed:Array Bool}(g:qW l m=true)(h:xS l listed):∀(i:Nat) (o:Oper),l[i]?=some o→(∀e∈o.after,Region.binds .any e=true→listed.getD e.on false=true)→∀j,((gl l []).getD i 0).testBit j=true→listed.getD j false=true:=by
 intro i
 induction i using Nat.strongRecOn with
 |ind i k=>
  intro o b n j c
  have q:=(fA.1 b).1
  rw[OJ b]at c;obtain⟨e,he,p,h1⟩:=HY _ _ c
  have d:=ml g b e he
  have f:=n e he p
  rcases h1 with rfl|h1
  ·exact f
  ·rw[HZ d (by omega)]at h1
   have a:l[e.on]?=some l[e.on]:=bU (by omega)
   exact k e.on d _ a (h _ _ a f) j h1
theorem uX {l:List Oper}{m:Nat}(f:qW l m=true):∀(r:List Oper) (k:Nat) (listed:Array Bool) (a:Act) (w:World),m≤k→(∀j:Nat,r[j]?=l[k+j]?)→k+r.length=l.length→Di k listed l.length→
 wpList P l.toArray Q r a w→wpAny P .any l.toArray Q r.length listed a w
 | [],k,listed,a,w,_,_,d,hu,h=>by
  refine⟨?_,h⟩;unfold Region.ready;rw[List.filter_eq_nil_iff];intro i g
  have q:=dt.1 g
  simp only[List.size_toArray]at q
  have:listed.getD i true=true:=by rw[hu.getD i true q];simp at d;simp;omega
  simp[this]
 |o::r,k,listed,a,w,y,s,d,hu,h=>by
  have hk:k<l.length:=by simp at d;omega
  have t:l[k]?=some o:=by simpa using (s 0).symm
  have u:l.toArray[k]?=some o:=by simpa using t
  have G:listed.size=l.length:=hu.1
  refine⟨λz=> ?_,λi g=> ?_⟩
  ·have:k∈Region.ready .any l.toArray listed:=mem_ready.2 ⟨by rw[hu.getD k true hk];simp,o,u,λe he _=>by
    have:=ml f t e he
    rw[hu.getD e.on false (by omega)];simp[this]⟩
   rw[z]at this;cases this
  ·obtain⟨b,A,v,B⟩:=mem_ready.1 g
   have C:i<l.length:=by have:=(wG.1 v).1;simpa using this
   have D:l[i]?=some A:=by simpa using v
   rw[hu.getD i true C]at b
   have H:k≤i:=by simpa using b
   have n:i=k:=by
    rcases eO k i with h1|h1
    ·obtain⟨e,he,E,p⟩:=zu f D (by omega)
     have x:=B e he E
     rw[p,hu.getD (i-1) _ (by omega)]at x
     simp at x;omega
    ·omega
   subst n
   have F:=uX f r (i+1) (listed.setIfInBounds i true)
   have c:∀a w,wpList P l.toArray Q r a w→wpAny P .any l.toArray Q r.length (listed.setIfInBounds i true) a w:=λa w h=>
    F a w (by omega) (λj=>by have:=s (j+1);simpa[Nat.add_assoc,Nat.add_comm 1 j]using this) (by simp at d⊢;omega) hu.set h
   unfold wpOp;rw[u]
   simp only[wpList]at h
   simp only
   split
   ·rename_i hw
    simp only[hw,if_true]at h
    exact h.imp (Oper.wp_mono c) id
   ·rename_i hw
    simp only[hw]at h
    exact c _ _ h
def Xok:Option (Nat×TypeId×Array Value)→Array Bool→(Nat→Value)→List ak→Prop
 |none,_,_,X=>X=[]
 |some (a,c,Z),listed,e,X=>(listed.getD a false=true∧∃b,e a= .pointer (some ⟨b,0,none⟩)∧X=[aW b (.cells Z c (0,0))])∨(listed.getD a false=false∧X=[])
structure GQ (al:Option (Nat×TypeId×Array Value))(n:Nat)(F:Fr)(c:Ctx)(H:List ak)(bs:List uc)(listed:Array Bool)(a:Act)(w:World)(e:Nat→Value)(ρ:Ro)(X:List ak):Prop where
 has:Has n a F
 mem:ew c (H++X) ρ w
 xok:Xok al listed e X
 got:∀(i:Nat) (b:uc),bs[i]?=some b→listed.getD i false=true→a.tmps[b.slot]?=some (e i)∧(b.K (e i)).f ρ
theorem GQ.use {al:Option (Nat×TypeId×Array Value)}{X:List ak}{bs:List uc}{listed:Array Bool}{a:Act}{w:World}{e:Nat→Value}{ρ:Ro}(h:GQ al n F c H bs listed a w e ρ X)(ds:List Nat)(hd:∀j∈ds,j<bs.length∧listed.getD j false=true):
 Has n a (uq bs e ds++F)∧ew c (pe bs e ds++(H++X)) ρ w:=by
 have gd:∀j,j<bs.length→bs[j]?=some (bs.getD j default):=λj f=>by rw[ar,bU f];rfl
 constructor
 ·refine⟨h.has.size,h.has.defers,λt v b=> ?_⟩
  induction ds with
  |nil=>exact h.has.slot t v b
  |cons j ds m=>
   simp only[uq,List.map_cons,List.cons_append,look]at b
   cases g:Nat.beq t (bs.getD j default).slot with
   |true=>
    have i:=mr g
    simp only[g,cond_true,Option.some.injEq]at b
    subst b;obtain⟨h1,l⟩:=hd j (aQ ..)
    rw[i];exact(h.got j _ (gd j h1) l).1
   |false=>
    simp only[g,cond_false]at b
    exact m (λk hk=>hd k (cO _ hk)) b
 ·have i:pe bs e ds=(ds.map λj=>(bs.getD j default).K (e j)).map aB:=by unfold pe;rw[kG];rfl
  rw[i]
  refine h.mem.Ab _ λd o=> ?_
  obtain⟨j,f,rfl⟩:=cz.1 o;obtain⟨h1,l⟩:=hd j f;exact(h.got j _ (gd j h1) l).2
def Yh (P:Program)(ops:Array Oper)(n:Nat)(bs:List uc):Option (Nat×TypeId×Array Value)→Prop
 |none=>True
 |some (a,b,Z)=>(∃d ty pos after,ops[a]?=some {dst:=some d,op:= .alloc b,type:=ty,pos:=pos,after:=after,guard:=none}∧Nat.ble (d+1) n=true)∧(P.info? b).bind (λi=>i.zero.map Value.cells)=some Z∧(bs.getD a default).K=(λu=>cU u u)
def alE (al:Option (Nat×TypeId×Array Value))(e:Nat→Value)(H:List ak)(h:List ak→Prop):Prop:=match al with
 |none=>h H
 |some (a,c,Z)=>∀b,e a= .pointer (some ⟨b,0,none⟩)→h (aW b (.cells Z c (0,0))::H)
theorem Vm {al:Option (Nat×TypeId×Array Value)}{bs:List uc}(hal:Yh P ops n bs al){hd tl:List Oper}{lo:Nat}{ex:List Nat}{sd:List (Nat×List Nat)}(hsd:bs.map (λb=>(b.slot,b.gb))=sd)(hlo:F.all (λp=>Nat.ble (p.1+1) lo&& !(ex.contains p.1))=true)(Y:ops=(hd++tl).toArray)(T:qW (hd++tl) hd.length=true)(J:MS n lo ex sd hd=true)(hH:ab P ops Q n F c.dr H bs bs hd)(TB:List Nat)(Up:TB.all (λj=>Nat.ble (j+1) sd.length)=true)
 (hia:∀z r Z,al=some (z,r,Z)→z<hd.length)
 (adA:∀e,alE al e H λH'=>St n (uq bs e TB++F) (Mm c (pe bs e TB++H')) (wpList P ops Q tl)):
 ∀(f:Nat) (listed:Array Bool) (a:Act) (w:World) (e:Nat→Value) (ρ:Ro) (X:List ak),listed.size=ops.size→xS (hd++tl) listed→(∀j,hd.length≤j→j<ops.size→listed[j]?=some false)→Qj hd.length listed=f→
  GQ al n F c H bs listed a w e ρ X→wpAny P .any ops Q (f+tl.length) listed a w:=by
 obtain⟨hlen,SA⟩:=hH.at_
 have SS:ops.size=hd.length+tl.length:=by rw[Y];simp
 have akB:∀i,i<hd.length→ops[i]?=hd[i]?:=λi hi=>by rw[Y];simp[List.getElem?_append_left hi]
 subst hsd
 simp only[MS,Bool.and_eq_true,decide_eq_true_eq]at J
 obtain⟨J8,Dr⟩:=J;rw[kG]at Dr
 change (bs.map (·.slot)).Nodup at Dr
 rw[aO]at Up
 have J8:=eW.1 J8
 have each:∀(i:Nat) (b:uc) (o:Oper),bs[i]?=some b→hd[i]?=some o→o.guard=none∧o.dst=some b.slot∧b.slot<n∧b.slot∉F.map (·.1)∧∀j∈b.gb,j<bs.length∧∃ed∈o.after,Region.binds .any ed=true∧ed.on=j:=by
  intro i b o U ho
  have h1:=J8 ((b.slot,b.gb),o) (ae (i:=i) (by rw[List.getElem?_zip_eq_some];exact⟨by rw[bP,U];rfl,ho⟩))
  simp only[Bool.and_eq_true,Option.isNone_iff_eq_none,beq_iff_eq,Bool.not_eq_true']at h1
  obtain⟨⟨⟨⟨h1,B⟩,l⟩,h4⟩,h5⟩:=h1
  refine⟨h1,B,dR l,λhm=>(by
   obtain⟨p,hp,he⟩:=cz.1 hm
   have q0:=eW.1 hlo p hp
   simp only[Bool.and_eq_true,Bool.not_eq_true']at q0
   have q1:=dR q0.1
   have q3:p.1=b.slot:=he
   rcases Bool.or_eq_true _ _|>.mp h4 with V|V
   ·have V:=dR V
    omega
   ·rw[q3]at q0;rw[V]at q0;cases q0.2),λj g=> ?_⟩
  have h6:=eW.1 h5 j g
  simp only[Bool.and_eq_true]at h6
  obtain⟨ed,s,Lz⟩:=Array.any_eq_true'.1 h6.2
  simp only[Bool.and_eq_true,beq_iff_eq]at Lz
  exact⟨by have:=dR h6.1;rwa[aO]at this,ed,s,Lz.1,Lz.2⟩
 intro f
 induction f with
 |zero=>
  intro listed a w e ρ X hs NW htl hu m
  have all:∀j,j<hd.length→listed[j]?=some true:=λj g=>by
   have h1:¬0<Qj hd.length listed:=by omega
   unfold Qj at h1;rw[List.countP_pos_iff]at h1
   have C:j<listed.size:=by omega
   cases hv:listed[j]? with
   |none=>rw[Array.getElem?_eq_none_iff]at hv;omega
   |some b=>
    cases b with
    |true=>rfl
    |false=>exact absurd ⟨j,dt.2 g,by rw[px,hv];rfl⟩ h1
  have hup:Di hd.length listed ops.size:=⟨hs,λj g=>by
   rcases eO j hd.length with h|h
   ·rw[all j h];simp[h]
   ·rw[htl j h g];simp[Nat.not_lt.2 h]⟩
  rw[hP];rw[Y]at hup⊢;refine uX T tl hd.length listed a w (aR _) (λj=>by simp[List.getElem?_append_right]) (by simp) (by simpa using hup) ?_;rw[←Y]
  obtain⟨h1,B⟩:=m.use TB λj g=>by
   have l:=dR (eW.1 Up j g)
   exact⟨l,by rw[px,all j (by omega)];rfl⟩
  have ht:=adA e
  have hx:=m.xok
  cases al with
  |none=>
   have hx:X=[]:=hx
   subst hx;exact ht a w h1 (Mm.mk (by rw[gx]at B;exact B))
  |some q=>
   obtain⟨z,r,Z⟩:=q
   have hl:listed.getD z false=true:=by rw[px,all z (hia z r Z rfl)];rfl
   rcases hx with⟨_,b,J,rfl⟩|⟨J,_⟩
   ·exact ht b J a w h1 (Mm.mk (B.perm (GH _ (jV (l₁:=H) (l₂:=[aW b (.cells Z r (0,0))])))))
   ·rw[hl]at J;cases J
 |succ f ih=>
  intro listed a w e ρ X hs NW htl hu m
  have hex:∃j,j<hd.length∧listed.getD j true=false:=by
   have h1:0<Qj hd.length listed:=by omega
   unfold Qj at h1;rw[List.countP_pos_iff]at h1;obtain⟨j,g,h⟩:=h1;exact⟨j,dt.1 g,by simpa using h⟩
  rw[show f+1+tl.length=(f+tl.length)+1 by omega];refine⟨λh0=> ?_,λi hi=> ?_⟩
  ·obtain⟨j,g,y⟩:=hex
   exact absurd h0 (Ae hs (λi o ho=>ml T (by rw[Y]at ho;simpa using ho)) ⟨j,by omega,y⟩)
  ·obtain⟨N,o,D,Ea⟩:=mem_ready.1 hi
   have hiN:i<ops.size:=(wG.1 D).1
   have him:i<hd.length:=by
    rcases eO i hd.length with h|h
    ·exact h
    ·obtain⟨j,g,y⟩:=hex
     exfalso
     have SM:(hd++tl)[i]?=some o:=by rw[Y]at D;simpa using D
     rcases eO hd.length i with B|B
     ·obtain⟨ed,s,Lz,he3⟩:=zu T SM B
      have h1:=Ea ed s Lz
      rw[he3]at h1
      have l:=htl (i-1) (by omega) (by omega)
      rw[px,l]at h1
      cases h1
     ·obtain rfl:i=hd.length:=by omega
      have NY:(gl (hd++tl) []).getD hd.length 0=2^hd.length-1:=by
       simp only[qW,Bool.and_eq_true,Bool.or_eq_true]at T
       rcases T.2 with l|l
       ·have:=dR l
        have C:=(fA.1 SM).1
        omega
       ·simpa using l
      have h1:=NW.all T _ o SM (λed s Lz=>by
       have l:=Ea ed s Lz
       have C:=ml T SM ed s
       rw[px,Dn (show ed.on<listed.size by omega)]at l⊢
       simpa using l) j (by rw[NY,Nat.testBit_two_pow_sub_one];simpa using g)
      have C:j<listed.size:=by omega
      rw[px,Dn C]at h1 y
      simp at h1 y
      rw[h1]at y;cases y
   have hho:hd[i]?=some o:=by rw[←akB i him];exact D
   have U:bs[i]?=some (bs[i]'(by omega)):=bU (by omega)
   generalize bs[i]'(by omega)=b at U
   obtain⟨g1,g2,g3,g4,g5⟩:=each i b o U hho
   have hop:=SA i b o U hho
   obtain⟨u1,u2⟩:=m.use b.gb λj g=>by
    obtain⟨q1,ed,V,q3,q4⟩:=g5 j g;refine⟨q1,?_⟩
    have h1:=Ea ed V q3
    rw[q4]at h1
    have C:j<listed.size:=by omega
    rw[px,Dn C]at h1⊢
    simpa using h1
   have C:i<listed.size:=by omega
   have ab0:Qj hd.length (listed.setIfInBounds i true)=f:=by
    have h1:=Gv (p:=λj=> !listed.getD j true) (q:=λj=> !(listed.setIfInBounds i true).getD j true) (i:=i) (by simp[N]) (by simp[Array.getD_eq_getD_getElem?,C]) (λj g=>by
     simp only[Array.getD_eq_getD_getElem?,Array.getElem?_setIfInBounds];rw[aA (Ne.symm g)]) hd.length him
    unfold Qj at hu⊢;omega
   have adB:∀j,hd.length≤j→j<ops.size→(listed.setIfInBounds i true)[j]?=some false:=λj g hjN=>by
    rw[QR,aA (by omega)];exact htl j g hjN
   have other:∀j,j≠i→(listed.setIfInBounds i true).getD j false=listed.getD j false:=λj g=>by
    rw[px,px,QR,aA (Ne.symm g)]
   have abZ:xS (hd++tl) (listed.setIfInBounds i true):=λj oj g E ed he J=>by
    have O:ed.on≠i→(listed.setIfInBounds i true).getD ed.on false=listed.getD ed.on false:=λh=>other _ h
    have ac4:(listed.setIfInBounds i true).getD i false=true:=by rw[px,QR,aC rfl,aC C];rfl
    by_cases L:ed.on=i
    ·rw[L];exact ac4
    ·rw[O L]
     by_cases e2:j=i
     ·subst e2
      have:oj=o:=by
       have q:(hd++tl)[j]?=some o:=by rw[Y]at D;simpa using D
       rw[q]at g;exact(Option.some.inj g).symm
      subst this
      have l:=Ea ed he J
      have anN:=ml T g ed he
      rw[px,Dn (show ed.on<listed.size by omega)]at l⊢
      simpa using l
     ·rw[other _ e2]at E
      exact NW j oj g E ed he J
   have abW:∀v,Has n (a.put (some b.slot) v) F:=λv=>by
    refine⟨by simp[Act.put,m.has.size],by simp[Act.put,m.has.defers],λt x hx=> ?_⟩
    have O:b.slot≠t:=λh=>g4 (h▸Ep hx)
    simp[Act.put,O,m.has.slot t x hx]
   have aaF:∀(v:Value) (jn:Ro),Ro.le ρ jn→(b.K v).f jn→∀(j:Nat) (W:uc),bs[j]?=some W→(listed.setIfInBounds i true).getD j false=true→
    (a.put (some b.slot) v).tmps[W.slot]?=some (if j=i then v else e j)∧(W.K (if j=i then v else e j)).f jn:=λv jn hle hKv j W S E=>by
    by_cases L:j=i
    ·subst L
     rw[U]at S;cases S
     have hsl:b.slot<a.tmps.size:=by rw[m.has.size];exact g3
     refine⟨by rw[aC rfl];simp[Act.put,hsl],by rw[aC rfl];exact hKv⟩
    ·rw[aA L]
     rw[other j L]at E;obtain⟨k1,k2⟩:=m.got j W S E;refine⟨?_,(W.K (e j)).mono ρ jn hle k2⟩
     have O:b.slot≠W.slot:=λh=>by
      have q1:(bs.map (·.slot))[i]?=some b.slot:=by rw[bP,U];rfl
      have V:(bs.map (·.slot))[j]?=some W.slot:=by rw[bP,S];rfl
      have:=(List.getElem?_inj (i:=i) (j:=j) (by rw[aO];omega) Dr).1 (by rw[q1,V,h])
      exact L this.symm
     simp[Act.put,O,k1]
   have r0:ew ⟨w,ρ,jm H,c.dr⟩ H ρ w:=(m.mem.left).TM
   by_cases abU:∃r Z,al=some (i,r,Z)
   ·obtain⟨r,Z,rfl⟩:=abU
    obtain⟨⟨d0,ty0,alV,af0,acC,hd0⟩,hz,hK⟩:=hal;rw[D]at acC
    have ho:o={dst:=some d0,op:= .alloc r,type:=ty0,pos:=alV,after:=af0,guard:=none}:=Option.some.inj acC
    have hd1:d0=b.slot:=by rw[ho]at g2;exact Option.some.inj g2
    have hX0:X=[]:=by
     rcases m.xok with⟨hx,_⟩|⟨_,hx⟩
     ·rw[px,Dn C]at N hx
      simp at N hx
      rw[N]at hx;cases hx
     ·exact hx
    subst hX0
    have k1:wpOp P ops Q i (λa' w'=>a'.defers=[]∧∃G,a'.tmps[b.slot]?=some (.pointer (some ⟨G,0,none⟩))∧Mm ⟨w,ρ,jm H,c.dr⟩ (aW G (.cells Z r (0,0))::H) w') a w:=by
     refine St.one (n:=n) (F:=F) (A:=Mm ⟨w,ρ,jm H,c.dr⟩ H) D ?_ a w m.has (Mm.mk r0);rw[ho];refine St.alloc hz hd0 (λG=>St.nil (St.wa λa' w' ha' hw'=>⟨ha'.defers,G,?_,hw'⟩));rw[←hd1];exact ha'.slot _ _ (by simp[look])
    refine wpOp_mono (λa' w' hk=> ?_) (C9 D g1 k1);obtain⟨⟨hdf,G,I,M⟩,Kw⟩:=hk
    rcases Kw with⟨v,rfl⟩|WX
    ·obtain⟨jn,M⟩:=M.out
     have Np:ew c (H++ [aW G (.cells Z r (0,0))]) jn w':=by
      have:=ew.step (R:=[]) m.mem M
      rw[gx]at this;exact this.perm (jV (l₁:=[aW G (.cells Z r (0,0))]) (l₂:=H))
     rw[g2]at I⊢
     have huv:v= .pointer (some ⟨G,0,none⟩):=by
      have:b.slot<a.tmps.size:=by rw[m.has.size];exact g3
      simpa[Act.put,this]using I
     have hKb:b.K=λu=>cU u u:=by
      have:bs.getD i default=b:=by rw[ar,U];rfl
      rw[←this];exact hK
     refine ih (listed.setIfInBounds i true) _ w' (λk=>if k=i then v else e k) jn _ (by simp[hs]) abZ adB ab0 ⟨abW v,Np,.inl ⟨?_,G,?_,rfl⟩,aaF v jn M.le ?_⟩
     ·rw[px,QR,aC rfl,aC C];rfl
     ·show(if i=i then v else e i)=_
      rw[aC rfl];exact huv
     ·rw[hKb];exact rfl
    ·exact absurd hdf WX
   ·have k1:=St.one (i:=i) D (hop ⟨w,ρ,jm H,c.dr⟩ e (λh=>h)) a w u1 (Mm.mk (by
     have L:pe bs e b.gb=(b.gb.map λj=>(bs.getD j default).K (e j)).map aB:=by unfold pe;rw[kG];rfl
     rw[L]
     refine r0.Ab _ λd hd'=> ?_
     have:=u2.dM (aB d) (kV _ (by rw[L];exact eP hd'))
     exact dB.1 this))
    refine wpOp_mono (λa' w' hk=> ?_) (C9 D g1 k1);obtain⟨⟨hdf,u,I,M⟩,Kw⟩:=hk
    rcases Kw with⟨v,rfl⟩|WX
    ·obtain⟨jn,M⟩:=M.out
     have hKu:(b.K u).f jn:=dB.1 (M.dM _ (aQ ..))
     have Np:ew c (H++X) jn w':=ew.step m.mem M.drop
     rw[g2]at I⊢
     have huv:v=u:=by
      have:b.slot<a.tmps.size:=by rw[m.has.size];exact g3
      simpa[Act.put,this]using I
     subst huv;refine ih (listed.setIfInBounds i true) _ w' (λk=>if k=i then v else e k) jn X (by simp[hs]) abZ adB ab0 ⟨abW v,Np,?_,aaF v jn M.le hKu⟩
     have hx:=m.xok
     cases al with
     |none=>exact hx
     |some q=>
      obtain⟨z,r,Z⟩:=q
      have O:z≠i:=λh=>abU ⟨r,Z,by rw[h]⟩
      rcases hx with⟨h1,G,B,l⟩|⟨h1,B⟩
      ·refine .inl ⟨by rw[other z O];exact h1,G,?_,l⟩
       show(if z=i then v else e z)=_
       rw[aA O];exact B
      ·exact .inr ⟨by rw[other z O];exact h1,B⟩
    ·exact absurd hdf WX
theorem St.Z5 {id:Nat}(al:Option (Nat×TypeId×Array Value))(m o:Nat)(ex:List Nat){l:List Oper}(bs:List uc)(g:List (Nat×List Nat))(f:List Nat)(u:Yh P l.toArray n bs al)(h:∀r v Z,al=some (r,v,Z)→r<(l.take m).length)(x:bs.map (λb=>(b.slot,b.gb))=g)(y:F.all (λp=>Nat.ble (p.1+1) o&& !(ex.contains p.1))=true)(hm:P.follows .mixedOrders=true)(z:qW l (l.take m).length=true)(A:MS n o ex g (l.take m)=true)(B:f.all (λj=>Nat.ble (j+1) g.length)=true)
 (hH:ab P l.toArray Q n F c.dr H bs bs (l.take m)) (C:∀e,alE al e H λH'=>St n (uq bs e f++F) (Mm c (pe bs e f++H')) (wpList P l.toArray Q (l.drop m))):
 St n F (Mm c H) ((Code.region id l.toArray true).wp P Q):=by
 intro a w D hw;refine wp_region_any hm ?_
 have E:=(Mm.drawn c H) w hw
 obtain⟨ρ,G⟩:=E.out
 have hlen:l.length=(l.take m).length+(l.drop m).length:=by rw[←bQ,qk]
 have no:∀i,(Array.replicate l.length false).getD i false=false:=λi=>by
  rw[px,Array.getElem?_replicate];split<;>rfl
 have s:=Vm (ops:=l.toArray) (hd:=l.take m) (tl:=l.drop m) u x y (by rw[qk]) (by rw[qk];exact z) A hH f B h C (Qj (l.take m).length (Array.replicate l.length false)) (Array.replicate l.length false) a {w with drawn:=w.drawn+1} (λ_=>undef) ρ [] (by simp) (λi _ _ d=>by rw[no]at d;cases d) (λj t k=>by
  rw[Array.getElem?_replicate,aC (by simpa using k)]) rfl ⟨D,by rw[List.append_nil];exact G,by
   cases al with
   |none=>exact rfl
   |some q=>exact .inr ⟨no _,rfl⟩,λi b _ d=>by rw[no]at d;cases d⟩
 have hu:Qj (l.take m).length (Array.replicate l.length false)=(l.take m).length:=by
  unfold Qj;rw[List.countP_eq_length.2,jT];intro j t
  have:=dt.1 t
  rw[px,Array.getElem?_replicate,aC (by omega)];rfl
 rw[hu,←hlen]at s
 simpa using s
theorem St.Ca {T:Act→World→Prop}{a b d e f:ak}(h:St n F (Mm c (a::b::d::e::f::R)) T):St n F (Mm c ([a,b,d,e,f]++R)) T:=h
theorem St.R0 {T:Act→World→Prop}{a b d e f g:ak}(h:St n F (Mm c (a::b::d::e::f::g::R)) T):St n F (Mm c ([a,b,d,e,f,g]++R)) T:=h
theorem St.U9 {id:Nat}(m f:Nat)(ex:List Nat){l:List Oper}(bs:List uc)(a:List (Nat×List Nat))(d:List Nat)(k:bs.map (λb=>(b.slot,b.gb))=a)(o:F.all (λp=>Nat.ble (p.1+1) f&& !(ex.contains p.1))=true)(hm:P.follows .mixedOrders=true)(q:qW l (l.take m).length=true)(r:MS n f ex a (l.take m)=true)(s:d.all (λj=>Nat.ble (j+1) a.length)=true)
 (g:(Nat→Value)→Fr) (i:(Nat→Value)→List ak) (t1:∀e,uq bs e d=g e) (t2:∀e,pe bs e d=i e)
 (hH:ab P l.toArray Q n F c.dr H bs bs (l.take m)) (t:∀e,St n (g e++F) (Mm c (i e++H)) (wpList P l.toArray Q (l.drop m))):
 St n F (Mm c H) ((Code.region id l.toArray true).wp P Q):=St.Z5 none m f ex bs a d trivial (λ_ _ _ h=>by cases h) k o hm q r s hH (λe=>by show St _ _ _ _;rw[t1,t2];exact t e)
theorem St.ag6 {id:Nat}(a:Nat){f:TypeId}{Z:Array Value}{d0 s:Nat}{t:String}{d:Array Edge}(m o:Nat)(ex:List Nat){l:List Oper}(bs:List uc)(g:List (Nat×List Nat))(k:List Nat)
 (x:l.toArray[a]?=some {dst:=some d0,op:= .alloc f,type:=s,pos:=t,after:=d,guard:=none}) (y:Nat.ble (d0+1) n=true) (hz:(P.info? f).bind (λi=>i.zero.map Value.cells)=some Z) (z:(bs.getD a default).K=(λu=>cU u u)) (q:Nat.ble (a+1) (l.take m).length=true)
 (A:bs.map (λb=>(b.slot,b.gb))=g) (B:F.all (λp=>Nat.ble (p.1+1) o&& !(ex.contains p.1))=true) (hm:P.follows .mixedOrders=true) (C:qW l (l.take m).length=true) (r:MS n o ex g (l.take m)=true) (D:k.all (λj=>Nat.ble (j+1) g.length)=true)
 (v:(Nat→Value)→Fr) (w:(Nat→Value)→List ak) (t1:∀e,uq bs e k=v e) (t2:∀e,pe bs e k=w e)
 (hH:ab P l.toArray Q n F c.dr H bs bs (l.take m)) (E:∀e b,e a= .pointer (some ⟨b,0,none⟩)→St n (v e++F) (Mm c (w e++(aW b (.cells Z f (0,0))::H))) (wpList P l.toArray Q (l.drop m))):
 St n F (Mm c H) ((Code.region id l.toArray true).wp P Q):=
 St.Z5 (some (a,f,Z)) m o ex bs g k ⟨⟨d0,s,t,d,x,y⟩,hz,z⟩ (λi _ _ h=>by cases h;exact dR q) A B hm C r D hH (λe b r=>by rw[t1,t2];exact E e b r)
end
end Go.J
namespace Go.J
open Go Go.Proofs.YtblifkgpebebmaaGreatDoor
abbrev aU (x:fa):Value:= .agg #[sv x.base,x.av.1]
abbrev cN (x:di):Value:= .agg #[iv x.kind,sv x.name,iv x.index,sv x.type.base,x.type.av.1,x.av.1]
abbrev uQ (x:dE):Value:= .agg #[iv x.rule,iv x.lex,x.kv.1]
abbrev bA (x:dD):Value:= .agg #[x.nv.1]
abbrev rm (x:ca):Value:= .agg #[sv x.name,x.graph.nv.1,iv x.kids,iv x.weight,iv x.eu.kind,sv x.eu.name,iv x.eu.index,sv x.eu.type.base,x.eu.type.av.1,x.eu.av.1]
abbrev aeF (x:eY):Value:= .agg #[sv x.word,x.graph.nv.1,iv x.weight,iv x.eu.kind,sv x.eu.name,iv x.eu.index,sv x.eu.type.base,x.eu.type.av.1,x.eu.av.1]
abbrev fG (g:gQ):Value:= .agg #[g.tv.1,g.fv.1,g.rv.1,g.xv.1,g.start.nv.1]
def db (s:ig)(u:Value):du:=⟨λρ=>∃x:fa,u=aU x∧df x=s∧kL.wf x∧rZ ρ x,λ_ _ h ⟨x,a,b,c,d⟩=>⟨x,a,b,c,d.mono h⟩⟩
def isTerm (t:jI)(u:Value):du:=⟨λρ=>∃x:di,u=cN x∧dH x=t∧dI.wf x∧ot ρ x,λ_ _ h ⟨x,a,b,c,d⟩=>⟨x,a,b,c,d.mono h⟩⟩
def bL (g:e8)(u:Value):du:=⟨λρ=>∃x:dD,u=bA x∧ay x=g∧(aG x).f ρ,λ_ _ h ⟨x,a,b,c⟩=>⟨x,a,b,(aG x).mono _ _ h c⟩⟩
def fC (r:sq)(u:Value):du:=⟨λρ=>∃x:ca,u=rm x∧lL x=r∧cT.wf x∧(bx x).f ρ,λ_ _ h ⟨x,a,b,c,d⟩=>⟨x,a,b,c,(bx x).mono _ _ h d⟩⟩
def wS (g:fj)(u:Value):du:=⟨λρ=>∃x:gQ,u=fG x∧cE x=g∧(er x).f ρ,λ_ _ h ⟨x,a,b,c⟩=>⟨x,a,b,(er x).mono _ _ h c⟩⟩
def mB (ts:List jI)(u:Value):du:=⟨λρ=>u.oneCell'=true∧∃xs:List di,xs.map dH=ts∧(sl dI u xs).f ρ∧(aF cm xs).f ρ,λ_ _ h ⟨a,xs,b,c,d⟩=>⟨a,xs,b,(sl _ _ _).mono _ _ h c,(aF _ _).mono _ _ h d⟩⟩
def p6 (rs:List sq)(u:Value):du:=⟨λρ=>u.oneCell'=true∧∃xs:List ca,xs.map lL=rs∧(sl cT u xs).f ρ∧(aF bx xs).f ρ,λ_ _ h ⟨a,xs,b,c,d⟩=>⟨a,xs,b,(sl _ _ _).mono _ _ h c,(aF _ _).mono _ _ h d⟩⟩
def fW {α:Type}(R:Rp α)(xs:List α)(u:Value):du:=⟨λρ=>u.oneCell'=true∧(sl R u xs).f ρ,λ_ _ h ⟨a,b⟩=>⟨a,(sl _ _ _).mono _ _ h b⟩⟩
def fT {α:Type}(R:Rp α)(xs:List (List α))(u:Value):du:=⟨λρ=>u.oneCell'=true∧(o3 R u xs).f ρ,λ_ _ h ⟨a,b⟩=>⟨a,(o3 _ _ _).mono _ _ h b⟩⟩
section
variable {n:Nat}{F:Fr}{c:Ctx}{H R:List ak}{T:Act→World→Prop}
theorem St.bX {P:Program}(k:Nat)(u v:Value)[hd:lW (cU u v) H](hk:look F k=some u)(h:St n ((k,v)::F) (Mm c H) T):St n F (Mm c H) T:=by
 intro a w b hw;obtain⟨ρ,hm⟩:=hw.out
 have e:u=v:=dB.1 (hm.dM _ hd.mem)
 subst e;refine h a w ⟨b.size,b.defers,λt x hx=> ?_⟩ hw
 simp only[look]at hx
 cases d:Nat.beq t k with
 |true=>
  rw[mr d]
  simp only[d,cond_true,Option.some.injEq]at hx
  subst hx;exact b.slot _ _ hk
 |false=>simp only[d,cond_false]at hx;exact b.slot _ _ hx
theorem St.uD {ι:Sort _}(d:du)[hd:lW d H](p:ι→Prop)(L:ι→List du)(h:∀ρ,d.f ρ→∃x,p x∧∀e∈L x,e.f ρ)(k:∀x,p x→St n F (Mm c ((L x).map aB++H)) T):St n F (Mm c H) T:=by
 intro a w b hw;obtain⟨ρ,hm⟩:=hw.out;obtain⟨x,hp,hx⟩:=h ρ (dB.1 (hm.dM _ hd.mem));exact k x hp a w b (Mm.mk (hm.Ab (L x) hx))
theorem St.db (s:ig)(u:Value)[hd:lW (J.db s u) H](k:∀x:fa,u=aU x∧df x=s∧kL.wf x→St n F (Mm c (aB (ep x)::H)) T):St n F (Mm c H) T:=
 St.uD (J.db s u) _ (λx=>[ep x]) (λρ ⟨x,a,b,c,d⟩=>⟨x,⟨a,b,c⟩,λe he=>by rw[bO.1 he];exact d⟩) k
theorem St.isTerm (t:jI)(u:Value)[hd:lW (J.isTerm t u) H](k:∀x:di,u=cN x∧dH x=t∧dI.wf x→St n F (Mm c (aB (cm x)::H)) T):St n F (Mm c H) T:=
 St.uD (J.isTerm t u) _ (λx=>[cm x]) (λρ ⟨x,a,b,c,d⟩=>⟨x,⟨a,b,c⟩,λe he=>by rw[bO.1 he];exact d⟩) k
theorem St.bL (g:e8)(u:Value)[hd:lW (J.bL g u) H](k:∀x:dD,u=bA x∧ay x=g→St n F (Mm c (aB (aG x)::H)) T):St n F (Mm c H) T:=
 St.uD (J.bL g u) _ (λx=>[aG x]) (λρ ⟨x,a,b,c⟩=>⟨x,⟨a,b⟩,λe he=>by rw[bO.1 he];exact c⟩) k
theorem St.fC (r:sq)(u:Value)[hd:lW (J.fC r u) H](k:∀x:ca,u=rm x∧lL x=r∧cT.wf x→St n F (Mm c (aB (bx x)::H)) T):St n F (Mm c H) T:=
 St.uD (J.fC r u) _ (λx=>[bx x]) (λρ ⟨x,a,b,c,d⟩=>⟨x,⟨a,b,c⟩,λe he=>by rw[bO.1 he];exact d⟩) k
theorem St.wS (g:fj)(u:Value)[hd:lW (J.wS g u) H](k:∀x:gQ,u=fG x∧cE x=g→St n F (Mm c (aB (er x)::H)) T):St n F (Mm c H) T:=
 St.uD (J.wS g u) _ (λx=>[er x]) (λρ ⟨x,a,b,c⟩=>⟨x,⟨a,b⟩,λe he=>by rw[bO.1 he];exact c⟩) k
theorem St.mB (ts:List jI)(u:Value)[hd:lW (J.mB ts u) H](k:∀xs:List di,u.oneCell'=true∧xs.map dH=ts→St n F (Mm c (aB (sl dI u xs)::aB (aF cm xs)::H)) T):St n F (Mm c H) T:=
 St.uD (J.mB ts u) _ (λxs=>[sl dI u xs,aF cm xs]) (λρ ⟨a,xs,b,c,d⟩=>⟨xs,⟨a,b⟩,λe he=>by
  simp only[List.mem_cons,List.not_mem_nil,or_false]at he
  rcases he with rfl|rfl
  ·exact c
  ·exact d⟩) k
theorem St.p6 (ts:List sq)(u:Value)[hd:lW (J.p6 ts u) H](k:∀xs:List ca,u.oneCell'=true∧xs.map lL=ts→St n F (Mm c (aB (sl cT u xs)::aB (aF bx xs)::H)) T):St n F (Mm c H) T:=
 St.uD (J.p6 ts u) _ (λxs=>[sl cT u xs,aF bx xs]) (λρ ⟨a,xs,b,c,d⟩=>⟨xs,⟨a,b⟩,λe he=>by
  simp only[List.mem_cons,List.not_mem_nil,or_false]at he
  rcases he with rfl|rfl
  ·exact c
  ·exact d⟩) k
theorem St.fW {α:Type}(Rr:Rp α)(xs:List α)(u:Value)[hd:lW (J.fW Rr xs u) H](k:u.oneCell'=true→St n F (Mm c (aB (sl Rr u xs)::H)) T):St n F (Mm c H) T:=
 St.uD (ι:=Unit) (J.fW Rr xs u) (λ_=>u.oneCell'=true) (λ_=>[sl Rr u xs]) (λρ ⟨a,b⟩=>⟨(),a,λe he=>by rw[bO.1 he];exact b⟩) λ_=>k
theorem St.fT {α:Type}(Rr:Rp α)(xs:List (List α))(u:Value)[hd:lW (J.fT Rr xs u) H](k:u.oneCell'=true→St n F (Mm c (aB (o3 Rr u xs)::H)) T):St n F (Mm c H) T:=
 St.uD (ι:=Unit) (J.fT Rr xs u) (λ_=>u.oneCell'=true) (λ_=>[o3 Rr u xs]) (λρ ⟨a,b⟩=>⟨(),a,λe he=>by rw[bO.1 he];exact b⟩) λ_=>k
theorem St.u7 (b:ax)(u:Value)(hu:u.oneCell'=true)(l:List fa)[h1:lW (sl kL u l) H][a:lW (aF ep l) H](k:St n F (Mm c (aB (ep (.mk b ⟨u,hu⟩ l))::H)) T):St n F (Mm c H) T:=
 St.eZ (ep (.mk b ⟨u,hu⟩ l)) [sl kL u l,aF ep l] (λρ h=> .mk (h _ (aQ ..)) (h _ (cO _ (aQ ..)))) k
theorem St.DH (kd:Int)(nm:ax)(i:Int)(s:fa)(u:Value)(hu:u.oneCell'=true)(l:List di)[a:lW (ep s) H][h1:lW (sl dI u l) H][b:lW (aF cm l) H](k:St n F (Mm c (aB (cm (.mk kd nm i s ⟨u,hu⟩ l))::H)) T):St n F (Mm c H) T:=
 St.eZ (cm (.mk kd nm i s ⟨u,hu⟩ l)) [ep s,sl dI u l,aF cm l] (λρ h=> .mk (h (ep s) (by simp)) (h (sl dI u l) (by simp)) (h (aF cm l) (by simp))) k
theorem St.VG (x:fa){s:ig}(u:Value)(hu:u=aU x)(a:df x=s)(hw:kL.wf x)[hd:lW (ep x) H](k:St n F (Mm c (aB (J.db s u)::H)) T):St n F (Mm c H) T:=
 St.eZ (J.db s u) [ep x] (λρ h=>⟨x,hu,a,hw,h _ (aQ ..)⟩) k
theorem St.toTerm (x:di){s:jI}(u:Value)(hu:u=cN x)(a:dH x=s)(hw:dI.wf x)[hd:lW (cm x) H](k:St n F (Mm c (aB (J.isTerm s u)::H)) T):St n F (Mm c H) T:=
 St.eZ (J.isTerm s u) [cm x] (λρ h=>⟨x,hu,a,hw,h _ (aQ ..)⟩) k
theorem St.Tk (x:dD){g:e8}(u:Value)(hu:u=bA x)(a:ay x=g)[hd:lW (aG x) H](k:St n F (Mm c (aB (J.bL g u)::H)) T):St n F (Mm c H) T:=
 St.eZ (J.bL g u) [aG x] (λρ h=>⟨x,hu,a,h _ (aQ ..)⟩) k
theorem St.Xy {α:Type}{Rr:Rp α}{xs:List α}(u:Value)(hu:u.oneCell'=true)[hd:lW (sl Rr u xs) H](k:St n F (Mm c (aB (J.fW Rr xs u)::H)) T):St n F (Mm c H) T:=
 St.eZ (J.fW Rr xs u) [sl Rr u xs] (λρ h=>⟨hu,h _ (aQ ..)⟩) k
theorem St.am3 {α:Type}{Rr:Rp α}{xs:List (List α)}(u:Value)(hu:u.oneCell'=true)[hd:lW (o3 Rr u xs) H](k:St n F (Mm c (aB (J.fT Rr xs u)::H)) T):St n F (Mm c H) T:=
 St.eZ (J.fT Rr xs u) [o3 Rr u xs] (λρ h=>⟨hu,h _ (aQ ..)⟩) k
end
abbrev bR:aV:=⟨.slice none 0 0,rfl⟩
end Go.J
namespace Go.J
open Go Go.ChangeShapes Go.WideShapes Go.ChangeAt Go.RowKit Go.Deep Go.Proofs.YtblifkgpebebmaaGreatDoor
section
variable {H:Type}{enc:TypeId×Value→H}{P:Program}{W:World}{α:Type}
abbrev Tr (enc:TypeId×Value→H)(P:Program)(W:World)(n:Nat)(t:TypeId)(cs:List Value)(y:DataW H×List MemPlace):Prop:=DataW.trod enc P W 0 (λ_=>true) true n t cs=some y
theorem IV {t:TypeId}{a:Array Field}{ps:List (DataW H)}(ht:P.underlying t=some (.struct a))(h:na ((DataW.agg ps).weights P t)=true):na (DataW.weightsEach P (a.toList.map (·.type)) ps)=true:=by
 simpa only[DataW.weights,ht]using h
theorem gn {t:TypeId}{a:Array Field}{n:Nat}{cs:List Value}{y:DataW H×List MemPlace}(ht:P.underlying t=some (.struct a))(h:Tr enc P W n t cs y)(hw:na (y.1.weights P t)=true):
 ∃m,n=m+1∧∀(i:Nat) (f:Field),a[i]?=some f→∃z,Tr enc P W m f.type ((cs.drop f.offset).take (P.cellsOf f.type)) z∧na (z.1.weights P f.type)=true:=by
 obtain⟨xs,m,e,hy,_,l,g⟩:=DataW.trod_struct ht h;subst hy;refine⟨m,e,λi f b=> ?_⟩
 have h1:=g i f b
 have k:i<a.size:=(wG.1 b).1
 have c:xs[i]?=some (xs[i]'(by omega)):=bU (by omega)
 refine⟨xs[i]'(by omega),h1.trans c,?_⟩;refine uW (IV ht hw) (j:=i) (t:=f.type) (d:=(xs[i]'(by omega)).1) ?_ ?_
 ·rw[bP,QS,b];rfl
 ·rw[bP,c];rfl
theorem cY {a:Array Field}{m:Nat}{cs:List Value}(hp:∀(i:Nat) (f:Field),a[i]?=some f→∃z,Tr enc P W m f.type ((cs.drop f.offset).take (P.cellsOf f.type)) z∧na (z.1.weights P f.type)=true)
 (i:Nat) {f:Field} {t:TypeId} {o k:Nat} (b:a[i]?=some f) (ht:f.type=t) (c:f.offset=o) (hk:P.cellsOf t=k):∃z,Tr enc P W m t ((cs.drop o).take k) z∧na (z.1.weights P t)=true:=by
 subst ht c hk;exact hp i f b
theorem La (R:Rp α){t e:TypeId}{G:List Value}{d:DataW H}{p:List MemPlace}{fuel:Nat}(ht:P.underlying t=some (.slice e))(M:P.cellsOf e=R.size)
 (N:∀(n:Nat),n<fuel→∀(cs:List Value) (y:DataW H×List MemPlace),cs.length=R.size→Tr enc P W n e cs y→na (y.1.weights P e)=true→∃x:α,cs=R.cells x∧R.wf x)
 (I:na (d.weights P t)=true) (O:Tr enc P W fuel t G (d,p)):∃(v:Value) (xs:List α),G=[v]∧v.oneCell'=true∧(sl R v xs).f (J.all W)∧((d= .nil∧xs=[])∨∃es sp,d= .slice es sp∧es.length=xs.length):=by
 rcases DataW.trod_slice ht O with⟨r,l⟩|⟨a,len,cap,elems,rest,n,hn,r,l,_,Q,hm,hlen,he,_,_⟩
 ·exact⟨.slice none 0 0,[],r,rfl,sX _ _,.inl ⟨by simpa using (Prod.mk.inj l).1,rfl⟩⟩
 ·refine⟨.slice (some a) len cap,?_⟩
  rw[r]
  suffices s:∃xs:List α,(sl R (.slice (some a) len cap) xs).f (J.all W)∧((d= .nil∧xs=[])∨∃es sp,d= .slice es sp∧es.length=xs.length) by
   obtain⟨xs,h1,m⟩:=s;exact⟨xs,rfl,rfl,h1,m⟩
  rcases Nat.eq_zero_or_pos len with hz|acD
  ·refine⟨[],⟨_,cap,by rw[hz];rfl,aP _,hm,(λx hx=>by cases hx),.inl rfl⟩,.inr ⟨_,_,(Prod.mk.inj l).1,by rw[aO,hlen,hz];rfl⟩⟩
  have each:∀i,i<len→∃x:α,R.wf x∧∀k u,k<R.size→(R.cells x)[k]?=some u→W.cell? ((a.add (i*R.size)).add k)=some u:=λi w=>by
   have c:=he i w
   rw[bU (show i<elems.length by omega)]at c;obtain⟨cs,h1,m⟩:=pQ.1 c;rw[M]at h1;obtain⟨_,z,S⟩:=World.cells?_some h1;obtain⟨x,rfl,hw⟩:=N n (by omega) cs _ z m (C8 ht (by rw[(Prod.mk.inj l).1]at I;exact I) (.inl (eP (gy (show i<elems.length by omega)))));exact⟨x,hw,λk u hk hu=>by rw[S k hk,hu]⟩
  obtain⟨x0,HM⟩:=each 0 (by omega)
  haveI:Inhabited α:=⟨x0⟩
  obtain⟨X,A⟩:=choose_lt (α:=α) each
  have B:((List.range len).map X).length=len:=by simp
  obtain⟨b,off,spot⟩:=a
  have g:∃u,(R.cells (X 0))[0]?=some u:=by
   have:=R.len (X 0)
   have:=R.pos
   exact⟨_,bU (by omega)⟩
  obtain⟨T,g⟩:=g
  have K:=(A 0 (by omega)).2 0 T R.pos g
  rw[Nat.zero_mul,Deep.add_add]at K;obtain⟨s,C,L,fr,o,_⟩:=jd K
  have U:spot=none:=by simpa[Addr.add]using s
  subst U
  have o:W.heap[b]?=some (.cells C L fr):=by simpa[Addr.add]using o
  refine⟨(List.range len).map X,⟨some ⟨b,off,none⟩,cap,by rw[B],by rw[B];exact Q,hm,?_,.inr ⟨b,off,C,L,fr,rfl,o,?_⟩⟩,.inr ⟨_,_,(Prod.mk.inj l).1,by simp[hlen]⟩⟩
  ·intro x V
   obtain⟨i,w,rfl⟩:=cz.1 V;exact(A i (dt.1 w)).1
  ·intro j u Y
   obtain⟨i,k,x,h1,m,Z,z⟩:=DU _ _ _ Y
   have D:i<((List.range len).map X).length:=(fA.1 h1).1
   rw[B]at D
   have Sb:x=X i:=by simpa[D]using h1.symm
   subst Sb
   have:=(A i D).2 k u m z
   rw[Deep.add_add,←Z]at this;obtain⟨_,C',E,F,h,q⟩:=jd this
   have h:W.heap[b]?=some (.cells C' E F):=by
    by_cases c:j=0
    ·subst c;simpa[Addr.add]using h
    ·simpa[Addr.add,c]using h
   have q:C'[off+j]?=some u:=by
    by_cases c:j=0
    ·subst c;simpa[Addr.add]using q
    ·simpa[Addr.add,c]using q
   rw[o]at h
   simp only[Option.some.injEq,Obj.cells.injEq]at h
   rw[h.1];exact q
def Rp.with {α:Type}(R:Rp α)(p:α→Prop):Rp α:=⟨R.size,R.pos,R.cells,λx=>R.wf x∧p x,R.len,R.one⟩
theorem TX {R:Rp α}{p:α→Prop}{v:Value}{xs:List α}{ρ:Ro}(h:(sl (R.with p) v xs).f ρ):(sl R v xs).f ρ∧∀x∈xs,p x:=by
 obtain⟨a,cap,h1,c,d,b,e⟩:=h;exact⟨⟨a,cap,h1,c,d,λx hx=>(b x hx).1,e⟩,λx hx=>(b x hx).2⟩
theorem Lu {t e:TypeId}{es sp:List (DataW H)}(ht:P.underlying t=some (.slice e))(h:na ((DataW.slice es sp).weights P t)=true):es.length*P.bytesOf e≤140737488351232:=by
 simp only[na,DataW.weights,ht,List.all_cons,Bool.and_eq_true,decide_eq_true_eq]at h
 have h1:=h.1
 have a:es.length*P.bytesOf e≤(es.length+sp.length)*P.bytesOf e:=iU _ (by omega)
 unfold reachBytes at h1;omega
theorem k9 (R:Rp α)(p:α→Prop){t e:TypeId}{h:List Value}{y:DataW H×List MemPlace}{fuel:Nat}(ht:P.underlying t=some (.slice e))(i:P.cellsOf e=R.size)
 (j:∀(n:Nat),n<fuel→∀(cs:List Value) (y:DataW H×List MemPlace),cs.length=R.size→Tr enc P W n e cs y→na (y.1.weights P e)=true→∃x:α,cs=R.cells x∧R.wf x∧p x)
 (k:Tr enc P W fuel t h y) (c:na (y.1.weights P t)=true):∃(v:aV) (xs:List α),h=[v.1]∧(sl R v.1 xs).f (J.all W)∧(∀x∈xs,p x)∧xs.length*P.bytesOf e≤140737488351232:=by
 obtain⟨v,xs,h1,l,m,o⟩:=La (R.with p) (d:=y.1) (p:=y.2) ht i (λn q cs y g hy hw=>by
  obtain⟨x,a,b⟩:=j n q cs y g hy hw
  exact⟨x,a,b⟩) c k
 obtain⟨r,s⟩:=TX m;refine⟨⟨v,l⟩,xs,h1,r,s,?_⟩
 rcases o with⟨_,rfl⟩|⟨es,sp,he,g⟩
 ·simp
 ·rw[he]at c
  rw[←g];exact Lu ht c
theorem mn {e:TypeId}(he:P.underlying e=some (.int .i64)){n:Nat}{cs:List Value}{y:DataW H×List MemPlace}(h:Tr enc P W n e cs y):∃x:Int,cs=[iv x]∧aZ x:=by
 obtain⟨z,rfl,_,hw⟩:=DataW.trod_int he h;exact⟨z,rfl,wf_i64 hw⟩
theorem vw {e:TypeId}(he:P.underlying e=some .string){n:Nat}{cs:List Value}{y:DataW H×List MemPlace}(h:Tr enc P W n e cs y)(a:na (y.1.weights P e)=true):∃x:ax,cs=[sv x]∧nD x:=by
 obtain⟨s,rfl,hy,hw⟩:=DataW.trod_string he h;refine⟨s.data.toList,by rw[VD],?_⟩;subst hy
 simp only[na,DataW.weights,reachBytes,List.all_cons,List.all_nil,Bool.and_true]at a
 exact fM a
end
end Go.J
namespace Go.J
open Go Go.ChangeShapes Go.WideShapes Go.ChangeAt Go.RowKit Go.Deep
section
variable {H:Type}{enc:TypeId×Value→H}{P:Program}{W:World}{α:Type}
end
end Go.J
namespace Go.Proofs.YtblifkgpebebmaaGreatDoor
open Go Go.J Go.ChangeShapes Go.WideShapes Go.ChangeAt Go.RowKit Go.Deep
theorem ad8 {α:Type}{l:List α}(h:l.length=1):∃a0,l=[a0]:=match l,h with
 | [a0],_=>⟨a0,rfl⟩
theorem En {α:Type}{l:List α}(h:l.length=2):∃a0 a,l=[a0,a]:=match l,h with
 | [a0,a],_=>⟨a0,a,rfl⟩
theorem ad9 {α:Type}{l:List α}(h:l.length=3):∃a0 a a2,l=[a0,a,a2]:=match l,h with
 | [a0,a,a2],_=>⟨a0,a,a2,rfl⟩
theorem aeA {α:Type}{l:List α}(h:l.length=5):∃a0 a a2 a3 a4,l=[a0,a,a2,a3,a4]:=match l,h with
 | [a0,a,a2,a3,a4],_=>⟨a0,a,a2,a3,a4,rfl⟩
theorem aeB {α:Type}{l:List α}(h:l.length=6):∃a0 a a2 a3 a4 a5,l=[a0,a,a2,a3,a4,a5]:=match l,h with
 | [a0,a,a2,a3,a4,a5],_=>⟨a0,a,a2,a3,a4,a5,rfl⟩
theorem aeC {α:Type}{l:List α}(h:l.length=9):∃a0 a a2 a3 a4 a5 b c d,l=[a0,a,a2,a3,a4,a5,b,c,d]:=match l,h with
 | [a0,a,a2,a3,a4,a5,b,c,d],_=>⟨a0,a,a2,a3,a4,a5,b,c,d,rfl⟩
theorem XF {α:Type}{l:List α}(h:l.length=10):∃a0 a a2 a3 a4 a5 b c d a9,l=[a0,a,a2,a3,a4,a5,b,c,d,a9]:=match l,h with
 | [a0,a,a2,a3,a4,a5,b,c,d,a9],_=>⟨a0,a,a2,a3,a4,a5,b,c,d,a9,rfl⟩
theorem mT:Tryz.prog.cellsOf 3=1:=by kernel_rfl
theorem qH:Tryz.prog.cellsOf 9=1:=by kernel_rfl
theorem RL:Tryz.prog.cellsOf 22=1:=by kernel_rfl
theorem RM:Tryz.prog.cellsOf 23=1:=by kernel_rfl
theorem RN:Tryz.prog.cellsOf 25=2:=by kernel_rfl
theorem RO:Tryz.prog.cellsOf 26=1:=by kernel_rfl
theorem RP:Tryz.prog.cellsOf 27=1:=by kernel_rfl
theorem RQ:Tryz.prog.cellsOf 28=1:=by kernel_rfl
theorem Cp:Tryz.prog.cellsOf 30=1:=by kernel_rfl
theorem RR:Tryz.prog.cellsOf 32=5:=by kernel_rfl
theorem RT:Tryz.prog.cellsOf 58=1:=by kernel_rfl
theorem Mr:Tryz.prog.cellsOf 103=1:=by kernel_rfl
theorem EJ:Tryz.prog.cellsOf 105=2:=by kernel_rfl
theorem Ms:Tryz.prog.cellsOf 106=1:=by kernel_rfl
theorem yd:Tryz.prog.cellsOf 108=6:=by kernel_rfl
theorem Mt:Tryz.prog.cellsOf 110=10:=by kernel_rfl
theorem Mu:Tryz.prog.cellsOf 115=9:=by kernel_rfl
theorem Mv:Tryz.prog.cellsOf 135=3:=by kernel_rfl
theorem Mw:Tryz.prog.cellsOf 156=2:=by kernel_rfl
theorem Mx:Tryz.prog.cellsOf 161=1:=by kernel_rfl
theorem My:Tryz.prog.cellsOf 163=2:=by kernel_rfl
theorem Mz:Tryz.prog.cellsOf 165=2:=by kernel_rfl
section
variable {H:Type}{enc:TypeId×Value→H}{W:World}
theorem Rk:∀(n:Nat) (cs:List Value) (y:DataW H×List MemPlace),cs.length=2→Tr enc Tryz.prog W n 165 cs y→na (y.1.weights Tryz.prog 165)=true→∃x:dx,cs=aw.cells x∧aw.wf x∧True:=by
 intro n;intro cs y b h hw;obtain⟨c0,c1,rfl⟩:=En b;obtain⟨m,rfl,hp⟩:=gn Tryz.underlying165 h hw;obtain⟨z0,t0,g⟩:=cY hp 0 rfl rfl rfl mT
 have t0:Tr enc Tryz.prog W m 3 [c0] z0:=t0
 obtain⟨x0,e0,c⟩:=mn Tryz.underlying3 t0;obtain⟨d,t1,i⟩:=cY hp 1 rfl rfl rfl mT
 have t1:Tr enc Tryz.prog W m 3 [c1] d:=t1
 obtain⟨e,a,f⟩:=mn Tryz.underlying3 t1
 simp only[List.cons.injEq,and_true]at e0
 subst e0
 simp only[List.cons.injEq,and_true]at a
 subst a;exact⟨⟨x0,e⟩,rfl,⟨c,f⟩,trivial⟩
theorem Rl:∀(n:Nat) (cs:List Value) (y:DataW H×List MemPlace),cs.length=2→Tr enc Tryz.prog W n 163 cs y→na (y.1.weights Tryz.prog 163)=true→∃x:dh,cs=bh.cells x∧bh.wf x∧(cA x).f (J.all W):=by
 intro n;intro cs y b h hw;obtain⟨c0,c1,rfl⟩:=En b;obtain⟨m,rfl,hp⟩:=gn Tryz.underlying163 h hw;obtain⟨z0,t0,j⟩:=cY hp 0 rfl rfl rfl mT
 have t0:Tr enc Tryz.prog W m 3 [c0] z0:=t0
 obtain⟨x0,e0,c⟩:=mn Tryz.underlying3 t0;obtain⟨d,t1,e⟩:=cY hp 1 rfl rfl rfl Mx
 have t1:Tr enc Tryz.prog W m 161 [c1] d:=t1
 obtain⟨g,i,a,f1,k,s1⟩:=k9 aw (λ_=>True) Tryz.underlying161 Mz (λn _=>Rk n) t1 e
 simp only[List.cons.injEq,and_true]at e0
 subst e0
 simp only[List.cons.injEq,and_true]at a
 subst a;exact⟨⟨x0,g,i⟩,rfl,c,f1⟩
theorem yp:∀(n:Nat) (cs:List Value) (y:DataW H×List MemPlace),cs.length=1→Tr enc Tryz.prog W n 30 cs y→na (y.1.weights Tryz.prog 30)=true→∃x:dD,cs=[x.nv.1]∧(aG x).f (J.all W):=by
 intro n;intro cs y a h hw;obtain⟨c0,rfl⟩:=ad8 a;obtain⟨m,rfl,hp⟩:=gn Tryz.underlying30 h hw;obtain⟨z0,t0,b⟩:=cY hp 0 rfl rfl rfl RQ
 have t0:Tr enc Tryz.prog W m 28 [c0] z0:=t0
 obtain⟨x0,l0,e0,f0,c,s0⟩:=k9 bh (λx=>(cA x).f (J.all W)) Tryz.underlying28 My (λn _=>Rl n) t0 b
 simp only[List.cons.injEq,and_true]at e0
 subst e0
 exact⟨⟨x0,l0⟩,rfl,λd hd=>by
  simp only[kb,List.mem_cons,List.not_mem_nil,or_false]at hd
  rcases hd with rfl|rfl
  ·exact f0
  ·exact c⟩
theorem aaD:∀(n:Nat) (cs:List Value) (y:DataW H×List MemPlace),cs.length=2→Tr enc Tryz.prog W n 156 cs y→na (y.1.weights Tryz.prog 156)=true→∃x:re,cs=n5.cells x∧n5.wf x∧(ry x).f (J.all W):=by
 intro n;intro cs y a h hw;obtain⟨c0,c1,rfl⟩:=En a;obtain⟨m,rfl,hp⟩:=gn Tryz.underlying156 h hw;obtain⟨z0,t0,c⟩:=cY hp 0 rfl rfl rfl qH
 have t0:Tr enc Tryz.prog W m 9 [c0] z0:=t0
 obtain⟨x0,e0,d⟩:=vw Tryz.underlying9 t0 c;obtain⟨g,t1,i⟩:=cY hp 1 rfl rfl rfl RT
 have t1:Tr enc Tryz.prog W m 58 [c1] g:=t1
 obtain⟨j,k,b,f1,l,s1⟩:=k9 aJ (λ_=>True) Tryz.underlying58 mT (λn _ cs y a h _=>by obtain⟨x,e,w⟩:=mn Tryz.underlying3 h;exact⟨x,e,w,trivial⟩) t1 i
 simp only[List.cons.injEq,and_true]at e0
 subst e0
 simp only[List.cons.injEq,and_true]at b
 subst b;exact⟨⟨x0,j,k⟩,rfl,d,f1⟩
theorem Ri:∀(n:Nat) (cs:List Value) (y:DataW H×List MemPlace),cs.length=3→Tr enc Tryz.prog W n 135 cs y→na (y.1.weights Tryz.prog 135)=true→∃x:jG,cs=gY.cells x∧gY.wf x∧True:=by
 intro n;intro cs y b h hw;obtain⟨c0,c1,c2,rfl⟩:=ad9 b;obtain⟨m,rfl,hp⟩:=gn Tryz.underlying135 h hw;obtain⟨z0,t0,c⟩:=cY hp 0 rfl rfl rfl qH
 have t0:Tr enc Tryz.prog W m 9 [c0] z0:=t0
 obtain⟨x0,e0,d⟩:=vw Tryz.underlying9 t0 c;obtain⟨e,t1,k⟩:=cY hp 1 rfl rfl rfl mT
 have t1:Tr enc Tryz.prog W m 3 [c1] e:=t1
 obtain⟨f,a,g⟩:=mn Tryz.underlying3 t1;obtain⟨z2,t2,l⟩:=cY hp 2 rfl rfl rfl mT
 have t2:Tr enc Tryz.prog W m 3 [c2] z2:=t2
 obtain⟨i,e2,j⟩:=mn Tryz.underlying3 t2
 simp only[List.cons.injEq,and_true]at e0
 subst e0
 simp only[List.cons.injEq,and_true]at a
 subst a
 simp only[List.cons.injEq,and_true]at e2
 subst e2;exact⟨⟨x0,f,i⟩,rfl,⟨d,g,j⟩,trivial⟩
theorem WE:∀(n:Nat) (cs:List Value) (y:DataW H×List MemPlace),cs.length=2→Tr enc Tryz.prog W n 105 cs y→na (y.1.weights Tryz.prog 105)=true→∃x:fa,cs=kL.cells x∧kL.wf x∧rZ (J.all W) x:=by
 intro n
 induction n using Nat.strongRecOn with
 |_ n b=>
 intro cs y c h hw;obtain⟨c0,c1,rfl⟩:=En c;obtain⟨m,rfl,hp⟩:=gn Tryz.underlying105 h hw;obtain⟨z0,t0,d⟩:=cY hp 0 rfl rfl rfl qH
 have t0:Tr enc Tryz.prog W m 9 [c0] z0:=t0
 obtain⟨x0,e0,e⟩:=vw Tryz.underlying9 t0 d;obtain⟨f,t1,g⟩:=cY hp 1 rfl rfl rfl Mr
 have t1:Tr enc Tryz.prog W m 103 [c1] f:=t1
 obtain⟨i,j,a,f1,l,s1⟩:=k9 kL (rZ (J.all W)) Tryz.underlying103 EJ (λk hk=>b k (by omega)) t1 g
 simp only[List.cons.injEq,and_true]at e0
 subst e0
 simp only[List.cons.injEq,and_true]at a
 subst a;exact⟨.mk x0 i j,rfl,e,.mk f1 l⟩
theorem Iy:∀(n:Nat) (cs:List Value) (y:DataW H×List MemPlace),cs.length=6→Tr enc Tryz.prog W n 108 cs y→na (y.1.weights Tryz.prog 108)=true→∃x:di,cs=dI.cells x∧dI.wf x∧ot (J.all W) x:=by
 intro n
 induction n using Nat.strongRecOn with
 |_ n c=>
 intro cs y d h hw;obtain⟨c0,c1,c2,c3,e,c5,rfl⟩:=aeB d;obtain⟨m,rfl,hp⟩:=gn Tryz.underlying108 h hw;obtain⟨z0,t0,z⟩:=cY hp 0 rfl rfl rfl mT
 have t0:Tr enc Tryz.prog W m 3 [c0] z0:=t0
 obtain⟨x0,e0,f⟩:=mn Tryz.underlying3 t0;obtain⟨g,t1,i⟩:=cY hp 1 rfl rfl rfl qH
 have t1:Tr enc Tryz.prog W m 9 [c1] g:=t1
 obtain⟨j,a,l⟩:=vw Tryz.underlying9 t1 i;obtain⟨z2,t2,A⟩:=cY hp 2 rfl rfl rfl mT
 have t2:Tr enc Tryz.prog W m 3 [c2] z2:=t2
 obtain⟨o,e2,p⟩:=mn Tryz.underlying3 t2;obtain⟨z3,t3,q⟩:=cY hp 3 rfl rfl rfl EJ
 have t3:Tr enc Tryz.prog W m 105 [c3,e] z3:=t3
 obtain⟨x3,r,k3,s⟩:=WE _ _ _ rfl t3 q;obtain⟨z4,t4,t⟩:=cY hp 4 rfl rfl rfl Ms
 have t4:Tr enc Tryz.prog W m 106 [c5] z4:=t4
 obtain⟨u,v,b,f4,w,B⟩:=k9 dI (ot (J.all W)) Tryz.underlying106 yd (λk hk=>c k (by omega)) t4 t
 simp only[List.cons.injEq,and_true]at e0
 subst e0
 simp only[List.cons.injEq,and_true]at a
 subst a
 simp only[List.cons.injEq,and_true]at e2
 subst e2
 cases r
 simp only[List.cons.injEq,and_true]at b
 subst b;exact⟨.mk x0 j o x3 u v,rfl,⟨f,l,p,k3⟩,.mk s f4 w⟩
theorem Rm:∀(n:Nat) (cs:List Value) (y:DataW H×List MemPlace),cs.length=10→Tr enc Tryz.prog W n 110 cs y→na (y.1.weights Tryz.prog 110)=true→∃x:ca,cs=cT.cells x∧cT.wf x∧(bx x).f (J.all W):=by
 intro n;intro cs y b h hw;obtain⟨c0,c1,c2,c3,c,c5,e,g,i,j,rfl⟩:=XF b;obtain⟨m,rfl,hp⟩:=gn Tryz.underlying110 h hw;obtain⟨z0,t0,k⟩:=cY hp 0 rfl rfl rfl qH
 have t0:Tr enc Tryz.prog W m 9 [c0] z0:=t0
 obtain⟨x0,e0,l⟩:=vw Tryz.underlying9 t0 k;obtain⟨o,t1,p⟩:=cY hp 1 rfl rfl rfl Cp
 have t1:Tr enc Tryz.prog W m 30 [c1] o:=t1
 obtain⟨q,r,s⟩:=yp _ _ _ rfl t1 p;obtain⟨z2,t2,C⟩:=cY hp 2 rfl rfl rfl mT
 have t2:Tr enc Tryz.prog W m 3 [c2] z2:=t2
 obtain⟨t,e2,u⟩:=mn Tryz.underlying3 t2;obtain⟨z3,t3,D⟩:=cY hp 3 rfl rfl rfl mT
 have t3:Tr enc Tryz.prog W m 3 [c3] z3:=t3
 obtain⟨x3,a,k3⟩:=mn Tryz.underlying3 t3;obtain⟨z4,t4,v⟩:=cY hp 4 rfl rfl rfl yd
 have t4:Tr enc Tryz.prog W m 108 [c,c5,e,g,i,j] z4:=t4
 obtain⟨w,z,A,B⟩:=Iy _ _ _ rfl t4 v
 simp only[List.cons.injEq,and_true]at e0
 subst e0
 cases r
 simp only[List.cons.injEq,and_true]at e2
 subst e2
 simp only[List.cons.injEq,and_true]at a
 subst a
 cases z
 exact⟨⟨x0,q,t,x3,w⟩,rfl,⟨l,u,k3,A⟩,λd hd=>by
  simp only[PK,List.mem_cons,List.not_mem_nil,or_false]at hd
  rcases hd with rfl|rfl
  ·exact s
  ·exact B⟩
theorem WD:∀(n:Nat) (cs:List Value) (y:DataW H×List MemPlace),cs.length=9→Tr enc Tryz.prog W n 115 cs y→na (y.1.weights Tryz.prog 115)=true→∃x:eY,cs=e7.cells x∧e7.wf x∧(eQ x).f (J.all W):=by
 intro n;intro cs y a h hw;obtain⟨c0,c1,c2,c3,b,c5,c,e,g,rfl⟩:=aeC a;obtain⟨m,rfl,hp⟩:=gn Tryz.underlying115 h hw;obtain⟨z0,t0,i⟩:=cY hp 0 rfl rfl rfl qH
 have t0:Tr enc Tryz.prog W m 9 [c0] z0:=t0
 obtain⟨x0,e0,j⟩:=vw Tryz.underlying9 t0 i;obtain⟨k,t1,l⟩:=cY hp 1 rfl rfl rfl Cp
 have t1:Tr enc Tryz.prog W m 30 [c1] k:=t1
 obtain⟨o,p,q⟩:=yp _ _ _ rfl t1 l;obtain⟨z2,t2,w⟩:=cY hp 2 rfl rfl rfl mT
 have t2:Tr enc Tryz.prog W m 3 [c2] z2:=t2
 obtain⟨r,e2,s⟩:=mn Tryz.underlying3 t2;obtain⟨z3,t3,t⟩:=cY hp 3 rfl rfl rfl yd
 have t3:Tr enc Tryz.prog W m 108 [c3,b,c5,c,e,g] z3:=t3
 obtain⟨x3,u,k3,v⟩:=Iy _ _ _ rfl t3 t
 simp only[List.cons.injEq,and_true]at e0
 subst e0
 cases p
 simp only[List.cons.injEq,and_true]at e2
 subst e2
 cases u
 exact⟨⟨x0,o,r,x3⟩,rfl,⟨j,s,k3⟩,λd hd=>by
  simp only[XK,List.mem_cons,List.not_mem_nil,or_false]at hd
  rcases hd with rfl|rfl
  ·exact q
  ·exact v⟩
theorem Rj:∀(n:Nat) (cs:List Value) (y:DataW H×List MemPlace),cs.length=2→Tr enc Tryz.prog W n 25 cs y→na (y.1.weights Tryz.prog 25)=true→∃(tv:aV) (ts:List re) (fv:aV) (b:List jG),cs=[tv.1,fv.1]∧∀d∈Um tv fv ts b,d.f (J.all W):=by
 intro n;intro cs y c h hw;obtain⟨c0,c1,rfl⟩:=En c;obtain⟨m,rfl,hp⟩:=gn Tryz.underlying25 h hw;obtain⟨z0,t0,e⟩:=cY hp 0 rfl rfl rfl RL
 have t0:Tr enc Tryz.prog W m 22 [c0] z0:=t0
 obtain⟨x0,l0,e0,f0,g,s0⟩:=k9 n5 (λx=>(ry x).f (J.all W)) Tryz.underlying22 Mw (λn _=>aaD n) t0 e;obtain⟨i,t1,j⟩:=cY hp 1 rfl rfl rfl RM
 have t1:Tr enc Tryz.prog W m 23 [c1] i:=t1
 obtain⟨k,l,a,f1,o,s1⟩:=k9 gY (λ_=>True) Tryz.underlying23 Mv (λn _=>Ri n) t1 j
 simp only[List.cons.injEq,and_true]at e0
 subst e0
 simp only[List.cons.injEq,and_true]at a
 subst a
 exact⟨x0,l0,k,l,rfl,λd hd=>by
  simp only[Um,List.mem_cons,List.not_mem_nil,or_false]at hd
  rcases hd with rfl|rfl|rfl
  ·exact f0
  ·exact g
  ·exact f1⟩
theorem WC:∀(n:Nat) (cs:List Value) (y:DataW H×List MemPlace),cs.length=5→Tr enc Tryz.prog W n 32 cs y→na (y.1.weights Tryz.prog 32)=true→∃x:gQ,cs=jD x∧(er x).f (J.all W):=by
 intro n cs y e h hw;obtain⟨c0,c1,c2,c3,g,rfl⟩:=aeA e;obtain⟨m,rfl,hp⟩:=gn Tryz.underlying32 h hw;obtain⟨z0,t0,i⟩:=cY hp 0 rfl rfl rfl RN
 have t0:Tr enc Tryz.prog W m 25 [c0,c1] z0:=t0
 obtain⟨tv,ts,fv,j,e0,a⟩:=Rj _ _ _ rfl t0 i;obtain⟨k,t1,l⟩:=cY hp 1 rfl rfl rfl RO
 have t1:Tr enc Tryz.prog W m 26 [c2] k:=t1
 obtain⟨o,p,b,f1,q,_⟩:=k9 cT (λx=>(bx x).f (J.all W)) Tryz.underlying26 Mt (λn _=>Rm n) t1 l;obtain⟨z2,t2,r⟩:=cY hp 2 rfl rfl rfl RP
 have t2:Tr enc Tryz.prog W m 27 [c3] z2:=t2
 obtain⟨s,t,e2,f2,u,_⟩:=k9 e7 (λx=>(eQ x).f (J.all W)) Tryz.underlying27 Mu (λn _=>WD n) t2 r;obtain⟨z3,t3,v⟩:=cY hp 3 rfl rfl rfl Cp
 have t3:Tr enc Tryz.prog W m 30 [g] z3:=t3
 obtain⟨x3,c,w⟩:=yp _ _ _ rfl t3 v
 simp only[List.cons.injEq,and_true]at e0 b e2 c
 obtain⟨rfl,rfl⟩:=e0;subst b e2 c;refine⟨⟨tv,ts,fv,j,o,p,s,t,x3⟩,rfl,λd hd=> ?_⟩
 have z:=a _ (aQ ..)
 have h1:=a _ (cO _ (aQ ..))
 have A:=a _ (cO _ (cO _ (aQ ..)))
 simp only[H8,List.mem_cons,List.not_mem_nil,or_false]at hd
 rcases hd with rfl|rfl|rfl|rfl|rfl|rfl|rfl|rfl
 ·exact z
 ·exact h1
 ·exact A
 ·exact f1
 ·exact q
 ·exact f2
 ·exact u
 ·exact w
theorem Oa {v:Value}{d:DataW H}{p:List MemPlace}{a:Nat}(b:Value.okWide Tryz.prog W .any a 32 v)(hw:na (d.weights Tryz.prog 32)=true)(h:DataW.Trod enc Tryz.prog W 0 (λ_=>true) true 32 v d p):∃x:gQ,v=fG x∧(er x).f (J.all W):=by
 obtain⟨cs,rfl,c⟩:=okWide_struct Tryz.underlying32 b;obtain⟨fuel,g⟩:=h;obtain⟨x,e,q⟩:=WC fuel cs.toList (d,p) (by rw[Array.length_toList,c,RR]) g hw;exact⟨x,congrArg Value.agg (Array.toList_inj.1 e),q⟩
end
end Go.Proofs.YtblifkgpebebmaaGreatDoor
namespace Go.J
open Go
theorem Sq.slot {n:Nat}{F:Fr}{T:Act→Prop}{v:Value}(k:Nat)(v':Value)(hk:look F k=some v)(h:v=v')(d:Sq n ((k,v')::F) T):Sq n F T:=by
 subst h
 refine λa b=>d a ⟨b.size,b.defers,λt u hu=> ?_⟩
 simp only[look]at hu
 cases c:Nat.beq t k with
 |true=>
  have e:=mr c
  subst e
  simp only[c,cond_true,Option.some.injEq]at hu
  subst hu;exact b.slot _ _ hk
 |false=>
  simp only[c,cond_false]at hu
  exact b.slot _ _ hu
theorem Ev.alM {P:Program}{n:Nat}{F:Fr}{A:World→Prop}{ty:TypeId}{x:Operand}{a:Addr}(hx:ai F x (.pointer (some a))):Ev P n F A (.nilCheck x) ty (.pointer (some a)):= .of_run λac w b _=>by simp[execOp,hx.eval b]
def bE {α:Type}(f:α→List ak)(l:List α):List ak:=l.flatMap f
theorem iu {α:Type}(f:α→List ak)(a:α)(l:List α):bE f (a::l)=f a++bE f l:=rfl
theorem S4 {α:Type}(f:α→List ak)(l m:List α):bE f (l++m)=bE f l++bE f m:=CA
theorem nN {α:Type}(f:α→List ak):∀{l:List α} {i:Nat} {a:α},l[i]?=some a→(bE f l).Perm (f a++bE f (l.eraseIdx i))
 | [],_,_,h=>by cases h
 |b::l,0,a,h=>by
  obtain rfl:=Option.some.inj h;exact .refl _
 |b::l,i+1,a,h=>by
  rw[List.eraseIdx_cons_succ,iu,iu];refine((nN f (l:=l) h).append_left (f b)).trans ?_;rw[←dq,←dq];exact jV.append_right _
theorem sP {α:Type}(f:α→List ak):∀{l:List α} {i:Nat} (a:α),i<l.length→(f a++bE f (l.eraseIdx i)).Perm (bE f (l.set i a))
 | [],_,_,h=>by cases h
 |b::l,0,a,_=> .refl _
 |b::l,i+1,a,h=>by
  rw[List.eraseIdx_cons_succ,wq,iu,iu];refine List.Perm.trans ?_ ((sP f (l:=l) a (Nat.lt_of_succ_lt_succ h)).append_left (f b));rw[←dq,←dq];exact jV.append_right _
class jB (X X' H:List ak)(H':outParam (List ak)):Prop where
 eq:∃L,H=L++X∧H'=L++X'
instance (priority:=high) jB.here (X X':List ak):jB X X' X X':=⟨⟨[],rfl,rfl⟩⟩
instance jB.there (X X' H H':List ak)(E:ak)[h:jB X X' H H']:jB X X' (E::H) (E::H'):=⟨let⟨L,a,b⟩:=h.eq;⟨E::L,by rw[a];rfl,by rw[b];rfl⟩⟩
section
variable {n:Nat}{F:Fr}{c:Ctx}{H H' R:List ak}{T:Act→World→Prop}
theorem St.perm (hp:H.Perm H')(h:St n F (Mm c H') T):St n F (Mm c H) T:=h.o9 λ_ hw=>let⟨_,k⟩:=hw.out;Mm.mk (k.perm hp)
theorem St.tail (X X':List ak)(hp:X.Perm X')[t:jB X X' H H'](h:St n F (Mm c H') T):St n F (Mm c H) T:=by
 obtain⟨L,a,b⟩:=t.eq;refine St.perm ?_ h;rw[a,b];exact hp.append_left L
theorem St.mm (r X X':List ak)(hp:(r++X).Perm X')[tk:eT r H R][t:jB X X' R H'](h:St n F (Mm c H') T):St n F (Mm c H) T:=by
 obtain⟨L,a,b⟩:=t.eq;refine St.perm (tk.perm.trans ?_) h;rw[a,b,←dq];refine(jV.append_right X).trans ?_;rw[dq];exact hp.append_left L
end
theorem gq.bE {α:Type}(f:α→List ak)(b:∀a,gq (f a))(l:List α):gq (J.bE f l):=λE c ρ jn w k=>by
 obtain⟨a,_,h⟩:=List.mem_flatMap.1 c;exact b a E h ρ jn w k
class yL (X H:List ak)(R:outParam (List ak→List ak)):Prop where
 eq:∃L,H=L++X∧∀Y,R Y=L++Y
instance (priority:=high) yL.here (X:List ak):yL X X (λY=>Y):=⟨⟨[],rfl,λ_=>rfl⟩⟩
instance yL.there (X H:List ak)(R:List ak→List ak)(E:ak)[h:yL X H R]:yL X (E::H) (λY=>E::R Y):=⟨let⟨L,a,b⟩:=h.eq;⟨E::L,by rw[a];rfl,λY=>by rw[b];rfl⟩⟩
instance (priority:=high) eT.tail {α β:Type}(f:α→List ak)(g:β→List ak)(l:List α)(m:List β):eT (bE f l++bE g m) (bE f l++bE g m) []:=⟨by rw[gx]⟩
instance eT.Yd {α β:Type}(f:α→List ak)(g:β→List ak)(l:List α)(m:List β)(E:ak)(H R:List ak)[h:eT (bE f l++bE g m) H R]:eT (bE f l++bE g m) (E::H) (E::R):=
 ⟨(h.perm.cons E).trans qj.symm⟩
section
variable {P:Program}{n:Nat}{F:Fr}{c:Ctx}{H H1:List ak}{Q:Exit→Act→World→Prop}{ops:Array Oper}{rest:List Oper}{d:Nat}{ty:TypeId}{pos:String}{after:Array Edge}
theorem St.wL {dr:Prop}{f:FuncId}{xs:List Operand}{g:Array TypeId}{vs:List Value}{ds:List du}{L X:List ak}{R:List ak→List ak}{post:Value→List ak→List ak→Prop}(i:c.dr→dr)
 (j:Dv dr P f vs.toArray (ds.map aB++(L++X)) (λv H'=>∃L' X',H'=L'++X'∧post v L' X')) (l:aI P f) (hx:bF F xs vs) (hd:Nat.ble (d+1) n=true) [r:kX ds H] [tk:eT L H H1] [m:yL X H1 R]
 (h:∀v L' X',post v L' X'→St n ((d,v)::F) (Mm c (L'++R X')) (wpList P ops Q rest)):
 St n F (Mm c H) (wpList P ops Q ({dst:=some d,op:= .call {callee:= .value (.func f),args:=xs.toArray,argTypes:=g},type:=ty,pos:=pos,after:=after,guard:=none}::rest)):=by
 intro a w b hw;obtain⟨K,o,e2⟩:=m.eq;refine gB rfl (gG (caps:=[]) l (bF.cons (ai.mk rfl) hx) b w ?_)
 simp only[List.append_nil]
 have hp:(ds.map aB++H).Perm ((ds.map aB++(L++X))++K):=by
  rw[dq];refine GH _ (tk.perm.trans ?_);rw[o,dq];exact GH L jV
 obtain⟨_,k⟩:=(hw.mq (ds:=ds)).out;refine(Mm.wL j i (Mm.mk (k.perm hp))).mono ?_;rintro e w' ⟨u,H',rfl,⟨L',X',rfl,p⟩,hm⟩;refine⟨u,rfl,h u L' X' p _ w' (b.put (dR hd) u) ?_⟩;obtain⟨_,q⟩:=hm.out;refine Mm.mk (q.perm ?_);rw[e2,dq];exact GH L' jV
theorem St.pS {f:FuncId}{xs:List Operand}{a:Array TypeId}{vs:List Value}{ds:List du}{L X:List ak}{R:List ak→List ak}{post:Value→List ak→List ak→Prop}
 (b:dz P f vs.toArray (ds.map aB++(L++X)) (λv H'=>∃L' X',H'=L'++X'∧post v L' X')) (e:aI P f) (hx:bF F xs vs) (hd:Nat.ble (d+1) n=true) [g:kX ds H] [tk:eT L H H1] [i:yL X H1 R]
 (h:∀v L' X',post v L' X'→St n ((d,v)::F) (Mm c (L'++R X')) (wpList P ops Q rest)):
 St n F (Mm c H) (wpList P ops Q ({dst:=some d,op:= .call {callee:= .value (.func f),args:=xs.toArray,argTypes:=a},type:=ty,pos:=pos,after:=after,guard:=none}::rest)):=
 St.wL (λ_=>trivial) b e hx hd h
end
section
variable {P:Program}{n:Nat}{F:Fr}{c:Ctx}{H:List ak}{ty t e:TypeId}{x:Operand}{v:Value}{m k:Nat}{α:Type}
theorem Ev.vP {R:Rp α}{l:List α}{g:α}{dd:TypeDesc}[d:xB v H e R.size m (rows R l)](hx:ai F x (cZ v R.size k 0))(f:l[k]?=some g)(ht:P.underlying t=some dd)(q:(match dd with| .struct _| .array _ _=>True|_=>False))
 (r:(P.info? t).map (·.size)=some R.size) (hk:k<m):Ev P n F (Mm c H) (.load t x) ty (.agg (R.cells g).toArray):= .of_run λa w s hw=>by
 obtain⟨ρ,hm⟩:=hw.out
 have h:(rows R l)[k*R.size+0]?=(R.cells g)[0]?:=eN R l k 0 g f R.pos
 have y:0<(R.cells g).length:=by rw[R.len];exact R.pos
 rw[bU y]at h;obtain⟨b,z,c1,A,_⟩:=jz (hm.row d) (off:=0) hk h;rw[z]at hx
 have i:=eR (P:=P) (w:=w) (b:=b) (off:=k*R.size+0) (L:=R.cells g) ht q (by rw[r,R.len]) (λj u o=>by
  have B:j<R.size:=by rw[←R.len g];exact(fA.1 o).1
  have C:(rows R l)[k*R.size+j]?=some u:=by rw[eN R l k j g f B,o]
  obtain⟨D,e2,c2,p,_⟩:=jz (hm.row d) (off:=j) hk C
  rw[A]at p;cases p
  simpa using c2)
 simp at hx i
 simp[execOp,hx.eval s,Instr.loadAt,Instr.sureAddr,i]
theorem ve (R:Rp α):∀(l:List α) (k:Nat),(rows R l).take (k*R.size)=rows R (l.take k)
 | [],k=>by simp[rows]
 |a::l,0=>by simp[rows]
 |a::l,k+1=>by
  have e:(k+1)*R.size=(R.cells a).length+k*R.size:=by rw[R.len,jc];omega
  show(R.cells a++rows R l).take _=R.cells a++rows R (l.take k)
  rw[e,List.take_length_add_append,ve R l k]
theorem uJ (R:Rp α)(l:List α)(a:α):(rows R (l++ [a])).take (l.length*R.size)=rows R l:=by rw[ve,List.take_left' rfl]
end
end Go.J
namespace Go.J
open Go Go.Proofs.YtblifkgpebebmaaGreatDoor
section
variable {P:Program}{n:Nat}{F:Fr}{c:Ctx}{H R:List ak}{ty t e:TypeId}{x y:Operand}{v:Value}{Q:Exit→Act→World→Prop}{ops:Array Oper}{rest:List Oper}{d:Nat}{pos:String}{after:Array Edge}{m k:Nat}{α:Type}
theorem Ev.El {Rr:Rp α}{xs:List α}{g:α}{dd:TypeDesc}{sz off:Nat}[hd:sH v H α Rr xs](hx:ai F x (cZ v Rr.size k off))(hk:xs[k]?=some g)(ht:P.underlying t=some dd)(e:(match dd with| .struct _| .array _ _=>True|_=>False))
 (f:(P.info? t).map (·.size)=some sz) (p:off+sz≤Rr.size) (q:off<Rr.size):Ev P n F (Mm c H) (.load t x) ty (.agg (((Rr.cells g).drop off).take sz).toArray):= .of_run λa w h hw=>by
 obtain⟨ρ,hm⟩:=hw.out;obtain⟨b,o,h1,i⟩:=DW hm hd hk (off:=off);rw[h1]at hx
 have l:=eR (P:=P) (w:=w) (b:=b) (off:=o) (L:=((Rr.cells g).drop off).take sz) ht e (by rw[f,eX,AE,Rr.len,ko (by omega)]) (λj u d=>by
  have m:j<sz:=by
   have:=(fA.1 d).1
   rw[eX]at this;omega
  rw[s9,aC m,AD]at d
  rw[i j (by omega)];exact d)
 simp[execOp,hx.eval h,Instr.loadAt,Instr.sureAddr,l]
theorem St.nO {Rr:Rp α}{g:α}{sz:Nat}(B:Rr.size=sz){zv:Value}{ya:Nat}{i j:Int}{kl q:IntKind}(hx:ai F x (.int kl i))(hy:ai F y (.int q j))(ht:P.underlying t=some (.slice e))(r:(P.info? e).map (·.size)=some Rr.size)(hz:(P.info? e).bind (·.zero)=some zv)(f:(P.info? e).map (·.bytes)=some ya)
 (hm:i=m) (C:j=m) (D:ya*m≤281474976710656∧m≤9223372036854775807) (h1:zv.cells=(Rr.cells g).toArray) (hd:Nat.ble (d+1) n=true)
 (h:∀b,St n ((d,.slice (some ⟨b,0,none⟩) m m)::F) (Mm c (row (.slice (some ⟨b,0,none⟩) m m) e sz m (rows Rr (List.replicate m g))::H)) (wpList P ops Q rest)):
 St n F (Mm c H) (wpList P ops Q ({dst:=some d,op:= .makeSlice t x y,type:=ty,pos:=pos,after:=after,guard:=none}::rest)):=by
 subst hm C B;refine St.Qa (K:=λu H'=>∃b,u= .slice (some ⟨b,0,none⟩) m m∧H'=row (.slice (some ⟨b,0,none⟩) m m) e Rr.size m (rows Rr (List.replicate m g))::H) ?_ hd ?_
 ·intro a w ρ s E
  obtain⟨i,v,O⟩:=dp.1 r;obtain⟨G,I,J⟩:=qf r hz f v
  have z:=run_make (P:=P) w t e i zv ht v I kl q m m (by omega) (by omega) (by rw[J,←Int.natCast_mul];exact Int.ofNat_le.2 D.1) (by omega)
  have hlen:(rows Rr (List.replicate m g)).length=m*Rr.size:=by rw[iz,kF]
  have L:madeCells zv.cells (m*i.size)=(rows Rr (List.replicate m g)).toArray:=by
   rw[G,h1]
   apply Array.ext
   ·simp[madeCells,hlen]
   ·intro k M R
    have A:k<m*Rr.size:=by simpa[madeCells]using M
    have hp:=Rr.pos
    have N:k/Rr.size<m:=Nat.div_lt_of_lt_mul (by rw[Nat.mul_comm];exact A)
    have o:k%Rr.size<Rr.size:=Nat.mod_lt _ hp
    have l:=eN Rr (List.replicate m g) (k/Rr.size) (k%Rr.size) g (by rw[s8,aC N]) o
    have p:k/Rr.size*Rr.size+k%Rr.size=k:=by rw[Nat.mul_comm];exact Nat.div_add_mod k Rr.size
    rw[p,bU (by rw[hlen];exact A),bU (by rw[Rr.len];exact o)]at l
    have l:=Option.some.inj l
    simp only[madeCells,List.getElem_toArray]
    rw[l]
    simp[Rr.len,o]
  simp only[Int.toNat_natCast,L]at z
  refine⟨.value (.slice (some ⟨w.heap.size,0,none⟩) m m),w.alloc (.cells (rows Rr (List.replicate m g)).toArray e),ρ,_,?_,⟨_,.inl rfl,_,rfl,rfl⟩,?_⟩
  ·simp[execOp,hx.eval s,hy.eval s,z]
  ·refine E.Aq rfl ⟨rfl,aR _⟩ rfl (by simp) (λk hk=>RowKit.Below.heap_alloc w _ k hk) (eM.2 ⟨hlen,.inr ⟨w.heap.size,m,_,rfl,aP _,heap_alloc_new w _,aR _,by unfold maxLen;omega,by simp[hlen],by rw[←hlen];simp⟩⟩) ?_
   intro b f;rw[eI]at f;simp[Value.ownBlock]at f;omega
 ·rintro _ _ ⟨b,rfl,rfl⟩
  exact h b
end
section
variable {P:Program}{n:Nat}{F:Fr}{c:Ctx}{H H' R:List ak}{ty t e:TypeId}{x y:Operand}{v:Value}{Q:Exit→Act→World→Prop}{ops:Array Oper}{rest:List Oper}{d:Nat}{pos:String}{after:Array Edge}{m k:Nat}{α:Type}{T:Act→World→Prop}
theorem Ev.O7 {Rr:Rp α}{l:List α}{g:α}{dd:TypeDesc}{sz off:Nat}[h:xB v H e Rr.size m (rows Rr l)](hx:ai F x (cZ v Rr.size k off))(i:l[k]?=some g)(ht:P.underlying t=some dd)(r:(match dd with| .struct _| .array _ _=>True|_=>False))
 (s:(P.info? t).map (·.size)=some sz) (hk:k<m) (E:off+sz≤Rr.size) (o:off<Rr.size):Ev P n F (Mm c H) (.load t x) ty (.agg (((Rr.cells g).drop off).take sz).toArray):= .of_run λa w y hw=>by
 obtain⟨ρ,hm⟩:=hw.out
 have p:(rows Rr l)[k*Rr.size+off]?=(Rr.cells g)[off]?:=eN Rr l k off g i o
 have d:(Rr.cells g)[off]?=some ((Rr.cells g)[off]'(by rw[Rr.len];exact o)):=bU _
 rw[d]at p;obtain⟨b,z,c1,A,_⟩:=jz (hm.row h) (off:=off) hk p;rw[z]at hx
 have B:=eR (P:=P) (w:=w) (b:=b) (off:=k*Rr.size+off) (L:=((Rr.cells g).drop off).take sz) ht r (by rw[s,eX,AE,Rr.len,ko (by omega)]) (λj u f=>by
  have C:j<sz:=by
   have:=(fA.1 f).1
   rw[eX]at this;omega
  rw[s9,aC C,AD]at f
  have D:(rows Rr l)[k*Rr.size+(off+j)]?=some u:=by rw[eN Rr l k (off+j) g i (by omega),f]
  obtain⟨G,e2,c2,q,_⟩:=jz (hm.row h) (off:=off+j) hk D
  rw[A]at q;cases q
  rw[qg];exact c2)
 simp[execOp,hx.eval y,Instr.loadAt,Instr.sureAddr,B]
instance (priority:=high) eT.anE {β:Type}(f:β→List ak)(l:List β):eT (bE f l) (bE f l) []:=⟨by rw[gx]⟩
instance eT.YN {β:Type}(f:β→List ak)(l:List β)(E:ak)(H R:List ak)[h:eT (bE f l) H R]:eT (bE f l) (E::H) (E::R):=
 ⟨(h.perm.cons E).trans qj.symm⟩
theorem Mm.TJ {f:α→List ak}{g:α→du}(b:∀a H w,Mm c (f a++H) w→Mm c (aB (g a)::H) w):∀(l:List α) (H:List ak) (w:World),Mm c (bE f l++H) w→Mm c (aB (aF g l)::H) w
 | [],H,w,h=>h.fact (aF g []) λρ _ x hx=>by cases hx
 |a::l,H,w,h=>by
  rw[iu,dq]at h
  have h1:=b a _ w h
  obtain⟨n,d⟩:=h1.out
  have e:Mm c (bE f l++(aB (g a)::H)) w:=Mm.mk (d.perm qj.symm)
  have i:=Mm.TJ b l _ w e
  refine(λ(j:Mm c (aB (aF g (a::l))::aB (aF g l)::aB (g a)::H) w)=> ?_) (i.fact _ ?_)
  ·obtain⟨ρ,k⟩:=j.out
   have m:ew c (aB (aF g l)::aB (g a)::aB (aF g (a::l))::H) ρ w:=k.perm ((List.Perm.swap _ _ _).trans ((List.Perm.swap _ _ _).cons _))
   exact Mm.mk m.drop.drop
  ·intro ρ hm x hx
   rcases cJ.1 hx with rfl|hx
   ·exact dB.1 (hm.dM (aB (g x)) (by simp))
   ·exact dB.1 (hm.dM (aB (aF g l)) (by simp)) x hx
theorem St.TJ {f:α→List ak}(g:α→du)(l:List α)(d:∀a H w,Mm c (f a++H) w→Mm c (aB (g a)::H) w)[e:jB (bE f l) [] H H'](h:St n F (Mm c (aB (aF g l)::H')) T):St n F (Mm c H) T:=by
 obtain⟨L,a,b⟩:=e.eq
 refine h.o9 λw hw=> ?_
 rw[b,gx];refine Mm.TJ d l L w ?_;obtain⟨ρ,k⟩:=hw.out;refine Mm.mk (k.perm ?_);rw[a];exact jV
end
end Go.J
namespace Go.J
open Go Go.RowKit
def sV:List Value→Nat→List Value→List Value
 |cs,_,[]=>cs
 |cs,p,u::us=>sV (cs.set p u) (p+1) us
theorem Fk (x:List Value):∀(us rest:List Value) (p:Nat),sV (x++rest) (x.length+p) us=x++sV rest p us
 | [],_,_=>rfl
 |u::us,rest,p=>by
  rw[sV,lK _ _ (by omega),show x.length+p-x.length=p by omega,sV,←Fk x us _ (p+1),qg]
theorem Bk:∀(y pre x rest:List Value),x.length=y.length→sV (pre++(x++rest)) pre.length y=pre++(y++rest)
 | [],pre,x,rest,h=>by
  obtain rfl:x=[]:=lG (by simpa using h);rfl
 |u::us,pre,x,rest,h=>by
  cases x with
  |nil=>cases h
  |cons a x=>
   rw[sV,lK _ _ (aR _),ff]
   have:=Bk us (pre++ [u]) x rest (by simpa using h)
   rw[bQ]at this
   simp only[List.append_assoc,List.cons_append,List.nil_append,List.length_cons,List.length_nil]at this
   simpa using this
theorem Bi {α:Type}(Rr:Rp α)(g:α):∀(l:List α) (k:Nat),k<l.length→sV (rows Rr l) (k*Rr.size) (Rr.cells g)=rows Rr (l.set k g)
 | [],_,h=>by cases h
 |a::l,0,_=>by
  have:=Bk (Rr.cells g) [] (Rr.cells a) (rows Rr l) (by rw[Rr.len,Rr.len])
  rw[Nat.zero_mul,sF];exact this
 |a::l,k+1,h=>by
  have e:(k+1)*Rr.size=(Rr.cells a).length+k*Rr.size:=by rw[Rr.len,jc];omega
  rw[wq]
  show sV (Rr.cells a++rows Rr l) _ _=Rr.cells a++rows Rr (l.set k g)
  rw[e,Fk,Bi Rr g l k (by rw[fB]at h;omega)]
section
variable {P:Program}{n:Nat}{F:Fr}{c:Ctx}{H R:List ak}{ty t e:TypeId}{x y:Operand}{v:Value}{Q:Exit→Act→World→Prop}{ops:Array Oper}{rest:List Oper}{pos:String}{after:Array Edge}{m k size:Nat}
theorem mi {ρ:Ro}{b:Nat}(a:v.ownBlock=some b)(hk:k<m):∀(us:List Value) (j:Nat) (cs:List Value) (w:World),ew c (row v e size m cs::R) ρ w→j+us.length≤size→(∀u∈us,u.oneCell'=true)→
 ∃w',(storeCells ⟨b,k*size,none⟩ us j).run P w= .ok () w'∧ew c (row v e size m (sV cs (k*size+j) us)::R) ρ w'
 | [],j,cs,w,hm,_,_=>⟨w,rfl,hm⟩
 |u::us,j,cs,w,hm,f,h1=>by
  rw[fB]at f;obtain⟨l,n,o,d,c1,f1,g⟩:=DT (off:=j) (u:=u) hm hk (by omega)
  rw[a]at d;cases d
  obtain⟨w',h,i⟩:=mi a hk us (j+1) _ _ g (by omega) (λz hz=>h1 z (by simp[hz]));refine⟨w',?_,by rw[sV];exact i⟩;rw[storeCells]
  simp[run_store P w _ u _ (h1 u (by simp)),c1,f1,Addr.add_lit,h]
theorem St.uO {α:Type}{Rr:Rp α}{l:List α}{sz:Nat}(p:Rr.size=sz)(g:α)[tk:lX v H e sz m (rows Rr l) R](hx:ai F x (cZ v sz k 0))(hy:ai F y (.agg (Rr.cells g).toArray))(q:(P.info? t).map (·.size)=some sz)(hk:k<m)(d:k<l.length)
 (h:St n F (Mm c (row v e sz m (rows Rr (l.set k g))::R)) (wpList P ops Q rest)):
 St n F (Mm c H) (wpList P ops Q ({dst:=none,op:= .store t x y,type:=ty,pos:=pos,after:=after,guard:=none}::rest)):=by
 subst p;refine St.lx (K:=λC H'=>H'=row v e Rr.size m (rows Rr (l.set k g))::R) ?_ ?_
 ·intro a w ρ f hm
  have j:=hm.perm tk.perm
  have r:(rows Rr l)[k*Rr.size+0]?=some ((Rr.cells (l[k]'d))[0]'(by rw[Rr.len];exact Rr.pos)):=by
   rw[eN Rr l k 0 (l[k]'d) (bU d) Rr.pos,bU]
  obtain⟨b,s,_,u,_⟩:=jz (eM.1 (j.dM _ (aQ ..))) hk r;rw[s,j3]at hx;obtain⟨w',z,o⟩:=mi (P:=P) (k:=k) u hk (Rr.cells g) 0 _ w j (by rw[Rr.len];omega) (Rr.one g);rw[j3,Bi Rr g l k d]at o;obtain⟨i,A,B⟩:=dp.1 q;refine⟨.skip,w',ρ,_,?_,⟨_,.inr ⟨rfl,rfl⟩,rfl⟩,o⟩
  simp[execOp,hx.eval f,hy.eval f,Instr.storeAt,Instr.sureAddr,storeVar,sizeOf,typeInfo,A,B,bK,Rr.len,z]
 ·rintro _ _ rfl
  exact h
end
end Go.J
namespace Go.J
open Go Go.Proofs.YtblifkgpebebmaaGreatDoor
structure yH (P:Program)(t:TypeId)(nm:String)(f:Nat)(byP:Bool)(e:TypeId):Prop where
 row:((P.info? t).bind λi=>(i.methods.find? λm=>m.name==nm).map λm=>(m.path.isEmpty,m.func))=some (true,some (f,byP))
 und:P.underlying t=some (.pointer e)
theorem yH.out {P:Program}{t e:TypeId}{nm:String}{f:Nat}{byP:Bool}(h:yH P t nm f byP e):∃i m,P.info? t=some i∧i.methods.find? (λm=>m.name==nm)=some m∧m.path= #[]∧m.func=some (f,byP):=by
 obtain⟨i,b,c⟩:=pQ.1 h.row;obtain⟨m,hm,a⟩:=dp.1 c
 have d:=congrArg Prod.fst a
 have g:=congrArg Prod.snd a
 exact⟨i,m,b,hm,by simpa using d,g⟩
theorem Ha {P:Program}{t e:TypeId}{nm:String}{f:Nat}(h:yH P t nm f true e)(k:Nat)(v:Value)(w:World):(method (k+1) t v nm).run P w= .ok (f,v) w:=by
 obtain⟨i,m,a,hm,hp,b⟩:=h.out
 have hu:=h.und
 simp[method,typeInfo,a,hm,hp,b,follow,receiverAt,run_underlying hu,Place.get]
theorem QF (t:TypeId)(a:Addr)(s m:String):Builtin.ssaWrapNilChk_ #[t] t #[.pointer (some a),strVal s,strVal m]=pure (.pointer (some a)):=rfl
theorem Hb {P:Program}{t e:TypeId}{nm:String}{f:Nat}{a:Addr}{u:Value}(h:yH P t nm f false e)(k:Nat)(w:World)(b:(loadVar e a).run P w= .ok u w):(method (k+1) t (.pointer (some a)) nm).run P w= .ok (f,u) w:=by
 obtain⟨i,m,c,hm,hp,d⟩:=h.out
 have hu:=h.und
 simp[method,typeInfo,c,hm,hp,d,follow,receiverAt,run_underlying hu,Place.get,QF,asAddr,b]
section
variable {P:Program}{n:Nat}{F:Fr}{c:Ctx}{H R:List ak}{ty t e e2:TypeId}{x:Operand}{r u v:Value}{nm:String}{Q:Exit→Act→World→Prop}{ops:Array Oper}{rest:List Oper}{d:Nat}{pos:String}{after:Array Edge}{f:Nat}
def Recv (P:Program)(c:Ctx)(H:List ak)(t:TypeId)(r:Value)(nm:String)(f:Nat)(u:Value):Prop:=∀w,Mm c H w→(method (P.types.size+Made.depth) t r nm).run P w= .ok (f,u) w
theorem Recv.ptr (h:yH P t nm f true e):Recv P c H t r nm f r:=λw _=>Ha h (P.types.size+99) r w
theorem Recv.row {m k off size:Nat}{cs:List Value}{dd:TypeDesc}[a:xB v H e2 size m cs](h:yH P t nm f false e)(hu:P.underlying e=some dd)(d:(match dd with| .struct _| .array _ _=>False|_=>True))(hk:k<m)(g:cs[k*size+off]?=some u):
 Recv P c H t (cZ v size k off) nm f u:=λw hw=>by
 obtain⟨ρ,hm⟩:=hw.out;obtain⟨b,h1,i,_⟩:=jz (hm.row a) hk g;rw[h1];exact Hb h (P.types.size+99) w (fQ hu d i)
theorem wP {xs:List Operand}{c:Array TypeId}{vs:List Value}(d:aI P f)(hx:bF F (x::xs) (.iface t r::vs)){a:Act}(b:Has n a F){w:World}(e:(method (P.types.size+Made.depth) t r nm).run P w= .ok (f,u) w):
 (execOp a.eval (bare (.call {callee:= .invoke x nm,args:=xs.toArray,argTypes:=c}) ty)).run P w= .ok (.enter f (u::vs).toArray) w:=by
 have h1:=hx.1.eval b
 have g:=bF.eval b hx.2
 have h:(#[Value.iface t r]++xs.toArray.map a.eval)=(Value.iface t r::vs).toArray:=by simp[g]
 have e2:((Value.iface t r::vs).toArray).extract 1 (Value.iface t r::vs).toArray.size=vs.toArray:=by simp
 simp only[execOp,resolve,h1,Sem.run_bind,Sem.run_pure,Result.andThen_ok,invoke,h,e2]
 have i:(Value.iface t r::vs).toArray[0]?=some (Value.iface t r):=by simp
 simp only[i,callMethod,Sem.run_bind,run_program,Result.andThen_ok,e]
 have j:(#[u]++vs.toArray)=(u::vs).toArray:=by simp
 rw[j];exact d.run
theorem Ev.qw {xs:List Operand}{d:Array TypeId}{vs:List Value}{ds:List du}(g:Recv P c H t r nm f u)(i:eC P f (u::vs).toArray ds v)(j:aI P f)(hx:bF F (x::xs) (.iface t r::vs))(k:dW c H ds):
 Ev P n F (Mm c H) (.call {callee:= .invoke x nm,args:=xs.toArray,argTypes:=d}) ty v:=by
 intro a w l hw;rw[wP j hx l (g w hw)]
 simp only[Oper.quietUpon,true_and]
 refine(Mm.XG (post:=λu H'=>u=v∧H'=[]) (λw ρ m=>(i w ρ m).mono λe w' ⟨u,H',h1,o,b⟩=>⟨u,[],h1,⟨o,rfl⟩,?_⟩) k (λ_ _ h=>by rw[h.2];exact gq.nil) hw).mono ?_
 ·obtain⟨jn,b⟩:=b.out
  exact Mm.mk (ew.left (L:=[]) b)
 ·rintro e w' ⟨u,H',rfl,⟨rfl,rfl⟩,hm⟩
  exact⟨rfl,hm⟩
theorem yq {xs:List Operand}{b:Array TypeId}{vs:List Value}(c:aI P f)(hx:bF F (x::xs) (.iface t r::vs)){a:Act}(d:Has n a F){w:World}(i:(method (P.types.size+Made.depth) t r nm).run P w= .ok (f,u) w){K:Act→World→Prop}
 {dd:Option Tmp} {g:Option (Nat×Bool)}
 (hk:Calls P f (u::vs).toArray w λe w'=>∃v,e= .returned v∧K (a.put dd v) w'):
 ({dst:=dd,op:= .call {callee:= .invoke x nm,args:=xs.toArray,argTypes:=b},type:=ty,pos:=pos,after:=after,guard:=g}:Oper).wp P a w K Q:=by
 unfold Oper.wp Oper.upon;rw[gu,wP c hx d i]
 exact hk.mono λe w' ⟨v,he,h⟩=>by subst he;exact h
theorem St.ivk {xs:List Operand}{g:Array TypeId}{vs:List Value}{pre:List ak}{post:Value→List ak→Prop}(i:Recv P c H t r nm f u)(j:dz P f (u::vs).toArray pre post)(k:aI P f)(hx:bF F (x::xs) (.iface t r::vs))(hd:Nat.ble (d+1) n=true)[tk:eT pre H R]
 (h:∀v H',post v H'→St n ((d,v)::F) (Mm c (H'++R)) (wpList P ops Q rest)):
 St n F (Mm c H) (wpList P ops Q ({dst:=some d,op:= .call {callee:= .invoke x nm,args:=xs.toArray,argTypes:=g},type:=ty,pos:=pos,after:=after,guard:=none}::rest)):=by
 intro a w b hw;refine gB rfl (yq k hx b (i w hw) ?_);refine(Mm.call j (hw.take (L:=pre))).mono ?_;rintro e w' ⟨u,H',rfl,hp,hm⟩;exact⟨u,rfl,h u H' hp _ w' (b.put (dR hd) u) hm⟩
theorem Ev.iface {A:World→Prop}{dd:TypeDesc}(hx:ai F x v)(ht:P.underlying t=some dd)(hk:(match dd with| .interface _=>False|_=>True)):Ev P n F A (.makeInterface t x) ty (.iface t v):= .of_run λa w b _=>by
 cases dd<;>simp_all [execOp,Instr.makeInterface,hx.eval b,run_underlying ht]
theorem Ev.assert {A:World→Prop}{dd:TypeDesc}{b:TypeId}(hx:ai F x (.iface t v))(ht:P.underlying t=some dd)(hk:(match dd with| .interface _=>False|_=>True)):Ev P n F A (.typeAssert x b t false) ty v:= .of_run λa w c _=>by
 cases dd<;>simp_all [execOp,Instr.typeAssert,hx.eval c,run_underlying ht]
end
end Go.J
namespace Go.J
open Go
section
variable {P:Program}{n:Nat}{F:Fr}{A:World→Prop}{c:Ctx}{H R:List ak}{ty:TypeId}{x y:Operand}{v:Value}{Q:Exit→Act→World→Prop}{ops:Array Oper}{rest:List Oper}
 {pos:String} {after:Array Edge} {t e:TypeId}
theorem xV {b off:Nat}{L:List Value}{u:Value}{ρ:Ro}{w:World}(d:ew c (aW b (.cells L.toArray e (0,0))::R) ρ w)(h:off<L.length):w.cell? ⟨b,off,none⟩=some L[off]∧w.frozen? ⟨b,off,none⟩=false∧
 ew c (aW b (.cells (L.set off u).toArray e (0,0))::R) ρ (w.setCell ⟨b,off,none⟩ u):=by
 have a:=fp.1 (d.dM _ (aQ ..))
 refine⟨by rw[cV a];simp,by simp[World.frozen?,a],?_⟩;refine d.alter rfl ⟨rfl,aR _⟩ rfl (by simp) (λk hk f=> ?_) (fp.2 ?_) (λi g=>by rw[iW]at g⊢;exact .inl g)
 ·rw[iW]at f
  simp only[World.setCell,Array.getElem?_modify]
  rw[aA (λe=>f (by rw[e]))]
 ·rw[nU a];simp
theorem St.o7 {T:Act→World→Prop}(L:List ak)(a:L.Sublist H)(k:St n F (Mm c L) T):St n F (Mm c H) T:=k.o9 λw hw=>by
 obtain⟨ρ,h⟩:=hw.out;exact Mm.mk ⟨h.os,h.tape,h.output,h.size,h.AJ,h.fits,h.le,h.new,λE b=>h.dM E (a.subset b),λE b=>h.own E (a.subset b),h.ES.sublist a⟩
theorem St.Fv {b off:Nat}{L L':List Value}{d:Value}[tk:l3 b H (.cells L.toArray e (0,0)) R](hx:ai F x (.pointer (some ⟨b,off,none⟩)))(hy:ai F y (.agg #[d]))(g:(P.info? t).map (·.size)=some 1)(h1:d.oneCell'=true)
 (j:Nat.ble (off+1) L.length=true) (k:L.set off d=L') (h:St n F (Mm c (aW b (.cells L'.toArray e (0,0))::R)) (wpList P ops Q rest)):
 St n F (Mm c H) (wpList P ops Q ({dst:=none,op:= .store t x y,type:=ty,pos:=pos,after:=after,guard:=none}::rest)):=by
 subst k;refine St.lx (K:=λu H'=>H'=aW b (.cells (L.set off d).toArray e (0,0))::R) ?_ ?_
 ·intro a w ρ f hm
  have l:=hm.perm tk.perm
  obtain⟨c1,f1,m⟩:=xV (u:=d) l (dR j);obtain⟨i,o,p⟩:=dp.1 g;refine⟨.skip,_,ρ,_,?_,⟨_,.inr ⟨rfl,rfl⟩,rfl⟩,m⟩
  simp[execOp,hx.eval f,hy.eval f,Instr.storeAt,Instr.sureAddr,storeVar,sizeOf,typeInfo,o,p,bK,storeCells,run_store P w _ d _ h1,c1,f1,Addr.add_zero',Addr.add_lit]
 ·rintro _ _ rfl
  exact h
theorem St.PW {b off:Nat}{L L':List Value}{d f:Value}[tk:l3 b H (.cells L.toArray e (0,0)) R](hx:ai F x (.pointer (some ⟨b,off,none⟩)))(hy:ai F y (.agg #[d,f]))(j:(P.info? t).map (·.size)=some 2)(h1:d.oneCell'=true)(k:f.oneCell'=true)
 (l:Nat.ble (off+2) L.length=true) (m:(L.set off d).set (off+1) f=L') (h:St n F (Mm c (aW b (.cells L'.toArray e (0,0))::R)) (wpList P ops Q rest)):
 St n F (Mm c H) (wpList P ops Q ({dst:=none,op:= .store t x y,type:=ty,pos:=pos,after:=after,guard:=none}::rest)):=by
 subst m;refine St.lx (K:=λu H'=>H'=aW b (.cells ((L.set off d).set (off+1) f).toArray e (0,0))::R) ?_ ?_
 ·intro a w ρ g hm
  have o:=hm.perm tk.perm
  have v:=dR l
  obtain⟨c1,f1,p⟩:=xV (u:=d) o (show off<L.length by omega);obtain⟨c2,f2,q⟩:=xV (u:=f) p (show off+1<(L.set off d).length by rw[cn];omega);obtain⟨i,r,s⟩:=dp.1 j;refine⟨.skip,_,ρ,_,?_,⟨_,.inr ⟨rfl,rfl⟩,rfl⟩,q⟩
  simp[execOp,hx.eval g,hy.eval g,Instr.storeAt,Instr.sureAddr,storeVar,sizeOf,typeInfo,r,s,bK,storeCells,run_store P w _ d _ h1,run_store P _ _ f _ k,c1,f1,c2,f2,Addr.add_zero',Addr.add_lit]
 ·rintro _ _ rfl
  exact h
end
section
variable {P:Program}{n:Nat}{F:Fr}{c:Ctx}{H R:List ak}{ty:TypeId}{x y:Operand}{t e:TypeId}
theorem Ev.iT {b off:Nat}{dd:TypeDesc}{fr:Nat×Nat}{L L':List Value}[f:B8 b H (.cells L.toArray e fr)](m:Nat)(hx:ai F x (.pointer (some ⟨b,off,none⟩)))(ht:P.underlying t=some dd)(g:(match dd with| .struct _| .array _ _=>True|_=>False))
 (h:(P.info? t).map (·.size)=some m) (i:(L.drop off).take m=L') (k:L'.length=m):Ev P n F (Mm c H) (.load t x) ty (.agg L'.toArray):= .of_run λa w l hw=>by
 obtain⟨ρ,hm⟩:=hw.out
 have h1:=fp.1 (hm.dM _ f.mem)
 have o:=eR (P:=P) (w:=w) (b:=b) (off:=off) (L:=L') ht g (by rw[k];exact h) (λj u d=>by
  rw[cV h1];rw[←i,s9]at d
  split at d
  ·rw[AD]at d;simpa using d
  ·cases d)
 simp[execOp,hx.eval l,Instr.loadAt,Instr.sureAddr,o]
end
theorem fa.ind {p:fa→Prop}(h:∀x,(∀y∈x.args,p y)→p x)(x:fa):p x:=
 fa.rec (motive_1:=p) (motive_2:=λl=>∀y∈l,p y) (λb v l c=>h (.mk b v l) c) (λy hy=>by cases hy) (λa l d e y hy=>by
  rcases cJ.1 hy with rfl|hy
  ·exact d
  ·exact e y hy) x
theorem di.ind {p:di→Prop}(h:∀x,(∀y∈x.args,p y)→p x)(x:di):p x:=
 di.rec (motive_1:=p) (motive_2:=λl=>∀y∈l,p y) (λk s i t v l b=>h (.mk k s i t v l) b) (λy hy=>by cases hy) (λa l c d y hy=>by
  rcases cJ.1 hy with rfl|hy
  ·exact c
  ·exact d y hy) x
theorem dE.ind {p:dE→Prop}(h:∀x,(∀y∈x.kids,p y)→p x)(x:dE):p x:=
 dE.rec (motive_1:=p) (motive_2:=λl=>∀y∈l,p y) (λr i v l b=>h (.mk r i v l) b) (λy hy=>by cases hy) (λa l c d y hy=>by
  rcases cJ.1 hy with rfl|hy
  ·exact c
  ·exact d y hy) x
section
variable {P:Program}{n:Nat}{F:Fr}{A:World→Prop}{c:Ctx}{H R:List ak}{ty:TypeId}{x y z:Operand}{v:Value}{Q:Exit→Act→World→Prop}{ops:Array Oper}{rest:List Oper}
 {d:Nat} {pos:String} {after:Array Edge} {t e:TypeId} {size m:Nat} {cs:List Value}
end
section
variable {P:Program}{n:Nat}{F:Fr}{A:World→Prop}{c:Ctx}{H R:List ak}{ty:TypeId}{x y z:Operand}{v:Value}{Q:Exit→Act→World→Prop}{ops:Array Oper}{rest:List Oper}
 {d:Nat} {pos:String} {after:Array Edge} {t e:TypeId} {size m:Nat} {cs:List Value}
def EM:Value→Value
 | .slice a m _=> .slice a m m
 |v=>v
theorem Ev.clip {α:Type}{Rr:Rp α}{xs:List α}{i j:Int}{g h:IntKind}{d f:Operand}[hd:sH v H α Rr xs](hx:ai F x v)(k:ai F d (.int g i))(hm:ai F f (.int h j))(ht:P.underlying t=some (.slice e))(l:(P.info? e).map (·.size)=some Rr.size)
 (h1:i=xs.length) (m:j=xs.length):Ev P n F (Mm c H) (.slice t x none (some d) (some f)) ty (EM v):= .of_run λa w b hw=>by
 obtain⟨ρ,o⟩:=hw.out;obtain⟨inf,p,q⟩:=dp.1 l;obtain⟨ad,cap,rfl,u,_⟩:=o.sl hd;subst h1 m
 have r:(0:Int)≤(xs.length:Int)∧(xs.length:Int)≤(cap:Int):=by omega
 have s:(0:Int)≤(xs.length:Int)∧(xs.length:Int)≤(xs.length:Int):=by omega
 simp only[execOp,hx.eval b,k.eval b,hm.eval b,Option.map_some,Option.map_none,Instr.sliceAt,Instr.slice,Instr.sliceBounds,Instr.sliceBound,asIntOf,Sem.run_bind,run_underlying ht,Result.andThen_ok,Sem.run_pure,r,s,and_self,if_true,Int.toNat_natCast,sizeOf,typeInfo,run_program,p,q,EM,Nat.sub_zero,Nat.zero_mul]
 cases ad with
 |none=>simp
 |some a=>simp[Addr.add_zero']
theorem St.yS {α:Type}{Rr:Rp α}{xs:List α}{v2:Value}{m2:Nat}{news:List Value}{zv:Value}{ya:Nat}[t2:lX v2 H e Rr.size m2 news R][t1:sH v H α Rr xs]
 (hx:ai F x (EM v)) (hy:ai F y v2) (ht:P.underlying t=some (.slice e)) (E:(P.info? e).map (·.size)=some Rr.size) (hz:(P.info? e).bind (·.zero)=some zv) (o:(P.info? e).map (·.bytes)=some ya)
 (anP:∀u∈news,u.oneCell'=true) (hlen:xs.length+m2≤9223372036854775807) (S:(xs.length+m2)*ya≤140737488355328) (T:zv.cells.size=Rr.size) (acD:Nat.ble 1 Rr.size=true) (U:Nat.ble 1 m2=true) (hd:Nat.ble (d+1) n=true)
 (h:∀v',v'.oneCell'=true→St n ((d,v')::F) (Mm c (row v' e Rr.size (xs.length+m2) (rows Rr xs++news)::R)) (wpList P ops Q rest)):
 St n F (Mm c H) (wpList P ops Q ({dst:=some d,op:= .call {callee:= .builtin .append,args:= #[x,y],argTypes:= #[t,t]},type:=ty,pos:=pos,after:=after,guard:=none}::rest)):=by
 refine St.Qa (K:=λv' H'=>v'.oneCell'=true∧H'=row v' e Rr.size (xs.length+m2) (rows Rr xs++news)::R) ?_ hd ?_
 ·intro a w ρ G hm
  have I:=hm.perm t2.perm
  have p:=eM.1 (I.dM _ (aQ ..))
  obtain⟨ad,cap,rfl,_,_,_,f⟩:=hm.sl t1
  have V:=dR U
  obtain⟨i,q,SS⟩:=dp.1 E;obtain⟨J,L,W⟩:=qf E hz o q
  rcases p.2 with⟨_,rfl⟩|⟨g2,r,X,rfl,_,s,hc1,hc2,Y,z⟩
  ·omega
  ·have M:∀j u,news[j]?=some u→w.cell? ((⟨g2,0,none⟩:Addr).add j)=some u:=λj u l=>by
    rw[Addr.add_lit,hP,cV s];rw[←z,s9]at l
    split at l
    ·simpa using l
    ·simp at l
   have A:xs.length+m2≤9223372036854775807:=hlen
   have N:(xs.length+m2)*i.bytes≤140737488355328:=by rw[W];exact S
   have Z:(rows Rr xs).length=xs.length*i.size:=by rw[iz,J]
   have m:news.length=m2*i.size:=by rw[p.1,J]
   have Ea:∃(g:Nat),(Builtin.append_ #[t,t] ty #[EM (.slice ad xs.length cap),.slice (some ⟨g2,0,none⟩) m2 r]).run P w= .ok (.slice (some ⟨w.heap.size,0,none⟩) (xs.length+m2) g) (w.drew.alloc (.cells ((rows Rr xs).toArray++news.toArray++Builtin.zeroCells zv.cells (g-(xs.length+m2))) e))∧xs.length+m2≤g∧g≤maxLen:=by
    cases ad with
    |none=>
     rcases f with f|⟨b,off,C,e',fr,f,_⟩
     ·subst f
      refine⟨grownCap w (([]:List α).length+m2) 0 e,?_,grownCap_ge ..,grownCap_le_maxLen _ _ _ _ (by unfold maxLen;omega)⟩
      have hr:=run_append_nil (P:=P) w t ty e i zv ht q L ⟨g2,0,none⟩ m2 r news m M (by omega) (by simp at A;omega) (by simp at N;omega)
      simpa[EM,rows]using hr
     ·cases f
    |some ad=>
     refine⟨grownCap w (xs.length+m2) xs.length e,?_,grownCap_ge ..,grownCap_le_maxLen _ _ _ _ (by unfold maxLen;omega)⟩;refine run_append_grow (P:=P) w t ty e i zv ht q L ad xs.length xs.length (rows Rr xs) Z (λj u l=> ?_) ⟨g2,0,none⟩ m2 r news m M (by omega) (by omega) (growslice_fits (by omega) N)
     rcases f with f|⟨b,off,C,e',fr,f,h6,h7⟩
     ·subst f;simp[rows]at l
     ·cases f
      rw[Addr.add_lit,cV (hm.fits _ _ h6)];exact h7 j u l
   obtain⟨g,akM,B,D⟩:=Ea;refine⟨.value (.slice (some ⟨w.heap.size,0,none⟩) (xs.length+m2) g),w.drew.alloc (.cells ((rows Rr xs).toArray++news.toArray++Builtin.zeroCells zv.cells (g-(xs.length+m2))) e),ρ,_,?_,⟨_,.inl rfl,rfl,rfl⟩,?_⟩
   ·simp[execOp,resolve,invoke,builtin,hx.eval G,hy.eval G,akM]
   ·have O:(rows Rr xs++news).length=(xs.length+m2)*Rr.size:=by rw[bQ,p.1,iz,jc]
    refine I.drop.Aq rfl ⟨rfl,Nat.le_succ _⟩ rfl (by simp) (λk hk=>heap_alloc_old w.drew _ hk) (eM.2 ⟨O,.inr ⟨w.heap.size,g,_,rfl,aP _,heap_alloc_new w.drew _,B,D,?_,?_⟩⟩) ?_
    ·simp only[Array.size_append,List.size_toArray,size_zeroCells,T,iz,p.1,←Nat.add_mul]
     congr 1
     omega
    ·simp only[Array.toList_append,List.append_assoc]
     rw[←dq,←O];exact List.take_left
    ·intro b o;rw[eI]at o;simp[Value.ownBlock]at o;omega
 ·rintro _ _ ⟨h1,rfl⟩
  exact h _ h1
end
section
variable {P:Program}{n:Nat}{F F0:Fr}{A:World→Prop}{c:Ctx}{H R:List ak}{ty:TypeId}{x y:Operand}{v:Value}{Q:Exit→Act→World→Prop}{ops:Array Oper}{rest:List Oper}{d:Nat}{pos:String}{after:Array Edge}{op:Op}{t u e:TypeId}{i j:Int}{k:IntKind}
theorem St.ee (a:Ev P n F A op ty v)(h:St n ((d,v)::F) A (wpList P ops Q rest))(hd:Nat.ble (d+1) n=true:=by rfl):St n F A (wpList P ops Q ({dst:=some d,op:=op,type:=ty,pos:=pos,after:=after,guard:=none}::rest)):=St.ev v a hd h
theorem Sq.ee {T:Act→Prop}(a:Ev P n F A op ty v)(h:Sq n ((d,v)::F) (wpQuiet P ops A T rest))(hd:Nat.ble (d+1) n=true:=by rfl):Sq n F (wpQuiet P ops A T ({dst:=some d,op:=op,type:=ty,pos:=pos,after:=after,guard:=none}::rest)):=Sq.ev v a hd h
theorem St.sA {b m:Nat}{L L':List Value}[tk:l3 b H (.cells L.toArray t (0,0)) R](hx:ai F x (.pointer (some ⟨b,0,none⟩)))(hy:ai F y (.agg L'.toArray))(a:(P.info? e).map (·.size)=some m)(h:St n F (Mm c (aW b (.cells L'.toArray t (0,0))::R)) (wpList P ops Q rest))
 (hm:m=L'.length:=by rfl) (d:L.length=L'.length:=by first|simp only[List.length_cons,List.length_nil]|rfl) (h1:L'.all (·.oneCell')=true:=by rfl):
 St n F (Mm c H) (wpList P ops Q ({dst:=none,op:= .store e x y,type:=ty,pos:=pos,after:=after,guard:=none}::rest)):=St.PV hx hy (by rw[a,hm]) d h1 h
theorem ab.cc {dr:Prop}{bs l:List uc}{slot:Nat}{gb:List Nat}{K:Value→du}{o:Oper}{m:List Oper}(a:(Nat→Value)→Fr)(L:(Nat→Value)→List ak)(h:∀(c:Ctx) (e:Nat→Value),(¬dr→¬c.dr)→St n (a e++F) (Mm c (L e++H)) (wpList P ops (Exit.then (ql c H slot K) Q) [o]))(k:ab P ops Q n F dr H bs l m)(h1:∀e,uq bs e gb=a e:=by exact λ_=>rfl)(b:∀e,pe bs e gb=L e:=by exact λ_=>rfl):ab P ops Q n F dr H bs (⟨slot,gb,K⟩::l) (o::m):=⟨VS.mk a L h1 b h,k⟩
theorem ab.c0 {dr:Prop}{bs l:List uc}{slot:Nat}{gb:List Nat}{K:Value→du}{o:Oper}{m:List Oper}(h:∀(c:Ctx) (e:Nat→Value),(¬dr→¬c.dr)→St n ((λe=>[]) e++F) (Mm c ((λe=>[]) e++H)) (wpList P ops (Exit.then (ql c H slot K) Q) [o]))(k:ab P ops Q n F dr H bs l m)(h1:∀e,uq bs e gb=(λe=>[]) e:=by exact λ_=>rfl)(a:∀e,pe bs e gb=(λe=>[]) e:=by exact λ_=>rfl):ab P ops Q n F dr H bs (⟨slot,gb,K⟩::l) (o::m):=⟨VS.mk (λe=>[]) (λe=>[]) h1 a h,k⟩
theorem St.rT {fn:Func}{post:Value→List ak→Prop}{a:List ResultVar}(vs:List Value)(H':List ak)(b:fn.results=a.toArray)(d:Qt P F H a vs)(hp:post (Hq vs) H')(hH:∀w,Mm c H w→Mm c H' w:=by exact λ_ hw=>hw.sub):
 St n F (Mm c H) (bodyPost P fn (λe w'=>∃v H',e= .returned v∧post v H'∧Mm c H' w') .ret):=St.DR vs H' b d hp hH
theorem St.rU {fn:Func}{post:Value→List ak→Prop}{a:List ResultVar}(vs:List Value)(H':List ak)(b:fn.results=a.toArray)(hp:post (Hq vs) H')(d:Qt P F H a vs:=by first|exact⟨rfl,trivial⟩|exact⟨⟨_,_,_,_,rfl,B8.mem,.inl ⟨⟨_,f⟩,g,rfl⟩⟩,trivial⟩)(hH:∀w,Mm c H w→Mm c H' w:=by exact λ_ hw=>hw.sub):
 St n F (Mm c H) (bodyPost P fn (λe w'=>∃v H',e= .returned v∧post v H'∧Mm c H' w') .ret):=St.DR vs H' b d hp hH
theorem St.sr {id:Nat}{l:List Oper}{y:Code}(h:St n F A (wpList P l.toArray (Exit.then (y.wp P Q) Q) l)):St n F A ((Code.seq (Code.region id l.toArray false) y).wp P Q):=St.seq (St.rg h)
theorem St.tn {ι κ:Type}{body:Code}(G:ι→κ→Fr→Fr)(a:ι→κ→List ak)(φ:ι→κ→Prop)(μ:ι→κ→Nat)(b:ι)(d:κ)(hk:aD F F0)(e:φ b d)
 (round:∀x z,φ x z→St n (G x z F0) (Mm c (a x z)) (body.wp P (Exit.then (CK n G F0 φ μ c a (μ x z)) Q))) (f:Sub (G b d F0) F:=by repeat(first|exact Sub.nil|refine Sub.cons (by first|rfl|exact congrArg (λz=>some (iv z)) (by first|omega|(dsimp only;omega))|exact congrArg (λz=>some (Value.bool z)) (by first|assumption|exact iZ (by assumption))) ?_)) (hH:∀w,Mm c H w→Mm c (a b d) w:=by exact λ_ hw=>hw.sub):
 St n F (Mm c H) ((Code.loop body).wp P Q):=St.XM G a φ μ b d hk e f hH round
theorem St.lH {ι:Type}{body:Code}(G:ι→Fr→Fr)(a:ι→List ak)(φ:ι→Prop)(μ:ι→Nat)(b:ι)(hk:aD F F0)(d:φ b)
 (round:∀x,φ x→St n (G x F0) (Mm c (a x)) (body.wp P (Exit.then (wH n G F0 φ μ c a (μ x)) Q))) (e:Sub (G b F0) F:=by repeat(first|exact Sub.nil|refine Sub.cons (by first|rfl|exact congrArg (λz=>some (iv z)) (by first|omega|(dsimp only;omega))|exact congrArg (λz=>some (Value.bool z)) (by first|assumption|exact iZ (by assumption))) ?_)) (hH:∀w,Mm c H w→Mm c (a b) w:=by exact λ_ hw=>hw.sub):
 St n F (Mm c H) ((Code.loop body).wp P Q):=St.Er G a φ μ b hk d e hH round
theorem St.lS {ι:Type}{body:Code}(G:ι→Fr→Fr)(φ:ι→Prop)(μ:ι→Nat)(a:ι)(hk:aD F F0)(b:φ a)
 (round:∀x,φ x→St n (G x F0) (Mm c H) (body.wp P (Exit.then (wH n G F0 φ μ c (λ_=>H) (μ x)) Q))) (d:Sub (G a F0) F:=by repeat(first|exact Sub.nil|refine Sub.cons (by first|rfl|exact congrArg (λz=>some (iv z)) (by first|omega|(dsimp only;omega))|exact congrArg (λz=>some (Value.bool z)) (by first|assumption|exact iZ (by assumption))) ?_)):
 St n F (Mm c H) ((Code.loop body).wp P Q):=St.aeG G φ μ a hk b d round
theorem St.uk {ι κ:Type}{G:ι→κ→Fr→Fr}{a:ι→κ→List ak}{φ:ι→κ→Prop}{μ:ι→κ→Nat}{k:Nat}(y:ι)(z:κ)(b:φ y z)(hm:μ y z<k:=by first|omega|(dsimp only;omega))(d:Sub (G y z F0) F:=by repeat(first|exact Sub.nil|refine Sub.cons (by first|rfl|exact congrArg (λz=>some (iv z)) (by first|omega|(dsimp only;omega))|exact congrArg (λz=>some (Value.bool z)) (by first|assumption|exact iZ (by assumption))) ?_))(e:∀w,Mm c H w→Mm c (a y z) w:=by exact λ_ hw=>hw.sub):
 St n F (Mm c H) (CK n G F0 φ μ c a k):=St.nI y z b hm d e
theorem St.aH {ι:Type}{G:ι→Fr→Fr}{a:ι→List ak}{φ:ι→Prop}{μ:ι→Nat}{k:Nat}(y:ι)(b:φ y)(hm:μ y<k:=by first|omega|(dsimp only;omega))(d:Sub (G y F0) F:=by repeat(first|exact Sub.nil|refine Sub.cons (by first|rfl|exact congrArg (λz=>some (iv z)) (by first|omega|(dsimp only;omega))|exact congrArg (λz=>some (Value.bool z)) (by first|assumption|exact iZ (by assumption))) ?_))(e:∀w,Mm c H w→Mm c (a y) w:=by exact λ_ hw=>hw.sub):
 St n F (Mm c H) (wH n G F0 φ μ c a k):=St.sL y b hm d e
theorem St.aS {ι:Type}{G:ι→Fr→Fr}{φ:ι→Prop}{μ:ι→Nat}{k:Nat}{H':List ak}(y:ι)(a:φ y)(hm:μ y<k:=by first|omega|(dsimp only;omega))(b:Sub (G y F0) F:=by repeat(first|exact Sub.nil|refine Sub.cons (by first|rfl|exact congrArg (λz=>some (iv z)) (by first|omega|(dsimp only;omega))|exact congrArg (λz=>some (Value.bool z)) (by first|assumption|exact iZ (by assumption))) ?_))(d:∀w,Mm c H w→Mm c H' w:=by exact λ_ hw=>hw.sub):
 St n F (Mm c H) (wH n G F0 φ μ c (λ_=>H') k):=St.Ge y a hm b d
theorem St.mE {ι:Type}{G:ι→Fr→Fr}{a:ι→List ak}{φ:ι→Prop}(y:ι)(b:φ y)(d:Sub (G y F0) F:=by repeat(first|exact Sub.nil|refine Sub.cons (by first|rfl|exact congrArg (λz=>some (iv z)) (by first|omega|(dsimp only;omega))|exact congrArg (λz=>some (Value.bool z)) (by first|assumption|exact iZ (by assumption))) ?_))(e:∀w,Mm c H w→Mm c (a y) w:=by exact λ_ hw=>hw.sub):
 St n F (Mm c H) (Met n G F0 φ c a):=St.met y b d e
theorem Ev.l0 {b off:Nat}{fr:Nat×Nat}{d:TypeDesc}{u:Value}{L:List Value}[f:B8 b H (.cells L.toArray e fr)](hx:ai F x (.pointer (some ⟨b,off,none⟩)))(ht:P.underlying t=some d)(a:(match d with| .struct _| .array _ _=>False|_=>True):=by trivial)
 (hu:L[off]?=some u:=by rfl):Ev P n F (Mm c H) (.load t x) ty u:=Ev.ke hx ht a hu
theorem Ev.o0 {p q:Bool}(hx:ai F x (.bool p):=by exact .mk rfl)(hy:(!p)=true→ai F y (.bool q):=by exact λhp=>ai.gv rfl hp):Ev P n F A (.pick x (.const (.bool true)) y) ty (.bool (p||q)):=Ev.or hx hy
theorem Ev.n0 {p q:Bool}(hx:ai F x (.bool p):=by exact .mk rfl)(hy:p=true→ai F y (.bool q):=by exact λhp=>ai.gv rfl hp):Ev P n F A (.pick x y (.const (.bool false))) ty (.bool (p&&q)):=Ev.and hx hy
theorem Ev.a0 (hx:ai F x (iv i):=by exact .mk rfl)(hy:ai F y (iv j):=by exact .mk rfl)(h: -9223372036854775808≤i+j∧i+j≤9223372036854775807:=by omega):Ev P n F A (.binOp .add t x y u) ty (iv (i+j)):=Ev.add hx hy h
theorem Ev.s0 (hx:ai F x (iv i):=by exact .mk rfl)(hy:ai F y (iv j):=by exact .mk rfl)(h: -9223372036854775808≤i-j∧i-j≤9223372036854775807:=by omega):Ev P n F A (.binOp .sub t x y u) ty (iv (i-j)):=Ev.sub hx hy h
theorem Ev.lt0 (hx:ai F x (.int k i):=by exact .mk rfl)(hy:ai F y (.int k j):=by exact .mk rfl):Ev P n F A (.binOp .lss t x y u) ty (.bool (decide (i<j))):=Ev.lss hx hy
theorem Ev.eq0 (hx:ai F x (.int k i):=by exact .mk rfl)(hy:ai F y (.int k j):=by exact .mk rfl):Ev P n F A (.binOp .eql t x y u) ty (.bool (decide (i=j))):=Ev.eql hx hy
theorem Ev.ne0 (hx:ai F x (.int k i):=by exact .mk rfl)(hy:ai F y (.int k j):=by exact .mk rfl):Ev P n F A (.binOp .neq t x y u) ty (.bool (!decide (i=j))):=Ev.neq hx hy
theorem Ev.gt0 (hx:ai F x (.int k i):=by exact .mk rfl)(hy:ai F y (.int k j):=by exact .mk rfl):Ev P n F A (.binOp .gtr t x y u) ty (.bool (decide (j<i))):=Ev.gtr hx hy
theorem Ev.ge0 (hx:ai F x (.int k i):=by exact .mk rfl)(hy:ai F y (.int k j):=by exact .mk rfl):Ev P n F A (.binOp .geq t x y u) ty (.bool (decide (j≤i))):=Ev.geq hx hy
theorem Ev.le0 (hx:ai F x (.int k i):=by exact .mk rfl)(hy:ai F y (.int k j):=by exact .mk rfl):Ev P n F A (.binOp .leq t x y u) ty (.bool (decide (i≤j))):=Ev.leq hx hy
theorem St.nn {K:Act→World→Prop}(h:St n F A K):St n F A (wpList P ops (Exit.then K Q) []):=h
theorem St.dup (d:du){T:Act→World→Prop}[hd:kX [d] H](k:St n F (Mm c (aB d::H)) T):St n F (Mm c H) T:=St.eZ d [d] (λρ h=>h _ (aQ ..)) k
end
section
variable {P:Program}{ops:Array Oper}{Q:Exit→Act→World→Prop}{n:Nat}{F:Fr}{c:Ctx}{H Fp r r' C':List ak}{f:Nat}{listed:Array Bool}{d:Nat}{op:Op}{ty:TypeId}{pos:String}{after:Array Edge}{v:Value}
theorem SW.dd (i:Nat)(a:ops[i]?=some {dst:=some d,op:=op,type:=ty,pos:=pos,after:=after,guard:=none})(b:∀R,Ev P n F (Mm c (Fp++R)) op ty v)(h:SW P ops Q n ((d,v)::F) c Fp r f (listed.setIfInBounds i true))
 (e:NP Q:=by assumption) (g:Region.noSelect ops=true:=by assumption) (j:((Region.ready .any ops listed).contains i&&Region.free .any ops listed i)=true:=by decide+kernel) (hd:Nat.ble (d+1) n=true:=by rfl):SW P ops Q n F c Fp r (f+1) listed:=SW.defer i e g a b j hd h
end
end Go.J
namespace Go.Proofs
open Tryz
theorem Yf:type_of% @underlying0:=underlying0
theorem gV:type_of% @underlying3:=underlying3
theorem IL:type_of% @underlying4:=underlying4
theorem GP:type_of% @underlying5:=underlying5
theorem xQ:type_of% @underlying9:=underlying9
theorem vy:type_of% @underlying22:=underlying22
theorem G7:type_of% @underlying23:=underlying23
theorem Pu:type_of% @underlying26:=underlying26
theorem IK:type_of% @underlying27:=underlying27
theorem oa:type_of% @underlying28:=underlying28
theorem mo:type_of% @underlying30:=underlying30
theorem Y2:type_of% @underlying32:=underlying32
theorem pM:type_of% @underlying33:=underlying33
theorem Lm:type_of% @underlying35:=underlying35
theorem A4:type_of% @underlying44:=underlying44
theorem sf:type_of% @underlying49:=underlying49
theorem bJ:type_of% @underlying58:=underlying58
theorem IM:type_of% @underlying69:=underlying69
theorem IP:type_of% @underlying71:=underlying71
theorem Ln:type_of% @underlying84:=underlying84
theorem wA:type_of% @underlying98:=underlying98
theorem wc:type_of% @underlying100:=underlying100
theorem pZ:type_of% @underlying102:=underlying102
theorem j2:type_of% @underlying103:=underlying103
theorem lg:type_of% @underlying105:=underlying105
theorem iE:type_of% @underlying106:=underlying106
theorem lh:type_of% @underlying108:=underlying108
theorem uS:type_of% @underlying110:=underlying110
theorem A2:type_of% @underlying115:=underlying115
theorem nY:type_of% @underlying118:=underlying118
theorem fK:type_of% @underlying138:=underlying138
theorem Jw:type_of% @underlying156:=underlying156
theorem lj:type_of% @underlying157:=underlying157
theorem eV:type_of% @underlying161:=underlying161
theorem we:type_of% @underlying163:=underlying163
theorem lE:type_of% @underlying165:=underlying165
theorem jj:type_of% @underlying171:=underlying171
theorem Bw:type_of% @underlying177:=underlying177
theorem G6:type_of% @underlying183:=underlying183
theorem uT:type_of% @underlying184:=underlying184
theorem oZ:type_of% @underlying190:=underlying190
theorem iY:type_of% @underlying192:=underlying192
theorem uU:type_of% @underlying196:=underlying196
theorem Bx:type_of% @underlying218:=underlying218
theorem Bz:type_of% @underlying232:=underlying232
theorem A3:type_of% @underlying234:=underlying234
theorem C0:type_of% @underlying243:=underlying243
theorem wg:type_of% @underlying271:=underlying271
end Go.Proofs
namespace Go.J
open Go
class UT (P:Program)(t:TypeId)(d:outParam TypeDesc):Prop where h:P.underlying t=some d
class pd (P:Program)(t:TypeId)(m:outParam Nat):Prop where h:(P.info? t).map (·.size)=some m
class gp (P:Program)(s i:Nat)(o:outParam Nat):Prop where h:bf P s i=some o
class rI (P:Program)(t:TypeId)(Z:outParam (Array Value)):Prop where h:(P.info? t).bind (λi=>i.zero.map Value.cells)=some Z
class oq (v:Value):Prop where h:v.oneCell'=true
instance oq.sub (u:aV):oq u.1:=⟨u.2⟩
instance oq.int (k:IntKind)(i:Int):oq (.int k i):=⟨rfl⟩
instance oq.bool (b:Bool):oq (.bool b):=⟨rfl⟩
instance oq.str (s:ByteArray):oq (.string s):=⟨rfl⟩
instance oq.sv (s:ax):oq (sv s):=⟨rfl⟩
instance oq.sl (a:Option Addr)(m c:Nat):oq (.slice a m c):=⟨rfl⟩
instance oq.ptr (a:Option Addr):oq (.pointer a):=⟨rfl⟩
instance oq.map (a:Option Nat):oq (.map a):=⟨rfl⟩
instance oq.fn (f:Fn)(a c:Array Value):oq (.func f a c):=⟨rfl⟩
class KN (L:List Value):Prop where h:L.all (·.oneCell')=true
instance KN.nil:KN []:=⟨rfl⟩
instance KN.cons (v:Value)(L:List Value)[a:oq v][b:KN L]:KN (v::L):=⟨by rw[List.all_cons,a.h,b.h];rfl⟩
section
variable {P:Program}{n:Nat}{F F0:Fr}{A:World→Prop}{c:Ctx}{H R:List ak}{ty:TypeId}{x y:Operand}{v:Value}{Q:Exit→Act→World→Prop}{ops:Array Oper}{rest:List Oper}{d:Nat}{pos:String}{after:Array Edge}{op:Op}{t u e s:TypeId}{i j:Int}{k:IntKind}
variable {b off:Nat}{L:List Value}{fr:Nat×Nat}{dd:TypeDesc}{α:Type}{Rr:Rp α}{xs:List α}
theorem Ev.g0 [d:B8 b H (.cells L.toArray e fr)][ut:UT P t dd](hx:ai F x (.pointer (some ⟨b,off,none⟩)))(a:(match dd with| .struct _| .array _ _=>False|_=>True):=by exact True.intro)(hu:L[off]?=some v:=by rfl):Ev P n F (Mm c H) (.load t x) ty v:=Ev.ke hx ut.h (by cases dd<;>exact a) hu
theorem Ev.gA [d:B8 b H (.cells L.toArray e fr)][ut:UT P t dd]{m:Nat}[sz:pd P t m](hx:ai F x (.pointer (some ⟨b,0,none⟩)))(a:(match dd with| .struct _| .array _ _=>True|_=>False):=by exact True.intro)(hm:m=L.length:=by rfl):Ev P n F (Mm c H) (.load t x) ty (.agg L.toArray):=Ev.XC hx ut.h (by cases dd<;>exact a) (by rw[sz.h,hm])
theorem Ev.gF {o q:Nat}[a:gp P s q o](hx:ai F x (.pointer (some ⟨b,off,none⟩))):Ev P n F A (.fieldAddr s x q) ty (.pointer (some ⟨b,off+o,none⟩)):=Ev.WI hx a.h
theorem Ev.gF0 {o q:Nat}[a:gp P s q o](hx:ai F x (.pointer (some ⟨b,0,none⟩))):Ev P n F A (.fieldAddr s x q) ty (.pointer (some ⟨b,o,none⟩)):=Ev.da hx a.h
theorem Ev.gE {o q m:Nat}[hd:sH v H α Rr xs][a:gp P s q o](hx:ai F x (cZ v Rr.size m off))(hk:m<xs.length:=by omega):Ev P n F (Mm c H) (.fieldAddr s x q) ty (cZ v Rr.size m (off+o)):=Ev.UY hx hk a.h
theorem Ev.gR {o q m k sz:Nat}{cs:List Value}[b:xB v H e sz m cs][a:gp P s q o](hx:ai F x (cZ v sz k off))(hk:k<m:=by omega):Ev P n F (Mm c H) (.fieldAddr s x q) ty (cZ v sz k (off+o)):=Ev.WJ hx hk a.h
theorem Ev.gL [hd:sH v H α Rr xs][ut:UT P t (.slice e)](hx:ai F x v):Ev P n F (Mm c H) (.call {callee:= .builtin .len,args:= #[x],argTypes:= #[t]}) ty (iv xs.length):=Ev.fk hx ut.h
theorem Ev.gM {sz m:Nat}{cs:List Value}[a:xB v H e sz m cs][ut:UT P t (.slice s)](hx:ai F x v):Ev P n F (Mm c H) (.call {callee:= .builtin .len,args:= #[x],argTypes:= #[t]}) ty (iv m):=Ev.XI hx ut.h
theorem Ev.gS {s:ax}[ut:UT P t .string](hx:ai F x (sv s)):Ev P n F A (.call {callee:= .builtin .len,args:= #[x],argTypes:= #[t]}) ty (iv s.length):=Ev.O8 hx ut.h
theorem Ev.g1 {m:Nat}{z:α}[hd:sH v H α Rr xs][ut:UT P t dd]{u:Value}(hx:ai F x (cZ v Rr.size m off))(hk:xs[m]?=some z:=by assumption)(a:(match dd with| .struct _| .array _ _=>False|_=>True):=by exact True.intro)(hu:(Rr.cells z)[off]?=some u:=by rfl):Ev P n F (Mm c H) (.load t x) ty u:=Ev.ld1 hx hk ut.h (by cases dd<;>exact a) hu
theorem Ev.gI {m:Nat}{kd:IntKind}[hd:sH v H α Rr xs][ut:UT P t (.slice e)]{z:Nat}[sz:pd P e z](hx:ai F x v)(hy:ai F y (.int kd (m:Nat)))(hz:z=Rr.size:=by rfl)(hk:m<xs.length:=by omega):Ev P n F (Mm c H) (.indexAddr t x y) ty (cZ v Rr.size m 0):=Ev.cM hx hy ut.h (by rw[sz.h,hz]) rfl hk
theorem Ev.gJ {m q sz:Nat}{kd:IntKind}{cs:List Value}[b:xB v H s sz m cs][ut:UT P t (.slice e)]{z:Nat}[a:pd P e z](hx:ai F x v)(hy:ai F y (.int kd (q:Nat)))(hz:z=sz:=by rfl)(he:s=e:=by rfl)(hk:q<m:=by omega):Ev P n F (Mm c H) (.indexAddr t x y) ty (cZ v sz q 0):=by
 subst he;exact Ev.dZ hx hy ut.h (by rw[a.h,hz]) rfl hk
theorem Ev.gC {u:Value}[d:rY b H u][ut:UT P t dd](hx:ai F x (.pointer (some ⟨b,0,none⟩)))(a:(match dd with| .struct _| .array _ _=>False|_=>True):=by exact True.intro):Ev P n F (Mm c H) (.load t x) ty u:=Ev.ad7 hx ut.h (by cases dd<;>exact a)
theorem Ev.iM (h:Ev P n F A (.move x) ty v):Ev P n F A (.move x) ty v:=h
theorem Ev.iA (h:Ev P n F A (.assign x) ty v):Ev P n F A (.assign x) ty v:=h
theorem Ev.iF {q:Nat}(h:Ev P n F A (.fieldAddr s x q) ty v):Ev P n F A (.fieldAddr s x q) ty v:=h
theorem Ev.iL (h:Ev P n F A (.load t x) ty v):Ev P n F A (.load t x) ty v:=h
theorem Ev.iB {o:BinOp}(h:Ev P n F A (.binOp o t x y u) ty v):Ev P n F A (.binOp o t x y u) ty v:=h
theorem Ev.iC {a:Builtin}{az:Array Operand}{b:Array TypeId}(h:Ev P n F A (.call {callee:= .builtin a,args:=az,argTypes:=b}) ty v):Ev P n F A (.call {callee:= .builtin a,args:=az,argTypes:=b}) ty v:=h
theorem Ev.iI (h:Ev P n F A (.indexAddr t x y) ty v):Ev P n F A (.indexAddr t x y) ty v:=h
theorem Ev.go (h:Ev P n F A op ty v:=by
 first
 |with_reducible apply Ev.iM
  exact Ev.move (.mk rfl)
 |with_reducible apply Ev.iA
  exact Ev.assign (.mk rfl)
 |with_reducible apply Ev.iF
  first
  |exact Ev.gF0 (.mk rfl)
  |exact Ev.gE (.mk rfl)
  |exact Ev.gF (.mk rfl)
  |exact Ev.gR (.mk rfl)
 |with_reducible apply Ev.iL
  first
  |exact Ev.g0 (.mk rfl)
  |exact Ev.gA (.mk rfl)
  |exact Ev.g1 (.mk rfl)
  |exact Ev.gC (.mk rfl)
 |with_reducible apply Ev.iB
  first
  |exact Ev.lt0
  |exact Ev.a0
  |exact Ev.eq0
  |exact Ev.ne0
  |exact Ev.gt0
  |exact Ev.ge0
  |exact Ev.le0
  |exact Ev.s0
  |exact Ev.PY (.mk rfl) (.mk rfl)
  |exact Ev.ae9 (.mk rfl) (.mk rfl)
 |with_reducible apply Ev.iC
  first
  |exact Ev.gL (.mk rfl)
  |exact Ev.gM (.mk rfl)
  |exact Ev.gS (.mk rfl)
 |with_reducible apply Ev.iI
  first
  |exact Ev.gI (.mk rfl) (.mk rfl)
  |exact Ev.gJ (.mk rfl) (.mk rfl)
 |exact Ev.extract (.mk rfl) rfl
 |exact Ev.not (.mk rfl)
 |exact Ev.o0
 |exact Ev.n0
 |exact Ev.alM (.mk rfl)):Ev P n F A op ty v:=h
theorem St.oo {b m:Nat}{L L':List Value}[tk:l3 b H (.cells L.toArray t (0,0)) R][sz:pd P e m](hx:ai F x (.pointer (some ⟨b,0,none⟩)))(hy:ai F y (.agg L'.toArray))[o:KN L'](h:St n F (Mm c (aW b (.cells L'.toArray t (0,0))::R)) (wpList P ops Q rest))
 (hm:m=L'.length:=by rfl) (a:L.length=L'.length:=by first|simp only[List.length_cons,List.length_nil]|rfl):
 St n F (Mm c H) (wpList P ops Q ({dst:=none,op:= .store e x y,type:=ty,pos:=pos,after:=after,guard:=none}::rest)):=St.PV hx hy (by rw[sz.h,hm]) a o.h h
theorem St.al {Z:Array Value}[a:rI P t Z](h:∀b,St n ((d,.pointer (some ⟨b,0,none⟩))::F) (Mm c (aW b (.cells Z t (0,0))::H)) (wpList P ops Q rest))(hd:Nat.ble (d+1) n=true:=by rfl):
 St n F (Mm c H) (wpList P ops Q ({dst:=some d,op:= .alloc t,type:=ty,pos:=pos,after:=after,guard:=none}::rest)):=St.alloc a.h hd h
theorem F1 {p q:Prop}(h:p→q:=by
 first
 |with_reducible exact St.nil
 |with_reducible exact St.wa
 |with_reducible exact St.seq
 |with_reducible exact St.rg
 |with_reducible exact St.block
 |with_reducible exact St.skip
 |with_reducible exact St.Ky
 |with_reducible exact St.alW
 |with_reducible exact St.Pk
 |with_reducible exact St.Wy
 |with_reducible exact St.exit
 |with_reducible exact St.Lk
 |with_reducible exact St.Wx
 |with_reducible exact Sq.nil
 |with_reducible exact Sq.tail
 |exact λh=>St.ee Ev.go h
 |exact λh=>Sq.ee Ev.go h
 |exact λh=>St.oo (.mk rfl) (.mk rfl) h
 |exact St.Se rfl):p→q:=h
theorem go {p q:Prop}(hp:p)(h:p→q:=by exact F1):q:=h hp
theorem F2 {p q r:Prop}(b:q→r:=by exact F1)(a:p→q:=by exact F1):p→r:=λh=>b (a h)
theorem F3 {p q r:Prop}(b:q→r:=by exact F1)(a:p→q:=by exact F2):p→r:=λh=>b (a h)
theorem F4 {p q r:Prop}(b:q→r:=by exact F2)(a:p→q:=by exact F2):p→r:=λh=>b (a h)
theorem F5 {p q r:Prop}(b:q→r:=by exact F2)(a:p→q:=by exact F3):p→r:=λh=>b (a h)
theorem F6 {p q r:Prop}(b:q→r:=by exact F3)(a:p→q:=by exact F3):p→r:=λh=>b (a h)
theorem F7 {p q r:Prop}(b:q→r:=by exact F3)(a:p→q:=by exact F4):p→r:=λh=>b (a h)
theorem F8 {p q r:Prop}(b:q→r:=by exact F4)(a:p→q:=by exact F4):p→r:=λh=>b (a h)
theorem F9 {p q r:Prop}(b:q→r:=by exact F4)(a:p→q:=by exact F5):p→r:=λh=>b (a h)
theorem Yk {p q r:Prop}(b:q→r:=by exact F5)(a:p→q:=by exact F5):p→r:=λh=>b (a h)
theorem Yl {p q r:Prop}(b:q→r:=by exact F5)(a:p→q:=by exact F6):p→r:=λh=>b (a h)
theorem Ym {p q r:Prop}(b:q→r:=by exact F6)(a:p→q:=by exact F6):p→r:=λh=>b (a h)
theorem Yn {p q r:Prop}(b:q→r:=by exact F6)(a:p→q:=by exact F7):p→r:=λh=>b (a h)
theorem Yo {p q r:Prop}(b:q→r:=by exact F7)(a:p→q:=by exact F7):p→r:=λh=>b (a h)
theorem F15 {p q r:Prop}(b:q→r:=by exact F7)(a:p→q:=by exact F8):p→r:=λh=>b (a h)
theorem F16 {p q r:Prop}(b:q→r:=by exact F8)(a:p→q:=by exact F8):p→r:=λh=>b (a h)
theorem F17 {p q r:Prop}(b:q→r:=by exact F8)(a:p→q:=by exact F9):p→r:=λh=>b (a h)
theorem F18 {p q r:Prop}(b:q→r:=by exact F9)(a:p→q:=by exact F9):p→r:=λh=>b (a h)
theorem F19 {p q r:Prop}(b:q→r:=by exact F9)(a:p→q:=by exact Yk):p→r:=λh=>b (a h)
theorem F20 {p q r:Prop}(b:q→r:=by exact Yk)(a:p→q:=by exact Yk):p→r:=λh=>b (a h)
theorem F21 {p q r:Prop}(b:q→r:=by exact Yk)(a:p→q:=by exact Yl):p→r:=λh=>b (a h)
theorem F22 {p q r:Prop}(b:q→r:=by exact Yl)(a:p→q:=by exact Yl):p→r:=λh=>b (a h)
theorem F23 {p q r:Prop}(b:q→r:=by exact Yl)(a:p→q:=by exact Ym):p→r:=λh=>b (a h)
theorem F24 {p q r:Prop}(b:q→r:=by exact Ym)(a:p→q:=by exact Ym):p→r:=λh=>b (a h)
theorem F25 {p q r:Prop}(b:q→r:=by exact Ym)(a:p→q:=by exact Yn):p→r:=λh=>b (a h)
theorem F26 {p q r:Prop}(b:q→r:=by exact Yn)(a:p→q:=by exact Yn):p→r:=λh=>b (a h)
theorem F27 {p q r:Prop}(b:q→r:=by exact Yn)(a:p→q:=by exact Yo):p→r:=λh=>b (a h)
theorem F28 {p q r:Prop}(b:q→r:=by exact Yo)(a:p→q:=by exact Yo):p→r:=λh=>b (a h)
theorem F29 {p q r:Prop}(b:q→r:=by exact Yo)(a:p→q:=by exact F15):p→r:=λh=>b (a h)
theorem F30 {p q r:Prop}(b:q→r:=by exact F15)(a:p→q:=by exact F15):p→r:=λh=>b (a h)
theorem g2 {p q:Prop}(hp:p)(h:p→q:=by exact F2):q:=h hp
theorem g3 {p q:Prop}(hp:p)(h:p→q:=by exact F3):q:=h hp
theorem g4 {p q:Prop}(hp:p)(h:p→q:=by exact F4):q:=h hp
theorem g5 {p q:Prop}(hp:p)(h:p→q:=by exact F5):q:=h hp
theorem g6 {p q:Prop}(hp:p)(h:p→q:=by exact F6):q:=h hp
theorem g7 {p q:Prop}(hp:p)(h:p→q:=by exact F7):q:=h hp
theorem g8 {p q:Prop}(hp:p)(h:p→q:=by exact F8):q:=h hp
theorem g9 {p q:Prop}(hp:p)(h:p→q:=by exact F9):q:=h hp
theorem g10 {p q:Prop}(hp:p)(h:p→q:=by exact Yk):q:=h hp
theorem g11 {p q:Prop}(hp:p)(h:p→q:=by exact Yl):q:=h hp
theorem g12 {p q:Prop}(hp:p)(h:p→q:=by exact Ym):q:=h hp
theorem g13 {p q:Prop}(hp:p)(h:p→q:=by exact Yn):q:=h hp
theorem g14 {p q:Prop}(hp:p)(h:p→q:=by exact Yo):q:=h hp
theorem g15 {p q:Prop}(hp:p)(h:p→q:=by exact F15):q:=h hp
theorem g16 {p q:Prop}(hp:p)(h:p→q:=by exact F16):q:=h hp
theorem g17 {p q:Prop}(hp:p)(h:p→q:=by exact F17):q:=h hp
theorem g18 {p q:Prop}(hp:p)(h:p→q:=by exact F18):q:=h hp
theorem g19 {p q:Prop}(hp:p)(h:p→q:=by exact F19):q:=h hp
theorem g20 {p q:Prop}(hp:p)(h:p→q:=by exact F20):q:=h hp
theorem g21 {p q:Prop}(hp:p)(h:p→q:=by exact F21):q:=h hp
theorem g22 {p q:Prop}(hp:p)(h:p→q:=by exact F22):q:=h hp
theorem g23 {p q:Prop}(hp:p)(h:p→q:=by exact F23):q:=h hp
theorem g24 {p q:Prop}(hp:p)(h:p→q:=by exact F24):q:=h hp
theorem g25 {p q:Prop}(hp:p)(h:p→q:=by exact F25):q:=h hp
theorem g26 {p q:Prop}(hp:p)(h:p→q:=by exact F26):q:=h hp
theorem g27 {p q:Prop}(hp:p)(h:p→q:=by exact F27):q:=h hp
theorem g28 {p q:Prop}(hp:p)(h:p→q:=by exact F28):q:=h hp
theorem g29 {p q:Prop}(hp:p)(h:p→q:=by exact F29):q:=h hp
theorem g30 {p q:Prop}(hp:p)(h:p→q:=by exact F30):q:=h hp
theorem bF.au {F:Fr}{x0:Operand}{v0:Value}(a:vl F x0=some v0):bF F [x0] [v0]:= .cons (.mk a) .nil
theorem bF.aX {F:Fr}{x0 a:Operand}{v0 v1:Value}(b:vl F x0=some v0)(h1:vl F a=some v1):bF F [x0,a] [v0,v1]:= .cons (.mk b) (.cons (.mk h1) .nil)
theorem bF.ej {F:Fr}{x0 a b:Operand}{v0 v1 v2:Value}(c:vl F x0=some v0)(h1:vl F a=some v1)(d:vl F b=some v2):bF F [x0,a,b] [v0,v1,v2]:= .cons (.mk c) (.cons (.mk h1) (.cons (.mk d) .nil))
theorem bF.gU {F:Fr}{x0 a b x3:Operand}{v0 v1 v2 v3:Value}(c:vl F x0=some v0)(h1:vl F a=some v1)(d:vl F b=some v2)(e:vl F x3=some v3):bF F [x0,a,b,x3] [v0,v1,v2,v3]:= .cons (.mk c) (.cons (.mk h1) (.cons (.mk d) (.cons (.mk e) .nil)))
theorem bF.Au {F:Fr}{x0 a b x3 c:Operand}{v0 v1 v2 v3 v4:Value}(d:vl F x0=some v0)(h1:vl F a=some v1)(e:vl F b=some v2)(f:vl F x3=some v3)(g:vl F c=some v4):bF F [x0,a,b,x3,c] [v0,v1,v2,v3,v4]:= .cons (.mk d) (.cons (.mk h1) (.cons (.mk e) (.cons (.mk f) (.cons (.mk g) .nil))))
theorem bF.XV {F:Fr}{x0 a b x3 c d:Operand}{v0 v1 v2 v3 v4 v5:Value}(e:vl F x0=some v0)(h1:vl F a=some v1)(f:vl F b=some v2)(g:vl F x3=some v3)(h:vl F c=some v4)(i:vl F d=some v5):bF F [x0,a,b,x3,c,d] [v0,v1,v2,v3,v4,v5]:= .cons (.mk e) (.cons (.mk h1) (.cons (.mk f) (.cons (.mk g) (.cons (.mk h) (.cons (.mk i) .nil)))))
theorem bF.aeM {F:Fr}{x0 a b x3 c d e:Operand}{v0 v1 v2 v3 v4 v5 v6:Value}(f:vl F x0=some v0)(h1:vl F a=some v1)(g:vl F b=some v2)(h:vl F x3=some v3)(i:vl F c=some v4)(j:vl F d=some v5)(k:vl F e=some v6):bF F [x0,a,b,x3,c,d,e] [v0,v1,v2,v3,v4,v5,v6]:= .cons (.mk f) (.cons (.mk h1) (.cons (.mk g) (.cons (.mk h) (.cons (.mk i) (.cons (.mk j) (.cons (.mk k) .nil))))))
theorem bF.alR {F:Fr}{x0 a b x3 c d e f:Operand}{v0 v1 v2 v3 v4 v5 v6 g:Value}(h:vl F x0=some v0)(h1:vl F a=some v1)(i:vl F b=some v2)(j:vl F x3=some v3)(k:vl F c=some v4)(l:vl F d=some v5)(m:vl F e=some v6)(n:vl F f=some g):bF F [x0,a,b,x3,c,d,e,f] [v0,v1,v2,v3,v4,v5,v6,g]:= .cons (.mk h) (.cons (.mk h1) (.cons (.mk i) (.cons (.mk j) (.cons (.mk k) (.cons (.mk l) (.cons (.mk m) (.cons (.mk n) .nil)))))))
theorem St.bg {d:du}{slot:Nat}{K:Value→du}{H2:List ak}(u:Value)(a:look F slot=some u:=by rfl)(hd:K u=d:=by rfl)[b:lW d H][tl:Ga H2 H]:St n F (Mm c H) (wpList P ops (Exit.then (ql c H2 slot K) Q) []):=St.Vn u a d hd
theorem St.rV {fn:Func}{post:Value→List ak→Prop}{a:List ResultVar}(vs:List Value)(H':List ak)(hp:post (Hq vs) H')(b:fn.results=a.toArray:=by rfl)(d:Qt P F H a vs:=by
 repeat(first
 |exact trivial
 |refine⟨rfl,?_⟩
 |refine⟨⟨_,_,_,_,rfl,B8.mem,.inl ⟨⟨_,UT.h⟩,pd.h,rfl⟩⟩,?_⟩
 |refine⟨⟨_,_,_,_,rfl,B8.mem,.inr ⟨by rw[UT.h];trivial,rfl⟩⟩,?_⟩)) (hH:∀w,Mm c H w→Mm c H' w:=by exact λ_ hw=>hw.sub):
 St n F (Mm c H) (bodyPost P fn (λe w'=>∃v H',e= .returned v∧post v H'∧Mm c H' w') .ret):=St.DR vs H' b d hp hH
end
section
variable {P:Program}{ops:Array Oper}{Q:Exit→Act→World→Prop}{n:Nat}{F:Fr}{c:Ctx}{H Fp r r' C':List ak}{f:Nat}{listed:Array Bool}{d:Nat}{op:Op}{ty:TypeId}{pos:String}{after:Array Edge}{v:Value}
theorem SW.gd (i:Nat)(h:SW P ops Q n ((d,v)::F) c Fp r f (listed.setIfInBounds i true))(a:((Region.ready .any ops listed).contains i&&Region.free .any ops listed i)=true:=by decide+kernel)(b:ops[i]?=some {dst:=some d,op:=op,type:=ty,pos:=pos,after:=after,guard:=none}:=by rfl)(e:∀R,Ev P n F (Mm c (Fp++R)) op ty v:=by exact λ_=>Ev.go)
 (g:NP Q:=by assumption) (j:Region.noSelect ops=true:=by assumption) (hd:Nat.ble (d+1) n=true:=by rfl):SW P ops Q n F c Fp r (f+1) listed:=SW.defer i g j b e a hd h
theorem SW.me (h:SW P ops Q n F c Fp r f listed):SW P ops Q n F c Fp r f listed:=h
theorem SW.ck (i:Nat)(h:SW P ops Q n F c Fp r f listed)(a:((Region.ready .any ops listed).contains i&&Region.free .any ops listed i)=true:=by decide+kernel):SW P ops Q n F c Fp r f listed:=h
theorem SW.dn [ap:App Fp r C'](h:St n F (Mm c C') (Q .normal))(a:Region.ready .any ops listed=[]:=by decide+kernel):SW P ops Q n F c Fp r f listed:=SW.done a h
theorem SW.t1 (i:Nat){o:Oper}[ap:App Fp r C'](h:St n F (Mm c C') (wpList P ops (Exit.then (KW P ops Q n c Fp f (listed.setIfInBounds i true)) Q) [o]))(a:Region.ready .any ops listed=[i]:=by decide+kernel)(b:ops[i]?=some o:=by rfl):SW P ops Q n F c Fp r (f+1) listed:=SW.afH a b h
theorem SW.t2 (i j:Nat){o o':Oper}[ap:App Fp r C'](h:St n F (Mm c C') (wpList P ops (Exit.then (KW P ops Q n c Fp f (listed.setIfInBounds i true)) Q) [o]))(b:St n F (Mm c C') (wpList P ops (Exit.then (KW P ops Q n c Fp f (listed.setIfInBounds j true)) Q) [o']))
 (d:Region.ready .any ops listed=[i,j]:=by decide+kernel) (e:ops[i]?=some o:=by rfl) (a:ops[j]?=some o':=by rfl):SW P ops Q n F c Fp r (f+1) listed:=SW.afI d e a h b
end
end Go.J
namespace Go.Proofs
open J Tryz
instance:type_of%(UT.mk wc):=⟨wc⟩
instance:type_of%(UT.mk pZ):=⟨pZ⟩
instance:type_of%(UT.mk j2):=⟨j2⟩
instance:type_of%(UT.mk lg):=⟨lg⟩
instance:type_of%(UT.mk iE):=⟨iE⟩
instance:type_of%(UT.mk lh):=⟨lh⟩
instance:type_of%(UT.mk uS):=⟨uS⟩
instance:type_of%(UT.mk A2):=⟨A2⟩
instance:type_of%(UT.mk nY):=⟨nY⟩
instance:type_of%(UT.mk underlying120):=⟨underlying120⟩
instance:type_of%(UT.mk underlying125):=⟨underlying125⟩
instance:type_of%(UT.mk fK):=⟨fK⟩
instance:type_of%(UT.mk underlying148):=⟨underlying148⟩
instance:type_of%(UT.mk Jw):=⟨Jw⟩
instance:type_of%(UT.mk eV):=⟨eV⟩
instance:type_of%(UT.mk we):=⟨we⟩
instance:type_of%(UT.mk lE):=⟨lE⟩
instance:type_of%(UT.mk underlying169):=⟨underlying169⟩
instance:type_of%(UT.mk underlying170):=⟨underlying170⟩
instance:type_of%(UT.mk jj):=⟨jj⟩
instance:type_of%(UT.mk underlying172):=⟨underlying172⟩
instance:type_of%(UT.mk underlying174):=⟨underlying174⟩
instance:type_of%(UT.mk Bw):=⟨Bw⟩
instance:type_of%(UT.mk G6):=⟨G6⟩
instance:type_of%(UT.mk uT):=⟨uT⟩
instance:type_of%(UT.mk oZ):=⟨oZ⟩
instance:type_of%(UT.mk iY):=⟨iY⟩
instance:type_of%(UT.mk uU):=⟨uU⟩
instance:type_of%(UT.mk underlying200):=⟨underlying200⟩
instance:type_of%(UT.mk vy):=⟨vy⟩
instance:type_of%(UT.mk underlying225):=⟨underlying225⟩
instance:type_of%(UT.mk G7):=⟨G7⟩
instance:type_of%(UT.mk Bz):=⟨Bz⟩
instance:type_of%(UT.mk A3):=⟨A3⟩
instance:type_of%(UT.mk underlying239):=⟨underlying239⟩
instance:type_of%(UT.mk C0):=⟨C0⟩
instance:type_of%(UT.mk underlying25):=⟨underlying25⟩
instance:type_of%(UT.mk Pu):=⟨Pu⟩
instance:type_of%(UT.mk underlying260):=⟨underlying260⟩
instance:type_of%(UT.mk IK):=⟨IK⟩
instance:type_of%(UT.mk wg):=⟨wg⟩
instance:type_of%(UT.mk oa):=⟨oa⟩
instance:type_of%(UT.mk gV):=⟨gV⟩
instance:type_of%(UT.mk mo):=⟨mo⟩
instance:type_of%(UT.mk Y2):=⟨Y2⟩
instance:type_of%(UT.mk pM):=⟨pM⟩
instance:type_of%(UT.mk Lm):=⟨Lm⟩
instance:type_of%(UT.mk IL):=⟨IL⟩
instance:type_of%(UT.mk A4):=⟨A4⟩
instance:type_of%(UT.mk sf):=⟨sf⟩
instance:type_of%(UT.mk bJ):=⟨bJ⟩
instance:type_of%(UT.mk IM):=⟨IM⟩
instance:type_of%(UT.mk IP):=⟨IP⟩
instance:type_of%(UT.mk underlying77):=⟨underlying77⟩
instance:type_of%(UT.mk underlying87):=⟨underlying87⟩
instance:type_of%(UT.mk xQ):=⟨xQ⟩
instance:type_of%(UT.mk wA):=⟨wA⟩
end Go.Proofs
namespace Go.J
open Go
theorem wfi {l:List Int}(h:l.all (λx=>decide (-9223372036854775808≤x)&&decide (x≤9223372036854775807))=true):∀x∈l,aJ.wf x:=λx hx=>by
 have:=eW.1 h x hx
 simp only[Bool.and_eq_true,decide_eq_true_eq]at this
 exact this
class KI (vs:List Value)(ga:List (List Int))(H:List ak):Prop where mem:∀p∈vs.zip ga,aB (sl aJ p.1 p.2)∈H
instance KI.nil (H:List ak):KI [] [] H:=⟨λ_ h=>by simp at h⟩
instance KI.cons (v:Value)(xs:List Int)(vs:List Value)(ga:List (List Int))(H:List ak)[h:lW (sl aJ v xs) H][k:KI vs ga H]:KI (v::vs) (xs::ga) H:=
 ⟨λp hp=>by rw[List.zip_cons_cons]at hp;rcases cJ.1 hp with rfl|hp;exact h.mem;exact k.mem p hp⟩
section
variable {P:Program}{n:Nat}{F:Fr}{c:Ctx}{H:List ak}{Q:Exit→Act→World→Prop}{ops:Array Oper}{rest:List Oper}{d:Nat}{ty t e:TypeId}{pos:String}{after:Array Edge}{m:Nat}{ps:List (Nat×Operand)}{zv:Value}
theorem V1 (F:Fr):∀xs:List Int,bF F (xs.map λx=>Operand.const (.int .i64 x)) (xs.map λx=>Value.int .i64 x)
 | []=>bF.nil
 |_::xs=>bF.cons (.mk rfl) (V1 F xs)
theorem V9:∀xs:List Int,((xs.map λx=>Value.int .i64 x).flatMap λu=>u.cells.toList)=rows aJ xs
 | []=>rfl
 |x::xs=>by
  have:=V9 xs
  simp only[rows]at this⊢
  rw[fN,jS,jS,this];rfl
theorem St.bi (xs:List Int)(h:∀b,St n ((d,.slice (some ⟨b,0,none⟩) m m)::F) (Mm c (aB (sl aJ (.slice (some ⟨b,0,none⟩) m m) xs)::H)) (wpList P ops Q rest))
 (ht:P.underlying t=some (.slice e)) (a:(P.info? e).map (·.size)=some 1) (hz:(P.info? e).bind (·.zero)=some zv)
 (hp:ps=(xs.map λx=>Operand.const (.int .i64 x)).zipIdx.map λp=>(p.2,p.1):=by exact rfl) (hm:m=xs.length:=by exact rfl) (f:Nat.ble xs.length 16777216=true:=by exact rfl) (hw:∀x∈xs,aJ.wf x:=by exact wfi (by decide)) (hd:Nat.ble (d+1) n=true:=by exact rfl):
 St n F (Mm c H) (wpList P ops Q ({dst:=some d,op:= .buildSlice t m ps.toArray,type:=ty,pos:=pos,after:=after,guard:=none}::rest)):=
 St.Cn (size:=1) hp (V1 F xs) ht a hz rfl (by rw[aO,gW];exact f) (by
  intro u hu;obtain⟨x,_,rfl⟩:=cz.1 hu;rfl) hd (by rw[aO];exact hm)
  (λb=>St.bS _ aJ xs (V9 xs) hm hw (h b))
theorem ab.bi {dr:Prop}{bs l:List uc}{slot:Nat}{xs:List Int}{q:List Oper}(k:ab P ops Q n F dr H bs l q)
 (ht:P.underlying t=some (.slice e)) (a:(P.info? e).map (·.size)=some 1) (hz:(P.info? e).bind (·.zero)=some zv)
 (hp:ps=(xs.map λx=>Operand.const (.int .i64 x)).zipIdx.map λp=>(p.2,p.1):=by exact rfl) (hm:m=xs.length:=by exact rfl) (d:Nat.ble xs.length 16777216=true:=by exact rfl) (hw:∀x∈xs,aJ.wf x:=by exact wfi (by decide)) (hd:Nat.ble (slot+1) n=true:=by exact rfl):
 ab P ops Q n F dr H bs (⟨slot,[],λu=>fW aJ xs u⟩::l) ({dst:=some slot,op:= .buildSlice t m ps.toArray,type:=ty,pos:=pos,after:=after,guard:=none}::q):=
 ab.c0 (λc e _=>by
  show St n F (Mm c H) _
  refine St.bi xs (λb=> ?_) ht a hz hp hm d hw hd;refine St.Xy (Rr:=aJ) (xs:=xs) (.slice (some ⟨b,0,none⟩) m m) rfl ?_
  exact St.bg (.slice (some ⟨b,0,none⟩) m m) (by simp[look]) rfl) k
theorem V0:∀L:List (Value×List Int),(∀p∈L,p.1.oneCell'=true)→∃vs:List aV,vs.map (·.1)=L.map (·.1)
 | [],_=>⟨[],rfl⟩
 |p::L,h=>let⟨vs,e⟩:=V0 L λq a=>h q (cO _ a);⟨⟨p.1,h p (aQ ..)⟩::vs,by rw[fN,fN,e]⟩
theorem VA:∀vs:List aV,((vs.map (·.1)).flatMap λu=>u.cells.toList)=rows bT vs
 | []=>rfl
 |v::vs=>by
  have:=VA vs
  simp only[rows]at this⊢
  rw[fN,jS,jS,this,J.cells_one v.2];rfl
theorem St.bwc (L:List (Value×List Int))(o:∀p∈L,p.1.oneCell'=true)(q:∀ρ w,ew c H ρ w→∀p∈L,(sl aJ p.1 p.2).f ρ)
 (h:∀b,St n ((d,.slice (some ⟨b,0,none⟩) m m)::F) (Mm c (aB (J.fT aJ (L.map (·.2)) (.slice (some ⟨b,0,none⟩) m m))::H)) (wpList P ops Q rest))
 (ht:P.underlying t=some (.slice e)) (r:(P.info? e).map (·.size)=some 1) (hz:(P.info? e).bind (·.zero)=some zv)
 {xs:List Operand} (hp:ps=xs.zipIdx.map λp=>(p.2,p.1)) (hx:bF F xs (L.map (·.1))) (hm:m=L.length) (s:Nat.ble L.length 16777216=true) (hd:Nat.ble (d+1) n=true):
 St n F (Mm c H) (wpList P ops Q ({dst:=some d,op:= .buildSlice t m ps.toArray,type:=ty,pos:=pos,after:=after,guard:=none}::rest)):=by
 obtain⟨vs,a⟩:=V0 L o
 have v:vs.length=L.length:=by have:=congrArg List.length a;simpa using this
 refine St.Cn (size:=1) hp hx ht r hz rfl (by rw[aO,gW];exact s) (λu hu=> ?_) hd (by rw[aO];exact hm) (λb=> ?_)
 ·rw[←a]at hu
  obtain⟨x,_,rfl⟩:=cz.1 hu
  have:=congrArg Array.size (J.cells_one x.2)
  simpa using this
 ·refine St.bS (.slice (some ⟨b,0,none⟩) m m) bT vs (by rw[←a];exact VA vs) (by omega) (λ_ _=>trivial) ?_
  refine St.fact (J.fT aJ (L.map (·.2)) (.slice (some ⟨b,0,none⟩) m m)) (λρ w j=>⟨rfl,vs,by rw[v,aO],dB.1 (j.dM _ (aQ ..)),λi u x hu g=> ?_⟩) ?_
  ·have h1:(L.map (·.1))[i]?=some u.1:=by rw[←a,bP,hu];rfl
   rw[bP]at h1 g;obtain⟨p,l,y⟩:=dp.1 h1;rw[l]at g
   have z:p.2=x:=by simpa using g
   have:=q ρ w j.drop p (ae l)
   rw[y,z]at this;exact this
  ·exact(h b).o9 λw hw=>let⟨_,k⟩:=hw.out;Mm.mk (k.perm (List.Perm.swap ..)).drop
theorem St.bw (vs:List Value)(ga:List (List Int))[a:KI vs ga H](h:∀b,St n ((d,.slice (some ⟨b,0,none⟩) m m)::F) (Mm c (aB (J.fT aJ ga (.slice (some ⟨b,0,none⟩) m m))::H)) (wpList P ops Q rest))
 (ht:P.underlying t=some (.slice e)) (f:(P.info? e).map (·.size)=some 1) (hz:(P.info? e).bind (·.zero)=some zv) (hx:bF F (ps.map (·.2)) vs)
 (hp:ps=(ps.map (·.2)).zipIdx.map λp=>(p.2,p.1):=by exact rfl) (g:vs.all (λp=>p.oneCell')=true:=by exact rfl) (h1:(vs.zip ga).map (·.1)=vs:=by exact rfl) (i:(vs.zip ga).map (·.2)=ga:=by exact rfl) (hm:m=(vs.zip ga).length:=by exact rfl) (j:Nat.ble (vs.zip ga).length 16777216=true:=by exact rfl) (hd:Nat.ble (d+1) n=true:=by exact rfl):
 St n F (Mm c H) (wpList P ops Q ({dst:=some d,op:= .buildSlice t m ps.toArray,type:=ty,pos:=pos,after:=after,guard:=none}::rest)):=
 St.bwc (vs.zip ga) (λp hp=>eW.1 g _ (by rw[←h1];exact cz.2 ⟨p,hp,rfl⟩)) (λρ w k p hp=>dB.1 (k.dM _ (a.mem p hp))) (by rw[i];exact h) ht f hz hp (by rw[h1];exact hx) hm j hd
theorem ab.bw {dr:Prop}{bs l:List uc}{slot:Nat}{gb:List Nat}{ga:List (List Int)}{q:List Oper}(k:ab P ops Q n F dr H bs l q)
 (ht:P.underlying t=some (.slice e)) (o:(P.info? e).map (·.size)=some 1) (hz:(P.info? e).bind (·.zero)=some zv)
 (hx:∀e:Nat→Value,bF (uq bs e gb++F) (ps.map (·.2)) ((gb.zip ga).map λp=>e p.1))
 (r:∀e:Nat→Value,pe bs e gb=(gb.zip ga).map (λp=>aB (J.fW aJ p.2 (e p.1))):=by exact λ_=>rfl) (g:(gb.zip ga).map (·.2)=ga:=by exact rfl)
 (hp:ps=(ps.map (·.2)).zipIdx.map λp=>(p.2,p.1):=by exact rfl) (hm:m=(gb.zip ga).length:=by exact rfl) (s:Nat.ble (gb.zip ga).length 16777216=true:=by exact rfl) (hd:Nat.ble (slot+1) n=true:=by exact rfl):
 ab P ops Q n F dr H bs (⟨slot,gb,λu=>J.fT aJ ga u⟩::l) ({dst:=some slot,op:= .buildSlice t m ps.toArray,type:=ty,pos:=pos,after:=after,guard:=none}::q):=by
 refine⟨λc e _=> ?_,k⟩
 show St n (uq bs e gb++F) (Mm c (pe bs e gb++H)) _
 have j:∀ρ w,ew c (pe bs e gb++H) ρ w→∀p∈gb.zip ga,(J.fW aJ p.2 (e p.1)).f ρ:=λρ w h p d=>
  dB.1 (h.dM _ (kV _ (by rw[r e];exact cz.2 ⟨p,d,rfl⟩)))
 intro a w v hw
 have x:∀p∈gb.zip ga,(e p.1).oneCell'=true:=by obtain⟨ρ,h1⟩:=hw.out;exact λp d=>(j ρ w h1 p d).1
 refine St.bwc (L:=(gb.zip ga).map λp=>(e p.1,p.2)) ?_ ?_ (λb=> ?_) ht o hz hp ?_ ?_ ?_ hd a w v hw
 ·intro p d;obtain⟨z,i,rfl⟩:=cz.1 d;exact x z i
 ·intro ρ w h p d;obtain⟨z,i,rfl⟩:=cz.1 d;exact(j ρ w h z i).2
 ·have y:((gb.zip ga).map λp=>(e p.1,p.2)).map (·.2)=ga:=by rw[kG];exact g
  rw[y];refine St.o9 (A':=Mm c (aB (J.fT aJ ga (.slice (some ⟨b,0,none⟩) m m))::H)) (λw hw=> ?_) (St.bg (.slice (some ⟨b,0,none⟩) m m) (by simp[look]) rfl);obtain⟨ρ,h1⟩:=hw.out;exact Mm.mk (ew.tail (L:=pe bs e gb) (h1.perm qj.symm))
 ·rw[kG];exact hx e
 ·rw[aO];exact hm
 ·rw[aO];exact s
end
end Go.J
namespace Go.Proofs.YtblifkgpebebmaaGreatDoor
open Go Go.J Tryz
theorem mixed:prog.follows .mixedOrders=true:=by kernel_rfl
theorem GF:(prog.info? 105).bind (λi=>i.zero.map Value.cells)=some #[.string ⟨#[]⟩,.slice none 0 0]:=by kernel_rfl
instance:type_of%(rI.mk GF):=⟨GF⟩
theorem Oj (w:World):cw prog 105 w= .ok #[(0,1),(1,1)] w:=by kernel_rfl
theorem iX:(prog.info? 105).map (·.size)=some 2:=by kernel_rfl
instance:type_of%(pd.mk iX):=⟨iX⟩
theorem KE:(prog.info? 105).bind (·.zero)=some (Value.agg #[.string ⟨#[]⟩,.slice none 0 0]):=by kernel_rfl
theorem A9:(prog.info? 108).bind (λi=>i.zero.map Value.cells)=some #[.int .i64 0,.string ⟨#[]⟩,.int .i64 0,.string ⟨#[]⟩,.slice none 0 0,.slice none 0 0]:=by kernel_rfl
instance:type_of%(rI.mk A9):=⟨A9⟩
theorem JS (w:World):cw prog 108 w= .ok #[(0,1),(1,1),(2,1),(3,2),(5,1)] w:=by kernel_rfl
theorem fc:(prog.info? 108).map (·.size)=some 6:=by kernel_rfl
instance:type_of%(pd.mk fc):=⟨fc⟩
theorem QT:(prog.info? 108).bind (·.zero)=some (Value.agg #[.int .i64 0,.string ⟨#[]⟩,.int .i64 0,.string ⟨#[]⟩,.slice none 0 0,.slice none 0 0]):=by kernel_rfl
theorem Ke:aI prog 54:=⟨_,func54,rfl,by kernel_rfl⟩
theorem qG:aI prog 55:=⟨_,func55,rfl,by kernel_rfl⟩
theorem nq:aI prog 61:=⟨_,func61,rfl,by kernel_rfl⟩
theorem mS:aI prog 64:=⟨_,func64,rfl,by kernel_rfl⟩
theorem oy:aI prog 63:=⟨_,func63,rfl,by kernel_rfl⟩
theorem mR:aI prog 62:=⟨_,func62,rfl,by kernel_rfl⟩
theorem U0:(prog.info? 30).bind (λi=>i.zero.map Value.cells)=some #[.slice none 0 0]:=by kernel_rfl
instance:type_of%(rI.mk U0):=⟨U0⟩
theorem fE:(prog.info? 58).map (·.size)=some 1:=by kernel_rfl
instance:type_of%(pd.mk fE):=⟨fE⟩
theorem dK:(prog.info? 3).map (·.size)=some 1:=by kernel_rfl
instance:type_of%(pd.mk dK):=⟨dK⟩
theorem aeS (w:World):cw prog 163 w= .ok #[(0,1),(1,1)] w:=by kernel_rfl
theorem QL:(prog.info? 163).bind (λi=>i.zero.map Value.cells)=some #[.int .i64 0,.slice none 0 0]:=by kernel_rfl
instance:type_of%(rI.mk QL):=⟨QL⟩
theorem jQ:(prog.info? 163).map (·.size)=some 2:=by kernel_rfl
instance:type_of%(pd.mk jQ):=⟨jQ⟩
theorem tV:bf prog 163 1=some 1:=by kernel_rfl
instance:type_of%(gp.mk tV):=⟨tV⟩
theorem aeT (w:World):cw prog 165 w= .ok #[(0,1),(1,1)] w:=by kernel_rfl
theorem QM:(prog.info? 165).bind (λi=>i.zero.map Value.cells)=some #[.int .i64 0,.int .i64 0]:=by kernel_rfl
instance:type_of%(rI.mk QM):=⟨QM⟩
theorem dm:(prog.info? 165).map (·.size)=some 2:=by kernel_rfl
instance:type_of%(pd.mk dm):=⟨dm⟩
theorem kI:(prog.info? 165).bind (·.zero)=some (Value.agg #[.int .i64 0,.int .i64 0]):=by kernel_rfl
theorem qD:(prog.info? 165).map (·.bytes)=some 16:=by kernel_rfl
theorem pY:(prog.info? 161).map (·.size)=some 1:=by kernel_rfl
instance:type_of%(pd.mk pY):=⟨pY⟩
theorem vF:bf prog 30 0=some 0:=by kernel_rfl
instance:type_of%(gp.mk vF):=⟨vF⟩
theorem GL:(prog.info? 163).bind (·.zero)=some (Value.agg #[.int .i64 0,.slice none 0 0]):=by kernel_rfl
theorem Mg:(prog.info? 163).map (·.bytes)=some 32:=by kernel_rfl
theorem afF:(prog.info? 28).map (·.size)=some 1:=by kernel_rfl
theorem jR:(prog.info? 30).map (·.size)=some 1:=by kernel_rfl
instance:type_of%(pd.mk jR):=⟨jR⟩
instance:rI prog 25 #[.slice none 0 0,.slice none 0 0]:=⟨by kernel_rfl⟩
theorem M3:(prog.info? 9).map (·.size)=some 1:=by kernel_rfl
instance:type_of%(pd.mk M3):=⟨M3⟩
theorem aeR (w:World):cw prog 156 w= .ok #[(0,1),(1,1)] w:=by kernel_rfl
theorem QK:(prog.info? 156).bind (λi=>i.zero.map Value.cells)=some #[.string ⟨#[]⟩,.slice none 0 0]:=by kernel_rfl
instance:type_of%(rI.mk QK):=⟨QK⟩
theorem Bq:(prog.info? 156).map (·.size)=some 2:=by kernel_rfl
instance:type_of%(pd.mk Bq):=⟨Bq⟩
theorem eS:(prog.info? 3).bind (·.zero)=some (Value.int .i64 0):=by kernel_rfl
instance:gp prog 156 1 1:=⟨by kernel_rfl⟩
theorem vE:bf prog 25 0=some 0:=by kernel_rfl
instance:type_of%(gp.mk vE):=⟨vE⟩
theorem VK:(prog.info? 156).bind (·.zero)=some (Value.agg #[.string ⟨#[]⟩,.slice none 0 0]):=by kernel_rfl
theorem ZC:(prog.info? 156).map (·.bytes)=some 40:=by kernel_rfl
theorem al0:(prog.info? 22).map (·.size)=some 1:=by kernel_rfl
theorem D4:bf prog 25 1=some 1:=by kernel_rfl
instance:type_of%(gp.mk D4):=⟨D4⟩
theorem al1:(prog.info? 23).map (·.size)=some 1:=by kernel_rfl
theorem Pe:(prog.info? 25).map (·.size)=some 2:=by kernel_rfl
instance:type_of%(pd.mk Pe):=⟨Pe⟩
theorem H0:bf prog 32 2=some 3:=by kernel_rfl
instance:type_of%(gp.mk H0):=⟨H0⟩
theorem EI:aI prog 58:=⟨_,func58,rfl,by kernel_rfl⟩
theorem aeO (w:World):cw prog 115 w= .ok #[(0,1),(1,1),(2,1),(3,6)] w:=by kernel_rfl
theorem QI:(prog.info? 115).bind (λi=>i.zero.map Value.cells)=some #[.string ⟨#[]⟩,.slice none 0 0,.int .i64 0,.int .i64 0,.string ⟨#[]⟩,.int .i64 0,.string ⟨#[]⟩,.slice none 0 0,.slice none 0 0]:=by kernel_rfl
instance:type_of%(rI.mk QI):=⟨QI⟩
theorem nW:(prog.info? 115).map (·.size)=some 9:=by kernel_rfl
instance:type_of%(pd.mk nW):=⟨nW⟩
theorem VJ:(prog.info? 115).bind (·.zero)=some (Value.agg #[.string ⟨#[]⟩,.slice none 0 0,.int .i64 0,.int .i64 0,.string ⟨#[]⟩,.int .i64 0,.string ⟨#[]⟩,.slice none 0 0,.slice none 0 0]):=by kernel_rfl
theorem ZB:(prog.info? 115).map (·.bytes)=some 144:=by kernel_rfl
theorem al3:(prog.info? 27).map (·.size)=some 1:=by kernel_rfl
instance:rI prog 32 #[.slice none 0 0,.slice none 0 0,.slice none 0 0,.slice none 0 0,.slice none 0 0]:=⟨by kernel_rfl⟩
theorem VP:(prog.info? 9).bind (·.zero)=some (Value.string ⟨#[]⟩):=by kernel_rfl
theorem aeQ (w:World):cw prog 135 w= .ok #[(0,1),(1,1),(2,1)] w:=by kernel_rfl
theorem QJ:(prog.info? 135).bind (λi=>i.zero.map Value.cells)=some #[.string ⟨#[]⟩,.int .i64 0,.int .i64 0]:=by kernel_rfl
instance:type_of%(rI.mk QJ):=⟨QJ⟩
theorem Bp:(prog.info? 135).map (·.size)=some 3:=by kernel_rfl
instance:type_of%(pd.mk Bp):=⟨Bp⟩
theorem afS:(prog.info? 135).bind (·.zero)=some (Value.agg #[.string ⟨#[]⟩,.int .i64 0,.int .i64 0]):=by kernel_rfl
theorem ahP:aI prog 56:=⟨_,func56,rfl,by kernel_rfl⟩
instance:gp prog 32 0 0:=⟨by kernel_rfl⟩
theorem ahQ:aI prog 57:=⟨_,func57,rfl,by kernel_rfl⟩
theorem kJ:(prog.info? 58).bind (·.zero)=some (Value.slice none 0 0):=by kernel_rfl
theorem V3 (w:World):cw prog 110 w= .ok #[(0,1),(1,1),(2,1),(3,1),(4,6)] w:=by kernel_rfl
theorem K8:(prog.info? 110).bind (λi=>i.zero.map Value.cells)=some #[.string ⟨#[]⟩,.slice none 0 0,.int .i64 0,.int .i64 0,.int .i64 0,.string ⟨#[]⟩,.int .i64 0,.string ⟨#[]⟩,.slice none 0 0,.slice none 0 0]:=by kernel_rfl
instance:type_of%(rI.mk K8):=⟨K8⟩
theorem kU:(prog.info? 110).map (·.size)=some 10:=by kernel_rfl
instance:type_of%(pd.mk kU):=⟨kU⟩
theorem afR:(prog.info? 110).bind (·.zero)=some (Value.agg #[.string ⟨#[]⟩,.slice none 0 0,.int .i64 0,.int .i64 0,.int .i64 0,.string ⟨#[]⟩,.int .i64 0,.string ⟨#[]⟩,.slice none 0 0,.slice none 0 0]):=by kernel_rfl
instance:gp prog 32 1 2:=⟨by kernel_rfl⟩
theorem al2:(prog.info? 26).map (·.size)=some 1:=by kernel_rfl
theorem W4:aI prog 60:=⟨_,func60,rfl,by kernel_rfl⟩
theorem nk:aI prog 59:=⟨_,func59,rfl,by kernel_rfl⟩
instance:gp prog 32 3 4:=⟨by kernel_rfl⟩
theorem Tg:(prog.info? 32).map (·.size)=some 5:=by kernel_rfl
instance:type_of%(pd.mk Tg):=⟨Tg⟩
theorem QQ:(prog.info? 35).bind (λi=>i.zero.map Value.cells)=some #[.int .i64 0,.int .i64 0]:=by kernel_rfl
instance:type_of%(rI.mk QQ):=⟨QQ⟩
theorem XY (w:World):cw prog 35 w= .ok #[(0,1),(1,1)] w:=by kernel_rfl
instance:pd prog 35 2:=⟨by kernel_rfl⟩
theorem xc:bf prog 105 0=some 0:=by kernel_rfl
instance:type_of%(gp.mk xc):=⟨xc⟩
theorem ly:bf prog 105 1=some 1:=by kernel_rfl
instance:type_of%(gp.mk ly):=⟨ly⟩
theorem UR:aI prog 139:=⟨_,func139,rfl,by kernel_rfl⟩
instance:rI prog 3 #[.int .i64 0]:=⟨by kernel_rfl⟩
instance:rI prog 260 #[.nilFunc]:=⟨by kernel_rfl⟩
theorem afE:(prog.info? 260).map (·.size)=some 1:=by kernel_rfl
theorem US:aI prog 140:=⟨_,func140,rfl,by kernel_rfl⟩
theorem rh:aI prog 113:=⟨_,func113,rfl,by kernel_rfl⟩
instance:gp prog 108 0 0:=⟨by kernel_rfl⟩
theorem tT:bf prog 108 2=some 2:=by kernel_rfl
instance:type_of%(gp.mk tT):=⟨tT⟩
theorem qu:bf prog 108 4=some 5:=by kernel_rfl
instance:type_of%(gp.mk qu):=⟨qu⟩
instance:gp prog 108 1 1:=⟨by kernel_rfl⟩
theorem RG:aI prog 46:=⟨_,func46,rfl,by kernel_rfl⟩
theorem xg:bf prog 108 3=some 3:=by kernel_rfl
instance:type_of%(gp.mk xg):=⟨xg⟩
theorem UI:aI prog 114:=⟨_,func114,rfl,by kernel_rfl⟩
theorem UJ:aI prog 115:=⟨_,func115,rfl,by kernel_rfl⟩
theorem Im:aI prog 112:=⟨_,func112,rfl,by kernel_rfl⟩
theorem H3:bf prog 35 0=some 0:=by kernel_rfl
instance:type_of%(gp.mk H3):=⟨H3⟩
theorem ZA:(prog.info? 105).map (·.bytes)=some 40:=by kernel_rfl
theorem Ip:aI prog 116:=⟨_,func116,rfl,by kernel_rfl⟩
instance:rI prog 225 #[.nilFunc]:=⟨by kernel_rfl⟩
theorem afC:(prog.info? 225).map (·.size)=some 1:=by kernel_rfl
theorem yb:aI prog 78:=⟨_,func78,rfl,by kernel_rfl⟩
instance:gp prog 156 0 0:=⟨by kernel_rfl⟩
theorem QH:(prog.info? 100).bind (λi=>i.zero.map Value.cells)=some #[.slice none 0 0,.slice none 0 0]:=by kernel_rfl
instance:type_of%(rI.mk QH):=⟨QH⟩
theorem lC:(prog.info? 157).map (·.size)=some 1:=by kernel_rfl
instance:type_of%(pd.mk lC):=⟨lC⟩
theorem VL:(prog.info? 157).bind (·.zero)=some (Value.int .u64 0):=by kernel_rfl
theorem UD:(prog.info? 157).map (·.bytes)=some 8:=by kernel_rfl
theorem aeN (w:World):cw prog 100 w= .ok #[(0,1),(1,1)] w:=by kernel_rfl
theorem wY:(prog.info? 100).map (·.size)=some 2:=by kernel_rfl
instance:type_of%(pd.mk wY):=⟨wY⟩
instance:gp prog 100 0 0:=⟨by kernel_rfl⟩
instance:gp prog 100 1 1:=⟨by kernel_rfl⟩
theorem UH:aI prog 110:=⟨_,func110,rfl,by kernel_rfl⟩
theorem ahW:aI prog 79:=⟨_,func79,rfl,by kernel_rfl⟩
theorem W1:aI prog 45:=⟨_,func45,rfl,by kernel_rfl⟩
theorem W6:aI prog 80:=⟨_,func80,rfl,by kernel_rfl⟩
instance:gp prog 135 0 0:=⟨by kernel_rfl⟩
theorem Cz:bf prog 135 1=some 1:=by kernel_rfl
instance:type_of%(gp.mk Cz):=⟨Cz⟩
theorem D0:bf prog 135 2=some 2:=by kernel_rfl
theorem Kg:aI prog 85:=⟨_,func85,rfl,by kernel_rfl⟩
theorem tU:bf prog 163 0=some 0:=by kernel_rfl
instance:type_of%(gp.mk tU):=⟨tU⟩
theorem D1:bf prog 165 0=some 0:=by kernel_rfl
instance:type_of%(gp.mk D1):=⟨D1⟩
theorem tX:bf prog 165 1=some 1:=by kernel_rfl
instance:type_of%(gp.mk tX):=⟨tX⟩
theorem Bt:(prog.info? 4).map (·.size)=some 1:=by kernel_rfl
instance:type_of%(pd.mk Bt):=⟨Bt⟩
theorem Qk:(prog.info? 4).bind (·.zero)=some (Value.bool false):=by kernel_rfl
theorem YL:(prog.info? 4).map (·.bytes)=some 1:=by kernel_rfl
theorem xW:(prog.info? 3).map (·.bytes)=some 8:=by kernel_rfl
theorem ZS:aI prog 117:=⟨_,func117,rfl,by kernel_rfl⟩
theorem ahY:aI prog 83:=⟨_,func83,rfl,by kernel_rfl⟩
theorem aaA:aI prog 84:=⟨_,func84,rfl,by kernel_rfl⟩
theorem ahZ:aI prog 86:=⟨_,func86,rfl,by kernel_rfl⟩
theorem UP:aI prog 133:=⟨_,func133,rfl,by kernel_rfl⟩
theorem qF:aI prog 100:=⟨_,func100,rfl,by kernel_rfl⟩
theorem UQ:aI prog 138:=⟨_,func138,rfl,by kernel_rfl⟩
theorem ZZ:aI prog 137:=⟨_,func137,rfl,by kernel_rfl⟩
theorem Il:aI prog 111:=⟨_,func111,rfl,by kernel_rfl⟩
theorem MY {a:Value}(b:a.oneCell'=true)(w:World):(Instr.build 105 #[(0,a)]).run prog w= .ok (.agg #[a,.slice none 0 0]) w:=
 bM GF (Oj w) (by simp[Instr.fill,J.bK,J.cells_one b])
theorem Ch {a b c d:Value}(e:a.oneCell'=true)(h1:b.oneCell'=true)(w:World):(Instr.build 108 #[(0,a),(1,b),(3,.agg #[c,d])]).run prog w= .ok (.agg #[a,b,.int .i64 0,c,d,.slice none 0 0]) w:=
 bM A9 (JS w) (by simp[Instr.fill,J.bK,J.cells_one e,J.cells_one h1])
theorem Gi {a b:Value}(c:a.oneCell'=true)(d:b.oneCell'=true)(w:World):(Instr.build 108 #[(0,a),(2,b)]).run prog w= .ok (.agg #[a,.string ⟨#[]⟩,b,.string ⟨#[]⟩,.slice none 0 0,.slice none 0 0]) w:=
 bM A9 (JS w) (by simp[Instr.fill,J.bK,J.cells_one c,J.cells_one d])
theorem Ci {a c d b:Value}(e:a.oneCell'=true)(f:b.oneCell'=true)(w:World):(Instr.build 108 #[(0,a),(3,.agg #[c,d]),(4,b)]).run prog w= .ok (.agg #[a,.string ⟨#[]⟩,.int .i64 0,c,d,b]) w:=
 bM A9 (JS w) (by simp[Instr.fill,J.bK,J.cells_one e,J.cells_one f])
theorem Gj {a b:Value}(c:a.oneCell'=true)(d:b.oneCell'=true)(w:World):(Instr.build 108 #[(0,a),(4,b)]).run prog w= .ok (.agg #[a,.string ⟨#[]⟩,.int .i64 0,.string ⟨#[]⟩,.slice none 0 0,b]) w:=
 bM A9 (JS w) (by simp[Instr.fill,J.bK,J.cells_one c,J.cells_one d])
theorem MZ {a:Value}(b:a.oneCell'=true)(w:World):(Instr.build 156 #[(0,a)]).run prog w= .ok (.agg #[a,.slice none 0 0]) w:=
 bM QK (aeR w) (by simp[Instr.fill,J.bK,J.cells_one b])
theorem yW {e f g h a b c d i:Value}(j:e.oneCell'=true)(k:f.oneCell'=true)(w:World):(Instr.build 115 #[(0,e),(2,f),(3,.agg #[g,h,a,b,c,d]),(1,.agg #[i])]).run prog w= .ok (.agg #[e,i,f,g,h,a,b,c,d]) w:=
 bM QI (aeO w) (by simp[Instr.fill,J.bK,J.cells_one j,J.cells_one k])
theorem jt {a b c:Value}(d:a.oneCell'=true)(h1:b.oneCell'=true)(e:c.oneCell'=true)(w:World):(Instr.build 135 #[(0,a),(1,b),(2,c)]).run prog w= .ok (.agg #[a,b,c]) w:=
 bM QJ (aeQ w) (by simp[Instr.fill,J.bK,J.cells_one d,J.cells_one h1,J.cells_one e])
theorem qB {a b c d e f g h i:Value}(j:a.oneCell'=true)(k:b.oneCell'=true)(w:World):(Instr.build 110 #[(0,a),(2,b),(4,.agg #[c,d,e,f,g,h]),(1,.agg #[i])]).run prog w= .ok (.agg #[a,i,b,.int .i64 0,c,d,e,f,g,h]) w:=
 bM K8 (V3 w) (by simp[Instr.fill,J.bK,J.cells_one j,J.cells_one k])
theorem j6 {a b c d e f g h i j:Value}(k:a.oneCell'=true)(l:b.oneCell'=true)(m:c.oneCell'=true)(w:World):(Instr.build 110 #[(0,a),(2,b),(3,c),(4,.agg #[d,e,f,g,h,i]),(1,.agg #[j])]).run prog w= .ok (.agg #[a,j,b,c,d,e,f,g,h,i]) w:=
 bM K8 (V3 w) (by simp[Instr.fill,J.bK,J.cells_one k,J.cells_one l,J.cells_one m])
theorem RA {a:Value}(b:a.oneCell'=true)(w:World):(Instr.build 35 #[(0,a)]).run prog w= .ok (.agg #[a,.int .i64 0]) w:=
 bM QQ (XY w) (by simp[Instr.fill,J.bK,J.cells_one b])
theorem EF {a:Value}(h1:a.oneCell'=true)(w:World):(Instr.build 105 #[(1,a)]).run prog w= .ok (.agg #[.string ⟨#[]⟩,a]) w:=
 bM GF (Oj w) (by simp[Instr.fill,J.bK,J.cells_one h1])
theorem xU (w:World):(Instr.build 105 #[]).run prog w= .ok (.agg #[.string ⟨#[]⟩,.slice none 0 0]) w:=
 bM GF (Oj w) (by simp[Instr.fill,J.bK])
theorem Gh {a b:Value}(c:a.oneCell'=true)(h1:b.oneCell'=true)(w:World):(Instr.build 100 #[(0,a),(1,b)]).run prog w= .ok (.agg #[a,b]) w:=
 bM QH (aeN w) (by simp[Instr.fill,J.bK,J.cells_one c,J.cells_one h1])
theorem EG {a:Value}(b:a.oneCell'=true)(w:World):(Instr.build 163 #[(0,a)]).run prog w= .ok (.agg #[a,.slice none 0 0]) w:=
 bM QL (aeS w) (by simp[Instr.fill,J.bK,J.cells_one b])
theorem ox {a b:Value}(c:a.oneCell'=true)(h1:b.oneCell'=true)(w:World):(Instr.build 165 #[(0,a),(1,b)]).run prog w= .ok (.agg #[a,b]) w:=
 bM QM (aeT w) (by simp[Instr.fill,J.bK,J.cells_one c,J.cells_one h1])
theorem gi {a b:Value}(c:a.oneCell'=true)(h1:b.oneCell'=true)(w:World):(Instr.build 35 #[(0,a),(1,b)]).run prog w= .ok (.agg #[a,b]) w:=
 bM QQ (XY w) (by simp[Instr.fill,J.bK,J.cells_one c,J.cells_one h1])
theorem jX (w:World):(Instr.build 35 #[]).run prog w= .ok (.agg #[.int .i64 0,.int .i64 0]) w:=
 bM QQ (XY w) (by simp[Instr.fill,J.bK])
end Go.Proofs.YtblifkgpebebmaaGreatDoor
