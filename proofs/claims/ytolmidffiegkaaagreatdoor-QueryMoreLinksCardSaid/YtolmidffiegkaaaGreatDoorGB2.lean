/-
  Laws of walks through programs, and facts on grammars, trees and queries.
  Conditions: none.
-/
import Derived.Test.YtolmidffiegkaaaGreatDoorGB1
import Derived.Lib.ValidU
import Derived.Lib.RuneCount
import Derived.Lib.IndexAny
import Derived.Lib.TrimUEq
import Derived.Test.YtolmidffiegkaaaGreatDoorChecked
set_option linter.unusedVariables false
set_option linter.unusedSimpArgs false
namespace Go.J
open Go Go.Lib
def rY:cV:=[32,9,10,40,41,91,93,44,59]
def dt (b:UInt8):Bool:=rY.contains b
theorem vH {b:UInt8}:dt b=true↔b.toNat=32∨b.toNat=9∨b.toNat=10∨b.toNat=40∨b.toNat=41∨b.toNat=91∨b.toNat=93∨b.toNat=44∨b.toNat=59:=by
 unfold dt rY
 simp only[List.contains_cons,List.contains_nil,Bool.or_false,Bool.or_eq_true,beq_iff_eq,←UInt8.toNat_inj]
 exact Iff.rfl
theorem sb {b:UInt8}(h:128≤b.toNat):dt b=false:=by
 cases hb:dt b with
 |false=>rfl
 |true=>have:=vH.1 hb;omega
def more (b:Nat):Nat:=if 194≤b∧b≤223 then 1 else if 224≤b∧b≤239 then 2 else if 240≤b∧b≤244 then 3 else 0
def Lz (b:Nat):Nat:=if b=224 then 160 else if b=240 then 144 else 128
def M0 (b:Nat):Nat:=if b=237 then 159 else if b=244 then 143 else 191
def bt (s:cV)(i:Nat):Nat:=(s.getD i 0).toNat
def hN (b:Nat):Bool:=decide (128≤b∧more b=0)
def dW (s:cV)(p k:Nat):Bool:=decide (p+1+k<s.length∧(if k=0 then Lz (bt s p)else 128)≤bt s (p+1+k)∧bt s (p+1+k)≤(if k=0 then M0 (bt s p)else 191))
def CD (s:cV)(p:Nat):Option Nat:=
 if dt (s.getD p 0)then none else if hN (bt s p)then none else if(List.range (more (bt s p))).all (dW s p)then some (more (bt s p)+1)else none
theorem kM (s:cV)(i:Nat):bt s i<256:=(s.getD i 0).toNat_lt
theorem qL (s:cV)(p:Nat):decodeL (s.drop p)=decodeN (s.length-p) (bt s p) (bt s (p+1)) (bt s (p+2)) (bt s (p+3)):=by
 rw[decodeL_N,List.length_drop,getD_dropU,getD_dropU,getD_dropU,getD_dropU,Nat.add_zero];rfl
def C2 (n b0 b1:Nat):Prop:=194≤b0∧b0≤223∧1<n∧128≤b1∧b1≤191
def C3 (n b0 b1 b2:Nat):Prop:=224≤b0∧b0≤239∧1<n∧128≤b1∧b1≤191∧(b0=224→160≤b1)∧(b0=237→b1≤159)∧2<n∧128≤b2∧b2≤191
def C4 (n b0 b1 b2 b3:Nat):Prop:=240≤b0∧b0≤244∧1<n∧128≤b1∧b1≤191∧(b0=240→144≤b1)∧(b0=244→b1≤143)∧2<n∧128≤b2∧b2≤191∧3<n∧128≤b3∧b3≤191
theorem qM {n b0 b1 b2 b3:Nat}(h0:b0<256)(h1:b1<256)(h2:b2<256)(h3:b3<256):
 (b0<128∧decodeN n b0 b1 b2 b3=(b0,1))∨(128≤b0∧¬C2 n b0 b1∧¬C3 n b0 b1 b2∧¬C4 n b0 b1 b2 b3∧decodeN n b0 b1 b2 b3=(65533,1))∨
 (C2 n b0 b1∧∃r,128≤r∧decodeN n b0 b1 b2 b3=(r,2))∨(C3 n b0 b1 b2∧∃r,128≤r∧decodeN n b0 b1 b2 b3=(r,3))∨(C4 n b0 b1 b2 b3∧∃r,128≤r∧decodeN n b0 b1 b2 b3=(r,4)):=by
 unfold C2 C3 C4 decodeN
 by_cases q0:b0<128
 ·rw[if_pos q0];exact .inl ⟨q0,rfl⟩
 ·rw[if_neg q0]
  right
  by_cases q1:b0/32=6∧(1<n∧b1/64=2)
  ·rw[if_pos q1]
   by_cases q2:b0%32*64+b1%64≥128
   ·rw[if_pos q2];exact .inr (.inl ⟨by omega,_,q2,rfl⟩)
   ·rw[if_neg q2];exact .inl ⟨by omega,by omega,by omega,by omega,rfl⟩
  ·rw[if_neg q1]
   by_cases q3:b0/16=14∧(1<n∧b1/64=2)∧(2<n∧b2/64=2)
   ·rw[if_pos q3]
    by_cases q4:b0%16*4096+b1%64*64+b2%64≥2048∧(b0%16*4096+b1%64*64+b2%64<55296∨(57344≤b0%16*4096+b1%64*64+b2%64∧b0%16*4096+b1%64*64+b2%64≤1114111))
    ·rw[if_pos q4];exact .inr (.inr (.inl ⟨by omega,_,by omega,rfl⟩))
    ·rw[if_neg q4];exact .inl ⟨by omega,by omega,by omega,by omega,rfl⟩
   ·rw[if_neg q3]
    by_cases q5:b0/8=30∧(1<n∧b1/64=2)∧(2<n∧b2/64=2)∧(3<n∧b3/64=2)
    ·rw[if_pos q5]
     by_cases q6:b0%8*262144+b1%64*4096+b2%64*64+b3%64≥65536∧(b0%8*262144+b1%64*4096+b2%64*64+b3%64<55296∨(57344≤b0%8*262144+b1%64*4096+b2%64*64+b3%64∧b0%8*262144+b1%64*4096+b2%64*64+b3%64≤1114111))
     ·rw[if_pos q6];exact .inr (.inr (.inr ⟨by omega,_,by omega,rfl⟩))
     ·rw[if_neg q6];exact .inl ⟨by omega,by omega,by omega,by omega,rfl⟩
    ·rw[if_neg q5];exact .inl ⟨by omega,by omega,by omega,by omega,rfl⟩
theorem sc (b:Nat):(b=224∧Lz b=160)∨(b=240∧Lz b=144)∨(b≠224∧b≠240∧Lz b=128):=by
 unfold Lz;split
 ·exact .inl ⟨by assumption,rfl⟩
 ·split
  ·exact .inr (.inl ⟨by assumption,rfl⟩)
  ·exact .inr (.inr ⟨by assumption,by assumption,rfl⟩)
theorem se (b:Nat):(b=237∧M0 b=159)∨(b=244∧M0 b=143)∨(b≠237∧b≠244∧M0 b=191):=by
 unfold M0;split
 ·exact .inl ⟨by assumption,rfl⟩
 ·split
  ·exact .inr (.inl ⟨by assumption,rfl⟩)
  ·exact .inr (.inr ⟨by assumption,by assumption,rfl⟩)
theorem nT (b:Nat):(more b=1∧194≤b∧b≤223)∨(more b=2∧224≤b∧b≤239)∨(more b=3∧240≤b∧b≤244)∨(more b=0∧(b<194∨244<b)):=by
 unfold more
 split
 ·exact .inl ⟨rfl,by assumption⟩
 ·split
  ·exact .inr (.inl ⟨rfl,by assumption⟩)
  ·split
   ·exact .inr (.inr (.inl ⟨rfl,by assumption⟩))
   ·exact .inr (.inr (.inr ⟨rfl,by omega⟩))
theorem vI {s:cV}{p:Nat}:dW s p 0=true↔p+1<s.length∧Lz (bt s p)≤bt s (p+1)∧bt s (p+1)≤M0 (bt s p):=by
 unfold dW;rw[if_pos rfl,if_pos rfl,decide_eq_true_eq]
theorem CE {s:cV}{p:Nat}:dW s p 1=true↔p+2<s.length∧128≤bt s (p+2)∧bt s (p+2)≤191:=by
 unfold dW;rw[if_neg (by decide),if_neg (by decide),decide_eq_true_eq]
theorem M3 {s:cV}{p:Nat}:dW s p 2=true↔p+3<s.length∧128≤bt s (p+3)∧bt s (p+3)≤191:=by
 unfold dW;rw[if_neg (by decide),if_neg (by decide),decide_eq_true_eq]
theorem ln {s:cV}{p m:Nat}(hs:dt (s.getD p 0)=false)(hm:more (bt s p)=m)(hb:¬(128≤bt s p∧m=0)):CD s p=if(List.range m).all (dW s p)then some (m+1)else none:=by
 unfold CD
 have h1:hN (bt s p)=false:=by unfold hN;rw[hm];exact decide_eq_false hb
 rw[hs,h1,hm];rfl
theorem CF {s:cV}{p:Nat}(hp:p<s.length)(hs:dt (s.getD p 0)=false):
 CD s p=if(decodeL (s.drop p)).1=65533∧(decodeL (s.drop p)).2=1 then none else some (decodeL (s.drop p)).2:=by
 rw[qL]
 have Ej:=sc (bt s p)
 have NT:=se (bt s p)
 have hmo:=nT (bt s p)
 have r1:(List.range 1).all (dW s p)=dW s p 0:=by simp[List.range_succ]
 have r2:(List.range 2).all (dW s p)=(dW s p 0&&dW s p 1):=by simp[List.range_succ]
 have r3:(List.range 3).all (dW s p)=(dW s p 0&&dW s p 1&&dW s p 2):=by simp[List.range_succ,Bool.and_assoc]
 rcases qM (n:=s.length-p) (kM s p) (kM s (p+1)) (kM s (p+2)) (kM s (p+3))with⟨h1,h2⟩|⟨h1,n2,n3,n4,h2⟩|⟨h1,r,hr,h2⟩|⟨h1,r,hr,h2⟩|⟨h1,r,hr,h2⟩<;>rw[h2]
 ·rw[if_neg (by simp only;omega),ln hs (m:=0) (by omega) (by omega)];rfl
 ·rw[if_pos (by simp)]
  unfold C2 at n2;unfold C3 at n3;unfold C4 at n4
  rcases hmo with⟨hm,hq⟩|⟨hm,hq⟩|⟨hm,hq⟩|⟨hm,hq⟩
  ·rw[ln hs hm (by omega),r1,if_neg (by rw[vI];omega)]
  ·rw[ln hs hm (by omega),r2,if_neg (by rw[Bool.and_eq_true,vI,CE];omega)]
  ·rw[ln hs hm (by omega),r3,if_neg (by rw[Bool.and_eq_true,Bool.and_eq_true,vI,CE,M3];omega)]
  ·unfold CD
   rw[hs,show hN (bt s p)=true by unfold hN;exact decide_eq_true ⟨h1,hm⟩];rfl
 ·unfold C2 at h1
  rw[if_neg (by simp),ln hs (m:=1) (by omega) (by omega),r1,if_pos (by rw[vI];omega)]
 ·unfold C3 at h1
  rw[if_neg (by simp),ln hs (m:=2) (by omega) (by omega),r2,if_pos (by rw[Bool.and_eq_true,vI,CE];omega)]
 ·unfold C4 at h1
  rw[if_neg (by simp),ln hs (m:=3) (by omega) (by omega),r3,if_pos (by rw[Bool.and_eq_true,Bool.and_eq_true,vI,CE,M3];omega)]
theorem gq {s:cV}{p:Nat}(hp:p<s.length):1≤(decodeL (s.drop p)).2∧p+(decodeL (s.drop p)).2≤s.length∧
 ((bt s p<128∧decodeL (s.drop p)=(bt s p,1))∨(128≤(decodeL (s.drop p)).1∧∀j,j<(decodeL (s.drop p)).2→128≤bt s (p+j))):=by
 rw[qL]
 have e0:bt s (p+0)=bt s p:=rfl
 have h4:∀w,(w=1∨(w=2∧128≤bt s (p+1))∨(w=3∧128≤bt s (p+1)∧128≤bt s (p+2))∨(w=4∧128≤bt s (p+1)∧128≤bt s (p+2)∧128≤bt s (p+3)))→128≤bt s p→∀j,j<w→128≤bt s (p+j):=by
  intro w h h0 j hj
  have:j=0∨j=1∨j=2∨j=3:=by omega
  rcases this with rfl|rfl|rfl|rfl
  ·exact h0
  ·omega
  ·omega
  ·omega
 rcases qM (n:=s.length-p) (kM s p) (kM s (p+1)) (kM s (p+2)) (kM s (p+3))with⟨h1,h2⟩|⟨h1,n2,n3,n4,h2⟩|⟨h1,r,hr,h2⟩|⟨h1,r,hr,h2⟩|⟨h1,r,hr,h2⟩<;>rw[h2]
 ·exact⟨Nat.le_refl _,(show p+1≤s.length by omega),.inl ⟨h1,rfl⟩⟩
 ·exact⟨Nat.le_refl _,(show p+1≤s.length by omega),.inr ⟨(show 128≤65533 by decide),h4 1 (.inl rfl) h1⟩⟩
 ·unfold C2 at h1
  exact⟨(show 1≤2 by decide),(show p+2≤s.length by omega),.inr ⟨hr,h4 2 (by omega) (by omega)⟩⟩
 ·unfold C3 at h1
  exact⟨(show 1≤3 by decide),(show p+3≤s.length by omega),.inr ⟨hr,h4 3 (by omega) (by omega)⟩⟩
 ·unfold C4 at h1
  exact⟨(show 1≤4 by decide),(show p+4≤s.length by omega),.inr ⟨hr,h4 4 (by omega) (by omega)⟩⟩
theorem sf {s:cV}{p:Nat}(hp:p<s.length)(hs:dt (s.getD p 0)=false):(s.drop p).any dt=(s.drop (p+(decodeL (s.drop p)).2)).any dt:=by
 obtain⟨h1,h2,h3⟩:=gq hp
 have h3:(decodeL (s.drop p)).2=1∨∀j,j<(decodeL (s.drop p)).2→128≤bt s (p+j):=h3.imp (fun q=>by rw[q.2]) (fun q=>q.2)
 generalize (decodeL (s.drop p)).2=w at*
 have e:s.drop p=(s.drop p).take w++s.drop (p+w):=by rw[←List.drop_drop,List.take_append_drop]
 rw[e,List.any_append]
 have:((s.drop p).take w).any dt=false:=by
  rw[List.any_eq_false];intro x hx;obtain⟨j,hj,rfl⟩:=List.mem_iff_getElem.1 hx;rw[List.length_take,List.length_drop]at hj;rw[List.getElem_take,List.getElem_drop]
  have Nf:s[p+j]'(by omega)=s.getD (p+j) 0:=by rw[List.getD_eq_getElem?_getD,List.getElem?_eq_getElem (by omega)];rfl
  rw[Nf]
  rcases h3 with q|q
  ·obtain rfl:j=0:=by omega
   rw[Nat.add_zero,hs];decide
  ·rw[sb (q j (by omega))];decide
 rw[this,Bool.false_or]
def ml (s:cV):Nat→Nat→Option Nat
 |0,_=>some 0
 |f+1,p=>if p<s.length then match CD s p with
  |none=>none
  |some w=>(ml s f (p+w)).map (· +1)
  else some 0
theorem wg (s:cV):∀(f p:Nat),s.length-p≤f→ml s f p=if validGoD f (s.drop p)&& !(s.drop p).any dt then some (runeCountFrom ⟨s.toArray⟩ f p)else none
 |0,p,h=>by
  rw[List.drop_of_length_le (by omega)]
  simp[ml,validGoD,runeCountFrom]
 |f+1,p,h=>by
  by_cases hp:p<s.length
  ·have hd:s.drop p≠ []:=by intro e;have:=congrArg List.length e;rw[List.length_drop,List.length_nil]at this;omega
   have hx:s[p]?=some (s.getD p 0):=jg 0 hp
   rw[ml,if_pos hp]
   cases hs:dt (s.getD p 0)with
   |true=>
    have h1:CD s p=none:=by unfold CD;rw[hs];rfl
    have h2:(s.drop p).any dt=true:=by rw[bf hx,List.any_cons,hs];rfl
    rw[h1,h2];simp
   |false=>
    rw[CF hp hs,validGoD,if_neg hd];obtain⟨w1,w2,w3⟩:=gq hp
    by_cases hb:(decodeL (s.drop p)).1=65533∧(decodeL (s.drop p)).2=1
    ·rw[if_pos hb,if_pos hb];rfl
    ·rw[if_neg hb,if_neg hb,sf hp hs,List.drop_drop]
     have ih:=wg s f (p+(decodeL (s.drop p)).2) (by omega)
     show Option.map _ _=_
     rw[ih,runeCountFrom]
     have fD:p<(⟨s.toArray⟩:ByteArray).size:=by show p<s.toArray.size;simpa using hp
     rw[if_pos fD]
     have yW:=decodeL_drop ⟨s.toArray⟩ p
     simp only at yW
     rw[←yW]
     split
     ·simp[Nat.add_comm]
     ·rfl
  ·rw[ml,if_neg hp,List.drop_of_length_le (by omega)]
   have fD:¬p<(⟨s.toArray⟩:ByteArray).size:=by show ¬p<s.toArray.size;simpa using hp
   simp[validGoD,runeCountFrom,fD]
def M4:Option Nat→Bool
 |some n=>decide (1≤n∧n≤30)
 |none=>false
def isWord (s:cV):Bool:=M4 (ml s s.length 0)
theorem lO (s:cV):isWord s=(decide (1≤runeCountL s)&&decide (runeCountL s≤30)&&validD s&& !s.any dt):=by
 unfold isWord;rw[wg s s.length 0 (by omega),List.drop_zero]
 have:runeCountFrom ⟨s.toArray⟩ s.length 0=runeCountL s:=by unfold runeCountL runeCount;congr 1
 rw[this];unfold validD
 cases validGoD s.length s<;>cases s.any dt<;>simp[M4]
theorem DV (s:cV):∀(f f' p:Nat),s.length-p≤f→s.length-p≤f'→ml s f p=ml s f' p:=by
 intro f
 induction f with
 |zero=>
  intro f' p h h'
  cases f' with
  |zero=>rfl
  |succ f'=>rw[ml,ml,if_neg (by omega)]
 |succ f ih=>
  intro f' p h h'
  cases f' with
  |zero=>rw[ml,ml,if_neg (by omega)]
  |succ f'=>
   rw[ml,ml]
   by_cases hp:p<s.length
   ·rw[if_pos hp,if_pos hp]
    cases hw:CD s p with
    |none=>rfl
    |some w=>
     have:1≤w:=by
      unfold CD at hw
      split at hw
      ·cases hw
      ·split at hw
       ·cases hw
       ·split at hw
        ·simp only[Option.some.injEq]at hw;omega
        ·cases hw
     show Option.map _ _=Option.map _ _
     rw[ih f' (p+w) (by omega) (by omega)]
   ·rw[if_neg hp,if_neg hp]
def wc (s:cV)(p:Nat):Option Nat:=ml s (s.length-p) p
theorem Ng {s:cV}{p:Nat}(h:s.length≤p):wc s p=some 0:=by
 unfold wc;rw[show s.length-p=0 by omega];rfl
theorem JI {s:cV}{p:Nat}(h:p<s.length)(hw:CD s p=none):wc s p=none:=by
 unfold wc
 obtain⟨f,hf⟩:∃f,s.length-p=f+1:=⟨s.length-p-1,by omega⟩
 rw[hf,ml,if_pos h,hw]
theorem JJ {s:cV}{p w:Nat}(h:p<s.length)(hw:CD s p=some (w+1)):wc s p=(wc s (p+(w+1))).map (· +1):=by
 unfold wc
 obtain⟨f,hf⟩:∃f,s.length-p=f+1:=⟨s.length-p-1,by omega⟩
 rw[hf,ml,if_pos h,hw]
 show Option.map _ _=Option.map _ _
 rw[DV s f (s.length-(p+(w+1))) (p+(w+1)) (by omega) (Nat.le_refl _)]
end Go.J
namespace Go.J
open Go
section
variable {P:Program}{n:Nat}{F:Fr}{A:World→Prop}{c:Ctx}{H R:List bQ}{ty:TypeId}{x y:Operand}{v:Value}{Q:Exit→Act→World→Prop}{ops:Array Oper}{rest:List Oper}
 {pos:String} {after:Array Edge} {t e:TypeId} {m k:Nat} {cs:List Value}
theorem Ev.kF {b o cap size:Nat}{i:Int}{kd:IntKind}(hv:v= .slice (some ⟨b,o,none⟩) m cap)(hx:aL F x v)(hy:aL F y (.int kd i))(ht:P.underlying t=some (.slice e))(hs:(P.info? e).map (·.size)=some size)
 (hi:i=k) (hk:k<m):Ev P n F A (.indexAddr t x y) ty (e9 v size k 0):= .of_run fun a w ha _=>by
 subst hv;obtain⟨inf,p4,fD⟩:=Option.map_eq_some_iff.1 hs;subst hi
 simp[execOp,hx.eval ha,hy.eval ha,Instr.indexAt,asIntOf,run_underlying ht,sizeOf,typeInfo,p4,fD,hk,eQ,Addr.add_lit]
theorem CG {size off:Nat}{u:Value}{ρ:Ro}{w:World}(jC:eF c (row v e size m cs::R) ρ w)(hk:k<m)(yO:off<size):∃b u0,e9 v size k off= .pointer (some ⟨b,k*size+off,none⟩)∧v.ownBlock=some b∧
 w.cell? ⟨b,k*size+off,none⟩=some u0∧w.frozen? ⟨b,k*size+off,none⟩=false∧eF c (row v e size m (cs.set (k*size+off) u)::R) ρ (w.setCell ⟨b,k*size+off,none⟩ u):=by
 have hr:=eP.1 (jC.dF _ (List.mem_cons_self ..))
 have jA:k*size+off<cs.length:=by
  rw[hr.1]
  have:(k+1)*size≤m*size:=Nat.mul_le_mul_right _ hk
  rw[Nat.add_mul]at this;omega
 obtain⟨b,h2,h3,h4,h5⟩:=ma hr hk (List.getElem?_eq_getElem jA);refine⟨b,_,h2,h4,h3,h5,?_⟩;refine jC.alter rfl ⟨rfl,Nat.le_refl _⟩ rfl (by simp) (fun j hj fj=> ?_) (eP.2 ?_) (fun b' iu=>by rw[ef]at iu⊢;exact .inl iu)
 ·rw[ef,h4]at fj
  simp only[World.setCell,Array.getElem?_modify]
  rw[if_neg (fun e=>fj (by rw[e]))]
 ·obtain⟨hl,h6⟩:=hr
  refine⟨by rw[List.length_set];exact hl,?_⟩
  rcases h6 with⟨rfl,rfl⟩|⟨g,cap,cur,rfl,JA,hg,yQ,uW,kp,uN⟩
  ·omega
  ·simp only[Value.ownBlock,Option.some.injEq]at h4
   subst h4;refine .inr ⟨_,cap,_,rfl,JA,kK hg,yQ,uW,by simp[kp],?_⟩;rw[←uN,Array.toList_setIfInBounds,List.take_set]
theorem St.DW {u1 u2:Value}[tk:jR v H e 2 m cs R](hx:aL F x (e9 v 2 k 0))(hy:aL F y (.agg #[u1,u2]))(hs:(P.info? t).map (·.size)=some 2)(h1:u1.oneCell'=true)(h2:u2.oneCell'=true)
 (hk:k<m) (h:St n F (Mm c (row v e 2 m ((cs.set (k*2) u1).set (k*2+1) u2)::R)) (wpList P ops Q rest)):
 St n F (Mm c H) (wpList P ops Q ({dst:=none,op:= .store t x y,type:=ty,pos:=pos,after:=after,guard:=none}::rest)):=by
 refine St.lk (K:=fun u' H'=>H'=row v e 2 m ((cs.set (k*2) u1).set (k*2+1) u2)::R) ?_ ?_
 ·intro a w ρ ha hm
  have JK:=hm.perm tk.perm
  obtain⟨b,z1,p1,q1,c1,f1,wV⟩:=CG (off:=0) (u:=u1) JK hk (by omega);obtain⟨b',z2,p2,q2,c2,f2,qJ⟩:=CG (off:=1) (u:=u2) wV hk (by omega)
  rw[q1]at q2;cases q2
  rw[p1]at hx;obtain⟨i,hi,fD⟩:=Option.map_eq_some_iff.1 hs;refine⟨.skip,(w.setCell ⟨b,k*2+0,none⟩ u1).setCell ⟨b,k*2+1,none⟩ u2,ρ,_,?_,⟨_,.inr ⟨rfl,rfl⟩,rfl⟩,qJ⟩
  simp only[Nat.add_zero]at hx c1 f1 c2 f2⊢
  simp[execOp,hx.eval ha,hy.eval ha,Instr.storeAt,Instr.sureAddr,storeVar,sizeOf,typeInfo,hi,fD,bp,storeCells,run_store P w _ u1 _ h1,run_store P _ _ u2 _ h2,c1,f1,c2,f2,Addr.add_zero',Addr.add_lit]
 ·rintro _ _ rfl
  exact h
end
def p9 (ds:List df):df:=⟨fun ρ=>∀d∈ds,d.f ρ,fun _ _ h k d hd=>d.mono _ _ h (k d hd)⟩
theorem cz.all {P:Program}{f:FuncId}{args:Array Value}{ds:List df}{v:Value}(h:cz P f args ds v):cz P f args [p9 ds] v:=by
 intro w ρ st
 have hf:∀d∈ds,d.f ρ:=dV.1 (st.dF (aF (p9 ds)) (by simp))
 have e:km (ds.map aF)=km ([p9 ds].map aF):=by
  funext b
  apply propext
  constructor
  ·intro h;exact absurd h (iX ds b)
  ·intro h;exact absurd h (iX [p9 ds] b)
 have XL:eF ⟨w,ρ,km ([p9 ds].map aF),True⟩ [] ρ w:=eF.drop st
 have XM:Start (ds.map aF) ρ w:=by
  have:=XL.yM ds hf
  rw[List.append_nil]at this;unfold Start;rw[e];exact this
 have:=h w ρ XM
 rw[e]at this;exact this
theorem cz.sL {P:Program}{f:FuncId}{args:Array Value}{ds JL:List df}{v:Value}(h:cz P f args ds v)(hi:∀ρ,(∀d∈JL,d.f ρ)→∀d∈ds,d.f ρ):cz P f args JL v:=by
 intro w ρ st
 have hf:∀d∈JL,d.f ρ:=fun d hd=>dV.1 (st.dF (aF d) (List.mem_map_of_mem hd))
 have e:km (ds.map aF)=km (JL.map aF):=by
  funext b
  apply propext
  exact⟨fun h=>absurd h (iX ds b),fun h=>absurd h (iX JL b)⟩
 have XL:eF ⟨w,ρ,km (JL.map aF),True⟩ [] ρ w:=by
  have:∀(l:List df),eF ⟨w,ρ,km (JL.map aF),True⟩ (l.map aF) ρ w→eF ⟨w,ρ,km (JL.map aF),True⟩ [] ρ w:=by
   intro l
   induction l with
   |nil=>exact fun h=>h
   |cons d l ih=>exact fun h=>ih h.drop
  exact this JL st
 have XM:Start (ds.map aF) ρ w:=by
  have:=XL.yM ds (hi ρ hf)
  rw[List.append_nil]at this;unfold Start;rw[e];exact this
 have:=h w ρ XM
 rw[e]at this;exact this
theorem kL.p9 {c:Ctx}{L R:List bQ}{ds:List df}(h:kL c L R ds):kL c L R [J.p9 ds]:=fun ρ w hm d hd=>by
 rw[List.mem_singleton.1 hd]
 exact fun d' lJ=>h ρ w hm d' lJ
theorem fV.p9 {c:Ctx}{H:List bQ}{ds:List df}(h:fV c H ds):fV c H [J.p9 ds]:=fun ρ w hm d hd=>by
 rw[List.mem_singleton.1 hd]
 exact fun d' lJ=>h ρ w hm d' lJ
theorem St.cast {n:Nat}{F:Fr}{c:Ctx}{H H':List bQ}{T:Act→World→Prop}(h:H=H')(k:St n F (Mm c H') T):St n F (Mm c H) T:=by rw[h];exact k
section
variable {n:Nat}{F:Fr}{c:Ctx}{H R:List bQ}{T:Act→World→Prop}{α:Type}
def aX (f:α→df)(xs:List α):df:=⟨fun ρ=>∀x∈xs,(f x).f ρ,fun ρ iK h k x hx=>(f x).mono _ _ h (k x hx)⟩
theorem St.cC (f:α→df)(xs:List α){x:α}[hd:jW (aX f xs) H](hx:x∈xs)(k:St n F (Mm c (aF (f x)::H)) T):St n F (Mm c H) T:=
 St.fo (f x) [aX f xs] (fun ρ h=>h _ (List.mem_cons_self ..) x hx) k
theorem St.dX (f:α→df)(k:St n F (Mm c (aF (aX f [])::H)) T):St n F (Mm c H) T:=
 St.fact (aX f []) (fun ρ _ _=>fun x hx=>by cases hx) k
theorem St.lP (f:α→df){xs:List α}{x:α}[hd:jW (aX f xs) H][hx:jW (f x) H](k:St n F (Mm c (aF (aX f (xs++ [x]))::H)) T):St n F (Mm c H) T:=
 St.fo (aX f (xs++ [x])) [aX f xs,f x] (fun ρ h y hy=>by
  rcases List.mem_append.1 hy with hy|hy
  ·exact h _ (List.mem_cons_self ..) y hy
  ·rw[List.mem_singleton.1 hy];exact h _ (List.mem_cons_of_mem _ (List.mem_cons_self ..))) k
theorem St.ei (f:α→df){xs:List α}{x:α}[hd:jW (aX f xs) H][hx:jW (f x) H](k:St n F (Mm c (aF (aX f (x::xs))::H)) T):St n F (Mm c H) T:=
 St.fo (aX f (x::xs)) [aX f xs,f x] (fun ρ h y hy=>by
  rcases List.mem_cons.1 hy with rfl|hy
  ·exact h _ (List.mem_cons_of_mem _ (List.mem_cons_self ..))
  ·exact h _ (List.mem_cons_self ..) y hy) k
end
abbrev hP (s:cV):Prop:=s.length≤140737488351232
structure ja where
 name:cV
 pv:cm
 parents:List Int
structure eC where
 name:cV
 mm:Int
 value:Int
structure fO where
 dh:Int
 to:Int
structure jr where
 type:Int
 lv:cm
 aY:List fO
structure eH where
 nv:cm
 nodes:List jr
inductive cT where
 |mk (base:cV) (av:cm) (args:List cT)
inductive cD where
 |mk (kind:Int) (name:cV) (index:Int) (type:cT) (av:cm) (args:List cD)
inductive br where
 |mk (eD lex:Int) (kv:cm) (kids:List br)
def cT.base:cT→cV| .mk b _ _=>b
def cT.av:cT→cm| .mk _ v _=>v
def cT.args:cT→List cT| .mk _ _ l=>l
def cD.kind:cD→Int| .mk k _ _ _ _ _=>k
def cD.name:cD→cV| .mk _ s _ _ _ _=>s
def cD.index:cD→Int| .mk _ _ i _ _ _=>i
def cD.type:cD→cT| .mk _ _ _ t _ _=>t
def cD.av:cD→cm| .mk _ _ _ _ v _=>v
def cD.args:cD→List cD| .mk _ _ _ _ _ l=>l
def br.eD:br→Int| .mk r _ _ _=>r
def br.lex:br→Int| .mk _ l _ _=>l
def br.kv:br→cm| .mk _ _ v _=>v
def br.kids:br→List br| .mk _ _ _ l=>l
structure bV where
 name:cV
 graph:eH
 kids:Int
 weight:Int
 cg:cD
structure cq where
 word:cV
 graph:eH
 weight:Int
 cg:cD
structure iG where
 tv:cm
 types:List ja
 fv:cm
 bb:List eC
 rv:cm
 rules:List bV
 xv:cm
 bA:List cq
 start:eH
def du:Rp ja:=⟨2,by decide,fun x=>[sv x.name,x.pv.1],fun x=>hP x.name,fun _=>rfl,fun x u h=>by simp at h;rcases h with rfl|rfl;rfl;exact x.pv.2⟩
def bx:Rp eC:=⟨3,by decide,fun x=>[sv x.name,iv x.mm,iv x.value],fun x=>hP x.name∧bF x.mm∧bF x.value,fun _=>rfl,fun x u h=>by simp at h;rcases h with rfl|rfl|rfl<;>rfl⟩
def eu:Rp fO:=⟨2,by decide,fun x=>[iv x.dh,iv x.to],fun x=>bF x.dh∧bF x.to,fun _=>rfl,fun x u h=>by simp at h;rcases h with rfl|rfl<;>rfl⟩
def ej:Rp jr:=⟨2,by decide,fun x=>[iv x.type,x.lv.1],fun x=>bF x.type,fun _=>rfl,fun x u h=>by simp at h;rcases h with rfl|rfl;rfl;exact x.lv.2⟩
def gT:Rp cT:=⟨2,by decide,fun x=>[sv x.base,x.av.1],fun x=>hP x.base,fun _=>rfl,fun x u h=>by simp at h;rcases h with rfl|rfl;rfl;exact x.av.2⟩
abbrev pA (x:cD):List Value:=[iv x.kind,sv x.name,iv x.index,sv x.type.base,x.type.av.1,x.av.1]
theorem ez {u:Value}{L:List Value}(h:u.oneCell'=true)(k:∀v∈L,v.oneCell'=true):∀v∈u::L,v.oneCell'=true:=fun v hv=>by
 rcases List.mem_cons.1 hv with rfl|hv
 ·exact h
 ·exact k v hv
theorem JM:∀v∈([]:List Value),v.oneCell'=true:=fun v hv=>by cases hv
theorem nU (x:cD):∀u∈pA x,u.oneCell'=true:=ez rfl (ez rfl (ez rfl (ez rfl (ez x.type.av.2 (ez x.av.2 JM)))))
def cE:Rp cD:=⟨6,by decide,pA,fun x=>bF x.kind∧hP x.name∧bF x.index∧hP x.type.base,fun _=>rfl,fun x u h=>nU x u h⟩
abbrev js (x:br):List Value:=[iv x.eD,iv x.lex,x.kv.1]
def dY:Rp br:=⟨3,by decide,js,fun x=>bF x.eD∧bF x.lex,fun _=>rfl,fun x u h=>by simp at h;rcases h with rfl|rfl|rfl;rfl;rfl;exact x.kv.2⟩
abbrev M5 (x:bV):List Value:=[sv x.name,x.graph.nv.1,iv x.kids,iv x.weight,iv x.cg.kind,sv x.cg.name,iv x.cg.index,sv x.cg.type.base,x.cg.type.av.1,x.cg.av.1]
def cA:Rp bV:=⟨10,by decide,M5,fun x=>hP x.name∧bF x.kids∧bF x.weight∧cE.wf x.cg,fun _=>rfl,fun x u h=>ez rfl (ez x.graph.nv.2 (ez rfl (ez rfl (nU x.cg)))) u h⟩
abbrev DX (x:cq):List Value:=[sv x.word,x.graph.nv.1,iv x.weight,iv x.cg.kind,sv x.cg.name,iv x.cg.index,sv x.cg.type.base,x.cg.type.av.1,x.cg.av.1]
def cI:Rp cq:=⟨9,by decide,DX,fun x=>hP x.word∧bF x.weight∧cE.wf x.cg,fun _=>rfl,fun x u h=>ez rfl (ez x.graph.nv.2 (ez rfl (nU x.cg))) u h⟩
instance (x:ja):en du x [sv x.name,x.pv.1]:=⟨rfl⟩
instance (x:eC):en bx x [sv x.name,iv x.mm,iv x.value]:=⟨rfl⟩
instance (x:fO):en eu x [iv x.dh,iv x.to]:=⟨rfl⟩
instance (x:jr):en ej x [iv x.type,x.lv.1]:=⟨rfl⟩
instance (x:cT):en gT x [sv x.base,x.av.1]:=⟨rfl⟩
instance (x:cD):en cE x (pA x):=⟨rfl⟩
instance (x:br):en dY x (js x):=⟨rfl⟩
instance (x:bV):en cA x (M5 x):=⟨rfl⟩
instance (x:cq):en cI x (DX x):=⟨rfl⟩
abbrev Nh (g:iG):List Value:=[g.tv.1,g.fv.1,g.rv.1,g.xv.1,g.start.nv.1]
inductive o9 (ρ:Ro):cT→Prop
 |mk {x:cT} (h:(sl gT x.av.1 x.args).f ρ) (k:∀y∈x.args,o9 ρ y):o9 ρ x
inductive lp (ρ:Ro):cD→Prop
 |mk {x:cD} (ht:o9 ρ x.type) (h:(sl cE x.av.1 x.args).f ρ) (k:∀y∈x.args,lp ρ y):lp ρ x
inductive mn (ρ:Ro):br→Prop
 |mk {x:br} (h:(sl dY x.kv.1 x.kids).f ρ) (k:∀y∈x.kids,mn ρ y):mn ρ x
theorem o9.mono {ρ iK:Ro}(h:∀k o,ρ k=some o→iK k=some o){x:cT}(hx:o9 ρ x):o9 iK x:=by
 induction hx with
 |mk h1 _ ih=>exact .mk ((sl _ _ _).mono _ _ h h1) ih
theorem lp.mono {ρ iK:Ro}(h:∀k o,ρ k=some o→iK k=some o){x:cD}(hx:lp ρ x):lp iK x:=by
 induction hx with
 |mk ht h1 _ ih=>exact .mk (ht.mono h) ((sl _ _ _).mono _ _ h h1) ih
theorem mn.mono {ρ iK:Ro}(h:∀k o,ρ k=some o→iK k=some o){x:br}(hx:mn ρ x):mn iK x:=by
 induction hx with
 |mk h1 _ ih=>exact .mk ((sl _ _ _).mono _ _ h h1) ih
def bW (x:cT):df:=⟨fun ρ=>o9 ρ x,fun _ _ h k=>k.mono h⟩
def bN (x:cD):df:=⟨fun ρ=>lp ρ x,fun _ _ h k=>k.mono h⟩
def cB (x:br):df:=⟨fun ρ=>mn ρ x,fun _ _ h k=>k.mono h⟩
def ek (x:ja):df:=sl aK x.pv.1 x.parents
def dS (x:jr):df:=sl eu x.lv.1 x.aY
def l6 (g:eH):List df:=[sl ej g.nv.1 g.nodes,aX dS g.nodes]
def bU (g:eH):df:=p9 (l6 g)
def CH (x:bV):List df:=[bU x.graph,bN x.cg]
def cO (x:bV):df:=p9 (CH x)
def JN (x:cq):List df:=[bU x.graph,bN x.cg]
def dT (x:cq):df:=p9 (JN x)
def M6 (tv fv:cm)(ts:List ja)(fs:List eC):List df:=[sl du tv.1 ts,aX ek ts,sl bx fv.1 fs]
def yX (g:iG):List df:=[sl du g.tv.1 g.types,aX ek g.types,sl bx g.fv.1 g.bb,sl cA g.rv.1 g.rules,aX cO g.rules,sl cI g.xv.1 g.bA,aX dT g.bA,bU g.start]
def dv (g:iG):df:=p9 (yX g)
section
variable {n:Nat}{F:Fr}{c:Ctx}{H R:List bQ}{T:Act→World→Prop}
theorem St.jb (x:cT)[hd:jW (bW x) H](k:St n F (Mm c (aF (sl gT x.av.1 x.args)::aF (aX bW x.args)::H)) T):St n F (Mm c H) T:=
 St.fI (ι:=Unit) (bW x) (fun _=>[sl gT x.av.1 x.args,aX bW x.args]) (fun ρ h=>⟨(),fun e he=>by
  cases h with
  |mk h k=>
   simp only[List.mem_cons,List.not_mem_nil,or_false]at he
   rcases he with rfl|rfl
   ·exact h
   ·exact k⟩) fun _=>k
theorem St.pB (x:cD)[hd:jW (bN x) H](k:St n F (Mm c (aF (bW x.type)::aF (sl cE x.av.1 x.args)::aF (aX bN x.args)::H)) T):St n F (Mm c H) T:=
 St.fI (ι:=Unit) (bN x) (fun _=>[bW x.type,sl cE x.av.1 x.args,aX bN x.args]) (fun ρ h=>⟨(),fun e he=>by
  cases h with
  |mk ht h k=>
   simp only[List.mem_cons,List.not_mem_nil,or_false]at he
   rcases he with rfl|rfl|rfl
   ·exact ht
   ·exact h
   ·exact k⟩) fun _=>k
theorem St.mo (x:br)[hd:jW (cB x) H](k:St n F (Mm c (aF (sl dY x.kv.1 x.kids)::aF (aX cB x.kids)::H)) T):St n F (Mm c H) T:=
 St.fI (ι:=Unit) (cB x) (fun _=>[sl dY x.kv.1 x.kids,aX cB x.kids]) (fun ρ h=>⟨(),fun e he=>by
  cases h with
  |mk h k=>
   simp only[List.mem_cons,List.not_mem_nil,or_false]at he
   rcases he with rfl|rfl
   ·exact h
   ·exact k⟩) fun _=>k
end
end Go.J
namespace Go.Proofs.YtolmidffiegkaaaGreatDoor
open Go Go.J
inductive dU where
 |mk (base:cV) (args:List dU)
inductive cx where
 |mk (kind:Int) (name:cV) (index:Int) (type:dU) (args:List cx)
inductive fF where
 |mk (eD lex:Int) (kids:List fF)
mutual
def bI:cT→dU
 | .mk b _ l=> .mk b (CI l)
def CI:List cT→List dU
 | []=>[]
 |x::l=>bI x::CI l
end
mutual
def ax:cD→cx
 | .mk k s i t _ l=> .mk k s i (bI t) (wh l)
def wh:List cD→List cx
 | []=>[]
 |x::l=>ax x::wh l
end
mutual
def ah:br→fF
 | .mk r x _ l=> .mk r x (wi l)
def wi:List br→List fF
 | []=>[]
 |x::l=>ah x::wi l
end
theorem qN:∀l:List cT,CI l=l.map bI
 | []=>rfl
 |x::l=>by rw[CI,qN l];rfl
theorem oU:∀l:List cD,wh l=l.map ax
 | []=>rfl
 |x::l=>by rw[wh,oU l];rfl
theorem gl:∀l:List br,wi l=l.map ah
 | []=>rfl
 |x::l=>by rw[wi,gl l];rfl
def dU.base:dU→cV| .mk b _=>b
def dU.args:dU→List dU| .mk _ l=>l
def cx.kind:cx→Int| .mk k _ _ _ _=>k
def cx.name:cx→cV| .mk _ s _ _ _=>s
def cx.index:cx→Int| .mk _ _ i _ _=>i
def cx.type:cx→dU| .mk _ _ _ t _=>t
def cx.args:cx→List cx| .mk _ _ _ _ l=>l
def fF.eD:fF→Int| .mk r _ _=>r
def fF.lex:fF→Int| .mk _ l _=>l
def fF.kids:fF→List fF| .mk _ _ l=>l
theorem fT (x:cT):(bI x).base=x.base:=by cases x;rfl
theorem dA (x:cT):(bI x).args=x.args.map bI:=by cases x;exact qN _
theorem iZ (x:cD):(ax x).args=x.args.map ax:=by cases x;exact oU _
abbrev dZ:=cV×List Int
abbrev mS:=cV×Int×Int
abbrev Qj:=Int×List (Int×Int)
abbrev gx:=List Qj
structure pz where
 name:cV
 graph:gx
 kids:Int
 weight:Int
 cg:cx
structure Iu where
 word:cV
 graph:gx
 weight:Int
 cg:cx
structure iw where
 types:List dZ
 bb:List mS
 rules:List pz
 bA:List Iu
 start:gx
def bh (x:ja):dZ:=(x.name,x.parents)
def dL (x:eC):mS:=(x.name,x.mm,x.value)
def gI (x:fO):Int×Int:=(x.dh,x.to)
def kN (x:jr):Qj:=(x.type,x.aY.map gI)
def dH (g:eH):gx:=g.nodes.map kN
def lq (x:bV):pz:=⟨x.name,dH x.graph,x.kids,x.weight,ax x.cg⟩
def jh (x:cq):Iu:=⟨x.word,dH x.graph,x.weight,ax x.cg⟩
def fG (g:iG):iw:=⟨g.types.map bh,g.bb.map dL,g.rules.map lq,g.bA.map jh,dH g.start⟩
def mT (i:Int):Int→List Int→Int×Int
 |_,[]=>(0,0)
 |last,p::ps=>if p<0∨i≤p then(3,i)else if p≤last then(13,i)else mT i p ps
def hS:List cV→Nat→List dZ→Int×Int
 |_,_,[]=>(0,0)
 |known,i,t::ts=>if isName t.1=false then(10,i)else if t.1∈known then(7,i)else if decide (i=0)≠decide (t.2.length=0)then(5,i)
  else if(mT i (-1) t.2).1≠0 then mT i (-1) t.2 else hS (known++ [t.1]) (i+1) ts
def q7 (l:List dZ):Int×Int:=if l.length=0∨60<l.length then(2,-1)else hS [] 0 l
def FK (U:List Nat)(i:Nat)(ps:List Int):Nat:=ps.foldl (fun u p=>u|||U.getD p.toNat 0) (2^i)
def kO:List Nat→List dZ→List Nat
 |U,[]=>U
 |U,t::l=>kO (U++ [FK U U.length t.2]) l
def ua (l:List dZ):List Nat:=kO [] l
def dx (l:List dZ)(i j:Nat):Bool:=((ua l).getD i 0).testBit j
def comm (l:List dZ)(a b:Nat):List Nat:=(List.range l.length).filter fun i=>dx l i a&&dx l i b
def fp (l:List dZ)(a b:Nat):Bool:=match comm l a b with
 | []=>false
 |m::r=>r.any fun i=> !dx l i m
def kP (l:List dZ):Option Nat:=(List.range l.length).find? fun b=>(List.range b).any fun a=>fp l a b
def jE (n:Int):List cV→Nat→List mS→Int×Int
 |_,_,[]=>(0,0)
 |known,i,f::fs=>if isName f.1=false then(10,i)else if f.1∈known then(7,i)else if f.2.1<0∨n≤f.2.1∨f.2.2<0∨n≤f.2.2 then(3,i)else jE n (known++ [f.1]) (i+1) fs
def fP (ts:List dZ)(fs:List mS):Int×Int:=
 if 40<fs.length then(2,-1)else if(q7 ts).1≠0 then q7 ts else match kP ts with
  |some b=>(16,b)
  |none=>jE ts.length [] 0 fs
def vJ (nf nn i:Int):Int→List (Int×Int)→Int×Int
 |_,[]=>(0,0)
 |last,x::xs=>if x.1<0∨nf≤x.1∨x.2<0∨nn≤x.2 then(3,i)else if x.1≤last then(13,i)else vJ nf nn i x.1 xs
def dn (nt nf nn:Int):Nat→gx→Int×Int
 |_,[]=>(0,0)
 |i,x::xs=>if x.1<0∨nt≤x.1 then(3,i)else if(vJ nf nn i (-1) x.2).1≠0 then vJ nf nn i (-1) x.2 else dn nt nf nn (i+1) xs
def da (nt nf:Int)(g:gx):Int×Int:=if g.length=0∨60<g.length then(2,-2)else dn nt nf g.length 0 g
def sg:Qj:=(0,[])
def ft0:mS:=([],0,0)
def si (ts:List dZ)(fs:List mS)(g:gx)(t:Int)(x:Int×Int):Bool:=
 !dx ts t.toNat (fs.getD x.1.toNat ft0).2.1.toNat|| !dx ts (g.getD x.2.toNat sg).1.toNat (fs.getD x.1.toNat ft0).2.2.toNat
def kQ (ts:List dZ)(fs:List mS)(g:gx)(i:Nat):Bool:=(g.getD i sg).2.any (si ts fs g (g.getD i sg).1)
def jt (ts:List dZ)(fs:List mS)(g:gx):Option Nat:=(List.range g.length).find? (kQ ts fs g)
def iR (i:Nat)(M:List Bool)(x:Int×Int):List Bool:=if M.getD i false then M.set x.2.toNat true else M
def j4 (g:gx)(M:List Bool)(i:Nat):List Bool:=(g.getD i sg).2.foldl (iR i) M
def pass (g:gx)(M:List Bool):List Bool:=(List.range g.length).foldl (j4 g) M
def cM (g:gx):Nat→List Bool
 |0=>(List.replicate g.length false).set 0 true
 |k+1=>pass g (cM g k)
def lr:List Bool→Int
 | []=> -1
 |b::l=>if b=false then 0 else if lr l<0 then-1 else lr l+1
def M7 (g:gx):Int:=lr (cM g g.length)
def cU (ts:List dZ)(fs:List mS)(g:gx):Int×Int:=
 if(da ts.length fs.length g).1≠0 then da ts.length fs.length g else match jt ts fs g with
  |some i=>(12,i)
  |none=>if 0≤M7 g then(5,M7 g)else(0,0)
def AG (g:gx)(k:Int):Int:=match(g.getD 0 sg).2.find? fun x=>x.1==k with
 |some x=>x.2
 |none=> -1
def kR (g:gx)(kids:Int):Bool:=(List.range 4).all fun k=>decide (0≤AG g k)==decide ((k:Int)≤kids)
abbrev sE:cV:=[101]
abbrev sT:cV:=[116]
def dN (b:cV)(m:Nat):Bool:=(decide (b=sE)||decide (b=sT))&&decide (m=0)||decide (b=[])&&decide (m=2)
mutual
def fq:dU→Nat→Nat→Nat×Int
 | .mk b l,d,n=>if 200<n+1∨40<d then(n+1,1)else if dN b l.length=false then(n+1,5)else gJ l (d+1) (n+1)
def gJ:List dU→Nat→Nat→Nat×Int
 | [],_,n=>(n,0)
 |x::l,d,n=>if(fq x d n).2≠0 then fq x d n else gJ l d (fq x d n).1
end
def jc (s:dU):Int:=(fq s 1 0).2
def gr (s:dU):Bool:=decide (s.base=[])&&decide (s.args.length=0)
mutual
def fZ:dU→dU→Bool
 | .mk a l,.mk b m=>decide (a=b)&&decide (l.length=m.length)&&jF l m
def jF:List dU→List dU→Bool
 |x::l,y::m=>fZ x y&&jF l m
 |_,_=>true
end
def gK (kind:Int)(name:cV)(index:Int)(type:dU)(m:Nat)(bd:Nat):Int:=
 if kind=1 then(if index≠0∨m≠0 then 5 else if isName name=false then 10 else if jc type≠0 then 12 else 0)
 else if kind=2 then(if name≠ []∨gr type=false∨m≠0 then 5 else if index<0∨(bd:Int)≤index then 15 else 0)
 else if kind=3 then(if name≠ []∨index≠0∨m≠1 then 5 else if jc type≠0 then 12 else 0)
 else if kind=4 then(if name≠ []∨index≠0∨gr type=false∨m≠2 then 5 else 0)
 else 4
mutual
def fU:cx→Nat→Nat→Nat→Nat×Int×Int
 | .mk k s i t l,d,bd,n=>if 200<n+1∨40<d then(n+1,1,n)else if gK k s i t l.length bd≠0 then(n+1,gK k s i t l.length bd,n)else j5 l (d+1) (if k=3 then bd+1 else bd) (n+1)
def j5:List cx→Nat→Nat→Nat→Nat×Int×Int
 | [],_,_,n=>(n,0,0)
 |x::l,d,bd,n=>if(fU x d bd n).2.1≠0 then fU x d bd n else j5 l d bd (fU x d bd n).1
end
def wj:Option dU→Option dU→Option dU
 |some (.mk _ [a,b]),some x=>if fZ a x then some b else none
 |_,_=>none
mutual
def iH:cx→List dU→Option dU
 | .mk k _ i t l,c=>if k=1 then some t else if k=2 then c[c.length-1-i.toNat]? else if k=3 then(kS l (c++ [t])).map fun b=> .mk [] [t,b]else wj (kS l c) (wk l c)
def kS:List cx→List dU→Option dU
 |x::_,c=>iH x c
 | [],_=>none
def wk:List cx→List dU→Option dU
 |_::l,c=>kS l c
 | [],_=>none
end
def gu (t:cx):Int×Int:=if(fU t 1 0 0).2.1≠0 then(fU t 1 0 0).2 else if(iH t []).isNone then(12,-1)else(0,0)
def kT (ts:List dZ)(fs:List mS)(r:pz):Int:=
 if r.kids<1∨3<r.kids∨r.weight<0∨1000000<r.weight then 3 else if(cU ts fs r.graph).1≠0 then(cU ts fs r.graph).1 else if kR r.graph r.kids=false then 5 else(gu r.cg).1
def pC (ts:List dZ)(fs:List mS)(x:Iu):Int:=
 if isWord x.word=false then 10 else if x.weight<0∨1000000<x.weight then 3 else if(cU ts fs x.graph).1≠0 then(cU ts fs x.graph).1 else(gu x.cg).1
def ft (ts:List dZ)(fs:List mS):List cV→Nat→List pz→Int×Int
 |_,_,[]=>(0,0)
 |known,i,r::rs=>if isName r.name=false then(10,i)else if r.name∈known then(7,i)else if kT ts fs r≠0 then(kT ts fs r,i)else ft ts fs (known++ [r.name]) (i+1) rs
def fw (ts:List dZ)(fs:List mS):Nat→List Iu→Int×Int
 |_,[]=>(0,0)
 |i,x::xs=>if pC ts fs x≠0 then(pC ts fs x,i)else fw ts fs (i+1) xs
def oV (g:iw):Int×Int:=
 if(fP g.types g.bb).1≠0 then fP g.types g.bb else if g.bb.length≤3 then(9,-1)else if 40<g.rules.length∨100<g.bA.length then(2,-1)
 else if(ft g.types g.bb [] 0 g.rules).1≠0 then ft g.types g.bb [] 0 g.rules else if(fw g.types g.bb 0 g.bA).1≠0 then fw g.types g.bb 0 g.bA
 else if(cU g.types g.bb g.start).1≠0 then((cU g.types g.bb g.start).1,-1)else(0,0)
structure yY where
 nodes:Nat
 leaves:Nat
mutual
def iT (rk:List Int)(nl:Int):fF→Nat→Nat→yY→yY×Int×Int
 | .mk r x l,d,ch,s=>
  if 200<s.nodes+1∨48<d then(⟨s.nodes+1,s.leaves⟩,1,s.nodes)
  else if r< -1∨rk.length≤r∨(r= -1∧(x<0∨nl≤x))then(⟨s.nodes+1,s.leaves⟩,3,s.nodes)
  else if 0≤r∧x≠0 then(⟨s.nodes+1,s.leaves⟩,5,s.nodes)
  else if(l.length:Int)≠(if 0≤r then rk.getD r.toNat 0 else 0)then(⟨s.nodes+1,if 0≤r then s.leaves else s.leaves+1⟩,9,s.nodes)
  else if 3<(if l.length=1 then ch+1 else 0)then(⟨s.nodes+1,if 0≤r then s.leaves else s.leaves+1⟩,14,s.nodes)
  else iI rk nl l (d+1) (if l.length=1 then ch+1 else 0) ⟨s.nodes+1,if 0≤r then s.leaves else s.leaves+1⟩
def iI (rk:List Int)(nl:Int):List fF→Nat→Nat→yY→yY×Int×Int
 | [],_,_,s=>(s,0,0)
 |x::l,d,ch,s=>if(iT rk nl x d ch s).2.1≠0 then iT rk nl x d ch s else iI rk nl l d ch (iT rk nl x d ch s).1
end
def ju (g:iw)(t:fF):Int×Int:=
 if(iT (g.rules.map pz.kids) g.bA.length t 1 0 ⟨0,0⟩).2.1≠0 then(iT (g.rules.map pz.kids) g.bA.length t 1 0 ⟨0,0⟩).2
 else if 12<(iT (g.rules.map pz.kids) g.bA.length t 1 0 ⟨0,0⟩).1.leaves then(2,-2)else(0,0)
end Go.Proofs.YtolmidffiegkaaaGreatDoor
namespace Go.J
open Go
def cJ (u v:Value):df:=⟨fun _=>u=v,fun _ _ _ h=>h⟩
structure qy where
 slot:Nat
 jG:List Nat
 K:Value→df
instance:Inhabited qy:=⟨⟨0,[],fun u=>cJ u u⟩⟩
def sj (bs:List qy)(e:Nat→Value)(ds:List Nat):Fr:=ds.map fun j=>((bs.getD j default).slot,e j)
def pD (bs:List qy)(e:Nat→Value)(ds:List Nat):List bQ:=ds.map fun j=>aF ((bs.getD j default).K (e j))
def pE (c:Ctx)(H:List bQ)(slot:Nat)(K:Value→df)(a:Act)(w:World):Prop:=a.defers=[]∧∃u,a.tmps[slot]?=some u∧Mm c (aF (K u)::H) w
section
variable {P:Program}{ops:Array Oper}{Q:Exit→Act→World→Prop}{n:Nat}{F:Fr}{c:Ctx}{H R:List bQ}
class DY (H H':List bQ):Prop where
 eq:∃L,H'=L++H
instance (priority:=high) DY.here (H:List bQ):DY H H:=⟨[],rfl⟩
instance DY.there (E:bQ)(H H':List bQ)[h:DY H H']:DY H (E::H'):=⟨let⟨L,e⟩:=h.eq;⟨E::L,by rw[e];rfl⟩⟩
theorem eF.tail {c:Ctx}{L H:List bQ}{ρ:Ro}{w:World}(h:eF c (L++H) ρ w):eF c H ρ w:=by
 induction L with
 |nil=>exact h
 |cons E L ih=>exact ih (eF.drop h)
theorem St.aM {Fb:Fr}{H':List bQ}{slot:Nat}{K:Value→df}(u:Value)(hl:look Fb slot=some u)(d:df)(hd:K u=d)[hi:jW d H'][tl:DY H H']:St n Fb (Mm c H') (pE c H slot K):=
 fun a w ha hw=>⟨ha.defers,u,ha.slot _ _ hl,by
  rw[hd];obtain⟨ρ,hm⟩:=hw.out
  have lJ:=dV.1 (hm.dF _ hi.mem)
  obtain⟨L,e⟩:=tl.eq;subst e
  exact Mm.mk (hm.tail.fact d lJ)⟩
def Ni (P:Program)(ops:Array Oper)(Q:Exit→Act→World→Prop)(n:Nat)(F:Fr)(dr:Prop)(H:List bQ)(bs:List qy)(b:qy)(o:Oper):Prop:=
 ∀(c:Ctx) (e:Nat→Value),(¬dr→¬c.dr)→St n (sj bs e b.jG++F) (Mm c (pD bs e b.jG++H)) (wpList P ops (Exit.then (pE c H b.slot b.K) Q) [o])
theorem Ni.mk {dr:Prop}{bs:List qy}{slot:Nat}{jG:List Nat}{K:Value→df}{o:Oper}(Ff:(Nat→Value)→Fr)(L:(Nat→Value)→List bQ)(h1:∀e,sj bs e jG=Ff e)(h2:∀e,pD bs e jG=L e)
 (k:∀(c:Ctx) (e:Nat→Value),(¬dr→¬c.dr)→St n (Ff e++F) (Mm c (L e++H)) (wpList P ops (Exit.then (pE c H slot K) Q) [o])):Ni P ops Q n F dr H bs ⟨slot,jG,K⟩ o:=fun c e hd=>by
 show St n (sj bs e jG++F) (Mm c (pD bs e jG++H)) _
 rw[h1,h2];exact k c e hd
def ao (P:Program)(ops:Array Oper)(Q:Exit→Act→World→Prop)(n:Nat)(F:Fr)(dr:Prop)(H:List bQ)(bs:List qy):List qy→List Oper→Prop
 | [],[]=>True
 |b::l,o::m=>Ni P ops Q n F dr H bs b o∧ao P ops Q n F dr H bs l m
 |_,_=>False
theorem ao.nil {dr:Prop}{bs:List qy}:ao P ops Q n F dr H bs [] []:=trivial
theorem ao.cons {dr:Prop}{bs l:List qy}{b:qy}{o:Oper}{m:List Oper}(h:Ni P ops Q n F dr H bs b o)(k:ao P ops Q n F dr H bs l m):ao P ops Q n F dr H bs (b::l) (o::m):=⟨h,k⟩
theorem ao.at_ {dr:Prop}{bs:List qy}:∀{l:List qy} {m:List Oper},ao P ops Q n F dr H bs l m→l.length=m.length∧∀(i:Nat) (b:qy) (o:Oper),l[i]?=some b→m[i]?=some o→Ni P ops Q n F dr H bs b o
 | [],[],_=>⟨rfl,fun i b o h=>by simp at h⟩
 | [],_::_,h=>h.elim
 |_::_,[],h=>h.elim
 |b::l,o::m,h=>by
  obtain⟨h1,h2⟩:=ao.at_ h.2;refine⟨by simp[h1],fun i b' o' hb ho=> ?_⟩
  cases i with
  |zero=>simp at hb ho;subst hb ho;exact h.1
  |succ i=>exact h2 i b' o' (by simpa using hb) (by simpa using ho)
def FL (n lo:Nat)(ex:List Nat)(sd:List (Nat×List Nat))(hd:List Oper):Bool:=
 (sd.zip hd).all (fun p=>p.2.guard.isNone&&p.2.dst==some p.1.1&&Nat.ble (p.1.1+1) n&&(Nat.ble lo p.1.1||ex.contains p.1.1)&&p.1.2.all (fun j=>Nat.ble (j+1) sd.length&&p.2.after.any fun e=>Region.binds .any e&&e.on==j))&&
  (sd.map (·.1)).Nodup
theorem Nj {o:Oper}{a:Act}{w:World}{K:Act→World→Prop}(h:o.wp P a w K Q):o.wp P a w (fun a' w'=>K a' w'∧((∃v,a'=a.put o.dst v)∨a'.defers≠ [])) Q:=by
 unfold Oper.wp at*
 generalize (execOp a.eval o).run P w=r at*
 cases r with
 |ok nx w'=>
  cases nx<;>simp only[Oper.upon]at h⊢
  case value u=>exact⟨h,.inl ⟨u,rfl⟩⟩
  case skip=>exact⟨h,.inl ⟨undef,rfl⟩⟩
  case defer d=>exact⟨h,.inr (by cases o.dst<;>simp[Act.put])⟩
  case enter f args=>
   refine Calls.mono h fun e Ln he=> ?_
   cases e with
   |returned u=>exact⟨he,.inl ⟨u,rfl⟩⟩
   |panicked c=>exact he
   |outgrown=>exact he
  case row rw_ args=>exact Rows.mono h fun u Ln he=>⟨he,.inl ⟨u,rfl⟩⟩
  all_goals exact h
 |halt x w'=>
  cases x<;>simp only[Oper.upon]at h⊢
  all_goals exact h
theorem vK {i:Nat}{o:Oper}(hi:ops[i]?=some o)(hg:o.guard=none){a:Act}{w:World}{K:Act→World→Prop}(h:wpOp P ops Q i K a w):wpOp P ops Q i (fun a' w'=>K a' w'∧((∃v,a'=a.put o.dst v)∨a'.defers≠ [])) a w:=by
 unfold wpOp at*;rw[hi]at h⊢
 have hw:Region.wanted o (yielded ops a.tmps)=true:=by unfold Region.wanted;rw[hg]
 simp only[hw,if_true]at h⊢
 exact h.imp Nj id
theorem Ah {p q:Nat→Bool}{i:Nat}(hp:p i=true)(hq:q i=false)(h:∀j,j≠i→p j=q j):∀m,i<m→(List.range m).countP p=(List.range m).countP q+1:=by
 have eq:∀m,m≤i→(List.range m).countP p=(List.range m).countP q:=by
  intro m hm
  refine List.countP_congr fun j hj=> ?_
  have:=List.mem_range.1 hj
  rw[h j (by omega)]
 intro m
 induction m with
 |zero=>intro h;omega
 |succ m ih=>
  intro hm;rw[List.range_succ,List.countP_append,List.countP_append,List.countP_singleton,List.countP_singleton]
  by_cases e:i=m
  ·subst e
   rw[eq i (Nat.le_refl _),hp,hq];simp
  ·rw[ih (by omega),h m (Ne.symm e)];omega
def Iv (m:Nat)(listed:Array Bool):Nat:=(List.range m).countP fun j=> !listed.getD j true
theorem eF.JO {c:Ctx}{H:List bQ}{ρ:Ro}{w:World}(h:eF c H ρ w):eF ⟨w,ρ,km H,c.dr⟩ H ρ w:=
 ⟨rfl,⟨rfl,fun _=>Nat.le_refl _⟩,rfl,Nat.le_refl _,fun _ _ _=>rfl,h.fits,Ro.le_refl _,fun _ _ _=>rfl,h.dF,fun E hE b hb=>⟨(h.own E hE b hb).1,.inr ⟨E,hE,hb⟩⟩,h.C8⟩
theorem yZ:∀{F:Fr} {t:Nat} {x:Value},look F t=some x→t∈F.map (·.1)
 | [],_,_,h=>by simp[look]at h
 |(k,u)::F,t,x,h=>by
  simp only[look]at h
  cases hb:Nat.beq t k with
  |true=>rw[Nat.eq_of_beq_eq_true hb];simp
  |false=>
   simp only[hb,cond_false]at h
   have:=yZ h
   simp only[List.map_cons,List.mem_cons];exact .inr this
def wm (acc:List Nat)(o:Oper):Nat:=o.after.toList.foldl (fun u e=>if Region.binds .any e then u|||(2^e.on|||acc.getD e.on 0)else u) 0
def fA:List Oper→List Nat→List Nat
 | [],acc=>acc
 |o::l,acc=>fA l (acc++ [wm acc o])
theorem Aj (acc:List Nat)(o:Oper){j:Nat}(h:(wm acc o).testBit j=true):∃e∈o.after,Region.binds .any e=true∧(e.on=j∨(acc.getD e.on 0).testBit j=true):=by
 have key:∀(l:List Edge) (u:Nat),(l.foldl (fun u e=>if Region.binds .any e then u|||(2^e.on|||acc.getD e.on 0)else u) u).testBit j=true→u.testBit j=true∨∃e∈l,Region.binds .any e=true∧(e.on=j∨(acc.getD e.on 0).testBit j=true):=by
  intro l
  induction l with
  |nil=>intro u h;exact .inl h
  |cons e l ih=>
   intro u h;rw[List.foldl_cons]at h
   rcases ih _ h with h1|⟨e',he,h1⟩
   ·split at h1
    ·rename_i hb
     rw[Nat.testBit_or,Nat.testBit_or,Bool.or_eq_true,Bool.or_eq_true,Nat.testBit_two_pow,decide_eq_true_eq]at h1
     rcases h1 with h1|h1
     ·exact .inl h1
     ·exact .inr ⟨e,List.mem_cons_self ..,hb,h1⟩
    ·exact .inl h1
   ·exact .inr ⟨e',List.mem_cons_of_mem _ he,h1⟩
 rcases key _ _ h with h1|⟨e,he,h1⟩
 ·rw[Nat.zero_testBit]at h1;cases h1
 ·exact⟨e,by simpa using he,h1⟩
theorem lu:∀(l m:List Oper) (acc:List Nat),fA (l++m) acc=fA m (fA l acc)
 | [],_,_=>rfl
 |o::l,m,acc=>by rw[List.cons_append,fA,fA,lu l m]
theorem qO:∀(l:List Oper) (acc:List Nat),(fA l acc).length=acc.length+l.length
 | [],_=>rfl
 |o::l,acc=>by rw[fA,qO l];simp;omega
theorem qP:∀(l:List Oper) (acc:List Nat) (i:Nat),i<acc.length→(fA l acc)[i]?=acc[i]?
 | [],_,_,_=>rfl
 |o::l,acc,i,h=>by rw[fA,qP l _ i (by simp;omega),List.getElem?_append_left h]
theorem FM {l:List Oper}{i:Nat}{o:Oper}(h:l[i]?=some o):(fA l []).getD i 0=wm (fA (l.take i) []) o:=by
 have hi:=(List.getElem?_eq_some_iff.1 h).1
 have e:fA l []=fA (l.drop (i+1)) (fA (l.take i) []++ [wm (fA (l.take i) []) o]):=by
  conv=>lhs;rw[←List.take_append_drop i l]
  rw[lu,List.drop_eq_getElem_cons hi,fA];rw[List.getElem?_eq_getElem hi]at h;rw[Option.some.inj h]
 have hl:(fA (l.take i) []).length=i:=by rw[qO,List.length_take];simp;omega
 rw[e,List.getD_eq_getElem?_getD,qP _ _ _ (by simp[hl]),List.getElem?_append_right (by omega),hl,Nat.sub_self];rfl
theorem Ak {l:List Oper}{i j:Nat}(h:j<i)(hi:i≤l.length):(fA (l.take i) []).getD j 0=(fA l []).getD j 0:=by
 have e:fA l []=fA (l.drop i) (fA (l.take i) []):=by rw[←lu,List.take_append_drop]
 rw[e,List.getD_eq_getElem?_getD,List.getD_eq_getElem?_getD,qP (l.drop i) (fA (l.take i) []) j (by rw[qO,List.length_take];simp;omega)]
def mq (l:List Oper)(m:Nat):Bool:=
 ((List.range l.length).all fun i=>match l[i]? with
  |some o=>(o.after.all fun e=>Nat.ble (e.on+1) i)&&(Nat.ble i m||o.after.any fun e=>Region.binds .any e&&e.on==i-1)
  |none=>false)&&(Nat.ble l.length m||(fA l []).getD m 0==2^m-1)
theorem jv {l:List Oper}{m i:Nat}{o:Oper}(h:mq l m=true)(ho:l[i]?=some o):∀e∈o.after,e.on<i:=by
 have hi:=(List.getElem?_eq_some_iff.1 ho).1
 simp only[mq,Bool.and_eq_true]at h
 have h1:=List.all_eq_true.1 h.1 i (List.mem_range.2 hi)
 simp only[ho,Bool.and_eq_true]at h1
 intro e he;exact Nat.le_of_ble_eq_true ((Array.all_eq_true_iff_forall_mem.1 h1.1) e he)
theorem sk {l:List Oper}{m i:Nat}{o:Oper}(h:mq l m=true)(ho:l[i]?=some o)(hm:m<i):∃e∈o.after,Region.binds .any e=true∧e.on=i-1:=by
 have hi:=(List.getElem?_eq_some_iff.1 ho).1
 simp only[mq,Bool.and_eq_true]at h
 have h1:=List.all_eq_true.1 h.1 i (List.mem_range.2 hi)
 simp only[ho,Bool.and_eq_true,Bool.or_eq_true]at h1
 rcases h1.2 with h2|h2
 ·have:=Nat.le_of_ble_eq_true h2;omega
 ·obtain⟨e,he,hb⟩:=Array.any_eq_true'.1 h2
  simp only[Bool.and_eq_true,beq_iff_eq]at hb
  exact⟨e,he,hb.1,hb.2⟩
def rz (l:List Oper)(listed:Array Bool):Prop:=∀i o,l[i]?=some o→listed.getD i false=true→∀e∈o.after,Region.binds .any e=true→listed.getD e.on false=true
theorem rz.all {l:List Oper}{m:Nat}{listed:Array Bool}(hB:mq l m=true)(hc:rz l listed):∀(i:Nat) (o:Oper),l[i]?=some o→(∀e∈o.after,Region.binds .any e=true→listed.getD e.on false=true)→∀j,((fA l []).getD i 0).testBit j=true→listed.getD j false=true:=by
 intro i
 induction i using Nat.strongRecOn with
 |ind i ih=>
  intro o ho fE j hj
  have hi:=(List.getElem?_eq_some_iff.1 ho).1
  rw[FM ho]at hj;obtain⟨e,he,hb,h1⟩:=Aj _ _ hj
  have jA:=jv hB ho e he
  have hl:=fE e he hb
  rcases h1 with rfl|h1
  ·exact hl
  ·rw[Ak jA (by omega)]at h1
   have hoe:l[e.on]?=some l[e.on]:=List.getElem?_eq_getElem (by omega)
   exact ih e.on jA _ hoe (hc _ _ hoe hl) j h1
theorem pF {l:List Oper}{m:Nat}(hB:mq l m=true):∀(r:List Oper) (k:Nat) (listed:Array Bool) (a:Act) (w:World),m≤k→(∀j:Nat,r[j]?=l[k+j]?)→k+r.length=l.length→wW k listed l.length→
 wpList P l.toArray Q r a w→wpAny P .any l.toArray Q r.length listed a w
 | [],k,listed,a,w,_,_,hs,hu,h=>by
  refine⟨?_,h⟩;unfold Region.ready;rw[List.filter_eq_nil_iff];intro i hi
  have hi':=List.mem_range.1 hi
  simp only[List.size_toArray]at hi'
  have:listed.getD i true=true:=by rw[hu.getD i true hi'];simp at hs;simp;omega
  simp[this]
 |o::r,k,listed,a,w,hmk,hl,hs,hu,h=>by
  have hk:k<l.length:=by simp at hs;omega
  have ho:l[k]?=some o:=by simpa using (hl 0).symm
  have q8:l.toArray[k]?=some o:=by simpa using ho
  have fD:listed.size=l.length:=hu.1
  refine⟨fun h0=> ?_,fun i hi=> ?_⟩
  ·have:k∈Region.ready .any l.toArray listed:=mem_ready.2 ⟨by rw[hu.getD k true hk];simp,o,q8,fun e he _=>by
    have:=jv hB ho e he
    rw[hu.getD e.on false (by omega)];simp[this]⟩
   rw[h0]at this;cases this
  ·obtain⟨M8,oi,CJ,fE⟩:=mem_ready.1 hi
   have FN:i<l.length:=by have:=(Array.getElem?_eq_some_iff.1 CJ).1;simpa using this
   have DZ:l[i]?=some oi:=by simpa using CJ
   rw[hu.getD i true FN]at M8
   have Vm:k≤i:=by simpa using M8
   have hik:i=k:=by
    rcases Nat.lt_or_ge k i with h1|h1
    ·obtain⟨e,he,hb,hon⟩:=sk hB DZ (by omega)
     have h2:=fE e he hb
     rw[hon,hu.getD (i-1) _ (by omega)]at h2
     simp at h2;omega
    ·omega
   subst hik
   have ih:=pF hB r (i+1) (listed.setIfInBounds i true)
   have ih':∀a w,wpList P l.toArray Q r a w→wpAny P .any l.toArray Q r.length (listed.setIfInBounds i true) a w:=fun a w h=>
    ih a w (by omega) (fun j=>by have:=hl (j+1);simpa[Nat.add_assoc,Nat.add_comm 1 j]using this) (by simp at hs⊢;omega) hu.set h
   unfold wpOp;rw[q8]
   simp only[wpList]at h
   simp only
   split
   ·rename_i hw
    simp only[hw,if_true]at h
    exact h.imp (Oper.wp_mono ih') id
   ·rename_i hw
    simp only[hw]at h
    exact ih' _ _ h
def Xok:Option (Nat×TypeId×Array Value)→Array Bool→(Nat→Value)→List bQ→Prop
 |none,_,_,X=>X=[]
 |some (ia,ta,Z),listed,e,X=>(listed.getD ia false=true∧∃b,e ia= .pointer (some ⟨b,0,none⟩)∧X=[ae b (.cells Z ta (0,0))])∨(listed.getD ia false=false∧X=[])
structure Al (al:Option (Nat×TypeId×Array Value))(n:Nat)(F:Fr)(c:Ctx)(H:List bQ)(bs:List qy)(listed:Array Bool)(a:Act)(w:World)(e:Nat→Value)(ρ:Ro)(X:List bQ):Prop where
 has:Has n a F
 mem:eF c (H++X) ρ w
 XN:Xok al listed e X
 XO:∀(i:Nat) (b:qy),bs[i]?=some b→listed.getD i false=true→a.tmps[b.slot]?=some (e i)∧(b.K (e i)).f ρ
theorem Al.use {al:Option (Nat×TypeId×Array Value)}{X:List bQ}{bs:List qy}{listed:Array Bool}{a:Act}{w:World}{e:Nat→Value}{ρ:Ro}(h:Al al n F c H bs listed a w e ρ X)(ds:List Nat)(hd:∀j∈ds,j<bs.length∧listed.getD j false=true):
 Has n a (sj bs e ds++F)∧eF c (pD bs e ds++(H++X)) ρ w:=by
 have gd:∀j,j<bs.length→bs[j]?=some (bs.getD j default):=fun j hj=>by rw[List.getD_eq_getElem?_getD,List.getElem?_eq_getElem hj];rfl
 constructor
 ·refine⟨h.has.size,h.has.defers,fun t v hv=> ?_⟩
  induction ds with
  |nil=>exact h.has.slot t v hv
  |cons j ds ih=>
   simp only[sj,List.map_cons,List.cons_append,look]at hv
   cases hb:Nat.beq t (bs.getD j default).slot with
   |true=>
    have e1:=Nat.eq_of_beq_eq_true hb
    simp only[hb,cond_true,Option.some.injEq]at hv
    subst hv;obtain⟨h1,h2⟩:=hd j (List.mem_cons_self ..)
    rw[e1];exact(h.XO j _ (gd j h1) h2).1
   |false=>
    simp only[hb,cond_false]at hv
    exact ih (fun k hk=>hd k (List.mem_cons_of_mem _ hk)) hv
 ·have e1:pD bs e ds=(ds.map fun j=>(bs.getD j default).K (e j)).map aF:=by unfold pD;rw[List.map_map];rfl
  rw[e1]
  refine h.mem.yM _ fun d lJ=> ?_
  obtain⟨j,hj,rfl⟩:=List.mem_map.1 lJ;obtain⟨h1,h2⟩:=hd j hj;exact(h.XO j _ (gd j h1) h2).2
def Qk (P:Program)(ops:Array Oper)(n:Nat)(bs:List qy):Option (Nat×TypeId×Array Value)→Prop
 |none=>True
 |some (ia,ta,Z)=>(∃d ty pos after,ops[ia]?=some {dst:=some d,op:= .alloc ta,type:=ty,pos:=pos,after:=after,guard:=none}∧Nat.ble (d+1) n=true)∧(P.info? ta).bind (fun i=>i.zero.map Value.cells)=some Z∧(bs.getD ia default).K=(fun u=>cJ u u)
def alE (al:Option (Nat×TypeId×Array Value))(e:Nat→Value)(H:List bQ)(h:List bQ→Prop):Prop:=match al with
 |none=>h H
 |some (ia,ta,Z)=>∀b,e ia= .pointer (some ⟨b,0,none⟩)→h (ae b (.cells Z ta (0,0))::H)
theorem Nk {al:Option (Nat×TypeId×Array Value)}{bs:List qy}(Ql:Qk P ops n bs al){hd tl:List Oper}{lo:Nat}{ex:List Nat}{sd:List (Nat×List Nat)}(Nl:bs.map (fun b=>(b.slot,b.jG))=sd)(Ej:F.all (fun p=>Nat.ble (p.1+1) lo&& !(ex.contains p.1))=true)(Am:ops=(hd++tl).toArray)(hB:mq (hd++tl) hd.length=true)(hb:FL n lo ex sd hd=true)(hH:ao P ops Q n F c.dr H bs bs hd)(ly:List Nat)(qz:ly.all (fun j=>Nat.ble (j+1) sd.length)=true)
 (Pr:∀ia ta Z,al=some (ia,ta,Z)→ia<hd.length)
 (sm:∀e,alE al e H fun H'=>St n (sj bs e ly++F) (Mm c (pD bs e ly++H')) (wpList P ops Q tl)):
 ∀(f:Nat) (listed:Array Bool) (a:Act) (w:World) (e:Nat→Value) (ρ:Ro) (X:List bQ),listed.size=ops.size→rz (hd++tl) listed→(∀j,hd.length≤j→j<ops.size→listed[j]?=some false)→Iv hd.length listed=f→
  Al al n F c H bs listed a w e ρ X→wpAny P .any ops Q (f+tl.length) listed a w:=by
 obtain⟨hlen,hat⟩:=hH.at_
 have fD:ops.size=hd.length+tl.length:=by rw[Am];simp
 have XP:∀i,i<hd.length→ops[i]?=hd[i]?:=fun i hi=>by rw[Am];simp[List.getElem?_append_left hi]
 subst Nl
 simp only[FL,Bool.and_eq_true,decide_eq_true_eq]at hb
 obtain⟨Ps,Ek⟩:=hb;rw[List.map_map]at Ek
 change (bs.map (·.slot)).Nodup at Ek
 rw[List.length_map]at qz
 have Ps:=List.all_eq_true.1 Ps
 have each:∀(i:Nat) (b:qy) (o:Oper),bs[i]?=some b→hd[i]?=some o→o.guard=none∧o.dst=some b.slot∧b.slot<n∧b.slot∉F.map (·.1)∧∀j∈b.jG,j<bs.length∧∃ed∈o.after,Region.binds .any ed=true∧ed.on=j:=by
  intro i b o M9 ho
  have h1:=Ps ((b.slot,b.jG),o) (List.mem_of_getElem? (i:=i) (by rw[List.getElem?_zip_eq_some];exact⟨by rw[List.getElem?_map,M9];rfl,ho⟩))
  simp only[Bool.and_eq_true,Option.isNone_iff_eq_none,beq_iff_eq,Bool.not_eq_true']at h1
  obtain⟨⟨⟨⟨h1,h2⟩,h3⟩,h4⟩,h5⟩:=h1
  refine⟨h1,h2,Nat.le_of_ble_eq_true h3,fun hm=>(by
   obtain⟨p,hp,he⟩:=List.mem_map.1 hm
   have q0:=List.all_eq_true.1 Ej p hp
   simp only[Bool.and_eq_true,Bool.not_eq_true']at q0
   have q1:=Nat.le_of_ble_eq_true q0.1
   have q3:p.1=b.slot:=he
   rcases Bool.or_eq_true _ _|>.mp h4 with q2|q2
   ·have q2:=Nat.le_of_ble_eq_true q2
    omega
   ·rw[q3]at q0;rw[q2]at q0;cases q0.2),fun j hj=> ?_⟩
  have h6:=List.all_eq_true.1 h5 j hj
  simp only[Bool.and_eq_true]at h6
  obtain⟨ed,Pt,Nn⟩:=Array.any_eq_true'.1 h6.2
  simp only[Bool.and_eq_true,beq_iff_eq]at Nn
  exact⟨by have:=Nat.le_of_ble_eq_true h6.1;rwa[List.length_map]at this,ed,Pt,Nn.1,Nn.2⟩
 intro f
 induction f with
 |zero=>
  intro listed a w e ρ X hs JE Da hu hI
  have all:∀j,j<hd.length→listed[j]?=some true:=fun j hj=>by
   have h1:¬0<Iv hd.length listed:=by omega
   unfold Iv at h1;rw[List.countP_pos_iff]at h1
   have jA:j<listed.size:=by omega
   cases hv:listed[j]? with
   |none=>rw[Array.getElem?_eq_none_iff]at hv;omega
   |some b=>
    cases b with
    |true=>rfl
    |false=>exact absurd ⟨j,List.mem_range.2 hj,by rw[Array.getD_eq_getD_getElem?,hv];rfl⟩ h1
  have Qm:wW hd.length listed ops.size:=⟨hs,fun j hj=>by
   rcases Nat.lt_or_ge j hd.length with h|h
   ·rw[all j h];simp[h]
   ·rw[Da j h hj];simp[Nat.not_lt.2 h]⟩
  rw[Nat.zero_add];rw[Am]at Qm⊢;refine pF hB tl hd.length listed a w (Nat.le_refl _) (fun j=>by simp[List.getElem?_append_right]) (by simp) (by simpa using Qm) ?_;rw[←Am]
  obtain⟨h1,h2⟩:=hI.use ly fun j hj=>by
   have h3:=Nat.le_of_ble_eq_true (List.all_eq_true.1 qz j hj)
   exact⟨h3,by rw[Array.getD_eq_getD_getElem?,all j (by omega)];rfl⟩
  have ht:=sm e
  have hx:=hI.XN
  cases al with
  |none=>
   have hx:X=[]:=hx
   subst hx;exact ht a w h1 (Mm.mk (by rw[List.append_nil]at h2;exact h2))
  |some q=>
   obtain⟨ia,ta,Z⟩:=q
   have hl:listed.getD ia false=true:=by rw[Array.getD_eq_getD_getElem?,all ia (Pr ia ta Z rfl)];rfl
   rcases hx with⟨_,b,hb,rfl⟩|⟨hb,_⟩
   ·exact ht b hb a w h1 (Mm.mk (h2.perm (List.Perm.append_left _ (List.perm_append_comm (l₁:=H) (l₂:=[ae b (.cells Z ta (0,0))])))))
   ·rw[hl]at hb;cases hb
 |succ f ih=>
  intro listed a w e ρ X hs JE Da hu hI
  have hex:∃j,j<hd.length∧listed.getD j true=false:=by
   have h1:0<Iv hd.length listed:=by omega
   unfold Iv at h1;rw[List.countP_pos_iff]at h1;obtain⟨j,hj,h⟩:=h1;exact⟨j,List.mem_range.1 hj,by simpa using h⟩
  rw[show f+1+tl.length=(f+tl.length)+1 by omega];refine⟨fun h0=> ?_,fun i hi=> ?_⟩
  ·obtain⟨j,hj,Pu⟩:=hex
   exact absurd h0 (uX hs (fun i o ho=>jv hB (by rw[Am]at ho;simpa using ho)) ⟨j,by omega,Pu⟩)
  ·obtain⟨M8,o,CJ,fE⟩:=mem_ready.1 hi
   have hiN:i<ops.size:=(Array.getElem?_eq_some_iff.1 CJ).1
   have him:i<hd.length:=by
    rcases Nat.lt_or_ge i hd.length with h|h
    ·exact h
    ·obtain⟨j,hj,Pu⟩:=hex
     exfalso
     have DZ:(hd++tl)[i]?=some o:=by rw[Am]at CJ;simpa using CJ
     rcases Nat.lt_or_ge hd.length i with h2|h2
     ·obtain⟨ed,Pt,Nn,he3⟩:=sk hB DZ h2
      have h1:=fE ed Pt Nn
      rw[he3]at h1
      have h3:=Da (i-1) (by omega) (by omega)
      rw[Array.getD_eq_getD_getElem?,h3]at h1
      cases h1
     ·obtain rfl:i=hd.length:=by omega
      have Qn:(fA (hd++tl) []).getD hd.length 0=2^hd.length-1:=by
       simp only[mq,Bool.and_eq_true,Bool.or_eq_true]at hB
       rcases hB.2 with h3|h3
       ·have:=Nat.le_of_ble_eq_true h3
        have jA:=(List.getElem?_eq_some_iff.1 DZ).1
        omega
       ·simpa using h3
      have h1:=JE.all hB _ o DZ (fun ed Pt Nn=>by
       have h3:=fE ed Pt Nn
       have jA:=jv hB DZ ed Pt
       rw[Array.getD_eq_getD_getElem?,Array.getElem?_eq_getElem (show ed.on<listed.size by omega)]at h3⊢
       simpa using h3) j (by rw[Qn,Nat.testBit_two_pow_sub_one];simpa using hj)
      have jA:j<listed.size:=by omega
      rw[Array.getD_eq_getD_getElem?,Array.getElem?_eq_getElem jA]at h1 Pu
      simp at h1 Pu
      rw[h1]at Pu;cases Pu
   have hho:hd[i]?=some o:=by rw[←XP i him];exact CJ
   have M9:bs[i]?=some (bs[i]'(by omega)):=List.getElem?_eq_getElem (by omega)
   generalize bs[i]'(by omega)=b at M9
   obtain⟨g1,g2,g3,g4,g5⟩:=each i b o M9 hho
   have XS:=hat i b o M9 hho
   obtain⟨u1,u2⟩:=hI.use b.jG fun j hj=>by
    obtain⟨q1,ed,q2,q3,q4⟩:=g5 j hj;refine⟨q1,?_⟩
    have h1:=fE ed q2 q3
    rw[q4]at h1
    have jA:j<listed.size:=by omega
    rw[Array.getD_eq_getD_getElem?,Array.getElem?_eq_getElem jA]at h1⊢
    simpa using h1
   have jA:i<listed.size:=by omega
   have Qo:Iv hd.length (listed.setIfInBounds i true)=f:=by
    have h1:=Ah (p:=fun j=> !listed.getD j true) (q:=fun j=> !(listed.setIfInBounds i true).getD j true) (i:=i) (by simp[M8]) (by simp[Array.getD_eq_getD_getElem?,jA]) (fun j hj=>by
     simp only[Array.getD_eq_getD_getElem?,Array.getElem?_setIfInBounds];rw[if_neg (Ne.symm hj)]) hd.length him
    unfold Iv at hu⊢;omega
   have Np:∀j,hd.length≤j→j<ops.size→(listed.setIfInBounds i true)[j]?=some false:=fun j hj XT=>by
    rw[Array.getElem?_setIfInBounds,if_neg (by omega)];exact Da j hj XT
   have other:∀j,j≠i→(listed.setIfInBounds i true).getD j false=listed.getD j false:=fun j hj=>by
    rw[Array.getD_eq_getD_getElem?,Array.getD_eq_getD_getElem?,Array.getElem?_setIfInBounds,if_neg (Ne.symm hj)]
   have Qp:rz (hd++tl) (listed.setIfInBounds i true):=fun j oj hj Qq ed he hb=>by
    have fj:ed.on≠i→(listed.setIfInBounds i true).getD ed.on false=listed.getD ed.on false:=fun h=>other _ h
    have Qr:(listed.setIfInBounds i true).getD i false=true:=by rw[Array.getD_eq_getD_getElem?,Array.getElem?_setIfInBounds,if_pos rfl,if_pos jA];rfl
    by_cases e1:ed.on=i
    ·rw[e1];exact Qr
    ·rw[fj e1]
     by_cases e2:j=i
     ·subst e2
      have:oj=o:=by
       have q:(hd++tl)[j]?=some o:=by rw[Am]at CJ;simpa using CJ
       rw[q]at hj;exact(Option.some.inj hj).symm
      subst this
      have h3:=fE ed he hb
      have acD:=jv hB hj ed he
      rw[Array.getD_eq_getD_getElem?,Array.getElem?_eq_getElem (show ed.on<listed.size by omega)]at h3⊢
      simpa using h3
     ·rw[other _ e2]at Qq
      exact JE j oj hj Qq ed he hb
   have Qs:∀v,Has n (a.put (some b.slot) v) F:=fun v=>by
    refine⟨by simp[Act.put,hI.has.size],by simp[Act.put,hI.has.defers],fun t x hx=> ?_⟩
    have fj:b.slot≠t:=fun h=>g4 (h▸yZ hx)
    simp[Act.put,fj,hI.has.slot t x hx]
   have Qt:∀(v:Value) (iK:Ro),Ro.le ρ iK→(b.K v).f iK→∀(j:Nat) (bj:qy),bs[j]?=some bj→(listed.setIfInBounds i true).getD j false=true→
    (a.put (some b.slot) v).tmps[bj.slot]?=some (if j=i then v else e j)∧(bj.K (if j=i then v else e j)).f iK:=fun v iK hle hKv j bj MA Qq=>by
    by_cases e1:j=i
    ·subst e1
     rw[M9]at MA;cases MA
     have uO:b.slot<a.tmps.size:=by rw[hI.has.size];exact g3
     refine⟨by rw[if_pos rfl];simp[Act.put,uO],by rw[if_pos rfl];exact hKv⟩
    ·rw[if_neg e1]
     rw[other j e1]at Qq;obtain⟨k1,k2⟩:=hI.XO j bj MA Qq;refine⟨?_,(bj.K (e j)).mono ρ iK hle k2⟩
     have fj:b.slot≠bj.slot:=fun h=>by
      have q1:(bs.map (·.slot))[i]?=some b.slot:=by rw[List.getElem?_map,M9];rfl
      have q2:(bs.map (·.slot))[j]?=some bj.slot:=by rw[List.getElem?_map,MA];rfl
      have:=(List.getElem?_inj (i:=i) (j:=j) (by rw[List.length_map];omega) Ek).1 (by rw[q1,q2,h])
      exact e1 this.symm
     simp[Act.put,fj,k1]
   have r0:eF ⟨w,ρ,km H,c.dr⟩ H ρ w:=(hI.mem.left).JO
   by_cases Qu:∃ta Z,al=some (i,ta,Z)
   ·obtain⟨ta,Z,rfl⟩:=Qu
    obtain⟨⟨d0,Vn,JP,Vo,Qv,F1⟩,hz,hK⟩:=Ql;rw[CJ]at Qv
    have ho:o={dst:=some d0,op:= .alloc ta,type:=Vn,pos:=JP,after:=Vo,guard:=none}:=Option.some.inj Qv
    have hd1:d0=b.slot:=by rw[ho]at g2;exact Option.some.inj g2
    have Pv:X=[]:=by
     rcases hI.XN with⟨hx,_⟩|⟨_,hx⟩
     ·rw[Array.getD_eq_getD_getElem?,Array.getElem?_eq_getElem jA]at M8 hx
      simp at M8 hx
      rw[M8]at hx;cases hx
     ·exact hx
    subst Pv
    have k1:wpOp P ops Q i (fun a' w'=>a'.defers=[]∧∃b0,a'.tmps[b.slot]?=some (.pointer (some ⟨b0,0,none⟩))∧Mm ⟨w,ρ,km H,c.dr⟩ (ae b0 (.cells Z ta (0,0))::H) w') a w:=by
     refine St.one (n:=n) (F:=F) (A:=Mm ⟨w,ρ,km H,c.dr⟩ H) CJ ?_ a w hI.has (Mm.mk r0);rw[ho];refine St.alloc hz F1 (fun b0=>St.nil (St.aA fun a' w' El yJ=>⟨El.defers,b0,?_,yJ⟩));rw[←hd1];exact El.slot _ _ (by simp[look])
    refine wpOp_mono (fun a' w' hk=> ?_) (vK CJ g1 k1);obtain⟨⟨XU,b0,Qw,jC⟩,Nr⟩:=hk
    rcases Nr with⟨v,rfl⟩|wq
    ·obtain⟨iK,jC⟩:=jC.out
     have iU:eF c (H++ [ae b0 (.cells Z ta (0,0))]) iK w':=by
      have:=eF.step (R:=[]) hI.mem jC
      rw[List.append_nil]at this;exact this.perm (List.perm_append_comm (l₁:=[ae b0 (.cells Z ta (0,0))]) (l₂:=H))
     rw[g2]at Qw⊢
     have XV:v= .pointer (some ⟨b0,0,none⟩):=by
      have:b.slot<a.tmps.size:=by rw[hI.has.size];exact g3
      simpa[Act.put,this]using Qw
     have hKb:b.K=fun u=>cJ u u:=by
      have:bs.getD i default=b:=by rw[List.getD_eq_getElem?_getD,M9];rfl
      rw[←this];exact hK
     refine ih (listed.setIfInBounds i true) _ w' (fun k=>if k=i then v else e k) iK _ (by simp[hs]) Qp Np Qo ⟨Qs v,iU,.inl ⟨?_,b0,?_,rfl⟩,Qt v iK jC.le ?_⟩
     ·rw[Array.getD_eq_getD_getElem?,Array.getElem?_setIfInBounds,if_pos rfl,if_pos jA];rfl
     ·show(if i=i then v else e i)=_
      rw[if_pos rfl];exact XV
     ·rw[hKb];exact rfl
    ·exact absurd XU wq
   ·have k1:=St.one (i:=i) CJ (XS ⟨w,ρ,km H,c.dr⟩ e (fun h=>h)) a w u1 (Mm.mk (by
     have e1:pD bs e b.jG=(b.jG.map fun j=>(bs.getD j default).K (e j)).map aF:=by unfold pD;rw[List.map_map];rfl
     rw[e1]
     refine r0.yM _ fun d lJ=> ?_
     have:=u2.dF (aF d) (List.mem_append_left _ (by rw[e1];exact List.mem_map_of_mem lJ))
     exact dV.1 this))
    refine wpOp_mono (fun a' w' hk=> ?_) (vK CJ g1 k1);obtain⟨⟨XU,u,Qw,jC⟩,Nr⟩:=hk
    rcases Nr with⟨v,rfl⟩|wq
    ·obtain⟨iK,jC⟩:=jC.out
     have hKu:(b.K u).f iK:=dV.1 (jC.dF _ (List.mem_cons_self ..))
     have iU:eF c (H++X) iK w':=eF.step hI.mem jC.drop
     rw[g2]at Qw⊢
     have XV:v=u:=by
      have:b.slot<a.tmps.size:=by rw[hI.has.size];exact g3
      simpa[Act.put,this]using Qw
     subst XV;refine ih (listed.setIfInBounds i true) _ w' (fun k=>if k=i then v else e k) iK X (by simp[hs]) Qp Np Qo ⟨Qs v,iU,?_,Qt v iK jC.le hKu⟩
     have hx:=hI.XN
     cases al with
     |none=>exact hx
     |some q=>
      obtain⟨ia,ta,Z⟩:=q
      have fj:ia≠i:=fun h=>Qu ⟨ta,Z,by rw[h]⟩
      rcases hx with⟨h1,b0,h2,h3⟩|⟨h1,h2⟩
      ·refine .inl ⟨by rw[other ia fj];exact h1,b0,?_,h3⟩
       show(if ia=i then v else e ia)=_
       rw[if_neg fj];exact h2
      ·exact .inr ⟨by rw[other ia fj];exact h1,h2⟩
    ·exact absurd XU wq
theorem St.Qx {id:Nat}(al:Option (Nat×TypeId×Array Value))(m lo:Nat)(ex:List Nat){l:List Oper}(bs:List qy)(sd:List (Nat×List Nat))(ly:List Nat)(Ql:Qk P l.toArray n bs al)(Pr:∀ia ta Z,al=some (ia,ta,Z)→ia<(l.take m).length)(Nl:bs.map (fun b=>(b.slot,b.jG))=sd)(Ej:F.all (fun p=>Nat.ble (p.1+1) lo&& !(ex.contains p.1))=true)(hm:P.follows .mixedOrders=true)(hB:mq l (l.take m).length=true)(hb:FL n lo ex sd (l.take m)=true)(qz:ly.all (fun j=>Nat.ble (j+1) sd.length)=true)
 (hH:ao P l.toArray Q n F c.dr H bs bs (l.take m)) (sm:∀e,alE al e H fun H'=>St n (sj bs e ly++F) (Mm c (pD bs e ly++H')) (wpList P l.toArray Q (l.drop m))):
 St n F (Mm c H) ((Code.region id l.toArray true).wp P Q):=by
 intro a w ha hw;refine wp_region_any hm ?_
 have yJ:=(Mm.drawn c H) w hw
 obtain⟨ρ,hr⟩:=yJ.out
 have hlen:l.length=(l.take m).length+(l.drop m).length:=by rw[←List.length_append,List.take_append_drop]
 have no:∀i,(Array.replicate l.length false).getD i false=false:=fun i=>by
  rw[Array.getD_eq_getD_getElem?,Array.getElem?_replicate];split<;>rfl
 have h0:=Nk (ops:=l.toArray) (hd:=l.take m) (tl:=l.drop m) Ql Nl Ej (by rw[List.take_append_drop]) (by rw[List.take_append_drop];exact hB) hb hH ly qz Pr sm (Iv (l.take m).length (Array.replicate l.length false)) (Array.replicate l.length false) a {w with drawn:=w.drawn+1} (fun _=>undef) ρ [] (by simp) (fun i _ _ hl=>by rw[no]at hl;cases hl) (fun j hj XT=>by
  rw[Array.getElem?_replicate,if_pos (by simpa using XT)]) rfl ⟨ha,by rw[List.append_nil];exact hr,by
   cases al with
   |none=>exact rfl
   |some q=>exact .inr ⟨no _,rfl⟩,fun i b _ hl=>by rw[no]at hl;cases hl⟩
 have hu:Iv (l.take m).length (Array.replicate l.length false)=(l.take m).length:=by
  unfold Iv;rw[List.countP_eq_length.2,List.length_range];intro j hj
  have:=List.mem_range.1 hj
  rw[Array.getD_eq_getD_getElem?,Array.getElem?_replicate,if_pos (by omega)];rfl
 rw[hu,←hlen]at h0
 simpa using h0
theorem St.Db {T:Act→World→Prop}{a b d e f:bQ}(h:St n F (Mm c (a::b::d::e::f::R)) T):St n F (Mm c ([a,b,d,e,f]++R)) T:=h
theorem St.Ns {T:Act→World→Prop}{a b d e f g:bQ}(h:St n F (Mm c (a::b::d::e::f::g::R)) T):St n F (Mm c ([a,b,d,e,f,g]++R)) T:=h
theorem St.MB {id:Nat}(m lo:Nat)(ex:List Nat){l:List Oper}(bs:List qy)(sd:List (Nat×List Nat))(ly:List Nat)(Nl:bs.map (fun b=>(b.slot,b.jG))=sd)(Ej:F.all (fun p=>Nat.ble (p.1+1) lo&& !(ex.contains p.1))=true)(hm:P.follows .mixedOrders=true)(hB:mq l (l.take m).length=true)(hb:FL n lo ex sd (l.take m)=true)(qz:ly.all (fun j=>Nat.ble (j+1) sd.length)=true)
 (Ft:(Nat→Value)→Fr) (Lt:(Nat→Value)→List bQ) (t1:∀e,sj bs e ly=Ft e) (t2:∀e,pD bs e ly=Lt e)
 (hH:ao P l.toArray Q n F c.dr H bs bs (l.take m)) (sm:∀e,St n (Ft e++F) (Mm c (Lt e++H)) (wpList P l.toArray Q (l.drop m))):
 St n F (Mm c H) ((Code.region id l.toArray true).wp P Q):=St.Qx none m lo ex bs sd ly trivial (fun _ _ _ h=>by cases h) Nl Ej hm hB hb qz hH (fun e=>by show St _ _ _ _;rw[t1,t2];exact sm e)
theorem St.XW {id:Nat}(ia:Nat){ta:TypeId}{Z:Array Value}{d0 Vn:Nat}{JP:String}{Vo:Array Edge}(m lo:Nat)(ex:List Nat){l:List Oper}(bs:List qy)(sd:List (Nat×List Nat))(ly:List Nat)
 (XS:l.toArray[ia]?=some {dst:=some d0,op:= .alloc ta,type:=Vn,pos:=JP,after:=Vo,guard:=none}) (F1:Nat.ble (d0+1) n=true) (hz:(P.info? ta).bind (fun i=>i.zero.map Value.cells)=some Z) (hK:(bs.getD ia default).K=(fun u=>cJ u u)) (Pr:Nat.ble (ia+1) (l.take m).length=true)
 (Nl:bs.map (fun b=>(b.slot,b.jG))=sd) (Ej:F.all (fun p=>Nat.ble (p.1+1) lo&& !(ex.contains p.1))=true) (hm:P.follows .mixedOrders=true) (hB:mq l (l.take m).length=true) (hb:FL n lo ex sd (l.take m)=true) (qz:ly.all (fun j=>Nat.ble (j+1) sd.length)=true)
 (Ft:(Nat→Value)→Fr) (Lt:(Nat→Value)→List bQ) (t1:∀e,sj bs e ly=Ft e) (t2:∀e,pD bs e ly=Lt e)
 (hH:ao P l.toArray Q n F c.dr H bs bs (l.take m)) (sm:∀e b,e ia= .pointer (some ⟨b,0,none⟩)→St n (Ft e++F) (Mm c (Lt e++(ae b (.cells Z ta (0,0))::H))) (wpList P l.toArray Q (l.drop m))):
 St n F (Mm c H) ((Code.region id l.toArray true).wp P Q):=
 St.Qx (some (ia,ta,Z)) m lo ex bs sd ly ⟨⟨d0,Vn,JP,Vo,XS,F1⟩,hz,hK⟩ (fun i _ _ h=>by cases h;exact Nat.le_of_ble_eq_true Pr) Nl Ej hm hB hb qz hH (fun e b hb=>by rw[t1,t2];exact sm e b hb)
end
end Go.J
namespace Go.J
open Go Go.Proofs.YtolmidffiegkaaaGreatDoor
abbrev aP (x:cT):Value:= .agg #[sv x.base,x.av.1]
abbrev bc (x:cD):Value:= .agg #[iv x.kind,sv x.name,iv x.index,sv x.type.base,x.type.av.1,x.av.1]
abbrev eW (x:br):Value:= .agg #[iv x.eD,iv x.lex,x.kv.1]
abbrev dJ (x:eH):Value:= .agg #[x.nv.1]
abbrev lQ (x:bV):Value:= .agg #[sv x.name,x.graph.nv.1,iv x.kids,iv x.weight,iv x.cg.kind,sv x.cg.name,iv x.cg.index,sv x.cg.type.base,x.cg.type.av.1,x.cg.av.1]
abbrev FO (x:cq):Value:= .agg #[sv x.word,x.graph.nv.1,iv x.weight,iv x.cg.kind,sv x.cg.name,iv x.cg.index,sv x.cg.type.base,x.cg.type.av.1,x.cg.av.1]
abbrev gm (g:iG):Value:= .agg #[g.tv.1,g.fv.1,g.rv.1,g.xv.1,g.start.nv.1]
def aw (s:dU)(u:Value):df:=⟨fun ρ=>∃x:cT,u=aP x∧bI x=s∧gT.wf x∧o9 ρ x,fun _ _ h ⟨x,a,b,c,d⟩=>⟨x,a,b,c,d.mono h⟩⟩
def isTerm (t:cx)(u:Value):df:=⟨fun ρ=>∃x:cD,u=bc x∧ax x=t∧cE.wf x∧lp ρ x,fun _ _ h ⟨x,a,b,c,d⟩=>⟨x,a,b,c,d.mono h⟩⟩
def ct (g:gx)(u:Value):df:=⟨fun ρ=>∃x:eH,u=dJ x∧dH x=g∧(bU x).f ρ,fun _ _ h ⟨x,a,b,c⟩=>⟨x,a,b,(bU x).mono _ _ h c⟩⟩
def dp (r:pz)(u:Value):df:=⟨fun ρ=>∃x:bV,u=lQ x∧lq x=r∧cA.wf x∧(cO x).f ρ,fun _ _ h ⟨x,a,b,c,d⟩=>⟨x,a,b,c,(cO x).mono _ _ h d⟩⟩
def r4 (g:iw)(u:Value):df:=⟨fun ρ=>∃x:iG,u=gm x∧fG x=g∧(dv x).f ρ,fun _ _ h ⟨x,a,b,c⟩=>⟨x,a,b,(dv x).mono _ _ h c⟩⟩
def jd (ts:List cx)(u:Value):df:=⟨fun ρ=>u.oneCell'=true∧∃xs:List cD,xs.map ax=ts∧(sl cE u xs).f ρ∧(aX bN xs).f ρ,fun _ _ h ⟨a,xs,b,c,d⟩=>⟨a,xs,b,(sl _ _ _).mono _ _ h c,(aX _ _).mono _ _ h d⟩⟩
def lz (rs:List pz)(u:Value):df:=⟨fun ρ=>u.oneCell'=true∧∃xs:List bV,xs.map lq=rs∧(sl cA u xs).f ρ∧(aX cO xs).f ρ,fun _ _ h ⟨a,xs,b,c,d⟩=>⟨a,xs,b,(sl _ _ _).mono _ _ h c,(aX _ _).mono _ _ h d⟩⟩
def bu {α:Type}(R:Rp α)(xs:List α)(u:Value):df:=⟨fun ρ=>u.oneCell'=true∧(sl R u xs).f ρ,fun _ _ h ⟨a,b⟩=>⟨a,(sl _ _ _).mono _ _ h b⟩⟩
def ew {α:Type}(R:Rp α)(xs:List (List α))(u:Value):df:=⟨fun ρ=>u.oneCell'=true∧(yE R u xs).f ρ,fun _ _ h ⟨a,b⟩=>⟨a,(yE _ _ _).mono _ _ h b⟩⟩
section
variable {n:Nat}{F:Fr}{c:Ctx}{H R:List bQ}{T:Act→World→Prop}
theorem St.bT {P:Program}(k:Nat)(u v:Value)[hd:jW (cJ u v) H](hk:look F k=some u)(h:St n ((k,v)::F) (Mm c H) T):St n F (Mm c H) T:=by
 intro a w ha hw;obtain⟨ρ,hm⟩:=hw.out
 have e:u=v:=dV.1 (hm.dF _ hd.mem)
 subst e;refine h a w ⟨ha.size,ha.defers,fun t x hx=> ?_⟩ hw
 simp only[look]at hx
 cases hb:Nat.beq t k with
 |true=>
  rw[Nat.eq_of_beq_eq_true hb]
  simp only[hb,cond_true,Option.some.injEq]at hx
  subst hx;exact ha.slot _ _ hk
 |false=>simp only[hb,cond_false]at hx;exact ha.slot _ _ hx
theorem St.pG {ι:Sort _}(d:df)[hd:jW d H](p:ι→Prop)(L:ι→List df)(h:∀ρ,d.f ρ→∃x,p x∧∀e∈L x,e.f ρ)(k:∀x,p x→St n F (Mm c ((L x).map aF++H)) T):St n F (Mm c H) T:=by
 intro a w ha hw;obtain⟨ρ,hm⟩:=hw.out;obtain⟨x,hp,hx⟩:=h ρ (dV.1 (hm.dF _ hd.mem));exact k x hp a w ha (Mm.mk (hm.yM (L x) hx))
theorem St.aw (s:dU)(u:Value)[hd:jW (J.aw s u) H](k:∀x:cT,u=aP x∧bI x=s∧gT.wf x→St n F (Mm c (aF (bW x)::H)) T):St n F (Mm c H) T:=
 St.pG (J.aw s u) _ (fun x=>[bW x]) (fun ρ ⟨x,a,b,c,d⟩=>⟨x,⟨a,b,c⟩,fun e he=>by rw[List.mem_singleton.1 he];exact d⟩) k
theorem St.isTerm (t:cx)(u:Value)[hd:jW (J.isTerm t u) H](k:∀x:cD,u=bc x∧ax x=t∧cE.wf x→St n F (Mm c (aF (bN x)::H)) T):St n F (Mm c H) T:=
 St.pG (J.isTerm t u) _ (fun x=>[bN x]) (fun ρ ⟨x,a,b,c,d⟩=>⟨x,⟨a,b,c⟩,fun e he=>by rw[List.mem_singleton.1 he];exact d⟩) k
theorem St.ct (g:gx)(u:Value)[hd:jW (J.ct g u) H](k:∀x:eH,u=dJ x∧dH x=g→St n F (Mm c (aF (bU x)::H)) T):St n F (Mm c H) T:=
 St.pG (J.ct g u) _ (fun x=>[bU x]) (fun ρ ⟨x,a,b,c⟩=>⟨x,⟨a,b⟩,fun e he=>by rw[List.mem_singleton.1 he];exact c⟩) k
theorem St.dp (r:pz)(u:Value)[hd:jW (J.dp r u) H](k:∀x:bV,u=lQ x∧lq x=r∧cA.wf x→St n F (Mm c (aF (cO x)::H)) T):St n F (Mm c H) T:=
 St.pG (J.dp r u) _ (fun x=>[cO x]) (fun ρ ⟨x,a,b,c,d⟩=>⟨x,⟨a,b,c⟩,fun e he=>by rw[List.mem_singleton.1 he];exact d⟩) k
theorem St.r4 (g:iw)(u:Value)[hd:jW (J.r4 g u) H](k:∀x:iG,u=gm x∧fG x=g→St n F (Mm c (aF (dv x)::H)) T):St n F (Mm c H) T:=
 St.pG (J.r4 g u) _ (fun x=>[dv x]) (fun ρ ⟨x,a,b,c⟩=>⟨x,⟨a,b⟩,fun e he=>by rw[List.mem_singleton.1 he];exact c⟩) k
theorem St.jd (ts:List cx)(u:Value)[hd:jW (J.jd ts u) H](k:∀xs:List cD,u.oneCell'=true∧xs.map ax=ts→St n F (Mm c (aF (sl cE u xs)::aF (aX bN xs)::H)) T):St n F (Mm c H) T:=
 St.pG (J.jd ts u) _ (fun xs=>[sl cE u xs,aX bN xs]) (fun ρ ⟨a,xs,b,c,d⟩=>⟨xs,⟨a,b⟩,fun e he=>by
  simp only[List.mem_cons,List.not_mem_nil,or_false]at he
  rcases he with rfl|rfl
  ·exact c
  ·exact d⟩) k
theorem St.lz (ts:List pz)(u:Value)[hd:jW (J.lz ts u) H](k:∀xs:List bV,u.oneCell'=true∧xs.map lq=ts→St n F (Mm c (aF (sl cA u xs)::aF (aX cO xs)::H)) T):St n F (Mm c H) T:=
 St.pG (J.lz ts u) _ (fun xs=>[sl cA u xs,aX cO xs]) (fun ρ ⟨a,xs,b,c,d⟩=>⟨xs,⟨a,b⟩,fun e he=>by
  simp only[List.mem_cons,List.not_mem_nil,or_false]at he
  rcases he with rfl|rfl
  ·exact c
  ·exact d⟩) k
theorem St.bu {α:Type}(Rr:Rp α)(xs:List α)(u:Value)[hd:jW (J.bu Rr xs u) H](k:u.oneCell'=true→St n F (Mm c (aF (sl Rr u xs)::H)) T):St n F (Mm c H) T:=
 St.pG (ι:=Unit) (J.bu Rr xs u) (fun _=>u.oneCell'=true) (fun _=>[sl Rr u xs]) (fun ρ ⟨a,b⟩=>⟨(),a,fun e he=>by rw[List.mem_singleton.1 he];exact b⟩) fun _=>k
theorem St.ew {α:Type}(Rr:Rp α)(xs:List (List α))(u:Value)[hd:jW (J.ew Rr xs u) H](k:u.oneCell'=true→St n F (Mm c (aF (yE Rr u xs)::H)) T):St n F (Mm c H) T:=
 St.pG (ι:=Unit) (J.ew Rr xs u) (fun _=>u.oneCell'=true) (fun _=>[yE Rr u xs]) (fun ρ ⟨a,b⟩=>⟨(),a,fun e he=>by rw[List.mem_singleton.1 he];exact b⟩) fun _=>k
theorem St.mM (b:cV)(u:Value)(hu:u.oneCell'=true)(l:List cT)[h1:jW (sl gT u l) H][h2:jW (aX bW l) H](k:St n F (Mm c (aF (bW (.mk b ⟨u,hu⟩ l))::H)) T):St n F (Mm c H) T:=
 St.fo (bW (.mk b ⟨u,hu⟩ l)) [sl gT u l,aX bW l] (fun ρ h=> .mk (h _ (List.mem_cons_self ..)) (h _ (List.mem_cons_of_mem _ (List.mem_cons_self ..)))) k
theorem St.wu (kd:Int)(nm:cV)(i:Int)(s:cT)(u:Value)(hu:u.oneCell'=true)(l:List cD)[h0:jW (bW s) H][h1:jW (sl cE u l) H][h2:jW (aX bN l) H](k:St n F (Mm c (aF (bN (.mk kd nm i s ⟨u,hu⟩ l))::H)) T):St n F (Mm c H) T:=
 St.fo (bN (.mk kd nm i s ⟨u,hu⟩ l)) [bW s,sl cE u l,aX bN l] (fun ρ h=> .mk (h (bW s) (by simp)) (h (sl cE u l) (by simp)) (h (aX bN l) (by simp))) k
theorem St.wv (r x:Int)(u:Value)(hu:u.oneCell'=true)(l:List br)[h1:jW (sl dY u l) H][h2:jW (aX cB l) H](k:St n F (Mm c (aF (cB (.mk r x ⟨u,hu⟩ l))::H)) T):St n F (Mm c H) T:=
 St.fo (cB (.mk r x ⟨u,hu⟩ l)) [sl dY u l,aX cB l] (fun ρ h=> .mk (h _ (List.mem_cons_self ..)) (h _ (List.mem_cons_of_mem _ (List.mem_cons_self ..)))) k
theorem St.ya (x:cT){s:dU}(u:Value)(hu:u=aP x)(hs:bI x=s)(hw:gT.wf x)[hd:jW (bW x) H](k:St n F (Mm c (aF (J.aw s u)::H)) T):St n F (Mm c H) T:=
 St.fo (J.aw s u) [bW x] (fun ρ h=>⟨x,hu,hs,hw,h _ (List.mem_cons_self ..)⟩) k
theorem St.toTerm (x:cD){s:cx}(u:Value)(hu:u=bc x)(hs:ax x=s)(hw:cE.wf x)[hd:jW (bN x) H](k:St n F (Mm c (aF (J.isTerm s u)::H)) T):St n F (Mm c H) T:=
 St.fo (J.isTerm s u) [bN x] (fun ρ h=>⟨x,hu,hs,hw,h _ (List.mem_cons_self ..)⟩) k
theorem St.JQ (x:eH){g:gx}(u:Value)(hu:u=dJ x)(hs:dH x=g)[hd:jW (bU x) H](k:St n F (Mm c (aF (J.ct g u)::H)) T):St n F (Mm c H) T:=
 St.fo (J.ct g u) [bU x] (fun ρ h=>⟨x,hu,hs,h _ (List.mem_cons_self ..)⟩) k
theorem St.fW {α:Type}{Rr:Rp α}{xs:List α}(u:Value)(hu:u.oneCell'=true)[hd:jW (sl Rr u xs) H](k:St n F (Mm c (aF (J.bu Rr xs u)::H)) T):St n F (Mm c H) T:=
 St.fo (J.bu Rr xs u) [sl Rr u xs] (fun ρ h=>⟨hu,h _ (List.mem_cons_self ..)⟩) k
theorem St.ey {α:Type}{Rr:Rp α}{xs:List (List α)}(u:Value)(hu:u.oneCell'=true)[hd:jW (yE Rr u xs) H](k:St n F (Mm c (aF (J.ew Rr xs u)::H)) T):St n F (Mm c H) T:=
 St.fo (J.ew Rr xs u) [yE Rr u xs] (fun ρ h=>⟨hu,h _ (List.mem_cons_self ..)⟩) k
end
abbrev fQ:cm:=⟨.slice none 0 0,rfl⟩
end Go.J
namespace Go.J
open Go Go.ChangeShapes Go.WideShapes Go.ChangeAt Go.RowKit Go.Deep Go.Proofs.YtolmidffiegkaaaGreatDoor
section
variable {H:Type}{enc:TypeId×Value→H}{P:Program}{W:World}{α:Type}
abbrev Tr (enc:TypeId×Value→H)(P:Program)(W:World)(n:Nat)(t:TypeId)(cs:List Value)(y:DataW H×List MemPlace):Prop:=DataW.trod enc P W 0 (fun _=>true) true n t cs=some y
theorem An {t:TypeId}{fs:Array Field}{ps:List (DataW H)}(ht:P.underlying t=some (.struct fs))(h:kz ((DataW.agg ps).weights P t)=true):kz (DataW.weightsEach P (fs.toList.map (·.type)) ps)=true:=by
 simpa only[DataW.weights,ht]using h
theorem dq {t:TypeId}{fs:Array Field}{n:Nat}{cs:List Value}{y:DataW H×List MemPlace}(ht:P.underlying t=some (.struct fs))(h:Tr enc P W n t cs y)(hw:kz (y.1.weights P t)=true):
 ∃m,n=m+1∧∀(i:Nat) (f:Field),fs[i]?=some f→∃z,Tr enc P W m f.type ((cs.drop f.offset).take (P.cellsOf f.type)) z∧kz (z.1.weights P f.type)=true:=by
 obtain⟨xs,m,hn,hy,_,hl,hf⟩:=DataW.trod_struct ht h;subst hy;refine⟨m,hn,fun i f hi=> ?_⟩
 have h1:=hf i f hi
 have M8:i<fs.size:=(Array.getElem?_eq_some_iff.1 hi).1
 have h2:xs[i]?=some (xs[i]'(by omega)):=List.getElem?_eq_getElem (by omega)
 refine⟨xs[i]'(by omega),h1.trans h2,?_⟩;refine lM (An ht hw) (j:=i) (t:=f.type) (d:=(xs[i]'(by omega)).1) ?_ ?_
 ·rw[List.getElem?_map,Array.getElem?_toList,hi];rfl
 ·rw[List.getElem?_map,h2];rfl
theorem bS {fs:Array Field}{m:Nat}{cs:List Value}(hp:∀(i:Nat) (f:Field),fs[i]?=some f→∃z,Tr enc P W m f.type ((cs.drop f.offset).take (P.cellsOf f.type)) z∧kz (z.1.weights P f.type)=true)
 (i:Nat) {f:Field} {t:TypeId} {o k:Nat} (hi:fs[i]?=some f) (ht:f.type=t) (ho:f.offset=o) (hk:P.cellsOf t=k):∃z,Tr enc P W m t ((cs.drop o).take k) z∧kz (z.1.weights P t)=true:=by
 subst ht ho hk;exact hp i f hi
theorem Dc (R:Rp α){t e:TypeId}{Ly:List Value}{d:DataW H}{p:List MemPlace}{fuel:Nat}(ht:P.underlying t=some (.slice e))(hc:P.cellsOf e=R.size)
 (Qh:∀(n:Nat),n<fuel→∀(cs:List Value) (y:DataW H×List MemPlace),cs.length=R.size→Tr enc P W n e cs y→kz (y.1.weights P e)=true→∃x:α,cs=R.cells x∧R.wf x)
 (qE:kz (d.weights P t)=true) (hf:Tr enc P W fuel t Ly (d,p)):∃(v:Value) (xs:List α),Ly=[v]∧v.oneCell'=true∧(sl R v xs).f (J.all W)∧((d= .nil∧xs=[])∨∃es sp,d= .slice es sp∧es.length=xs.length):=by
 rcases DataW.trod_slice ht hf with⟨kp,Qy⟩|⟨a,len,cap,elems,rest,n,hn,kp,Qy,_,hl,hm,hlen,he,_,_⟩
 ·exact⟨.slice none 0 0,[],kp,rfl,Ae _ _,.inl ⟨by simpa using (Prod.mk.inj Qy).1,rfl⟩⟩
 ·refine⟨.slice (some a) len cap,?_⟩
  rw[kp]
  suffices hs:∃xs:List α,(sl R (.slice (some a) len cap) xs).f (J.all W)∧((d= .nil∧xs=[])∨∃es sp,d= .slice es sp∧es.length=xs.length) by
   obtain⟨xs,h1,h2⟩:=hs;exact⟨xs,rfl,rfl,h1,h2⟩
  rcases Nat.eq_zero_or_pos len with hz|mY
  ·refine⟨[],⟨_,cap,by rw[hz];rfl,Nat.zero_le _,hm,(fun x hx=>by cases hx),.inl rfl⟩,.inr ⟨_,_,(Prod.mk.inj Qy).1,by rw[List.length_map,hlen,hz];rfl⟩⟩
  have each:∀i,i<len→∃x:α,R.wf x∧∀k u,k<R.size→(R.cells x)[k]?=some u→W.cell? ((a.add (i*R.size)).add k)=some u:=fun i hi=>by
   have h0:=he i hi
   rw[List.getElem?_eq_getElem (show i<elems.length by omega)]at h0;obtain⟨cs,h1,h2⟩:=Option.bind_eq_some_iff.1 h0;rw[hc]at h1;obtain⟨_,h4,h5⟩:=World.cells?_some h1;obtain⟨x,rfl,hw⟩:=Qh n (by omega) cs _ h4 h2 (DR ht (by rw[(Prod.mk.inj Qy).1]at qE;exact qE) (.inl (List.mem_map_of_mem (List.getElem_mem (show i<elems.length by omega)))));exact⟨x,hw,fun k u hk hu=>by rw[h5 k hk,hu]⟩
  obtain⟨x0,Pw⟩:=each 0 (by omega)
  haveI:Inhabited α:=⟨x0⟩
  obtain⟨X,hX⟩:=choose_lt (α:=α) each
  have sO:((List.range len).map X).length=len:=by simp
  obtain⟨b,off,spot⟩:=a
  have XX:∃u,(R.cells (X 0))[0]?=some u:=by
   have:=R.len (X 0)
   have:=R.pos
   exact⟨_,List.getElem?_eq_getElem (by omega)⟩
  obtain⟨u0,XX⟩:=XX
  have FP:=(hX 0 (by omega)).2 0 u0 R.pos XX
  rw[Nat.zero_mul,Deep.add_add]at FP;obtain⟨hs,C,e',fr,hb,_⟩:=fm FP
  have yV:spot=none:=by simpa[Addr.add]using hs
  subst yV
  have hb:W.heap[b]?=some (.cells C e' fr):=by simpa[Addr.add]using hb
  refine⟨(List.range len).map X,⟨some ⟨b,off,none⟩,cap,by rw[sO],by rw[sO];exact hl,hm,?_,.inr ⟨b,off,C,e',fr,rfl,hb,?_⟩⟩,.inr ⟨_,_,(Prod.mk.inj Qy).1,by simp[hlen]⟩⟩
  ·intro x hx'
   obtain⟨i,hi,rfl⟩:=List.mem_map.1 hx';exact(hX i (List.mem_range.1 hi)).1
  ·intro j u hj
   obtain⟨i,k,x,h1,h2,h3,h4⟩:=wX _ _ _ hj
   have FN:i<((List.range len).map X).length:=(List.getElem?_eq_some_iff.1 h1).1
   rw[sO]at FN
   have Nt:x=X i:=by simpa[FN]using h1.symm
   subst Nt
   have:=(hX i FN).2 k u h2 h4
   rw[Deep.add_add,←h3]at this;obtain⟨_,C',XJ,XK,iu,p8⟩:=fm this
   have iu:W.heap[b]?=some (.cells C' XJ XK):=by
    by_cases h0:j=0
    ·subst h0;simpa[Addr.add]using iu
    ·simpa[Addr.add,h0]using iu
   have p8:C'[off+j]?=some u:=by
    by_cases h0:j=0
    ·subst h0;simpa[Addr.add]using p8
    ·simpa[Addr.add,h0]using p8
   rw[hb]at iu
   simp only[Option.some.injEq,Obj.cells.injEq]at iu
   rw[iu.1];exact p8
def Rp.with {α:Type}(R:Rp α)(p:α→Prop):Rp α:=⟨R.size,R.pos,R.cells,fun x=>R.wf x∧p x,R.len,R.one⟩
theorem JR {R:Rp α}{p:α→Prop}{v:Value}{xs:List α}{ρ:Ro}(h:(sl (R.with p) v xs).f ρ):(sl R v xs).f ρ∧∀x∈xs,p x:=by
 obtain⟨a,cap,h1,h2,h3,h4,h5⟩:=h;exact⟨⟨a,cap,h1,h2,h3,fun x hx=>(h4 x hx).1,h5⟩,fun x hx=>(h4 x hx).2⟩
theorem Dd {t e:TypeId}{es sp:List (DataW H)}(ht:P.underlying t=some (.slice e))(h:kz ((DataW.slice es sp).weights P t)=true):es.length*P.bytesOf e≤140737488351232:=by
 simp only[kz,DataW.weights,ht,List.all_cons,Bool.and_eq_true,decide_eq_true_eq]at h
 have h1:=h.1
 have h2:es.length*P.bytesOf e≤(es.length+sp.length)*P.bytesOf e:=Nat.mul_le_mul_right _ (by omega)
 unfold reachBytes at h1;omega
theorem fR (R:Rp α)(p:α→Prop){t e:TypeId}{Ly:List Value}{y:DataW H×List MemPlace}{fuel:Nat}(ht:P.underlying t=some (.slice e))(hc:P.cellsOf e=R.size)
 (Qh:∀(n:Nat),n<fuel→∀(cs:List Value) (y:DataW H×List MemPlace),cs.length=R.size→Tr enc P W n e cs y→kz (y.1.weights P e)=true→∃x:α,cs=R.cells x∧R.wf x∧p x)
 (hf:Tr enc P W fuel t Ly y) (qE:kz (y.1.weights P t)=true):∃(v:cm) (xs:List α),Ly=[v.1]∧(sl R v.1 xs).f (J.all W)∧(∀x∈xs,p x)∧xs.length*P.bytesOf e≤140737488351232:=by
 obtain⟨v,xs,h1,h2,h3,h4⟩:=Dc (R.with p) (d:=y.1) (p:=y.2) ht hc (fun n hn cs y hl hy hw=>by
  obtain⟨x,a,b⟩:=Qh n hn cs y hl hy hw
  exact⟨x,a,b⟩) qE hf
 obtain⟨h5,h6⟩:=JR h3;refine⟨⟨v,h2⟩,xs,h1,h5,h6,?_⟩
 rcases h4 with⟨_,rfl⟩|⟨es,sp,he,hl⟩
 ·simp
 ·rw[he]at qE
  rw[←hl];exact Dd ht qE
theorem fx {e:TypeId}(he:P.underlying e=some (.int .i64)){n:Nat}{cs:List Value}{y:DataW H×List MemPlace}(h:Tr enc P W n e cs y):∃x:Int,cs=[iv x]∧bF x:=by
 obtain⟨z,rfl,_,hw⟩:=DataW.trod_int he h;exact⟨z,rfl,wf_i64 hw⟩
theorem mr {e:TypeId}(he:P.underlying e=some .string){n:Nat}{cs:List Value}{y:DataW H×List MemPlace}(h:Tr enc P W n e cs y)(Vp:kz (y.1.weights P e)=true):∃x:cV,cs=[sv x]∧hP x:=by
 obtain⟨s,rfl,hy,hw⟩:=DataW.trod_string he h;refine⟨s.data.toList,by rw[Lx],?_⟩;subst hy
 simp only[kz,DataW.weights,reachBytes,List.all_cons,List.all_nil,Bool.and_true]at Vp
 exact of_decide_eq_true Vp
end
end Go.J
namespace Go.Proofs.YtolmidffiegkaaaGreatDoor
open Go Go.J
structure Nq where
 no:Nat
 leaf:Bool
 label:cV
 up:Int
 fin:Nat
 ov:Nat
 to:Nat
def so:Nq:=⟨0,false,[],0,0,0,0⟩
def tm0:cx:= .mk 0 [] 0 (.mk [] []) []
def lx0:Iu:=⟨[],[],0,tm0⟩
def ru0:pz:=⟨[],[],0,0,tm0⟩
mutual
def o3:fF→Nat
 | .mk _ _ l=>1+ld l
def ld:List fF→Nat
 | []=>0
 |x::l=>o3 x+ld l
end
mutual
def mN:fF→Nat
 | .mk r _ l=>(if r<0 then 1 else 0)+j6 l
def j6:List fF→Nat
 | []=>0
 |x::l=>mN x+j6 l
end
def rZ (g:iw)(r x:Int):cV:=if r<0 then(g.bA.getD x.toNat lx0).word else(g.rules.getD r.toNat ru0).name
mutual
def kG (g:iw):fF→Nat→Int→Nat→List Nq
 | .mk r x l,k,up,w=>⟨k,decide (r<0),rZ g r x,up,k+(1+ld l),w,w+((if r<0 then 1 else 0)+j6 l)⟩::ow g l (k+1) k (w+(if r<0 then 1 else 0))
def ow (g:iw):List fF→Nat→Int→Nat→List Nq
 | [],_,_,_=>[]
 |x::l,k,up,w=>kG g x k up w++ow g l (k+o3 x) up (w+mN x)
end
mutual
def gU (nr nl:Nat):fF→Prop
 | .mk r x l=>(-1≤r∧r<nr)∧(r<0→l=[]∧0≤x∧x<nl)∧(0≤r→l≠ [])∧lR nr nl l
def lR (nr nl:Nat):List fF→Prop
 | []=>True
 |x::l=>gU nr nl x∧lR nr nl l
end
mutual
theorem pH (g:iw):∀(t:fF) (k:Nat) (up:Int) (w:Nat),(kG g t k up w).length=o3 t
 | .mk r x l,k,up,w=>by rw[kG,List.length_cons,wy g l,o3];omega
theorem wy (g:iw):∀(l:List fF) (k:Nat) (up:Int) (w:Nat),(ow g l k up w).length=ld l
 | [],_,_,_=>by rw[ow,ld];rfl
 |x::l,k,up,w=>by rw[ow,List.length_append,pH g x,wy g l,ld]
end
mutual
theorem CK {nr nl:Nat}:∀t:fF,gU nr nl t→0<mN t
 | .mk r x l,h=>by
  rw[gU]at h;rw[mN]
  by_cases hr:r<0
  ·rw[if_pos hr];omega
  ·have:=JS l h.2.2.2 (h.2.2.1 (by omega));omega
theorem JS {nr nl:Nat}:∀l:List fF,lR nr nl l→l≠ []→0<j6 l
 | [],_,h=>absurd rfl h
 |x::l,h,_=>by
  rw[lR]at h
  have:=CK x h.1
  rw[j6];omega
end
def CL (x y:Nq):Prop:=x.no<y.no∧((y.no<x.fin∧x.ov≤y.ov∧y.to≤x.to)∨(x.fin≤y.no∧x.to≤y.ov))
def Qz (k m w n:Nat)(x:Nq):Prop:=k≤x.no∧x.no<x.fin∧x.fin≤k+m∧w≤x.ov∧x.ov<x.to∧x.to≤w+n
mutual
theorem FQ {nr nl:Nat}(g:iw):∀(t:fF) (k:Nat) (up:Int) (w:Nat),gU nr nl t→(kG g t k up w).Pairwise CL∧∀x∈kG g t k up w,Qz k (o3 t) w (mN t) x
 | .mk r x l,k,up,w,h=>by
  have hp:=CK _ h
  rw[gU]at h;obtain⟨h1,h2⟩:=FR g l (k+1) k (w+(if r<0 then 1 else 0)) h.2.2.2;rw[kG,o3];rw[mN]at hp⊢;refine⟨List.pairwise_cons.2 ⟨fun y hy=> ?_,h1⟩,fun y hy=> ?_⟩
  ·obtain⟨a1,a2,a3,a4,a5,a6⟩:=h2 y hy
   refine⟨?_,Or.inl ⟨?_,?_,?_⟩⟩<;>dsimp only<;>omega
  ·rcases List.mem_cons.1 hy with rfl|hy
   ·refine⟨?_,?_,?_,?_,?_,?_⟩<;>dsimp only<;>omega
   ·obtain⟨a1,a2,a3,a4,a5,a6⟩:=h2 y hy
    refine⟨?_,?_,?_,?_,?_,?_⟩<;>omega
theorem FR {nr nl:Nat}(g:iw):∀(l:List fF) (k:Nat) (up:Int) (w:Nat),lR nr nl l→(ow g l k up w).Pairwise CL∧∀x∈ow g l k up w,Qz k (ld l) w (j6 l) x
 | [],_,_,_,_=>by rw[ow];exact⟨List.Pairwise.nil,fun x hx=>by cases hx⟩
 |t::l,k,up,w,h=>by
  rw[lR]at h;obtain⟨h1,h2⟩:=FQ g t k up w h.1;obtain⟨h3,h4⟩:=FR g l (k+o3 t) up (w+mN t) h.2;rw[ow,ld,j6];refine⟨List.pairwise_append.2 ⟨h1,h3,fun x hx y hy=> ?_⟩,fun y hy=> ?_⟩
  ·obtain⟨a1,a2,a3,a4,a5,a6⟩:=h2 x hx
   obtain⟨b1,b2,b3,b4,b5,b6⟩:=h4 y hy;exact⟨by omega,Or.inr ⟨by omega,by omega⟩⟩
  ·rcases List.mem_append.1 hy with hy|hy
   ·obtain⟨a1,a2,a3,a4,a5,a6⟩:=h2 y hy
    refine⟨?_,?_,?_,?_,?_,?_⟩<;>omega
   ·obtain⟨b1,b2,b3,b4,b5,b6⟩:=h4 y hy
    refine⟨?_,?_,?_,?_,?_,?_⟩<;>omega
end
mutual
theorem Ao (g:iw):∀(t:fF) (k:Nat) (up:Int) (w i:Nat) (x:Nq),(kG g t k up w)[i]?=some x→x.no=k+i
 | .mk r y l,k,up,w,i,x,h=>by
  rw[kG]at h
  cases i with
  |zero=>rw[List.getElem?_cons_zero]at h;cases h;rfl
  |succ i=>rw[List.getElem?_cons_succ]at h;have:=FT g l _ _ _ i x h;omega
theorem FT (g:iw):∀(l:List fF) (k:Nat) (up:Int) (w i:Nat) (x:Nq),(ow g l k up w)[i]?=some x→x.no=k+i
 | [],_,_,_,_,_,h=>by rw[ow]at h;simp at h
 |t::l,k,up,w,i,x,h=>by
  rw[ow]at h
  rcases Nat.lt_or_ge i (o3 t)with hi|hi
  ·rw[List.getElem?_append_left (by rw[pH];exact hi)]at h
   exact Ao g t k up w i x h
  ·rw[List.getElem?_append_right (by rw[pH];exact hi),pH]at h
   have:=FT g l _ _ _ _ x h
   omega
end
structure dP where
 name:cV
 kind:Int
 label:cV
structure eL where
 kind:Int
 a:Int
 b:Int
def mu (v:dP)(x:Nq):Bool:=
 if v.kind=2 then !x.leaf&&decide (x.label=v.label)else if v.kind=3 then x.leaf&&decide (x.label=v.label)else if v.kind=4 then x.leaf else true
def j7 (L:List Nq)(k:Int)(a b:Nat):Bool:=
 if k=1 then decide ((L.getD b so).up=(a:Int))else if k=2 then decide (a<b)&&decide (b<(L.getD a so).fin)
 else if k=3 then decide ((L.getD a so).to≤(L.getD b so).ov)else if k=4 then decide ((L.getD a so).to=(L.getD b so).ov)
 else decide (a≠b)&&decide ((L.getD a so).up=(L.getD b so).up)
def pI (L:List Nq)(p:List Nat)(x:eL):Bool:= !decide (max x.a x.b=(p.length:Int)-1)||j7 L x.kind (p.getD x.a.toNat 0) (p.getD x.b.toNat 0)
def okB (L:List Nq)(ks:List eL)(p:List Nat):Bool:=ks.all (pI L p)
def Em (L:List Nq)(ks:List eL)(v:dP)(p:List Nat)(i:Nat):Bool:=mu v (L.getD i so)&&okB L ks (p++ [i])
def lT (L:List Nq)(ks:List eL):List dP→List Nat→List (List Nat)
 | [],p=>[p]
 |v::vs,p=>(List.range L.length).flatMap fun i=>if Em L ks v p i then lT L ks vs (p++ [i])else []
def uc (L:List Nq)(ks:List eL):List dP→List Nat→List (List Nat)→List (List Nat)
 | [],p,O=>O++ [p]
 |v::vs,p,O=>(List.range L.length).foldl (fun O i=>if 500<O.length then O else if Em L ks v p i then uc L ks vs (p++ [i]) O else O) O
def fy:List cV→Nat→List dP→Int×Int
 |_,_,[]=>(0,0)
 |known,i,v::vs=>if v.kind<1∨4<v.kind then(4,i)else if isName v.name=false∨(v.kind=2∧isName v.label=false)∨(v.kind=3∧isWord v.label=false)then(10,i)
  else if v.name∈known then(7,i)else if(v.kind=1∨v.kind=4)∧v.label≠ []then(5,i)else fy (known++ [v.name]) (i+1) vs
def hY (n:Int):Nat→List eL→Int×Int
 |_,[]=>(0,0)
 |i,l::ls=>if l.kind<1∨5<l.kind then(4,i)else if l.a<0∨n≤l.a∨l.b<0∨n≤l.b then(3,i)else if l.a=l.b then(5,i)else hY n (i+1) ls
def jw (vs:List dP)(ks:List eL):Int×Int:=if 4<vs.length∨8<ks.length then(2,-1)else if vs.length=0 then(9,-1)else if(fy [] 0 vs).1≠0 then fy [] 0 vs else hY vs.length vs.length ks
theorem ud {α:Type}(A B:List α)(n:Nat):(A.take n++B).take n=(A++B).take n:=by
 rcases Nat.lt_or_ge A.length n with h|h
 ·rw[List.take_of_length_le (l:=A) (by omega)]
 ·rw[List.take_append_of_le_length (by rw[List.length_take];omega),List.take_take,Nat.min_self,List.take_append_of_le_length h]
theorem xA (L:List Nq)(ks:List eL):∀(vs:List dP) (p:List Nat) (O:List (List Nat)),O.length≤501→(vs=[]→O.length≤500)→uc L ks vs p O=(O++lT L ks vs p).take 501
 | [],p,O,_,h=>by
  have:=h rfl
  rw[uc,lT,List.take_of_length_le]
  rw[List.length_append];simp only[List.length_cons,List.length_nil];omega
 |v::vs,p,O,h,hv=>by
  clear hv
  rw[uc,lT]
  generalize List.range L.length=is
  induction is generalizing O with
  |nil=>rw[List.foldl_nil,List.flatMap_nil,List.append_nil,List.take_of_length_le h]
  |cons i is ih=>
   rw[List.foldl_cons,List.flatMap_cons]
   by_cases hO:500<O.length
   ·rw[if_pos hO,ih O h,List.take_append_of_le_length (by omega),List.take_append_of_le_length (by omega)]
   ·rw[if_neg hO]
    by_cases hg:Em L ks v p i=true
    ·rw[if_pos hg,if_pos hg,xA L ks vs (p++ [i]) O h (fun _=>by omega),ih _ (by rw[List.length_take];omega),ud,List.append_assoc]
    ·rw[if_neg hg,if_neg hg,ih O h,List.nil_append]
mutual
theorem FU {rk:List Int}{nl:Nat}(hk:∀k∈rk,1≤k):∀(t:fF) (d ch:Nat) (s:yY),(iT rk nl t d ch s).2.1=0→gU rk.length nl t∧(iT rk nl t d ch s).1.nodes=s.nodes+o3 t∧(iT rk nl t d ch s).1.nodes≤200∧(iT rk nl t d ch s).1.leaves=s.leaves+mN t
 | .mk r x l,d,ch,s,h=>by
  rw[iT]at h⊢
  by_cases h1:200<s.nodes+1∨48<d
  ·rw[if_pos h1]at h;exact absurd h (by simp)
  rw[if_neg h1]at h⊢
  by_cases h2:r< -1∨rk.length≤r∨(r= -1∧(x<0∨nl≤x))
  ·rw[if_pos h2]at h;exact absurd h (by simp)
  rw[if_neg h2]at h⊢
  by_cases h3:0≤r∧x≠0
  ·rw[if_pos h3]at h;exact absurd h (by simp)
  rw[if_neg h3]at h⊢
  by_cases h4:(l.length:Int)≠(if 0≤r then rk.getD r.toNat 0 else 0)
  ·rw[if_pos h4]at h;exact absurd h (by simp)
  rw[if_neg h4]at h⊢
  by_cases h5:3<(if l.length=1 then ch+1 else 0)
  ·rw[if_pos h5]at h;exact absurd h (by simp)
  rw[if_neg h5]at h⊢;obtain⟨k1,k2,k3,k4⟩:=CM hk l _ _ _ h (show s.nodes+1≤200 by omega);refine⟨?_,by rw[k2,o3];dsimp only;omega,k3,?_⟩
  ·rw[gU]
   refine⟨by omega,fun hr=> ?_,fun hr hl=> ?_,k1⟩
   ·rw[if_neg (by omega)]at h4
    refine⟨List.eq_nil_of_length_eq_zero (by omega),by omega,by omega⟩
   ·rw[if_pos hr,hl]at h4
    have jA:r.toNat<rk.length:=by omega
    have:=hk (rk.getD r.toNat 0) (by rw[List.getD_eq_getElem?_getD,List.getElem?_eq_getElem jA];exact List.getElem_mem jA)
    simp only[List.length_nil]at h4
    omega
  ·rw[k4,mN]
   dsimp only
   by_cases hr:0≤r
   ·rw[if_pos hr,if_neg (by omega)];omega
   ·rw[if_neg hr,if_pos (by omega)];omega
theorem CM {rk:List Int}{nl:Nat}(hk:∀k∈rk,1≤k):∀(l:List fF) (d ch:Nat) (s:yY),(iI rk nl l d ch s).2.1=0→s.nodes≤200→lR rk.length nl l∧(iI rk nl l d ch s).1.nodes=s.nodes+ld l∧(iI rk nl l d ch s).1.nodes≤200∧(iI rk nl l d ch s).1.leaves=s.leaves+j6 l
 | [],d,ch,s,_,hs=>by rw[iI,lR,ld,j6];exact⟨trivial,rfl,hs,rfl⟩
 |x::l,d,ch,s,h,hs=>by
  rw[iI]at h⊢
  by_cases h1:(iT rk nl x d ch s).2.1≠0
  ·rw[if_pos h1]at h;exact absurd h h1
  rw[if_neg h1]at h⊢;obtain⟨a1,a2,a3,a4⟩:=FU hk x d ch s (Decidable.not_not.1 h1);obtain⟨b1,b2,b3,b4⟩:=CM hk l d ch _ h a3;rw[lR,ld,j6];exact⟨⟨a1,b1⟩,by omega,b3,by omega⟩
end
structure vL (L:List Nq):Prop where
 ahead:L.Pairwise CL
 no:∀(i:Nat) (x:Nq),L[i]?=some x→x.no=i
 words:∀x∈L,x.ov<x.to∧x.no<x.fin
theorem vL.of {nr nl:Nat}(g:iw){t:fF}(h:gU nr nl t):vL (kG g t 0 (-1) 0):=by
 obtain⟨h1,h2⟩:=FQ g t 0 (-1) 0 h;exact⟨h1,fun i x hx=>by have:=Ao g t 0 (-1) 0 i x hx;omega,fun x hx=>by obtain⟨a1,a2,a3,a4,a5,a6⟩:=h2 x hx;exact⟨a5,a2⟩⟩
theorem getD_some {L:List Nq}{i:Nat}(h:i<L.length):L[i]?=some (L.getD i so):=by
 rw[List.getD_eq_getElem?_getD,List.getElem?_eq_getElem h];rfl
theorem vL.lt {L:List Nq}(h:vL L){i j:Nat}(NY:i<j)(hj:j<L.length):CL (L.getD i so) (L.getD j so)∧(L.getD i so).no=i∧(L.getD j so).no=j:=by
 have h1:=getD_some (show i<L.length by omega)
 have h2:=getD_some hj
 refine⟨?_,h.no _ _ h1,h.no _ _ h2⟩
 have:=List.pairwise_iff_getElem.1 h.ahead i j (by omega) hj NY
 rw[List.getElem?_eq_getElem (show i<L.length by omega)]at h1;rw[List.getElem?_eq_getElem hj]at h2
 injection h1 with h1;injection h2 with h2
 rw[←h1,←h2];exact this
theorem vL.one {L:List Nq}(h:vL L){i:Nat}(hi:i<L.length):(L.getD i so).ov<(L.getD i so).to:=(h.words _ (List.mem_of_getElem? (getD_some hi))).1
theorem pJ {α β:Type}{f g:α→List β}:∀{l:List α},(∀a∈l,f a=g a)→l.flatMap f=l.flatMap g
 | [],_=>rfl
 |a::l,h=>by rw[List.flatMap_cons,List.flatMap_cons,h a (List.mem_cons_self ..),pJ (fun b hb=>h b (List.mem_cons_of_mem _ hb))]
end Go.Proofs.YtolmidffiegkaaaGreatDoor
namespace Go.J
open Go Go.Proofs.YtolmidffiegkaaaGreatDoor
def jH:Rp dP:=⟨3,by decide,fun x=>[sv x.name,iv x.kind,sv x.label],fun x=>hP x.name∧bF x.kind∧hP x.label,fun _=>rfl,fun x u h=>by simp at h;rcases h with rfl|rfl|rfl<;>rfl⟩
def gM:Rp eL:=⟨3,by decide,fun x=>[iv x.kind,iv x.a,iv x.b],fun x=>bF x.kind∧bF x.a∧bF x.b,fun _=>rfl,fun x u h=>by simp at h;rcases h with rfl|rfl|rfl<;>rfl⟩
def gV:Rp Nq:=⟨6,by decide,fun x=>[.bool x.leaf,sv x.label,iv x.up,iv (x.fin:Int),iv (x.ov:Int),iv (x.to:Int)],fun _=>True,fun _=>rfl,fun x u h=>by simp at h;rcases h with rfl|rfl|rfl|rfl|rfl|rfl<;>rfl⟩
instance (x:dP):en jH x [sv x.name,iv x.kind,sv x.label]:=⟨rfl⟩
instance (x:eL):en gM x [iv x.kind,iv x.a,iv x.b]:=⟨rfl⟩
instance (x:Nq):en gV x [.bool x.leaf,sv x.label,iv x.up,iv (x.fin:Int),iv (x.ov:Int),iv (x.to:Int)]:=⟨rfl⟩
structure eS where
 vv:cm
 vars:List dP
 kv:cm
 aY:List eL
abbrev jx (q:eS):Value:= .agg #[q.vv.1,q.kv.1]
def qQ (q:eS):List df:=[sl jH q.vv.1 q.vars,sl gM q.kv.1 q.aY]
def dy (q:eS):df:=p9 (qQ q)
end Go.J
set_option maxRecDepth 20000
namespace Go.Proofs.YtolmidffiegkaaaGreatDoor
open Go Go.J Go.ChangeShapes Go.WideShapes Go.ChangeAt Go.RowKit Go.Deep
theorem R0 {α:Type}{l:List α}(h:l.length=1):∃a0,l=[a0]:=match l,h with
 | [a0],_=>⟨a0,rfl⟩
theorem vM {α:Type}{l:List α}(h:l.length=2):∃a0 a1,l=[a0,a1]:=match l,h with
 | [a0,a1],_=>⟨a0,a1,rfl⟩
theorem CN {α:Type}{l:List α}(h:l.length=3):∃a0 a1 a2,l=[a0,a1,a2]:=match l,h with
 | [a0,a1,a2],_=>⟨a0,a1,a2,rfl⟩
theorem R2 {α:Type}{l:List α}(h:l.length=5):∃a0 a1 a2 a3 a4,l=[a0,a1,a2,a3,a4]:=match l,h with
 | [a0,a1,a2,a3,a4],_=>⟨a0,a1,a2,a3,a4,rfl⟩
theorem R3 {α:Type}{l:List α}(h:l.length=6):∃a0 a1 a2 a3 a4 a5,l=[a0,a1,a2,a3,a4,a5]:=match l,h with
 | [a0,a1,a2,a3,a4,a5],_=>⟨a0,a1,a2,a3,a4,a5,rfl⟩
theorem R4 {α:Type}{l:List α}(h:l.length=9):∃a0 a1 a2 a3 a4 a5 a6 a7 a8,l=[a0,a1,a2,a3,a4,a5,a6,a7,a8]:=match l,h with
 | [a0,a1,a2,a3,a4,a5,a6,a7,a8],_=>⟨a0,a1,a2,a3,a4,a5,a6,a7,a8,rfl⟩
theorem Nu {α:Type}{l:List α}(h:l.length=10):∃a0 a1 a2 a3 a4 a5 a6 a7 a8 a9,l=[a0,a1,a2,a3,a4,a5,a6,a7,a8,a9]:=match l,h with
 | [a0,a1,a2,a3,a4,a5,a6,a7,a8,a9],_=>⟨a0,a1,a2,a3,a4,a5,a6,a7,a8,a9,rfl⟩
theorem fz:Tryz.prog.cellsOf 3=1:=by kernel_rfl
theorem mw:Tryz.prog.cellsOf 9=1:=by kernel_rfl
theorem JT:Tryz.prog.cellsOf 22=1:=by kernel_rfl
theorem JU:Tryz.prog.cellsOf 23=1:=by kernel_rfl
theorem JV:Tryz.prog.cellsOf 25=2:=by kernel_rfl
theorem JW:Tryz.prog.cellsOf 26=1:=by kernel_rfl
theorem JX:Tryz.prog.cellsOf 27=1:=by kernel_rfl
theorem JY:Tryz.prog.cellsOf 28=1:=by kernel_rfl
theorem xB:Tryz.prog.cellsOf 30=1:=by kernel_rfl
theorem JZ:Tryz.prog.cellsOf 32=5:=by kernel_rfl
theorem Ja:Tryz.prog.cellsOf 33=1:=by kernel_rfl
theorem Jb:Tryz.prog.cellsOf 34=1:=by kernel_rfl
theorem Jc:Tryz.prog.cellsOf 36=2:=by kernel_rfl
theorem Jd:Tryz.prog.cellsOf 37=1:=by kernel_rfl
theorem CO:Tryz.prog.cellsOf 39=3:=by kernel_rfl
theorem CP:Tryz.prog.cellsOf 56=3:=by kernel_rfl
theorem Je:Tryz.prog.cellsOf 57=1:=by kernel_rfl
theorem Jf:Tryz.prog.cellsOf 71=3:=by kernel_rfl
theorem Jg:Tryz.prog.cellsOf 86=1:=by kernel_rfl
theorem CQ:Tryz.prog.cellsOf 88=2:=by kernel_rfl
theorem Jh:Tryz.prog.cellsOf 89=1:=by kernel_rfl
theorem xC:Tryz.prog.cellsOf 91=6:=by kernel_rfl
theorem Ji:Tryz.prog.cellsOf 93=10:=by kernel_rfl
theorem Jj:Tryz.prog.cellsOf 96=9:=by kernel_rfl
theorem FV:Tryz.prog.cellsOf 116=3:=by kernel_rfl
theorem FW:Tryz.prog.cellsOf 141=1:=by kernel_rfl
theorem FX:Tryz.prog.cellsOf 143=2:=by kernel_rfl
theorem FY:Tryz.prog.cellsOf 145=2:=by kernel_rfl
theorem FZ:Tryz.prog.cellsOf 165=2:=by kernel_rfl
abbrev XY (x:eL):Value:= .agg #[iv x.kind,iv x.a,iv x.b]
section
variable {H:Type}{enc:TypeId×Value→H}{W:World}
theorem Jk:∀(n:Nat) (cs:List Value) (y:DataW H×List MemPlace),cs.length=2→Tr enc Tryz.prog W n 145 cs y→kz (y.1.weights Tryz.prog 145)=true→∃x:fO,cs=eu.cells x∧eu.wf x∧True:=by
 intro n;intro cs y hl h hw;obtain⟨c0,c1,rfl⟩:=vM hl;obtain⟨m,rfl,hp⟩:=dq Tryz.underlying145 h hw;obtain⟨z0,t0,w0⟩:=bS hp 0 rfl rfl rfl fz
 have t0:Tr enc Tryz.prog W m 3 [c0] z0:=t0
 obtain⟨x0,e0,k0⟩:=fx Tryz.underlying3 t0;obtain⟨z1,t1,w1⟩:=bS hp 1 rfl rfl rfl fz
 have t1:Tr enc Tryz.prog W m 3 [c1] z1:=t1
 obtain⟨x1,e1,k1⟩:=fx Tryz.underlying3 t1
 simp only[List.cons.injEq,and_true]at e0
 subst e0
 simp only[List.cons.injEq,and_true]at e1
 subst e1;exact⟨⟨x0,x1⟩,rfl,⟨k0,k1⟩,trivial⟩
theorem Jl:∀(n:Nat) (cs:List Value) (y:DataW H×List MemPlace),cs.length=2→Tr enc Tryz.prog W n 143 cs y→kz (y.1.weights Tryz.prog 143)=true→∃x:jr,cs=ej.cells x∧ej.wf x∧(dS x).f (J.all W):=by
 intro n;intro cs y hl h hw;obtain⟨c0,c1,rfl⟩:=vM hl;obtain⟨m,rfl,hp⟩:=dq Tryz.underlying143 h hw;obtain⟨z0,t0,w0⟩:=bS hp 0 rfl rfl rfl fz
 have t0:Tr enc Tryz.prog W m 3 [c0] z0:=t0
 obtain⟨x0,e0,k0⟩:=fx Tryz.underlying3 t0;obtain⟨z1,t1,w1⟩:=bS hp 1 rfl rfl rfl FW
 have t1:Tr enc Tryz.prog W m 141 [c1] z1:=t1
 obtain⟨x1,l1,e1,f1,k1,s1⟩:=fR eu (fun _=>True) Tryz.underlying141 FY (fun n _=>Jk n) t1 w1
 simp only[List.cons.injEq,and_true]at e0
 subst e0
 simp only[List.cons.injEq,and_true]at e1
 subst e1;exact⟨⟨x0,x1,l1⟩,rfl,k0,f1⟩
theorem sq:∀(n:Nat) (cs:List Value) (y:DataW H×List MemPlace),cs.length=1→Tr enc Tryz.prog W n 30 cs y→kz (y.1.weights Tryz.prog 30)=true→∃x:eH,cs=[x.nv.1]∧(bU x).f (J.all W):=by
 intro n;intro cs y hl h hw;obtain⟨c0,rfl⟩:=R0 hl;obtain⟨m,rfl,hp⟩:=dq Tryz.underlying30 h hw;obtain⟨z0,t0,w0⟩:=bS hp 0 rfl rfl rfl JY
 have t0:Tr enc Tryz.prog W m 28 [c0] z0:=t0
 obtain⟨x0,l0,e0,f0,k0,s0⟩:=fR ej (fun x=>(dS x).f (J.all W)) Tryz.underlying28 FX (fun n _=>Jl n) t0 w0
 simp only[List.cons.injEq,and_true]at e0
 subst e0
 exact⟨⟨x0,l0⟩,rfl,fun d hd=>by
  simp only[l6,List.mem_cons,List.not_mem_nil,or_false]at hd
  rcases hd with rfl|rfl
  ·exact f0
  ·exact k0⟩
theorem R5:∀(n:Nat) (cs:List Value) (y:DataW H×List MemPlace),cs.length=2→Tr enc Tryz.prog W n 165 cs y→kz (y.1.weights Tryz.prog 165)=true→∃x:ja,cs=du.cells x∧du.wf x∧(ek x).f (J.all W):=by
 intro n;intro cs y hl h hw;obtain⟨c0,c1,rfl⟩:=vM hl;obtain⟨m,rfl,hp⟩:=dq Tryz.underlying165 h hw;obtain⟨z0,t0,w0⟩:=bS hp 0 rfl rfl rfl mw
 have t0:Tr enc Tryz.prog W m 9 [c0] z0:=t0
 obtain⟨x0,e0,k0⟩:=mr Tryz.underlying9 t0 w0;obtain⟨z1,t1,w1⟩:=bS hp 1 rfl rfl rfl Je
 have t1:Tr enc Tryz.prog W m 57 [c1] z1:=t1
 obtain⟨x1,l1,e1,f1,k1,s1⟩:=fR aK (fun _=>True) Tryz.underlying57 fz (fun n _ cs y hl h _=>by obtain⟨x,e,w⟩:=fx Tryz.underlying3 h;exact⟨x,e,w,trivial⟩) t1 w1
 simp only[List.cons.injEq,and_true]at e0
 subst e0
 simp only[List.cons.injEq,and_true]at e1
 subst e1;exact⟨⟨x0,x1,l1⟩,rfl,k0,f1⟩
theorem Jm:∀(n:Nat) (cs:List Value) (y:DataW H×List MemPlace),cs.length=3→Tr enc Tryz.prog W n 116 cs y→kz (y.1.weights Tryz.prog 116)=true→∃x:eC,cs=bx.cells x∧bx.wf x∧True:=by
 intro n;intro cs y hl h hw;obtain⟨c0,c1,c2,rfl⟩:=CN hl;obtain⟨m,rfl,hp⟩:=dq Tryz.underlying116 h hw;obtain⟨z0,t0,w0⟩:=bS hp 0 rfl rfl rfl mw
 have t0:Tr enc Tryz.prog W m 9 [c0] z0:=t0
 obtain⟨x0,e0,k0⟩:=mr Tryz.underlying9 t0 w0;obtain⟨z1,t1,w1⟩:=bS hp 1 rfl rfl rfl fz
 have t1:Tr enc Tryz.prog W m 3 [c1] z1:=t1
 obtain⟨x1,e1,k1⟩:=fx Tryz.underlying3 t1;obtain⟨z2,t2,w2⟩:=bS hp 2 rfl rfl rfl fz
 have t2:Tr enc Tryz.prog W m 3 [c2] z2:=t2
 obtain⟨x2,e2,k2⟩:=fx Tryz.underlying3 t2
 simp only[List.cons.injEq,and_true]at e0
 subst e0
 simp only[List.cons.injEq,and_true]at e1
 subst e1
 simp only[List.cons.injEq,and_true]at e2
 subst e2;exact⟨⟨x0,x1,x2⟩,rfl,⟨k0,k1,k2⟩,trivial⟩
theorem Nv:∀(n:Nat) (cs:List Value) (y:DataW H×List MemPlace),cs.length=2→Tr enc Tryz.prog W n 88 cs y→kz (y.1.weights Tryz.prog 88)=true→∃x:cT,cs=gT.cells x∧gT.wf x∧o9 (J.all W) x:=by
 intro n
 induction n using Nat.strongRecOn with
 |_ n ih=>
 intro cs y hl h hw;obtain⟨c0,c1,rfl⟩:=vM hl;obtain⟨m,rfl,hp⟩:=dq Tryz.underlying88 h hw;obtain⟨z0,t0,w0⟩:=bS hp 0 rfl rfl rfl mw
 have t0:Tr enc Tryz.prog W m 9 [c0] z0:=t0
 obtain⟨x0,e0,k0⟩:=mr Tryz.underlying9 t0 w0;obtain⟨z1,t1,w1⟩:=bS hp 1 rfl rfl rfl Jg
 have t1:Tr enc Tryz.prog W m 86 [c1] z1:=t1
 obtain⟨x1,l1,e1,f1,k1,s1⟩:=fR gT (o9 (J.all W)) Tryz.underlying86 CQ (fun k hk=>ih k (by omega)) t1 w1
 simp only[List.cons.injEq,and_true]at e0
 subst e0
 simp only[List.cons.injEq,and_true]at e1
 subst e1;exact⟨.mk x0 x1 l1,rfl,k0,.mk f1 k1⟩
theorem CR:∀(n:Nat) (cs:List Value) (y:DataW H×List MemPlace),cs.length=6→Tr enc Tryz.prog W n 91 cs y→kz (y.1.weights Tryz.prog 91)=true→∃x:cD,cs=cE.cells x∧cE.wf x∧lp (J.all W) x:=by
 intro n
 induction n using Nat.strongRecOn with
 |_ n ih=>
 intro cs y hl h hw;obtain⟨c0,c1,c2,c3,c4,c5,rfl⟩:=R3 hl;obtain⟨m,rfl,hp⟩:=dq Tryz.underlying91 h hw;obtain⟨z0,t0,w0⟩:=bS hp 0 rfl rfl rfl fz
 have t0:Tr enc Tryz.prog W m 3 [c0] z0:=t0
 obtain⟨x0,e0,k0⟩:=fx Tryz.underlying3 t0;obtain⟨z1,t1,w1⟩:=bS hp 1 rfl rfl rfl mw
 have t1:Tr enc Tryz.prog W m 9 [c1] z1:=t1
 obtain⟨x1,e1,k1⟩:=mr Tryz.underlying9 t1 w1;obtain⟨z2,t2,w2⟩:=bS hp 2 rfl rfl rfl fz
 have t2:Tr enc Tryz.prog W m 3 [c2] z2:=t2
 obtain⟨x2,e2,k2⟩:=fx Tryz.underlying3 t2;obtain⟨z3,t3,w3⟩:=bS hp 3 rfl rfl rfl CQ
 have t3:Tr enc Tryz.prog W m 88 [c3,c4] z3:=t3
 obtain⟨x3,e3,k3,q3⟩:=Nv _ _ _ rfl t3 w3;obtain⟨z4,t4,w4⟩:=bS hp 4 rfl rfl rfl Jh
 have t4:Tr enc Tryz.prog W m 89 [c5] z4:=t4
 obtain⟨x4,l4,e4,f4,k4,s4⟩:=fR cE (lp (J.all W)) Tryz.underlying89 xC (fun k hk=>ih k (by omega)) t4 w4
 simp only[List.cons.injEq,and_true]at e0
 subst e0
 simp only[List.cons.injEq,and_true]at e1
 subst e1
 simp only[List.cons.injEq,and_true]at e2
 subst e2
 cases e3
 simp only[List.cons.injEq,and_true]at e4
 subst e4;exact⟨.mk x0 x1 x2 x3 x4 l4,rfl,⟨k0,k1,k2,k3⟩,.mk q3 f4 k4⟩
theorem Jn:∀(n:Nat) (cs:List Value) (y:DataW H×List MemPlace),cs.length=3→Tr enc Tryz.prog W n 39 cs y→kz (y.1.weights Tryz.prog 39)=true→∃x:br,cs=dY.cells x∧dY.wf x∧mn (J.all W) x:=by
 intro n
 induction n using Nat.strongRecOn with
 |_ n ih=>
 intro cs y hl h hw;obtain⟨c0,c1,c2,rfl⟩:=CN hl;obtain⟨m,rfl,hp⟩:=dq Tryz.underlying39 h hw;obtain⟨z0,t0,w0⟩:=bS hp 0 rfl rfl rfl fz
 have t0:Tr enc Tryz.prog W m 3 [c0] z0:=t0
 obtain⟨x0,e0,k0⟩:=fx Tryz.underlying3 t0;obtain⟨z1,t1,w1⟩:=bS hp 1 rfl rfl rfl fz
 have t1:Tr enc Tryz.prog W m 3 [c1] z1:=t1
 obtain⟨x1,e1,k1⟩:=fx Tryz.underlying3 t1;obtain⟨z2,t2,w2⟩:=bS hp 2 rfl rfl rfl Jd
 have t2:Tr enc Tryz.prog W m 37 [c2] z2:=t2
 obtain⟨x2,l2,e2,f2,k2,s2⟩:=fR dY (mn (J.all W)) Tryz.underlying37 CO (fun k hk=>ih k (by omega)) t2 w2
 simp only[List.cons.injEq,and_true]at e0
 subst e0
 simp only[List.cons.injEq,and_true]at e1
 subst e1
 simp only[List.cons.injEq,and_true]at e2
 subst e2;exact⟨.mk x0 x1 x2 l2,rfl,⟨k0,k1⟩,.mk f2 k2⟩
theorem Jo:∀(n:Nat) (cs:List Value) (y:DataW H×List MemPlace),cs.length=10→Tr enc Tryz.prog W n 93 cs y→kz (y.1.weights Tryz.prog 93)=true→∃x:bV,cs=cA.cells x∧cA.wf x∧(cO x).f (J.all W):=by
 intro n;intro cs y hl h hw;obtain⟨c0,c1,c2,c3,c4,c5,c6,c7,c8,c9,rfl⟩:=Nu hl;obtain⟨m,rfl,hp⟩:=dq Tryz.underlying93 h hw;obtain⟨z0,t0,w0⟩:=bS hp 0 rfl rfl rfl mw
 have t0:Tr enc Tryz.prog W m 9 [c0] z0:=t0
 obtain⟨x0,e0,k0⟩:=mr Tryz.underlying9 t0 w0;obtain⟨z1,t1,w1⟩:=bS hp 1 rfl rfl rfl xB
 have t1:Tr enc Tryz.prog W m 30 [c1] z1:=t1
 obtain⟨x1,e1,q1⟩:=sq _ _ _ rfl t1 w1;obtain⟨z2,t2,w2⟩:=bS hp 2 rfl rfl rfl fz
 have t2:Tr enc Tryz.prog W m 3 [c2] z2:=t2
 obtain⟨x2,e2,k2⟩:=fx Tryz.underlying3 t2;obtain⟨z3,t3,w3⟩:=bS hp 3 rfl rfl rfl fz
 have t3:Tr enc Tryz.prog W m 3 [c3] z3:=t3
 obtain⟨x3,e3,k3⟩:=fx Tryz.underlying3 t3;obtain⟨z4,t4,w4⟩:=bS hp 4 rfl rfl rfl xC
 have t4:Tr enc Tryz.prog W m 91 [c4,c5,c6,c7,c8,c9] z4:=t4
 obtain⟨x4,e4,k4,q4⟩:=CR _ _ _ rfl t4 w4
 simp only[List.cons.injEq,and_true]at e0
 subst e0
 cases e1
 simp only[List.cons.injEq,and_true]at e2
 subst e2
 simp only[List.cons.injEq,and_true]at e3
 subst e3
 cases e4
 exact⟨⟨x0,x1,x2,x3,x4⟩,rfl,⟨k0,k2,k3,k4⟩,fun d hd=>by
  simp only[CH,List.mem_cons,List.not_mem_nil,or_false]at hd
  rcases hd with rfl|rfl
  ·exact q1
  ·exact q4⟩
theorem Nw:∀(n:Nat) (cs:List Value) (y:DataW H×List MemPlace),cs.length=9→Tr enc Tryz.prog W n 96 cs y→kz (y.1.weights Tryz.prog 96)=true→∃x:cq,cs=cI.cells x∧cI.wf x∧(dT x).f (J.all W):=by
 intro n;intro cs y hl h hw;obtain⟨c0,c1,c2,c3,c4,c5,c6,c7,c8,rfl⟩:=R4 hl;obtain⟨m,rfl,hp⟩:=dq Tryz.underlying96 h hw;obtain⟨z0,t0,w0⟩:=bS hp 0 rfl rfl rfl mw
 have t0:Tr enc Tryz.prog W m 9 [c0] z0:=t0
 obtain⟨x0,e0,k0⟩:=mr Tryz.underlying9 t0 w0;obtain⟨z1,t1,w1⟩:=bS hp 1 rfl rfl rfl xB
 have t1:Tr enc Tryz.prog W m 30 [c1] z1:=t1
 obtain⟨x1,e1,q1⟩:=sq _ _ _ rfl t1 w1;obtain⟨z2,t2,w2⟩:=bS hp 2 rfl rfl rfl fz
 have t2:Tr enc Tryz.prog W m 3 [c2] z2:=t2
 obtain⟨x2,e2,k2⟩:=fx Tryz.underlying3 t2;obtain⟨z3,t3,w3⟩:=bS hp 3 rfl rfl rfl xC
 have t3:Tr enc Tryz.prog W m 91 [c3,c4,c5,c6,c7,c8] z3:=t3
 obtain⟨x3,e3,k3,q3⟩:=CR _ _ _ rfl t3 w3
 simp only[List.cons.injEq,and_true]at e0
 subst e0
 cases e1
 simp only[List.cons.injEq,and_true]at e2
 subst e2
 cases e3
 exact⟨⟨x0,x1,x2,x3⟩,rfl,⟨k0,k2,k3⟩,fun d hd=>by
  simp only[JN,List.mem_cons,List.not_mem_nil,or_false]at hd
  rcases hd with rfl|rfl
  ·exact q1
  ·exact q3⟩
theorem Jp:∀(n:Nat) (cs:List Value) (y:DataW H×List MemPlace),cs.length=2→Tr enc Tryz.prog W n 25 cs y→kz (y.1.weights Tryz.prog 25)=true→∃(tv:cm) (ts:List ja) (fv:cm) (fs:List eC),cs=[tv.1,fv.1]∧∀d∈M6 tv fv ts fs,d.f (J.all W):=by
 intro n;intro cs y hl h hw;obtain⟨c0,c1,rfl⟩:=vM hl;obtain⟨m,rfl,hp⟩:=dq Tryz.underlying25 h hw;obtain⟨z0,t0,w0⟩:=bS hp 0 rfl rfl rfl JT
 have t0:Tr enc Tryz.prog W m 22 [c0] z0:=t0
 obtain⟨x0,l0,e0,f0,k0,s0⟩:=fR du (fun x=>(ek x).f (J.all W)) Tryz.underlying22 FZ (fun n _=>R5 n) t0 w0;obtain⟨z1,t1,w1⟩:=bS hp 1 rfl rfl rfl JU
 have t1:Tr enc Tryz.prog W m 23 [c1] z1:=t1
 obtain⟨x1,l1,e1,f1,k1,s1⟩:=fR bx (fun _=>True) Tryz.underlying23 FV (fun n _=>Jm n) t1 w1
 simp only[List.cons.injEq,and_true]at e0
 subst e0
 simp only[List.cons.injEq,and_true]at e1
 subst e1
 exact⟨x0,l0,x1,l1,rfl,fun d hd=>by
  simp only[M6,List.mem_cons,List.not_mem_nil,or_false]at hd
  rcases hd with rfl|rfl|rfl
  ·exact f0
  ·exact k0
  ·exact f1⟩
theorem Nx:∀(n:Nat) (cs:List Value) (y:DataW H×List MemPlace),cs.length=5→Tr enc Tryz.prog W n 32 cs y→kz (y.1.weights Tryz.prog 32)=true→∃x:iG,cs=Nh x∧(dv x).f (J.all W):=by
 intro n cs y hl h hw;obtain⟨c0,c1,c2,c3,c4,rfl⟩:=R2 hl;obtain⟨m,rfl,hp⟩:=dq Tryz.underlying32 h hw;obtain⟨z0,t0,w0⟩:=bS hp 0 rfl rfl rfl JV
 have t0:Tr enc Tryz.prog W m 25 [c0,c1] z0:=t0
 obtain⟨tv,ts,fv,fs,e0,q0⟩:=Jp _ _ _ rfl t0 w0;obtain⟨z1,t1,w1⟩:=bS hp 1 rfl rfl rfl JW
 have t1:Tr enc Tryz.prog W m 26 [c2] z1:=t1
 obtain⟨x1,l1,e1,f1,k1,_⟩:=fR cA (fun x=>(cO x).f (J.all W)) Tryz.underlying26 Ji (fun n _=>Jo n) t1 w1;obtain⟨z2,t2,w2⟩:=bS hp 2 rfl rfl rfl JX
 have t2:Tr enc Tryz.prog W m 27 [c3] z2:=t2
 obtain⟨x2,l2,e2,f2,k2,_⟩:=fR cI (fun x=>(dT x).f (J.all W)) Tryz.underlying27 Jj (fun n _=>Nw n) t2 w2;obtain⟨z3,t3,w3⟩:=bS hp 3 rfl rfl rfl xB
 have t3:Tr enc Tryz.prog W m 30 [c4] z3:=t3
 obtain⟨x3,e3,q3⟩:=sq _ _ _ rfl t3 w3
 simp only[List.cons.injEq,and_true]at e0 e1 e2 e3
 obtain⟨rfl,rfl⟩:=e0;subst e1 e2 e3;refine⟨⟨tv,ts,fv,fs,x1,l1,x2,l2,x3⟩,rfl,fun d hd=> ?_⟩
 have h0:=q0 _ (List.mem_cons_self ..)
 have h1:=q0 _ (List.mem_cons_of_mem _ (List.mem_cons_self ..))
 have h2:=q0 _ (List.mem_cons_of_mem _ (List.mem_cons_of_mem _ (List.mem_cons_self ..)))
 simp only[yX,List.mem_cons,List.not_mem_nil,or_false]at hd
 rcases hd with rfl|rfl|rfl|rfl|rfl|rfl|rfl|rfl
 ·exact h0
 ·exact h1
 ·exact h2
 ·exact f1
 ·exact k1
 ·exact f2
 ·exact k2
 ·exact q3
theorem Jq:∀(n:Nat) (cs:List Value) (y:DataW H×List MemPlace),cs.length=3→Tr enc Tryz.prog W n 71 cs y→kz (y.1.weights Tryz.prog 71)=true→∃x:dP,cs=jH.cells x∧jH.wf x∧True:=by
 intro n;intro cs y hl h hw;obtain⟨c0,c1,c2,rfl⟩:=CN hl;obtain⟨m,rfl,hp⟩:=dq Tryz.underlying71 h hw;obtain⟨z0,t0,w0⟩:=bS hp 0 rfl rfl rfl mw
 have t0:Tr enc Tryz.prog W m 9 [c0] z0:=t0
 obtain⟨x0,e0,k0⟩:=mr Tryz.underlying9 t0 w0;obtain⟨z1,t1,w1⟩:=bS hp 1 rfl rfl rfl fz
 have t1:Tr enc Tryz.prog W m 3 [c1] z1:=t1
 obtain⟨x1,e1,k1⟩:=fx Tryz.underlying3 t1;obtain⟨z2,t2,w2⟩:=bS hp 2 rfl rfl rfl mw
 have t2:Tr enc Tryz.prog W m 9 [c2] z2:=t2
 obtain⟨x2,e2,k2⟩:=mr Tryz.underlying9 t2 w2
 simp only[List.cons.injEq,and_true]at e0
 subst e0
 simp only[List.cons.injEq,and_true]at e1
 subst e1
 simp only[List.cons.injEq,and_true]at e2
 subst e2;exact⟨⟨x0,x1,x2⟩,rfl,⟨k0,k1,k2⟩,trivial⟩
theorem Fa:∀(n:Nat) (cs:List Value) (y:DataW H×List MemPlace),cs.length=3→Tr enc Tryz.prog W n 56 cs y→kz (y.1.weights Tryz.prog 56)=true→∃x:eL,cs=gM.cells x∧gM.wf x∧True:=by
 intro n;intro cs y hl h hw;obtain⟨c0,c1,c2,rfl⟩:=CN hl;obtain⟨m,rfl,hp⟩:=dq Tryz.underlying56 h hw;obtain⟨z0,t0,w0⟩:=bS hp 0 rfl rfl rfl fz
 have t0:Tr enc Tryz.prog W m 3 [c0] z0:=t0
 obtain⟨x0,e0,k0⟩:=fx Tryz.underlying3 t0;obtain⟨z1,t1,w1⟩:=bS hp 1 rfl rfl rfl fz
 have t1:Tr enc Tryz.prog W m 3 [c1] z1:=t1
 obtain⟨x1,e1,k1⟩:=fx Tryz.underlying3 t1;obtain⟨z2,t2,w2⟩:=bS hp 2 rfl rfl rfl fz
 have t2:Tr enc Tryz.prog W m 3 [c2] z2:=t2
 obtain⟨x2,e2,k2⟩:=fx Tryz.underlying3 t2
 simp only[List.cons.injEq,and_true]at e0
 subst e0
 simp only[List.cons.injEq,and_true]at e1
 subst e1
 simp only[List.cons.injEq,and_true]at e2
 subst e2;exact⟨⟨x0,x1,x2⟩,rfl,⟨k0,k1,k2⟩,trivial⟩
theorem Fc:∀(n:Nat) (cs:List Value) (y:DataW H×List MemPlace),cs.length=2→Tr enc Tryz.prog W n 36 cs y→kz (y.1.weights Tryz.prog 36)=true→∃x:eS,cs=[x.vv.1,x.kv.1]∧(dy x).f (J.all W)∧x.vars.length*40≤140737488351232∧x.aY.length*24≤140737488351232:=by
 intro n;intro cs y hl h hw;obtain⟨c0,c1,rfl⟩:=vM hl;obtain⟨m,rfl,hp⟩:=dq Tryz.underlying36 h hw;obtain⟨z0,t0,w0⟩:=bS hp 0 rfl rfl rfl Ja
 have t0:Tr enc Tryz.prog W m 33 [c0] z0:=t0
 obtain⟨x0,l0,e0,f0,k0,s0⟩:=fR jH (fun _=>True) Tryz.underlying33 Jf (fun n _=>Jq n) t0 w0;obtain⟨z1,t1,w1⟩:=bS hp 1 rfl rfl rfl Jb
 have t1:Tr enc Tryz.prog W m 34 [c1] z1:=t1
 obtain⟨x1,l1,e1,f1,k1,s1⟩:=fR gM (fun _=>True) Tryz.underlying34 CP (fun n _=>Fa n) t1 w1
 simp only[List.cons.injEq,and_true]at e0
 subst e0
 simp only[List.cons.injEq,and_true]at e1
 subst e1
 exact⟨⟨x0,l0,x1,l1⟩,rfl,(fun d hd=>by
  simp only[qQ,List.mem_cons,List.not_mem_nil,or_false]at hd
  rcases hd with rfl|rfl
  ·exact f0
  ·exact f1),s0,s1⟩
theorem Fe {v:Value}{d:DataW H}{p:List MemPlace}{ss:Nat}(hv:Value.okWide Tryz.prog W .any ss 32 v)(hw:kz (d.weights Tryz.prog 32)=true)(h:DataW.Trod enc Tryz.prog W 0 (fun _=>true) true 32 v d p):∃x:iG,v=gm x∧(dv x).f (J.all W):=by
 obtain⟨cs,rfl,hc⟩:=okWide_struct Tryz.underlying32 hv;obtain⟨fuel,hf⟩:=h;obtain⟨x,e,q⟩:=Nx fuel cs.toList (d,p) (by rw[Array.length_toList,hc,JZ]) hf hw;exact⟨x,congrArg Value.agg (Array.toList_inj.1 e),q⟩
theorem De {v:Value}{d:DataW H}{p:List MemPlace}{ss:Nat}(hv:Value.okWide Tryz.prog W .any ss 39 v)(hw:kz (d.weights Tryz.prog 39)=true)(h:DataW.Trod enc Tryz.prog W 0 (fun _=>true) true 39 v d p):∃x:br,v=eW x∧dY.wf x∧(cB x).f (J.all W):=by
 obtain⟨cs,rfl,hc⟩:=okWide_struct Tryz.underlying39 hv;obtain⟨fuel,hf⟩:=h;obtain⟨x,e,k,q⟩:=Jn fuel cs.toList (d,p) (by rw[Array.length_toList,hc,CO]) hf hw;exact⟨x,congrArg Value.agg (Array.toList_inj.1 e),k,q⟩
theorem Ap {v:Value}{d:DataW H}{p:List MemPlace}{ss:Nat}(hv:Value.okWide Tryz.prog W .any ss 36 v)(hw:kz (d.weights Tryz.prog 36)=true)(h:DataW.Trod enc Tryz.prog W 0 (fun _=>true) true 36 v d p):∃x:eS,v=jx x∧(dy x).f (J.all W)∧x.vars.length*40≤140737488351232∧x.aY.length*24≤140737488351232:=by
 obtain⟨cs,rfl,hc⟩:=okWide_struct Tryz.underlying36 hv;obtain⟨fuel,hf⟩:=h;obtain⟨x,e,q,s⟩:=Fc fuel cs.toList (d,p) (by rw[Array.length_toList,hc,Jc]) hf hw;exact⟨x,congrArg Value.agg (Array.toList_inj.1 e),q,s⟩
theorem Fg {v:Value}{d:DataW H}{p:List MemPlace}{ss:Nat}(hv:Value.okWide Tryz.prog W .any ss 56 v)(hw:kz (d.weights Tryz.prog 56)=true)(h:DataW.Trod enc Tryz.prog W 0 (fun _=>true) true 56 v d p):∃x:eL,v=XY x∧gM.wf x:=by
 obtain⟨cs,rfl,hc⟩:=okWide_struct Tryz.underlying56 hv;obtain⟨fuel,hf⟩:=h;obtain⟨x,e,k,_⟩:=Fa fuel cs.toList (d,p) (by rw[Array.length_toList,hc,CP]) hf hw;exact⟨x,congrArg Value.agg (Array.toList_inj.1 e),k⟩
end
end Go.Proofs.YtolmidffiegkaaaGreatDoor
namespace Go.J
open Go
section
variable {P:Program}{n:Nat}{F:Fr}{A:World→Prop}{c:Ctx}{H R:List bQ}{ty:TypeId}{x y:Operand}{v:Value}{Q:Exit→Act→World→Prop}{ops:Array Oper}{rest:List Oper}
 {pos:String} {after:Array Edge} {t e:TypeId}
theorem xD {b off:Nat}{L:List Value}{u:Value}{ρ:Ro}{w:World}(jC:eF c (ae b (.cells L.toArray e (0,0))::R) ρ w)(ho:off<L.length):w.cell? ⟨b,off,none⟩=some L[off]∧w.frozen? ⟨b,off,none⟩=false∧
 eF c (ae b (.cells (L.set off u).toArray e (0,0))::R) ρ (w.setCell ⟨b,off,none⟩ u):=by
 have hb:=eO.1 (jC.dF _ (List.mem_cons_self ..))
 refine⟨by rw[cW hb];simp,by simp[World.frozen?,hb],?_⟩;refine jC.alter rfl ⟨rfl,Nat.le_refl _⟩ rfl (by simp) (fun k hk fj=> ?_) (eO.2 ?_) (fun b' iu=>by rw[fK]at iu⊢;exact .inl iu)
 ·rw[fK]at fj
  simp only[World.setCell,Array.getElem?_modify]
  rw[if_neg (fun e=>fj (by rw[e]))]
 ·rw[kK hb];simp
theorem St.l7 {T:Act→World→Prop}(L:List bQ)(hs:L.Sublist H)(k:St n F (Mm c L) T):St n F (Mm c H) T:=k.sL fun w hw=>by
 obtain⟨ρ,h⟩:=hw.out;exact Mm.mk ⟨h.os,h.tape,h.output,h.size,h.AU,h.fits,h.le,h.new,fun E hE=>h.dF E (hs.subset hE),fun E hE=>h.own E (hs.subset hE),h.C8.sublist hs⟩
theorem St.Fh {b off:Nat}{L L':List Value}{u1:Value}[tk:lK b H (.cells L.toArray e (0,0)) R](hx:aL F x (.pointer (some ⟨b,off,none⟩)))(hy:aL F y (.agg #[u1]))(hs:(P.info? t).map (·.size)=some 1)(h1:u1.oneCell'=true)
 (yO:Nat.ble (off+1) L.length=true) (hL:L.set off u1=L') (h:St n F (Mm c (ae b (.cells L'.toArray e (0,0))::R)) (wpList P ops Q rest)):
 St n F (Mm c H) (wpList P ops Q ({dst:=none,op:= .store t x y,type:=ty,pos:=pos,after:=after,guard:=none}::rest)):=by
 subst hL;refine St.lk (K:=fun u H'=>H'=ae b (.cells (L.set off u1).toArray e (0,0))::R) ?_ ?_
 ·intro a w ρ ha hm
  have JK:=hm.perm tk.perm
  obtain⟨c1,f1,wV⟩:=xD (u:=u1) JK (Nat.le_of_ble_eq_true yO);obtain⟨i,hi,fD⟩:=Option.map_eq_some_iff.1 hs;refine⟨.skip,_,ρ,_,?_,⟨_,.inr ⟨rfl,rfl⟩,rfl⟩,wV⟩
  simp[execOp,hx.eval ha,hy.eval ha,Instr.storeAt,Instr.sureAddr,storeVar,sizeOf,typeInfo,hi,fD,bp,storeCells,run_store P w _ u1 _ h1,c1,f1,Addr.add_zero',Addr.add_lit]
 ·rintro _ _ rfl
  exact h
theorem St.Fj {b off:Nat}{L L':List Value}{u1 u2:Value}[tk:lK b H (.cells L.toArray e (0,0)) R](hx:aL F x (.pointer (some ⟨b,off,none⟩)))(hy:aL F y (.agg #[u1,u2]))(hs:(P.info? t).map (·.size)=some 2)(h1:u1.oneCell'=true)(h2:u2.oneCell'=true)
 (yO:Nat.ble (off+2) L.length=true) (hL:(L.set off u1).set (off+1) u2=L') (h:St n F (Mm c (ae b (.cells L'.toArray e (0,0))::R)) (wpList P ops Q rest)):
 St n F (Mm c H) (wpList P ops Q ({dst:=none,op:= .store t x y,type:=ty,pos:=pos,after:=after,guard:=none}::rest)):=by
 subst hL;refine St.lk (K:=fun u H'=>H'=ae b (.cells ((L.set off u1).set (off+1) u2).toArray e (0,0))::R) ?_ ?_
 ·intro a w ρ ha hm
  have JK:=hm.perm tk.perm
  have ho:=Nat.le_of_ble_eq_true yO
  obtain⟨c1,f1,wV⟩:=xD (u:=u1) JK (show off<L.length by omega);obtain⟨c2,f2,qJ⟩:=xD (u:=u2) wV (show off+1<(L.set off u1).length by rw[List.length_set];omega);obtain⟨i,hi,fD⟩:=Option.map_eq_some_iff.1 hs;refine⟨.skip,_,ρ,_,?_,⟨_,.inr ⟨rfl,rfl⟩,rfl⟩,qJ⟩
  simp[execOp,hx.eval ha,hy.eval ha,Instr.storeAt,Instr.sureAddr,storeVar,sizeOf,typeInfo,hi,fD,bp,storeCells,run_store P w _ u1 _ h1,run_store P _ _ u2 _ h2,c1,f1,c2,f2,Addr.add_zero',Addr.add_lit]
 ·rintro _ _ rfl
  exact h
end
section
variable {P:Program}{n:Nat}{F:Fr}{c:Ctx}{H R:List bQ}{ty:TypeId}{x y:Operand}{t e:TypeId}
theorem Ev.gy {b off:Nat}{dd:TypeDesc}{fr:Nat×Nat}{L L':List Value}[hb:jm b H (.cells L.toArray e fr)](m:Nat)(hx:aL F x (.pointer (some ⟨b,off,none⟩)))(ht:P.underlying t=some dd)(lb:(match dd with| .struct _| .array _ _=>True|_=>False))
 (hs:(P.info? t).map (·.size)=some m) (hL:(L.drop off).take m=L') (hl:L'.length=m):Ev P n F (Mm c H) (.load t x) ty (.agg L'.toArray):= .of_run fun a w ha hw=>by
 obtain⟨ρ,hm⟩:=hw.out
 have h1:=eO.1 (hm.dF _ hb.mem)
 have h4:=eZ (P:=P) (w:=w) (b:=b) (off:=off) (L:=L') ht lb (by rw[hl];exact hs) (fun j u hj=>by
  rw[cW h1];rw[←hL,List.getElem?_take]at hj
  split at hj
  ·rw[List.getElem?_drop]at hj;simpa using hj
  ·cases hj)
 simp[execOp,hx.eval ha,Instr.loadAt,Instr.sureAddr,h4]
end
theorem cT.ind {p:cT→Prop}(h:∀x,(∀y∈x.args,p y)→p x)(x:cT):p x:=
 cT.rec (motive_1:=p) (motive_2:=fun l=>∀y∈l,p y) (fun b v l ih=>h (.mk b v l) ih) (fun y hy=>by cases hy) (fun a l ha hl y hy=>by
  rcases List.mem_cons.1 hy with rfl|hy
  ·exact ha
  ·exact hl y hy) x
theorem cD.ind {p:cD→Prop}(h:∀x,(∀y∈x.args,p y)→p x)(x:cD):p x:=
 cD.rec (motive_1:=p) (motive_2:=fun l=>∀y∈l,p y) (fun k s i t v l ih=>h (.mk k s i t v l) ih) (fun y hy=>by cases hy) (fun a l ha hl y hy=>by
  rcases List.mem_cons.1 hy with rfl|hy
  ·exact ha
  ·exact hl y hy) x
theorem br.ind {p:br→Prop}(h:∀x,(∀y∈x.kids,p y)→p x)(x:br):p x:=
 br.rec (motive_1:=p) (motive_2:=fun l=>∀y∈l,p y) (fun r i v l ih=>h (.mk r i v l) ih) (fun y hy=>by cases hy) (fun a l ha hl y hy=>by
  rcases List.mem_cons.1 hy with rfl|hy
  ·exact ha
  ·exact hl y hy) x
section
variable {P:Program}{n:Nat}{F F0:Fr}{A:World→Prop}{c:Ctx}{H R:List bQ}{ty:TypeId}{x y:Operand}{v:Value}{Q:Exit→Act→World→Prop}{ops:Array Oper}{rest:List Oper}{d:Nat}{pos:String}{after:Array Edge}{op:Op}{t u e:TypeId}{i j:Int}{k:IntKind}
theorem St.ee (lh:Ev P n F A op ty v)(h:St n ((d,v)::F) A (wpList P ops Q rest))(hd:Nat.ble (d+1) n=true:=by rfl):St n F A (wpList P ops Q ({dst:=some d,op:=op,type:=ty,pos:=pos,after:=after,guard:=none}::rest)):=St.ev v lh hd h
theorem Sq.ee {T:Act→Prop}(lh:Ev P n F A op ty v)(h:Sq n ((d,v)::F) (wpQuiet P ops A T rest))(hd:Nat.ble (d+1) n=true:=by rfl):Sq n F (wpQuiet P ops A T ({dst:=some d,op:=op,type:=ty,pos:=pos,after:=after,guard:=none}::rest)):=Sq.ev v lh hd h
theorem St.sA {b m:Nat}{L L':List Value}[tk:lK b H (.cells L.toArray t (0,0)) R](hx:aL F x (.pointer (some ⟨b,0,none⟩)))(hy:aL F y (.agg L'.toArray))(hs:(P.info? e).map (·.size)=some m)(h:St n F (Mm c (ae b (.cells L'.toArray t (0,0))::R)) (wpList P ops Q rest))
 (hm:m=L'.length:=by rfl) (hl:L.length=L'.length:=by first|simp only[List.length_cons,List.length_nil]|rfl) (h1:L'.all (·.oneCell')=true:=by rfl):
 St n F (Mm c H) (wpList P ops Q ({dst:=none,op:= .store e x y,type:=ty,pos:=pos,after:=after,guard:=none}::rest)):=St.NM hx hy (by rw[hs,hm]) hl h1 h
theorem ao.cc {dr:Prop}{bs l:List qy}{slot:Nat}{jG:List Nat}{K:Value→df}{o:Oper}{m:List Oper}(Ff:(Nat→Value)→Fr)(L:(Nat→Value)→List bQ)(h:∀(c:Ctx) (e:Nat→Value),(¬dr→¬c.dr)→St n (Ff e++F) (Mm c (L e++H)) (wpList P ops (Exit.then (pE c H slot K) Q) [o]))(k:ao P ops Q n F dr H bs l m)(h1:∀e,sj bs e jG=Ff e:=by exact fun _=>rfl)(h2:∀e,pD bs e jG=L e:=by exact fun _=>rfl):ao P ops Q n F dr H bs (⟨slot,jG,K⟩::l) (o::m):=⟨Ni.mk Ff L h1 h2 h,k⟩
theorem ao.c0 {dr:Prop}{bs l:List qy}{slot:Nat}{jG:List Nat}{K:Value→df}{o:Oper}{m:List Oper}(h:∀(c:Ctx) (e:Nat→Value),(¬dr→¬c.dr)→St n ((fun e=>[]) e++F) (Mm c ((fun e=>[]) e++H)) (wpList P ops (Exit.then (pE c H slot K) Q) [o]))(k:ao P ops Q n F dr H bs l m)(h1:∀e,sj bs e jG=(fun e=>[]) e:=by exact fun _=>rfl)(h2:∀e,pD bs e jG=(fun e=>[]) e:=by exact fun _=>rfl):ao P ops Q n F dr H bs (⟨slot,jG,K⟩::l) (o::m):=⟨Ni.mk (fun e=>[]) (fun e=>[]) h1 h2 h,k⟩
theorem St.rT {fn:Func}{post:Value→List bQ→Prop}{rl:List ResultVar}(vs:List Value)(H':List bQ)(hr:fn.results=rl.toArray)(hv:Lq P F H rl vs)(hp:post (DL vs) H')(hH:∀w,Mm c H w→Mm c H' w:=by exact fun _ hw=>hw.sub):
 St n F (Mm c H) (bodyPost P fn (fun e w'=>∃v H',e= .returned v∧post v H'∧Mm c H' w') .ret):=St.QM vs H' hr hv hp hH
theorem St.rU {fn:Func}{post:Value→List bQ→Prop}{rl:List ResultVar}(vs:List Value)(H':List bQ)(hr:fn.results=rl.toArray)(hp:post (DL vs) H')(hv:Lq P F H rl vs:=by first|exact⟨rfl,trivial⟩|exact⟨⟨_,_,_,_,rfl,jm.mem,.inl ⟨⟨_,gF⟩,bC,rfl⟩⟩,trivial⟩)(hH:∀w,Mm c H w→Mm c H' w:=by exact fun _ hw=>hw.sub):
 St n F (Mm c H) (bodyPost P fn (fun e w'=>∃v H',e= .returned v∧post v H'∧Mm c H' w') .ret):=St.QM vs H' hr hv hp hH
theorem St.sr {id:Nat}{l:List Oper}{y:Code}(h:St n F A (wpList P l.toArray (Exit.then (y.wp P Q) Q) l)):St n F A ((Code.seq (Code.region id l.toArray false) y).wp P Q):=St.seq (St.rg h)
theorem St.my {ι κ:Type}{body:Code}(G:ι→κ→Fr→Fr)(Hf:ι→κ→List bQ)(φ:ι→κ→Prop)(μ:ι→κ→Nat)(gR:ι)(wU:κ)(hk:aE F F0)(h0:φ gR wU)
 (round:∀x z,φ x z→St n (G x z F0) (Mm c (Hf x z)) (body.wp P (Exit.then (wT n G F0 φ μ c Hf (μ x z)) Q))) (hF:Sub (G gR wU F0) F:=by repeat(first|exact Sub.nil|refine Sub.cons (by first|rfl|exact congrArg (fun z=>some (iv z)) (by first|omega|(dsimp only;omega))|exact congrArg (fun z=>some (Value.bool z)) (by first|assumption|exact Eq.symm (by assumption))) ?_)) (hH:∀w,Mm c H w→Mm c (Hf gR wU) w:=by exact fun _ hw=>hw.sub):
 St n F (Mm c H) ((Code.loop body).wp P Q):=St.NO G Hf φ μ gR wU hk h0 hF hH round
theorem St.lH {ι:Type}{body:Code}(G:ι→Fr→Fr)(Hf:ι→List bQ)(φ:ι→Prop)(μ:ι→Nat)(gR:ι)(hk:aE F F0)(h0:φ gR)
 (round:∀x,φ x→St n (G x F0) (Mm c (Hf x)) (body.wp P (Exit.then (qv n G F0 φ μ c Hf (μ x)) Q))) (hF:Sub (G gR F0) F:=by repeat(first|exact Sub.nil|refine Sub.cons (by first|rfl|exact congrArg (fun z=>some (iv z)) (by first|omega|(dsimp only;omega))|exact congrArg (fun z=>some (Value.bool z)) (by first|assumption|exact Eq.symm (by assumption))) ?_)) (hH:∀w,Mm c H w→Mm c (Hf gR) w:=by exact fun _ hw=>hw.sub):
 St n F (Mm c H) ((Code.loop body).wp P Q):=St.Ls G Hf φ μ gR hk h0 hF hH round
theorem St.lS {ι:Type}{body:Code}(G:ι→Fr→Fr)(φ:ι→Prop)(μ:ι→Nat)(gR:ι)(hk:aE F F0)(h0:φ gR)
 (round:∀x,φ x→St n (G x F0) (Mm c H) (body.wp P (Exit.then (qv n G F0 φ μ c (fun _=>H) (μ x)) Q))) (hF:Sub (G gR F0) F:=by repeat(first|exact Sub.nil|refine Sub.cons (by first|rfl|exact congrArg (fun z=>some (iv z)) (by first|omega|(dsimp only;omega))|exact congrArg (fun z=>some (Value.bool z)) (by first|assumption|exact Eq.symm (by assumption))) ?_)):
 St n F (Mm c H) ((Code.loop body).wp P Q):=St.QP G φ μ gR hk h0 hF round
theorem St.ji {ι κ:Type}{G:ι→κ→Fr→Fr}{Hf:ι→κ→List bQ}{φ:ι→κ→Prop}{μ:ι→κ→Nat}{k:Nat}(y:ι)(z:κ)(Aa:φ y z)(hm:μ y z<k:=by first|omega|(dsimp only;omega))(hF:Sub (G y z F0) F:=by repeat(first|exact Sub.nil|refine Sub.cons (by first|rfl|exact congrArg (fun z=>some (iv z)) (by first|omega|(dsimp only;omega))|exact congrArg (fun z=>some (Value.bool z)) (by first|assumption|exact Eq.symm (by assumption))) ?_))(hA:∀w,Mm c H w→Mm c (Hf y z) w:=by exact fun _ hw=>hw.sub):
 St n F (Mm c H) (wT n G F0 φ μ c Hf k):=St.C9 y z Aa hm hF hA
theorem St.aH {ι:Type}{G:ι→Fr→Fr}{Hf:ι→List bQ}{φ:ι→Prop}{μ:ι→Nat}{k:Nat}(y:ι)(Aa:φ y)(hm:μ y<k:=by first|omega|(dsimp only;omega))(hF:Sub (G y F0) F:=by repeat(first|exact Sub.nil|refine Sub.cons (by first|rfl|exact congrArg (fun z=>some (iv z)) (by first|omega|(dsimp only;omega))|exact congrArg (fun z=>some (Value.bool z)) (by first|assumption|exact Eq.symm (by assumption))) ?_))(hA:∀w,Mm c H w→Mm c (Hf y) w:=by exact fun _ hw=>hw.sub):
 St n F (Mm c H) (qv n G F0 φ μ c Hf k):=St.F4 y Aa hm hF hA
theorem St.aS {ι:Type}{G:ι→Fr→Fr}{φ:ι→Prop}{μ:ι→Nat}{k:Nat}{H':List bQ}(y:ι)(Aa:φ y)(hm:μ y<k:=by first|omega|(dsimp only;omega))(hF:Sub (G y F0) F:=by repeat(first|exact Sub.nil|refine Sub.cons (by first|rfl|exact congrArg (fun z=>some (iv z)) (by first|omega|(dsimp only;omega))|exact congrArg (fun z=>some (Value.bool z)) (by first|assumption|exact Eq.symm (by assumption))) ?_))(hA:∀w,Mm c H w→Mm c H' w:=by exact fun _ hw=>hw.sub):
 St n F (Mm c H) (qv n G F0 φ μ c (fun _=>H') k):=St.Ab y Aa hm hF hA
theorem St.mE {ι:Type}{G:ι→Fr→Fr}{Hf:ι→List bQ}{φ:ι→Prop}(y:ι)(Aa:φ y)(hF:Sub (G y F0) F:=by repeat(first|exact Sub.nil|refine Sub.cons (by first|rfl|exact congrArg (fun z=>some (iv z)) (by first|omega|(dsimp only;omega))|exact congrArg (fun z=>some (Value.bool z)) (by first|assumption|exact Eq.symm (by assumption))) ?_))(hA:∀w,Mm c H w→Mm c (Hf y) w:=by exact fun _ hw=>hw.sub):
 St n F (Mm c H) (Met n G F0 φ c Hf):=St.met y Aa hF hA
theorem Ev.l0 {b off:Nat}{fr:Nat×Nat}{d:TypeDesc}{u:Value}{L:List Value}[hb:jm b H (.cells L.toArray e fr)](hx:aL F x (.pointer (some ⟨b,off,none⟩)))(ht:P.underlying t=some d)(lb:(match d with| .struct _| .array _ _=>False|_=>True):=by trivial)
 (hu:L[off]?=some u:=by rfl):Ev P n F (Mm c H) (.load t x) ty u:=Ev.cS hx ht lb hu
theorem Ev.o0 {p q:Bool}(hx:aL F x (.bool p):=by exact .mk rfl)(hy:(!p)=true→aL F y (.bool q):=by exact fun hp=>aL.gv rfl hp):Ev P n F A (.pick x (.const (.bool true)) y) ty (.bool (p||q)):=Ev.or hx hy
theorem Ev.n0 {p q:Bool}(hx:aL F x (.bool p):=by exact .mk rfl)(hy:p=true→aL F y (.bool q):=by exact fun hp=>aL.gv rfl hp):Ev P n F A (.pick x y (.const (.bool false))) ty (.bool (p&&q)):=Ev.and hx hy
theorem Ev.a0 (hx:aL F x (iv i):=by exact .mk rfl)(hy:aL F y (iv j):=by exact .mk rfl)(h: -9223372036854775808≤i+j∧i+j≤9223372036854775807:=by omega):Ev P n F A (.binOp .add t x y u) ty (iv (i+j)):=Ev.add hx hy h
theorem Ev.s0 (hx:aL F x (iv i):=by exact .mk rfl)(hy:aL F y (iv j):=by exact .mk rfl)(h: -9223372036854775808≤i-j∧i-j≤9223372036854775807:=by omega):Ev P n F A (.binOp .sub t x y u) ty (iv (i-j)):=Ev.sub hx hy h
theorem Ev.dz (hx:aL F x (.int k i):=by exact .mk rfl)(hy:aL F y (.int k j):=by exact .mk rfl):Ev P n F A (.binOp .lss t x y u) ty (.bool (decide (i<j))):=Ev.lss hx hy
theorem Ev.fa (hx:aL F x (.int k i):=by exact .mk rfl)(hy:aL F y (.int k j):=by exact .mk rfl):Ev P n F A (.binOp .eql t x y u) ty (.bool (decide (i=j))):=Ev.eql hx hy
theorem Ev.jj (hx:aL F x (.int k i):=by exact .mk rfl)(hy:aL F y (.int k j):=by exact .mk rfl):Ev P n F A (.binOp .neq t x y u) ty (.bool (!decide (i=j))):=Ev.neq hx hy
theorem Ev.s5 (hx:aL F x (.int k i):=by exact .mk rfl)(hy:aL F y (.int k j):=by exact .mk rfl):Ev P n F A (.binOp .gtr t x y u) ty (.bool (decide (j<i))):=Ev.gtr hx hy
theorem Ev.ra (hx:aL F x (.int k i):=by exact .mk rfl)(hy:aL F y (.int k j):=by exact .mk rfl):Ev P n F A (.binOp .geq t x y u) ty (.bool (decide (j≤i))):=Ev.geq hx hy
theorem Ev.Iw (hx:aL F x (.int k i):=by exact .mk rfl)(hy:aL F y (.int k j):=by exact .mk rfl):Ev P n F A (.binOp .leq t x y u) ty (.bool (decide (i≤j))):=Ev.leq hx hy
theorem St.nn {K:Act→World→Prop}(h:St n F A K):St n F A (wpList P ops (Exit.then K Q) []):=h
theorem St.dup (d:df){T:Act→World→Prop}[hd:oP [d] H](k:St n F (Mm c (aF d::H)) T):St n F (Mm c H) T:=St.fo d [d] (fun ρ h=>h _ (List.mem_cons_self ..)) k
end
section
variable {P:Program}{ops:Array Oper}{Q:Exit→Act→World→Prop}{n:Nat}{F:Fr}{c:Ctx}{H Fp r r' C':List bQ}{f:Nat}{listed:Array Bool}{d:Nat}{op:Op}{ty:TypeId}{pos:String}{after:Array Edge}{v:Value}
theorem SW.dd (i:Nat)(hi:ops[i]?=some {dst:=some d,op:=op,type:=ty,pos:=pos,after:=after,guard:=none})(lh:∀R,Ev P n F (Mm c (Fp++R)) op ty v)(h:SW P ops Q n ((d,v)::F) c Fp r f (listed.setIfInBounds i true))
 (hQ:NP Q:=by assumption) (hs:Region.noSelect ops=true:=by assumption) (hr:((Region.ready .any ops listed).contains i&&Region.free .any ops listed i)=true:=by kernel_rfl) (hd:Nat.ble (d+1) n=true:=by rfl):SW P ops Q n F c Fp r (f+1) listed:=SW.defer i hQ hs hi lh hr hd h
end
end Go.J
namespace Go.Proofs
theorem R6:type_of% @Tryz.underlying0:=Tryz.underlying0
theorem bP:type_of% @Tryz.underlying3:=Tryz.underlying3
theorem uP:type_of% @Tryz.underlying4:=Tryz.underlying4
theorem CS:type_of% @Tryz.underlying5:=Tryz.underlying5
theorem eG:type_of% @Tryz.underlying9:=Tryz.underlying9
theorem eT:type_of% @Tryz.underlying22:=Tryz.underlying22
theorem ib:type_of% @Tryz.underlying23:=Tryz.underlying23
theorem mz:type_of% @Tryz.underlying25:=Tryz.underlying25
theorem ic:type_of% @Tryz.underlying26:=Tryz.underlying26
theorem ig:type_of% @Tryz.underlying27:=Tryz.underlying27
theorem eM:type_of% @Tryz.underlying28:=Tryz.underlying28
theorem oW:type_of% @Tryz.underlying30:=Tryz.underlying30
theorem qR:type_of% @Tryz.underlying32:=Tryz.underlying32
theorem iJ:type_of% @Tryz.underlying33:=Tryz.underlying33
theorem jI:type_of% @Tryz.underlying34:=Tryz.underlying34
theorem xE:type_of% @Tryz.underlying36:=Tryz.underlying36
theorem jJ:type_of% @Tryz.underlying37:=Tryz.underlying37
theorem l8:type_of% @Tryz.underlying39:=Tryz.underlying39
theorem gF:type_of% @Tryz.underlying42:=Tryz.underlying42
theorem dB:type_of% @Tryz.underlying44:=Tryz.underlying44
theorem xF:type_of% @Tryz.underlying51:=Tryz.underlying51
theorem Fk:type_of% @Tryz.underlying56:=Tryz.underlying56
theorem bE:type_of% @Tryz.underlying57:=Tryz.underlying57
theorem yb:type_of% @Tryz.underlying75:=Tryz.underlying75
theorem gn:type_of% @Tryz.underlying78:=Tryz.underlying78
theorem dG:type_of% @Tryz.underlying86:=Tryz.underlying86
theorem bX:type_of% @Tryz.underlying88:=Tryz.underlying88
theorem eo:type_of% @Tryz.underlying89:=Tryz.underlying89
theorem fH:type_of% @Tryz.underlying91:=Tryz.underlying91
theorem Fl:type_of% @Tryz.underlying93:=Tryz.underlying93
theorem Jr:type_of% @Tryz.underlying96:=Tryz.underlying96
theorem lU:type_of% @Tryz.underlying103:=Tryz.underlying103
theorem yc:type_of% @Tryz.underlying116:=Tryz.underlying116
theorem eU:type_of% @Tryz.underlying127:=Tryz.underlying127
theorem oA:type_of% @Tryz.underlying129:=Tryz.underlying129
theorem e6:type_of% @Tryz.underlying141:=Tryz.underlying141
theorem vN:type_of% @Tryz.underlying143:=Tryz.underlying143
theorem pK:type_of% @Tryz.underlying145:=Tryz.underlying145
theorem yd:type_of% @Tryz.underlying165:=Tryz.underlying165
theorem ye:type_of% @Tryz.underlying171:=Tryz.underlying171
theorem mO:type_of% @Tryz.underlying175:=Tryz.underlying175
theorem vO:type_of% @Tryz.underlying178:=Tryz.underlying178
theorem fb:type_of% @Tryz.underlying179:=Tryz.underlying179
theorem su:type_of% @Tryz.underlying190:=Tryz.underlying190
theorem r5:type_of% @Tryz.underlying198:=Tryz.underlying198
theorem r6:type_of% @Tryz.underlying215:=Tryz.underlying215
theorem jy:type_of% @Tryz.underlying216:=Tryz.underlying216
end Go.Proofs
namespace Go.Proofs.YtolmidffiegkaaaGreatDoor
open Go Go.J
theorem mixed:Tryz.prog.follows .mixedOrders=true:=by kernel_rfl
theorem iA:(Tryz.prog.info? 88).bind (fun i=>i.zero.map Value.cells)=some #[.string ⟨#[]⟩,.slice none 0 0]:=by kernel_rfl
theorem Ny (w:World):ck Tryz.prog 88 w= .ok #[(0,1),(1,1)] w:=by kernel_rfl
theorem bD:(Tryz.prog.info? 88).map (·.size)=some 2:=by kernel_rfl
theorem Df:(Tryz.prog.info? 88).bind (·.zero)=some (Value.agg #[.string ⟨#[]⟩,.slice none 0 0]):=by kernel_rfl
theorem rb:(Tryz.prog.info? 91).bind (fun i=>i.zero.map Value.cells)=some #[.int .i64 0,.string ⟨#[]⟩,.int .i64 0,.string ⟨#[]⟩,.slice none 0 0,.slice none 0 0]:=by kernel_rfl
theorem Js (w:World):ck Tryz.prog 91 w= .ok #[(0,1),(1,1),(2,1),(3,2),(5,1)] w:=by kernel_rfl
theorem cy:(Tryz.prog.info? 91).map (·.size)=some 6:=by kernel_rfl
theorem Nz:(Tryz.prog.info? 91).bind (·.zero)=some (Value.agg #[.int .i64 0,.string ⟨#[]⟩,.int .i64 0,.string ⟨#[]⟩,.slice none 0 0,.slice none 0 0]):=by kernel_rfl
theorem Dg:aW Tryz.prog 50:=⟨_,Tryz.func50,rfl,by kernel_rfl⟩
theorem n1:aW Tryz.prog 51:=⟨_,Tryz.func51,rfl,by kernel_rfl⟩
theorem l9:aW Tryz.prog 57:=⟨_,Tryz.func57,rfl,by kernel_rfl⟩
theorem jz:aW Tryz.prog 60:=⟨_,Tryz.func60,rfl,by kernel_rfl⟩
theorem m6:aW Tryz.prog 59:=⟨_,Tryz.func59,rfl,by kernel_rfl⟩
theorem k5:aW Tryz.prog 58:=⟨_,Tryz.func58,rfl,by kernel_rfl⟩
theorem R7:(Tryz.prog.info? 30).bind (fun i=>i.zero.map Value.cells)=some #[.slice none 0 0]:=by kernel_rfl
theorem e7:(Tryz.prog.info? 57).map (·.size)=some 1:=by kernel_rfl
theorem cr:(Tryz.prog.info? 3).map (·.size)=some 1:=by kernel_rfl
theorem R8 (w:World):ck Tryz.prog 143 w= .ok #[(0,1),(1,1)] w:=by kernel_rfl
theorem sx:(Tryz.prog.info? 143).bind (fun i=>i.zero.map Value.cells)=some #[.int .i64 0,.slice none 0 0]:=by kernel_rfl
theorem fS:(Tryz.prog.info? 143).map (·.size)=some 2:=by kernel_rfl
theorem gG:aq Tryz.prog 143 1=some 1:=by kernel_rfl
theorem R9 (w:World):ck Tryz.prog 145 w= .ok #[(0,1),(1,1)] w:=by kernel_rfl
theorem r7:(Tryz.prog.info? 145).bind (fun i=>i.zero.map Value.cells)=some #[.int .i64 0,.int .i64 0]:=by kernel_rfl
theorem eV:(Tryz.prog.info? 145).map (·.size)=some 2:=by kernel_rfl
theorem CT:(Tryz.prog.info? 145).bind (·.zero)=some (Value.agg #[.int .i64 0,.int .i64 0]):=by kernel_rfl
theorem MC:(Tryz.prog.info? 145).map (·.bytes)=some 16:=by kernel_rfl
theorem MD:(Tryz.prog.info? 141).map (·.size)=some 1:=by kernel_rfl
theorem eX:aq Tryz.prog 30 0=some 0:=by kernel_rfl
theorem ME:(Tryz.prog.info? 143).bind (·.zero)=some (Value.agg #[.int .i64 0,.slice none 0 0]):=by kernel_rfl
theorem RA:(Tryz.prog.info? 143).map (·.bytes)=some 32:=by kernel_rfl
theorem XZ:(Tryz.prog.info? 28).map (·.size)=some 1:=by kernel_rfl
theorem n5:(Tryz.prog.info? 30).map (·.size)=some 1:=by kernel_rfl
theorem O0:(Tryz.prog.info? 25).bind (fun i=>i.zero.map Value.cells)=some #[.slice none 0 0,.slice none 0 0]:=by kernel_rfl
theorem Dh:(Tryz.prog.info? 9).map (·.size)=some 1:=by kernel_rfl
theorem RB (w:World):ck Tryz.prog 165 w= .ok #[(0,1),(1,1)] w:=by kernel_rfl
theorem vP:(Tryz.prog.info? 165).bind (fun i=>i.zero.map Value.cells)=some #[.string ⟨#[]⟩,.slice none 0 0]:=by kernel_rfl
theorem iV:(Tryz.prog.info? 165).map (·.size)=some 2:=by kernel_rfl
theorem eE:(Tryz.prog.info? 3).bind (·.zero)=some (Value.int .i64 0):=by kernel_rfl
theorem kU:aq Tryz.prog 165 1=some 1:=by kernel_rfl
theorem fX:aq Tryz.prog 25 0=some 0:=by kernel_rfl
theorem MF:(Tryz.prog.info? 165).bind (·.zero)=some (Value.agg #[.string ⟨#[]⟩,.slice none 0 0]):=by kernel_rfl
theorem RC:(Tryz.prog.info? 165).map (·.bytes)=some 40:=by kernel_rfl
theorem Xa:(Tryz.prog.info? 22).map (·.size)=some 1:=by kernel_rfl
theorem jK:aq Tryz.prog 25 1=some 1:=by kernel_rfl
theorem Xb:(Tryz.prog.info? 23).map (·.size)=some 1:=by kernel_rfl
theorem lV:(Tryz.prog.info? 25).map (·.size)=some 2:=by kernel_rfl
theorem jL:aq Tryz.prog 32 2=some 3:=by kernel_rfl
theorem xG:aW Tryz.prog 54:=⟨_,Tryz.func54,rfl,by kernel_rfl⟩
theorem Xc (w:World):ck Tryz.prog 96 w= .ok #[(0,1),(1,1),(2,1),(3,6)] w:=by kernel_rfl
theorem O1:(Tryz.prog.info? 96).bind (fun i=>i.zero.map Value.cells)=some #[.string ⟨#[]⟩,.slice none 0 0,.int .i64 0,.int .i64 0,.string ⟨#[]⟩,.int .i64 0,.string ⟨#[]⟩,.slice none 0 0,.slice none 0 0]:=by kernel_rfl
theorem o4:(Tryz.prog.info? 96).map (·.size)=some 9:=by kernel_rfl
theorem Di:(Tryz.prog.info? 96).bind (·.zero)=some (Value.agg #[.string ⟨#[]⟩,.slice none 0 0,.int .i64 0,.int .i64 0,.string ⟨#[]⟩,.int .i64 0,.string ⟨#[]⟩,.slice none 0 0,.slice none 0 0]):=by kernel_rfl
theorem O2:(Tryz.prog.info? 96).map (·.bytes)=some 144:=by kernel_rfl
theorem O3:(Tryz.prog.info? 27).map (·.size)=some 1:=by kernel_rfl
theorem RD:(Tryz.prog.info? 32).bind (fun i=>i.zero.map Value.cells)=some #[.slice none 0 0,.slice none 0 0,.slice none 0 0,.slice none 0 0,.slice none 0 0]:=by kernel_rfl
theorem Px:(Tryz.prog.info? 9).bind (·.zero)=some (Value.string ⟨#[]⟩):=by kernel_rfl
theorem RE (w:World):ck Tryz.prog 116 w= .ok #[(0,1),(1,1),(2,1)] w:=by kernel_rfl
theorem vQ:(Tryz.prog.info? 116).bind (fun i=>i.zero.map Value.cells)=some #[.string ⟨#[]⟩,.int .i64 0,.int .i64 0]:=by kernel_rfl
theorem j8:(Tryz.prog.info? 116).map (·.size)=some 3:=by kernel_rfl
theorem RF:(Tryz.prog.info? 116).bind (·.zero)=some (Value.agg #[.string ⟨#[]⟩,.int .i64 0,.int .i64 0]):=by kernel_rfl
theorem Xd:aW Tryz.prog 52:=⟨_,Tryz.func52,rfl,by kernel_rfl⟩
theorem oX:aq Tryz.prog 32 0=some 0:=by kernel_rfl
theorem Xe:aW Tryz.prog 53:=⟨_,Tryz.func53,rfl,by kernel_rfl⟩
theorem fh:(Tryz.prog.info? 57).bind (·.zero)=some (Value.slice none 0 0):=by kernel_rfl
theorem RG (w:World):ck Tryz.prog 93 w= .ok #[(0,1),(1,1),(2,1),(3,1),(4,6)] w:=by kernel_rfl
theorem Fm:(Tryz.prog.info? 93).bind (fun i=>i.zero.map Value.cells)=some #[.string ⟨#[]⟩,.slice none 0 0,.int .i64 0,.int .i64 0,.int .i64 0,.string ⟨#[]⟩,.int .i64 0,.string ⟨#[]⟩,.slice none 0 0,.slice none 0 0]:=by kernel_rfl
theorem n7:(Tryz.prog.info? 93).map (·.size)=some 10:=by kernel_rfl
theorem Xf:(Tryz.prog.info? 93).bind (·.zero)=some (Value.agg #[.string ⟨#[]⟩,.slice none 0 0,.int .i64 0,.int .i64 0,.int .i64 0,.string ⟨#[]⟩,.int .i64 0,.string ⟨#[]⟩,.slice none 0 0,.slice none 0 0]):=by kernel_rfl
theorem jM:aq Tryz.prog 32 1=some 2:=by kernel_rfl
theorem Xg:(Tryz.prog.info? 26).map (·.size)=some 1:=by kernel_rfl
theorem O4:aW Tryz.prog 56:=⟨_,Tryz.func56,rfl,by kernel_rfl⟩
theorem lA:aW Tryz.prog 55:=⟨_,Tryz.func55,rfl,by kernel_rfl⟩
theorem Aq:aq Tryz.prog 32 3=some 4:=by kernel_rfl
theorem pL:(Tryz.prog.info? 32).map (·.size)=some 5:=by kernel_rfl
theorem dC:(Tryz.prog.info? 42).bind (fun i=>i.zero.map Value.cells)=some #[.int .i64 0,.int .i64 0]:=by kernel_rfl
theorem O5 (w:World):ck Tryz.prog 42 w= .ok #[(0,1),(1,1)] w:=by kernel_rfl
theorem bC:(Tryz.prog.info? 42).map (·.size)=some 2:=by kernel_rfl
theorem ij:aq Tryz.prog 88 0=some 0:=by kernel_rfl
theorem eY:aq Tryz.prog 88 1=some 1:=by kernel_rfl
theorem MG:aW Tryz.prog 138:=⟨_,Tryz.func138,rfl,by kernel_rfl⟩
theorem MH:(Tryz.prog.info? 3).bind (fun i=>i.zero.map Value.cells)=some #[.int .i64 0]:=by kernel_rfl
theorem RH:(Tryz.prog.info? 211).bind (fun i=>i.zero.map Value.cells)=some #[.nilFunc]:=by kernel_rfl
theorem RI:(Tryz.prog.info? 211).map (·.size)=some 1:=by kernel_rfl
theorem MI:aW Tryz.prog 139:=⟨_,Tryz.func139,rfl,by kernel_rfl⟩
theorem oB:aW Tryz.prog 118:=⟨_,Tryz.func118,rfl,by kernel_rfl⟩
theorem gp:aq Tryz.prog 91 0=some 0:=by kernel_rfl
theorem lB:aq Tryz.prog 91 2=some 2:=by kernel_rfl
theorem gC:aq Tryz.prog 91 4=some 5:=by kernel_rfl
theorem oY:aq Tryz.prog 91 1=some 1:=by kernel_rfl
theorem Dj:aW Tryz.prog 25:=⟨_,Tryz.func25,rfl,by kernel_rfl⟩
theorem lC:aq Tryz.prog 91 3=some 3:=by kernel_rfl
theorem MJ:aW Tryz.prog 119:=⟨_,Tryz.func119,rfl,by kernel_rfl⟩
theorem ML:aW Tryz.prog 120:=⟨_,Tryz.func120,rfl,by kernel_rfl⟩
theorem r8:aW Tryz.prog 117:=⟨_,Tryz.func117,rfl,by kernel_rfl⟩
theorem cb:aq Tryz.prog 42 0=some 0:=by kernel_rfl
theorem RJ:(Tryz.prog.info? 88).map (·.bytes)=some 40:=by kernel_rfl
theorem CU:aW Tryz.prog 121:=⟨_,Tryz.func121,rfl,by kernel_rfl⟩
theorem RL:(Tryz.prog.info? 190).bind (fun i=>i.zero.map Value.cells)=some #[.nilFunc]:=by kernel_rfl
theorem RM:(Tryz.prog.info? 190).map (·.size)=some 1:=by kernel_rfl
theorem sy:aW Tryz.prog 92:=⟨_,Tryz.func92,rfl,by kernel_rfl⟩
theorem nV:aq Tryz.prog 165 0=some 0:=by kernel_rfl
theorem pM:(Tryz.prog.info? 129).bind (fun i=>i.zero.map Value.cells)=some #[.slice none 0 0,.slice none 0 0]:=by kernel_rfl
theorem fJ:(Tryz.prog.info? 175).map (·.size)=some 1:=by kernel_rfl
theorem oC:(Tryz.prog.info? 175).bind (·.zero)=some (Value.int .u64 0):=by kernel_rfl
theorem oD:(Tryz.prog.info? 175).map (·.bytes)=some 8:=by kernel_rfl
theorem RN (w:World):ck Tryz.prog 129 w= .ok #[(0,1),(1,1)] w:=by kernel_rfl
theorem iB:(Tryz.prog.info? 129).map (·.size)=some 2:=by kernel_rfl
theorem pN:aq Tryz.prog 129 0=some 0:=by kernel_rfl
theorem s6:aq Tryz.prog 129 1=some 1:=by kernel_rfl
theorem RO:aW Tryz.prog 115:=⟨_,Tryz.func115,rfl,by kernel_rfl⟩
theorem Xh:aW Tryz.prog 93:=⟨_,Tryz.func93,rfl,by kernel_rfl⟩
theorem RP:aW Tryz.prog 66:=⟨_,Tryz.func66,rfl,by kernel_rfl⟩
theorem Xi:aW Tryz.prog 94:=⟨_,Tryz.func94,rfl,by kernel_rfl⟩
theorem nW:aq Tryz.prog 116 0=some 0:=by kernel_rfl
theorem nX:aq Tryz.prog 116 1=some 1:=by kernel_rfl
theorem nY:aq Tryz.prog 116 2=some 2:=by kernel_rfl
theorem Dk:aW Tryz.prog 99:=⟨_,Tryz.func99,rfl,by kernel_rfl⟩
theorem kV:aq Tryz.prog 143 0=some 0:=by kernel_rfl
theorem gZ:aq Tryz.prog 145 0=some 0:=by kernel_rfl
theorem ga:aq Tryz.prog 145 1=some 1:=by kernel_rfl
theorem q9:(Tryz.prog.info? 4).map (·.size)=some 1:=by kernel_rfl
theorem Vq:(Tryz.prog.info? 4).bind (·.zero)=some (Value.bool false):=by kernel_rfl
theorem Vr:(Tryz.prog.info? 4).map (·.bytes)=some 1:=by kernel_rfl
theorem Ix:(Tryz.prog.info? 3).map (·.bytes)=some 8:=by kernel_rfl
theorem MM:aW Tryz.prog 103:=⟨_,Tryz.func103,rfl,by kernel_rfl⟩
theorem Xj:aW Tryz.prog 97:=⟨_,Tryz.func97,rfl,by kernel_rfl⟩
theorem RQ:aW Tryz.prog 98:=⟨_,Tryz.func98,rfl,by kernel_rfl⟩
theorem RR:aW Tryz.prog 100:=⟨_,Tryz.func100,rfl,by kernel_rfl⟩
theorem MN:aW Tryz.prog 146:=⟨_,Tryz.func146,rfl,by kernel_rfl⟩
theorem RS:aW Tryz.prog 137:=⟨_,Tryz.func137,rfl,by kernel_rfl⟩
theorem MO:aW Tryz.prog 136:=⟨_,Tryz.func136,rfl,by kernel_rfl⟩
theorem RT:aW Tryz.prog 135:=⟨_,Tryz.func135,rfl,by kernel_rfl⟩
theorem RU:aW Tryz.prog 116:=⟨_,Tryz.func116,rfl,by kernel_rfl⟩
theorem Jt {u0:Value}(h0:u0.oneCell'=true)(w:World):(Instr.build 88 #[(0,u0)]).run Tryz.prog w= .ok (.agg #[u0,.slice none 0 0]) w:=
 bZ iA (Ny w) (by simp[Instr.fill,J.bp,J.aG h0])
theorem yf {u0 u1 yg yh:Value}(h0:u0.oneCell'=true)(h1:u1.oneCell'=true)(w:World):(Instr.build 91 #[(0,u0),(1,u1),(3,.agg #[yg,yh])]).run Tryz.prog w= .ok (.agg #[u0,u1,.int .i64 0,yg,yh,.slice none 0 0]) w:=
 bZ rb (Js w) (by simp[Instr.fill,J.bp,J.aG h0,J.aG h1])
theorem Dl {u0 u2:Value}(h0:u0.oneCell'=true)(h2:u2.oneCell'=true)(w:World):(Instr.build 91 #[(0,u0),(2,u2)]).run Tryz.prog w= .ok (.agg #[u0,.string ⟨#[]⟩,u2,.string ⟨#[]⟩,.slice none 0 0,.slice none 0 0]) w:=
 bZ rb (Js w) (by simp[Instr.fill,J.bp,J.aG h0,J.aG h2])
theorem yi {u0 yg yh u4:Value}(h0:u0.oneCell'=true)(h4:u4.oneCell'=true)(w:World):(Instr.build 91 #[(0,u0),(3,.agg #[yg,yh]),(4,u4)]).run Tryz.prog w= .ok (.agg #[u0,.string ⟨#[]⟩,.int .i64 0,yg,yh,u4]) w:=
 bZ rb (Js w) (by simp[Instr.fill,J.bp,J.aG h0,J.aG h4])
theorem Dm {u0 u4:Value}(h0:u0.oneCell'=true)(h4:u4.oneCell'=true)(w:World):(Instr.build 91 #[(0,u0),(4,u4)]).run Tryz.prog w= .ok (.agg #[u0,.string ⟨#[]⟩,.int .i64 0,.string ⟨#[]⟩,.slice none 0 0,u4]) w:=
 bZ rb (Js w) (by simp[Instr.fill,J.bp,J.aG h0,J.aG h4])
theorem Fo {u0:Value}(h0:u0.oneCell'=true)(w:World):(Instr.build 143 #[(0,u0)]).run Tryz.prog w= .ok (.agg #[u0,.slice none 0 0]) w:=
 bZ sx (R8 w) (by simp[Instr.fill,J.bp,J.aG h0])
theorem Ar {u0 u1:Value}(h0:u0.oneCell'=true)(h1:u1.oneCell'=true)(w:World):(Instr.build 145 #[(0,u0),(1,u1)]).run Tryz.prog w= .ok (.agg #[u0,u1]) w:=
 bZ r7 (R9 w) (by simp[Instr.fill,J.bp,J.aG h0,J.aG h1])
theorem Fq {u0:Value}(h0:u0.oneCell'=true)(w:World):(Instr.build 165 #[(0,u0)]).run Tryz.prog w= .ok (.agg #[u0,.slice none 0 0]) w:=
 bZ vP (RB w) (by simp[Instr.fill,J.bp,J.aG h0])
theorem oE {u0 u2 yg yh RX RY RZ Ra yj:Value}(h0:u0.oneCell'=true)(h2:u2.oneCell'=true)(w:World):(Instr.build 96 #[(0,u0),(2,u2),(3,.agg #[yg,yh,RX,RY,RZ,Ra]),(1,.agg #[yj])]).run Tryz.prog w= .ok (.agg #[u0,yj,u2,yg,yh,RX,RY,RZ,Ra]) w:=
 bZ O1 (Xc w) (by simp[Instr.fill,J.bp,J.aG h0,J.aG h2])
theorem iC {u0 u1 u2:Value}(h0:u0.oneCell'=true)(h1:u1.oneCell'=true)(h2:u2.oneCell'=true)(w:World):(Instr.build 116 #[(0,u0),(1,u1),(2,u2)]).run Tryz.prog w= .ok (.agg #[u0,u1,u2]) w:=
 bZ vQ (RE w) (by simp[Instr.fill,J.bp,J.aG h0,J.aG h1,J.aG h2])
theorem oG {u0 u2 Fu Fv Fw Fx Fy Fz yj:Value}(h0:u0.oneCell'=true)(h2:u2.oneCell'=true)(w:World):(Instr.build 93 #[(0,u0),(2,u2),(4,.agg #[Fu,Fv,Fw,Fx,Fy,Fz]),(1,.agg #[yj])]).run Tryz.prog w= .ok (.agg #[u0,yj,u2,.int .i64 0,Fu,Fv,Fw,Fx,Fy,Fz]) w:=
 bZ Fm (RG w) (by simp[Instr.fill,J.bp,J.aG h0,J.aG h2])
theorem gb {u0 u2 u3 Fu Fv Fw Fx Fy Fz yj:Value}(h0:u0.oneCell'=true)(h2:u2.oneCell'=true)(h3:u3.oneCell'=true)(w:World):(Instr.build 93 #[(0,u0),(2,u2),(3,u3),(4,.agg #[Fu,Fv,Fw,Fx,Fy,Fz]),(1,.agg #[yj])]).run Tryz.prog w= .ok (.agg #[u0,yj,u2,u3,Fu,Fv,Fw,Fx,Fy,Fz]) w:=
 bZ Fm (RG w) (by simp[Instr.fill,J.bp,J.aG h0,J.aG h2,J.aG h3])
theorem ik {u0 u1:Value}(h0:u0.oneCell'=true)(h1:u1.oneCell'=true)(w:World):(Instr.build 129 #[(0,u0),(1,u1)]).run Tryz.prog w= .ok (.agg #[u0,u1]) w:=
 bZ pM (RN w) (by simp[Instr.fill,J.bp,J.aG h0,J.aG h1])
theorem xH {u1:Value}(h1:u1.oneCell'=true)(w:World):(Instr.build 88 #[(1,u1)]).run Tryz.prog w= .ok (.agg #[.string ⟨#[]⟩,u1]) w:=
 bZ iA (Ny w) (by simp[Instr.fill,J.bp,J.aG h1])
theorem qS (w:World):(Instr.build 88 #[]).run Tryz.prog w= .ok (.agg #[.string ⟨#[]⟩,.slice none 0 0]) w:=
 bZ iA (Ny w) (by simp[Instr.fill,J.bp])
theorem bO {u0 u1:Value}(h0:u0.oneCell'=true)(h1:u1.oneCell'=true)(w:World):(Instr.build 42 #[(0,u0),(1,u1)]).run Tryz.prog w= .ok (.agg #[u0,u1]) w:=
 bZ dC (O5 w) (by simp[Instr.fill,J.bp,J.aG h0,J.aG h1])
theorem fB (w:World):(Instr.build 42 #[]).run Tryz.prog w= .ok (.agg #[.int .i64 0,.int .i64 0]) w:=
 bZ dC (O5 w) (by simp[Instr.fill,J.bp])
theorem Ju {u0:Value}(h0:u0.oneCell'=true)(w:World):(Instr.build 42 #[(0,u0)]).run Tryz.prog w= .ok (.agg #[u0,.int .i64 0]) w:=
 bZ dC (O5 w) (by simp[Instr.fill,J.bp,J.aG h0])
theorem iy (b:cV)(v:cm)(l:List cT):bI (.mk b v l)= .mk b (l.map bI):=by rw[bI,qN]
theorem lW (k:Int)(s:cV)(i:Int)(t:cT)(v:cm)(l:List cD):ax (.mk k s i t v l)= .mk k s i (bI t) (l.map ax):=by rw[ax,oU]
abbrev S0:dU:= .mk [] []
abbrev gN:cT:= .mk [] fQ []
theorem tA {α:Type}{p:α→Prop}{x y:α}(hx:p x)(hy:p y):∀z∈[x,y],p z:=fun z hz=>by
 simp only[List.mem_cons,List.not_mem_nil,or_false]at hz
 rcases hz with rfl|rfl
 ·exact hx
 ·exact hy
theorem G0 {α:Type}{p:α→Prop}{x:α}(hx:p x):∀z∈[x],p z:=fun z hz=>by rw[List.mem_singleton.1 hz];exact hx
theorem Rb:bF 1:=by unfold bF;decide
theorem Rc:bF 2:=by unfold bF;decide
theorem Rd:bF 3:=by unfold bF;decide
theorem Re:bF 4:=by unfold bF;decide
theorem G1:bF 0:=by unfold bF;decide
theorem jk (s:cV)(hs:hP s):fC Tryz.prog 50 #[sv s] ([].map aF) (fun v H'=>H'=[aF (aw (.mk s []) v)]):=by
 refine fC.body (args:=[sv s]) 5 Tryz.func50 rfl Tryz.ntmps50 rfl (fun c=> ?_);refine St.cast (H':=[]) rfl ?_;refine St.sr ?_;refine St.alloc iA rfl (fun b2=> ?_);refine St.nn (St.sr ?_);refine St.mv ?_;refine St.ee (Ev.build (ps:=[(0,(.tmp 3))]) (aV.cons (aL.mk rfl) aV.nil) (fun w=>Jt rfl w)) ?_;refine St.sA (.mk rfl) (.mk rfl) bD ?_;refine St.nn (St.ab ?_);refine St.hJ gT ?_;refine St.dX bW ?_;refine St.mM s (.slice none 0 0) rfl [] ?_;refine St.ya (.mk s fQ []) (s:= .mk s []) (aP (.mk s fQ [])) rfl (iy _ _ _) hs ?_;refine St.rT [_] [aF (aw (.mk s []) (aP (.mk s fQ [])))] Tryz.results50 ⟨⟨_,_,_,_,rfl,jm.mem,.inl ⟨⟨_,bX⟩,bD,rfl⟩⟩,trivial⟩ ?_;rfl
theorem e8 (u1 u2:Value)(s1 s2:dU):fC Tryz.prog 51 #[u1,u2] ([aw s1 u1,aw s2 u2].map aF) (fun v H'=>H'=[aF (aw (.mk [] [s1,s2]) v)]):=by
 refine fC.body (args:=[u1,u2]) 9 Tryz.func51 rfl Tryz.ntmps51 rfl (fun c=> ?_);refine St.cast (H':=[aF (aw s1 u1),aF (aw s2 u2)]) rfl ?_;refine St.seq ?_;refine St.aw s1 u1 (fun x hx=> ?_);obtain⟨rfl,rfl,lX⟩:=hx;refine St.aw s2 u2 (fun y hy=> ?_);obtain⟨rfl,rfl,Jv⟩:=hy;refine St.rg ?_;refine St.cX (.mk rfl) rfl (fun b2=> ?_);refine St.cX (.mk rfl) rfl (fun b3=> ?_);refine St.alloc iA rfl (fun b4=> ?_);refine St.nn (St.sr ?_);refine St.ee (Ev.bH (.mk rfl) bX trivial (by exact bD)) ?_;refine St.ee (Ev.bH (.mk rfl) bX trivial (by exact bD)) ?_;refine St.cn rfl (.cons (.mk rfl) (.cons (.mk rfl) .nil)) dG bD Df rfl rfl (by simp[Value.cells]) rfl rfl (fun b7=> ?_);refine St.aU (.slice (some ⟨b7,0,none⟩) 2 2) gT [x,y] rfl rfl (tA lX Jv) ?_;refine St.dX bW ?_;refine St.ei bW (xs:=[]) (x:=y) ?_;refine St.ei bW (xs:=[y]) (x:=x) ?_;refine St.mM [] (.slice (some ⟨b7,0,none⟩) 2 2) rfl [x,y] ?_;refine St.ee (Ev.build (ps:=[(1,(.tmp 7))]) (aV.cons (aL.mk rfl) aV.nil) (fun w=>xH rfl w)) ?_;refine St.sA (.mk rfl) (.mk rfl) bD ?_;refine St.nn (St.ab ?_);refine St.ya (.mk [] ⟨(.slice (some ⟨b7,0,none⟩) 2 2),rfl⟩ [x,y]) (s:= .mk [] [bI x,bI y]) (aP (.mk [] ⟨(.slice (some ⟨b7,0,none⟩) 2 2),rfl⟩ [x,y])) rfl (iy _ _ _) (Nat.zero_le _) ?_;refine St.rT [_] [aF (aw (.mk [] [bI x,bI y]) (aP (.mk [] ⟨(.slice (some ⟨b7,0,none⟩) 2 2),rfl⟩ [x,y])))] Tryz.results51 ⟨⟨_,_,_,_,rfl,jm.mem,.inl ⟨⟨_,bX⟩,bD,rfl⟩⟩,trivial⟩ ?_;rfl
theorem dD (name:cV)(hn:hP name)(u:Value)(s:dU):fC Tryz.prog 57 #[sv name,u] ([aw s u].map aF) (fun v H'=>H'=[aF (isTerm (.mk 1 name 0 s []) v)]):=by
 refine fC.body (args:=[sv name,u]) 8 Tryz.func57 rfl Tryz.ntmps57 rfl (fun c=> ?_);refine St.cast (H':=[aF (aw s u)]) rfl ?_;refine St.seq ?_;refine St.aw s u (fun x hx=> ?_);obtain⟨rfl,rfl,lX⟩:=hx;refine St.rg ?_;refine St.cX (.mk rfl) rfl (fun b3=> ?_);refine St.alloc rb rfl (fun b4=> ?_);refine St.nn (St.sr ?_);refine St.mv ?_;refine St.ee (Ev.bH (.mk rfl) bX trivial (by exact bD)) ?_;refine St.ee (Ev.build (ps:=[(0,(.const (.int .i64 1))),(1,(.tmp 5)),(3,(.tmp 6))]) (aV.cons (aL.mk rfl) (aV.cons (aL.mk rfl) (aV.cons (aL.mk rfl) aV.nil))) (fun w=>yf rfl rfl w)) ?_;refine St.sA (.mk rfl) (.mk rfl) cy ?_ (h1:=(by simp only[List.all_cons,List.all_nil,Bool.and_true,Bool.and_eq_true];exact⟨rfl,rfl,rfl,rfl,x.av.2,rfl⟩));refine St.nn (St.ab ?_);refine St.hJ cE ?_;refine St.dX bN ?_;refine St.wu 1 name 0 x (.slice none 0 0) rfl [] ?_;refine St.toTerm (.mk 1 name 0 x fQ []) (s:= .mk 1 name 0 (bI x) []) (bc (.mk 1 name 0 x fQ [])) rfl (lW _ _ _ _ _ _) ⟨Rb,hn,G1,lX⟩ ?_;refine St.rT [_] [aF (isTerm (.mk 1 name 0 (bI x) []) (bc (.mk 1 name 0 x fQ [])))] Tryz.results57 ⟨⟨_,_,_,_,rfl,jm.mem,.inl ⟨⟨_,fH⟩,cy,rfl⟩⟩,trivial⟩ ?_;rfl
theorem cP (i:Int)(hi:bF i):fC Tryz.prog 60 #[iv i] ([].map aF) (fun v H'=>H'=[aF (isTerm (.mk 2 [] i S0 []) v)]):=by
 refine fC.body (args:=[iv i]) 5 Tryz.func60 rfl Tryz.ntmps60 rfl (fun c=> ?_);refine St.cast (H':=[]) rfl ?_;refine St.sr ?_;refine St.alloc rb rfl (fun b2=> ?_);refine St.nn (St.sr ?_);refine St.mv ?_;refine St.ee (Ev.build (ps:=[(0,(.const (.int .i64 2))),(2,(.tmp 3))]) (aV.cons (aL.mk rfl) (aV.cons (aL.mk rfl) aV.nil)) (fun w=>Dl rfl rfl w)) ?_;refine St.sA (.mk rfl) (.mk rfl) cy ?_;refine St.nn (St.ab ?_);refine St.hJ gT ?_;refine St.dX bW ?_;refine St.mM [] (.slice none 0 0) rfl [] ?_;refine St.hJ cE ?_;refine St.dX bN ?_;refine St.wu 2 [] i gN (.slice none 0 0) rfl [] ?_;refine St.toTerm (.mk 2 [] i gN fQ []) (s:= .mk 2 [] i S0 []) (bc (.mk 2 [] i gN fQ [])) rfl (by rw[lW,iy];rfl) ⟨Rc,Nat.zero_le _,hi,Nat.zero_le _⟩ ?_;refine St.rT [_] [aF (isTerm (.mk 2 [] i S0 []) (bc (.mk 2 [] i gN fQ [])))] Tryz.results60 ⟨⟨_,_,_,_,rfl,jm.mem,.inl ⟨⟨_,fH⟩,cy,rfl⟩⟩,trivial⟩ ?_;rfl
theorem cu (u1 u2:Value)(s:dU)(t:cx):fC Tryz.prog 58 #[u1,u2] ([aw s u1,isTerm t u2].map aF) (fun v H'=>H'=[aF (isTerm (.mk 3 [] 0 s [t]) v)]):=by
 refine fC.body (args:=[u1,u2]) 9 Tryz.func58 rfl Tryz.ntmps58 rfl (fun c=> ?_);refine St.cast (H':=[aF (aw s u1),aF (isTerm t u2)]) rfl ?_;refine St.seq ?_;refine St.aw s u1 (fun x hx=> ?_);obtain⟨rfl,rfl,lX⟩:=hx;refine St.isTerm t u2 (fun y hy=> ?_);obtain⟨rfl,rfl,Jv⟩:=hy;refine St.rg ?_;refine St.cX (.mk rfl) rfl (fun b2=> ?_);refine St.cX (.mk rfl) rfl (fun b3=> ?_);refine St.alloc rb rfl (fun b4=> ?_);refine St.nn (St.sr ?_);refine St.ee (Ev.bH (.mk rfl) bX trivial (by exact bD)) ?_;refine St.ee (Ev.bH (.mk rfl) fH trivial (by exact cy)) ?_;refine St.cn rfl (.cons (.mk rfl) .nil) eo cy Nz rfl rfl (by simp[Value.cells]) rfl rfl (fun b7=> ?_);refine St.aU (.slice (some ⟨b7,0,none⟩) 1 1) cE [y] rfl rfl (G0 Jv) ?_;refine St.dX bN ?_;refine St.ei bN (xs:=[]) (x:=y) ?_;refine St.wu 3 [] 0 x (.slice (some ⟨b7,0,none⟩) 1 1) rfl [y] ?_;refine St.ee (Ev.build (ps:=[(0,(.const (.int .i64 3))),(3,(.tmp 5)),(4,(.tmp 7))]) (aV.cons (aL.mk rfl) (aV.cons (aL.mk rfl) (aV.cons (aL.mk rfl) aV.nil))) (fun w=>yi rfl rfl w)) ?_;refine St.sA (.mk rfl) (.mk rfl) cy ?_ (h1:=(by simp only[List.all_cons,List.all_nil,Bool.and_true,Bool.and_eq_true];exact⟨rfl,rfl,rfl,rfl,x.av.2,rfl⟩));refine St.nn (St.ab ?_);refine St.toTerm (.mk 3 [] 0 x ⟨(.slice (some ⟨b7,0,none⟩) 1 1),rfl⟩ [y]) (s:= .mk 3 [] 0 (bI x) [ax y]) (bc (.mk 3 [] 0 x ⟨(.slice (some ⟨b7,0,none⟩) 1 1),rfl⟩ [y])) rfl (lW _ _ _ _ _ _) ⟨Rd,Nat.zero_le _,G1,lX⟩ ?_;refine St.rT [_] [aF (isTerm (.mk 3 [] 0 (bI x) [ax y]) (bc (.mk 3 [] 0 x ⟨(.slice (some ⟨b7,0,none⟩) 1 1),rfl⟩ [y])))] Tryz.results58 ⟨⟨_,_,_,_,rfl,jm.mem,.inl ⟨⟨_,fH⟩,cy,rfl⟩⟩,trivial⟩ ?_;rfl
theorem db (u1 u2:Value)(t1 t2:cx):fC Tryz.prog 59 #[u1,u2] ([isTerm t1 u1,isTerm t2 u2].map aF) (fun v H'=>H'=[aF (isTerm (.mk 4 [] 0 S0 [t1,t2]) v)]):=by
 refine fC.body (args:=[u1,u2]) 9 Tryz.func59 rfl Tryz.ntmps59 rfl (fun c=> ?_);refine St.cast (H':=[aF (isTerm t1 u1),aF (isTerm t2 u2)]) rfl ?_;refine St.seq ?_;refine St.isTerm t1 u1 (fun x hx=> ?_);obtain⟨rfl,rfl,lX⟩:=hx;refine St.isTerm t2 u2 (fun y hy=> ?_);obtain⟨rfl,rfl,Jv⟩:=hy;refine St.rg ?_;refine St.cX (.mk rfl) rfl (fun b2=> ?_);refine St.cX (.mk rfl) rfl (fun b3=> ?_);refine St.alloc rb rfl (fun b4=> ?_);refine St.nn (St.sr ?_);refine St.ee (Ev.bH (.mk rfl) fH trivial (by exact cy)) ?_;refine St.ee (Ev.bH (.mk rfl) fH trivial (by exact cy)) ?_;refine St.cn rfl (.cons (.mk rfl) (.cons (.mk rfl) .nil)) eo cy Nz rfl rfl (by simp[Value.cells]) rfl rfl (fun b7=> ?_);refine St.aU (.slice (some ⟨b7,0,none⟩) 2 2) cE [x,y] rfl rfl (tA lX Jv) ?_;refine St.hJ gT ?_;refine St.dX bW ?_;refine St.mM [] (.slice none 0 0) rfl [] ?_;refine St.dX bN ?_;refine St.ei bN (xs:=[]) (x:=y) ?_;refine St.ei bN (xs:=[y]) (x:=x) ?_;refine St.wu 4 [] 0 gN (.slice (some ⟨b7,0,none⟩) 2 2) rfl [x,y] ?_;refine St.ee (Ev.build (ps:=[(0,(.const (.int .i64 4))),(4,(.tmp 7))]) (aV.cons (aL.mk rfl) (aV.cons (aL.mk rfl) aV.nil)) (fun w=>Dm rfl rfl w)) ?_;refine St.sA (.mk rfl) (.mk rfl) cy ?_;refine St.nn (St.ab ?_);refine St.toTerm (.mk 4 [] 0 gN ⟨(.slice (some ⟨b7,0,none⟩) 2 2),rfl⟩ [x,y]) (s:= .mk 4 [] 0 S0 [ax x,ax y]) (bc (.mk 4 [] 0 gN ⟨(.slice (some ⟨b7,0,none⟩) 2 2),rfl⟩ [x,y])) rfl (by rw[lW,iy];rfl) ⟨Re,Nat.zero_le _,G1,Nat.zero_le _⟩ ?_;refine St.rT [_] [aF (isTerm (.mk 4 [] 0 S0 [ax x,ax y]) (bc (.mk 4 [] 0 gN ⟨(.slice (some ⟨b7,0,none⟩) 2 2),rfl⟩ [x,y])))] Tryz.results59 ⟨⟨_,_,_,_,rfl,jm.mem,.inl ⟨⟨_,fH⟩,cy,rfl⟩⟩,trivial⟩ ?_;rfl
mutual
def r9:dU→Nat
 | .mk _ l=>xI l+1
def xI:List dU→Nat
 | []=>0
 |x::l=>r9 x+xI l
end
mutual
def je:cx→Nat
 | .mk _ _ _ _ l=>dQ l+1
def dQ:List cx→Nat
 | []=>0
 |x::l=>je x+dQ l
end
def kW:List (dU×Nat)→Nat→Int
 | [],_=>0
 |x::r,n=>if(fq x.1 x.2 n).2≠0 then(fq x.1 x.2 n).2 else kW r (fq x.1 x.2 n).1
theorem vR (d:Nat)(r:List (dU×Nat)):∀(l:List dU) (n:Nat),kW (l.map (fun y=>(y,d))++r) n=if(gJ l d n).2≠0 then(gJ l d n).2 else kW r (gJ l d n).1
 | [],n=>by simp[gJ]
 |x::l,n=>by
  rw[List.map_cons,List.cons_append,kW,gJ]
  by_cases h:(fq x d n).2≠0
  ·rw[if_pos h,if_pos h,if_pos h]
  ·rw[if_neg h,if_neg h,vR d r l]
theorem Dn (s:dU):kW [(s,1)] 0=jc s:=by
 show(if(fq s 1 0).2≠0 then(fq s 1 0).2 else 0)=(fq s 1 0).2
 split
 ·rfl
 ·rename_i h;exact(Decidable.not_not.1 h).symm
theorem s7 (x:dU)(d n:Nat):fq x d n=if 200<n+1∨40<d then(n+1,1)else if dN x.base x.args.length=false then(n+1,5)else gJ x.args (d+1) (n+1):=by cases x;rw[fq];rfl
theorem oZ (x:dU)(d n:Nat)(r:List (dU×Nat)):kW ((x,d)::r) n=if(fq x d n).2≠0 then(fq x d n).2 else kW r (fq x d n).1:=by rw[kW]
theorem Dp {x:dU}{d n:Nat}{r:List (dU×Nat)}(h:200<n+1∨40<d):kW ((x,d)::r) n=1:=by
 rw[oZ,s7,if_pos h];rfl
theorem vS {x:dU}{d n:Nat}{r:List (dU×Nat)}(h:¬(200<n+1∨40<d))(h2:dN x.base x.args.length=false):kW ((x,d)::r) n=5:=by
 rw[oZ,s7,if_neg h,if_pos h2];rfl
theorem yk {x:dU}{d n:Nat}{r:List (dU×Nat)}(h:¬(200<n+1∨40<d))(h2:dN x.base x.args.length=true):kW ((x,d)::r) n=kW (x.args.map (fun y=>(y,d+1))++r) (n+1):=by
 have e:fq x d n=gJ x.args (d+1) (n+1):=by
  rw[s7,if_neg h,if_neg]
  rw[h2];decide
 rw[oZ,e,vR]
def oa:List (cx×Nat×Nat)→Nat→Int×Int
 | [],_=>(0,0)
 |x::r,n=>if(fU x.1 x.2.1 x.2.2 n).2.1≠0 then(fU x.1 x.2.1 x.2.2 n).2 else oa r (fU x.1 x.2.1 x.2.2 n).1
theorem yl (d b:Nat)(r:List (cx×Nat×Nat)):∀(l:List cx) (n:Nat),oa (l.map (fun y=>(y,d,b))++r) n=if(j5 l d b n).2.1≠0 then(j5 l d b n).2 else oa r (j5 l d b n).1
 | [],n=>by simp[j5]
 |x::l,n=>by
  rw[List.map_cons,List.cons_append,oa,j5]
  by_cases h:(fU x d b n).2.1≠0
  ·rw[if_pos h,if_pos h,if_pos h]
  ·rw[if_neg h,if_neg h,yl d b r l]
def jN (x:cx)(b:Nat):Int:=gK x.kind x.name x.index x.type x.args.length b
theorem xJ (x:cx)(d b n:Nat):fU x d b n=if 200<n+1∨40<d then(n+1,1,(n:Int))else if jN x b≠0 then(n+1,jN x b,(n:Int))else j5 x.args (d+1) (if x.kind=3 then b+1 else b) (n+1):=by cases x;rw[fU];rfl
theorem nZ (x:cx)(d b n:Nat)(r:List (cx×Nat×Nat)):oa ((x,d,b)::r) n=if(fU x d b n).2.1≠0 then(fU x d b n).2 else oa r (fU x d b n).1:=by rw[oa]
theorem G2 {x:cx}{d b n:Nat}{r:List (cx×Nat×Nat)}(h:200<n+1∨40<d):oa ((x,d,b)::r) n=(1,(n:Int)):=by
 rw[nZ,xJ,if_pos h];rfl
theorem G3 {x:cx}{d b n:Nat}{r:List (cx×Nat×Nat)}(h:¬(200<n+1∨40<d))(h2:jN x b≠0):oa ((x,d,b)::r) n=(jN x b,(n:Int)):=by
 rw[nZ,xJ,if_neg h,if_pos h2];exact if_pos h2
theorem Jw {x:cx}{d b n:Nat}{r:List (cx×Nat×Nat)}(h:¬(200<n+1∨40<d))(h2:jN x b=0):oa ((x,d,b)::r) n=oa (x.args.map (fun y=>(y,d+1,if x.kind=3 then b+1 else b))++r) (n+1):=by
 rw[nZ,xJ,if_neg h,if_neg (not_not_intro h2),yl]
theorem G4:∀(x:cx) (d b n:Nat),(fU x d b n).2.1=0→(fU x d b n).2=(0,0):=by
 intro x;refine cx.rec (motive_1:=fun x=>∀d b n,(fU x d b n).2.1=0→(fU x d b n).2=(0,0)) (motive_2:=fun l=>∀d b n,(j5 l d b n).2.1=0→(j5 l d b n).2=(0,0)) ?_ ?_ ?_ x
 ·intro k s i t l ih d b n h
  rw[fU]at h⊢
  split
  ·rename_i h1;rw[if_pos h1]at h;exact absurd h (by simp)
  ·rename_i h1
   rw[if_neg h1]at h
   split
   ·rename_i h2;rw[if_pos h2]at h;exact absurd h h2
   ·rename_i h2;rw[if_neg h2]at h;exact ih _ _ _ h
 ·intro d b n _;rfl
 ·intro x l AH xK d b n h
  rw[j5]at h⊢
  split
  ·rename_i h1;rw[if_pos h1]at h;exact absurd h h1
  ·rename_i h1;rw[if_neg h1]at h;exact xK _ _ _ h
theorem tB:∀(x:cx) (d b n:Nat),(fU x d b n).2.1=0→(fU x d b n).1≤200∧(fU x d b n).1=n+je x:=by
 intro x;refine cx.rec (motive_1:=fun x=>∀d b n,(fU x d b n).2.1=0→(fU x d b n).1≤200∧(fU x d b n).1=n+je x) (motive_2:=fun l=>∀d b n,(j5 l d b n).2.1=0→(n≤200→(j5 l d b n).1≤200)∧(j5 l d b n).1=n+dQ l) ?_ ?_ ?_ x
 ·intro k s i t l ih d b n h
  rw[fU]at h⊢
  by_cases h1:200<n+1∨40<d
  ·rw[if_pos h1]at h;exact absurd h (by simp)
  rw[if_neg h1]at h⊢
  by_cases h2:gK k s i t l.length b≠0
  ·rw[if_pos h2]at h;exact absurd h h2
  rw[if_neg h2]at h⊢;obtain⟨k1,k2⟩:=ih _ _ _ h;exact⟨k1 (by omega),by rw[k2,je];omega⟩
 ·intro d b n _;exact⟨fun h=>h,rfl⟩
 ·intro x l AH xK d b n h
  rw[j5]at h⊢
  by_cases h1:(fU x d b n).2.1≠0
  ·rw[if_pos h1]at h;exact absurd h h1
  rw[if_neg h1]at h⊢;obtain⟨a1,a2⟩:=AH d b n (Decidable.not_not.1 h1);obtain⟨b1,b2⟩:=xK _ _ _ h;exact⟨fun _=>b1 a1,by rw[b2,a2,dQ];omega⟩
theorem O6:∀(x:cx) (d b n:Nat),n≤200→(fU x d b n).1≤201:=by
 intro x;refine cx.rec (motive_1:=fun x=>∀d b n,n≤200→(fU x d b n).1≤201) (motive_2:=fun l=>∀d b n,n≤200→(j5 l d b n).1≤201) ?_ ?_ ?_ x
 ·intro k s i t l ih d b n hn
  rw[fU]
  split
  ·show n+1≤201;omega
  ·split
   ·show n+1≤201;omega
   ·exact ih _ _ _ (by omega)
 ·intro d b n h;show n≤201;omega
 ·intro x l AH xK d b n h
  rw[j5]
  split
  ·exact AH d b n h
  ·rename_i h1
   exact xK _ _ _ (tB x d b n (Decidable.not_not.1 h1)).1
inductive ue:cx→Nat→Nat→Prop
 |mk {x:cx} {d b:Nat} (hd:d≤40) (h:jN x b=0) (k:∀y∈x.args,ue y (d+1) (if x.kind=3 then b+1 else b)):ue x d b
theorem ym:∀(x:cx) (d b n:Nat),(fU x d b n).2.1=0→ue x d b:=by
 intro x;refine cx.rec (motive_1:=fun x=>∀d b n,(fU x d b n).2.1=0→ue x d b) (motive_2:=fun l=>∀d b n,(j5 l d b n).2.1=0→∀y∈l,ue y d b) ?_ ?_ ?_ x
 ·intro k s i t l ih d b n h
  rw[fU]at h
  by_cases h1:200<n+1∨40<d
  ·rw[if_pos h1]at h;exact absurd h (by simp)
  rw[if_neg h1]at h
  by_cases h2:gK k s i t l.length b≠0
  ·rw[if_pos h2]at h;exact absurd h h2
  rw[if_neg h2]at h;exact .mk (by omega) (Decidable.not_not.1 h2) (ih _ _ _ h)
 ·intro d b n _ y hy;cases hy
 ·intro x l AH xK d b n h y hy
  rw[j5]at h
  by_cases h1:(fU x d b n).2.1≠0
  ·rw[if_pos h1]at h;exact absurd h h1
  rw[if_neg h1]at h
  rcases List.mem_cons.1 hy with rfl|hy
  ·exact AH _ _ _ (Decidable.not_not.1 h1)
  ·exact xK _ _ _ h y hy
theorem ue.inv {x:cx}{d b:Nat}(h:ue x d b):d≤40∧jN x b=0∧∀y∈x.args,ue y (d+1) (if x.kind=3 then b+1 else b):=by
 cases h with
 |mk a b c=>exact⟨a,b,c⟩
theorem qT {k:Int}{nm:cV}{ix:Int}{tp:dU}{m b:Nat}(h:gK k nm ix tp m b=0):
 (k=1∧jc tp=0∧m=0)∨(k=2∧0≤ix∧ix<b∧m=0)∨(k=3∧m=1∧jc tp=0)∨(k=4∧m=2):=by
 unfold gK at h
 by_cases h1:k=1
 ·rw[if_pos h1]at h
  by_cases c:ix≠0∨m≠0
  ·rw[if_pos c]at h;cases h
  rw[if_neg c]at h
  by_cases c2:isName nm=false
  ·rw[if_pos c2]at h;cases h
  rw[if_neg c2]at h
  by_cases c3:jc tp≠0
  ·rw[if_pos c3]at h;cases h
  exact .inl ⟨h1,Decidable.not_not.1 c3,by omega⟩
 rw[if_neg h1]at h
 by_cases h2:k=2
 ·rw[if_pos h2]at h
  by_cases c:nm≠ []∨gr tp=false∨m≠0
  ·rw[if_pos c]at h;cases h
  rw[if_neg c]at h
  by_cases c2:ix<0∨(b:Int)≤ix
  ·rw[if_pos c2]at h;cases h
  exact .inr (.inl ⟨h2,by omega,by omega,Decidable.not_not.1 fun hm=>c (.inr (.inr hm))⟩)
 rw[if_neg h2]at h
 by_cases h3:k=3
 ·rw[if_pos h3]at h
  by_cases c:nm≠ []∨ix≠0∨m≠1
  ·rw[if_pos c]at h;cases h
  rw[if_neg c]at h
  by_cases c3:jc tp≠0
  ·rw[if_pos c3]at h;cases h
  exact .inr (.inr (.inl ⟨h3,Decidable.not_not.1 fun hm=>c (.inr (.inr hm)),Decidable.not_not.1 c3⟩))
 rw[if_neg h3]at h
 by_cases h4:k=4
 ·rw[if_pos h4]at h
  by_cases c:nm≠ []∨ix≠0∨gr tp=false∨m≠2
  ·rw[if_pos c]at h;cases h
  exact .inr (.inr (.inr ⟨h4,Decidable.not_not.1 fun hm=>c (.inr (.inr (.inr hm)))⟩))
 rw[if_neg h4]at h;cases h
theorem pO (x:cx)(c:List dU):iH x c=if x.kind=1 then some x.type else if x.kind=2 then c[c.length-1-x.index.toNat]? else if x.kind=3 then(kS x.args (c++ [x.type])).map fun b=> .mk [] [x.type,b]else wj (kS x.args c) (wk x.args c):=by
 cases x;rw[iH];rfl
theorem jf (x:cx)(l:List cx)(c:List dU):kS (x::l) c=iH x c:=by rw[kS]
theorem rA (x y:cx)(l:List cx)(c:List dU):wk (x::y::l) c=iH y c:=by rw[wk,kS]
theorem vT (a b:Option dU)(h:∀s l x,a=some s→s.args=l→b=some x→¬∃p q,l=[p,q]∧fZ p x=true):wj a b=none:=by
 unfold wj
 split
 ·rename_i _ p q x
  split
  ·rename_i hs;exact absurd ⟨p,q,rfl,hs⟩ (h _ _ _ rfl rfl rfl)
  ·rfl
 ·rfl
theorem vU {s p q x:dU}(hl:s.args=[p,q])(h:fZ p x=true):wj (some s) (some x)=some q:=by
 cases s with
 |mk b l=>
  cases (show l=[p,q]from hl)
  show(if fZ p x then some q else none)=some q
  rw[if_pos h]
theorem yn (x:cx)(d b n:Nat):j5 [x] d b n=fU x d b n:=by
 rw[j5,j5]
 split
 ·rfl
 ·rename_i h
  have:=G4 x d b n (Decidable.not_not.1 h)
  rw[←this]
theorem G5 (x y:cx)(d b n:Nat):j5 [x,y] d b n=if(fU x d b n).2.1≠0 then fU x d b n else fU y d b (fU x d b n).1:=by rw[j5,yn]
theorem Dq:∀(x y:dU),fZ x y=true↔x=y:=by
 intro x;refine dU.rec (motive_1:=fun x=>∀y,fZ x y=true↔x=y) (motive_2:=fun l=>∀m,l.length=m.length→(jF l m=true↔l=m)) ?_ ?_ ?_ x
 ·intro b l ih y
  cases y with
  |mk c m=>
   rw[fZ]
   simp only[Bool.and_eq_true,decide_eq_true_eq,dU.mk.injEq]
   constructor
   ·rintro ⟨⟨rfl,h⟩,k⟩;exact⟨rfl,(ih m h).1 k⟩
   ·rintro ⟨rfl,rfl⟩;exact⟨⟨rfl,rfl⟩,(ih l rfl).2 rfl⟩
 ·intro m h
  cases m with
  |nil=>exact⟨fun _=>rfl,fun _=>rfl⟩
  |cons _ _=>simp at h
 ·intro x l AH xK m h
  cases m with
  |nil=>simp at h
  |cons y m=>
   rw[jF,Bool.and_eq_true,AH y,xK m (by simpa using h),List.cons.injEq]
inductive gO:dU→Prop
 |leaf {b:cV} (h:b=sE∨b=sT):gO (.mk b [])
 |fn {x y:dU} (hx:gO x) (hy:gO y):gO (.mk [] [x,y])
theorem tC {b:cV}{l:List dU}(h:dN b l.length=true):((b=sE∨b=sT)∧l=[])∨(b=[]∧∃x y,l=[x,y]):=by
 unfold dN at h
 simp only[Bool.or_eq_true,Bool.and_eq_true,decide_eq_true_eq]at h
 rcases h with⟨h1,h2⟩|⟨h1,h2⟩
 ·exact .inl ⟨h1,List.eq_nil_of_length_eq_zero h2⟩
 ·refine .inr ⟨h1,?_⟩
  match l,h2 with
  | [x,y],_=>exact⟨x,y,rfl⟩
theorem xL:∀(x:dU) (d n:Nat),(fq x d n).2=0→gO x∧(fq x d n).1=n+r9 x∧(fq x d n).1≤200:=by
 intro x;refine dU.rec (motive_1:=fun x=>∀d n,(fq x d n).2=0→gO x∧(fq x d n).1=n+r9 x∧(fq x d n).1≤200) (motive_2:=fun l=>∀d n,(gJ l d n).2=0→(∀x∈l,gO x)∧(gJ l d n).1=n+xI l∧(n≤200→(gJ l d n).1≤200)) ?_ ?_ ?_ x
 ·intro b l ih d n h
  rw[fq]at h⊢
  by_cases h1:200<n+1∨40<d
  ·rw[if_pos h1]at h;exact absurd h (by simp)
  rw[if_neg h1]at h⊢
  by_cases h2:dN b l.length=false
  ·rw[if_pos h2]at h;exact absurd h (by simp)
  rw[if_neg h2]at h⊢;obtain⟨k1,k2,k3⟩:=ih _ _ h;refine⟨?_,by rw[k2,r9];omega,k3 (by omega)⟩
  rcases tC (by simpa using h2)with⟨hb,rfl⟩|⟨rfl,x,y,rfl⟩
  ·exact .leaf hb
  ·exact .fn (k1 x (by simp)) (k1 y (by simp))
 ·intro d n _;exact⟨fun x hx=>(by cases hx),rfl,fun h=>h⟩
 ·intro x l AH xK d n h
  rw[gJ]at h⊢
  by_cases h1:(fq x d n).2≠0
  ·rw[if_pos h1]at h;exact absurd h h1
  rw[if_neg h1]at h⊢;obtain⟨a1,a2,a3⟩:=AH d n (Decidable.not_not.1 h1);obtain⟨b1,b2,b3⟩:=xK _ _ h;refine⟨fun y hy=> ?_,by rw[b2,a2,xI];omega,fun _=>b3 a3⟩
  rcases List.mem_cons.1 hy with rfl|hy
  ·exact a1
  ·exact b1 y hy
theorem Jx {x:dU}(h:jc x=0):gO x∧r9 x≤200:=by
 obtain⟨h1,h2,h3⟩:=xL x 1 0 h;exact⟨h1,by omega⟩
def yF:dU→cV
 | .mk b l=>match b,l with
  | [],[x,y]=>[40]++yF x++ [32]++yF y++ [41]
  |b,_=>b
theorem Jy:∀{x:dU},gO x→∀{y:dU},gO y→∀r s:cV,yF x++r=yF y++s→x=y∧r=s:=by
 intro x hx
 induction hx with
 |leaf hb=>
  intro y hy r s h
  cases hy with
  |leaf hc=>
   rcases hb with rfl|rfl<;>rcases hc with rfl|rfl<;>simp[yF]at h
   ·exact⟨rfl,h⟩
   ·exact⟨rfl,h⟩
  |fn h1 h2=>
   rcases hb with rfl|rfl<;>simp[yF]at h
 |fn h1 h2 ih1 Vs=>
  intro y hy r s h
  cases hy with
  |leaf hc=>
   rcases hc with rfl|rfl<;>simp[yF]at h
  |fn k1 k2=>
   simp only[yF,List.append_assoc,List.cons_append,List.nil_append,List.cons.injEq,true_and]at h
   obtain⟨e1,q1⟩:=ih1 k1 _ _ h;obtain⟨e2,q2⟩:=Vs k2 _ _ (List.cons.inj q1).2;exact⟨by rw[e1,e2],(List.cons.inj q2).2⟩
theorem G6 {x y:dU}(hx:gO x)(hy:gO y):(yF x==yF y)=fZ x y:=by
 rw[Bool.eq_iff_iff,Dq,beq_iff_eq];refine⟨fun h=>(Jy hx hy [] [] (by rw[h])).1,fun h=>by rw[h]⟩
theorem xM {x:dU}(hx:gO x):(yF x).length≤3*r9 x:=by
 induction hx with
 |leaf hb=>rcases hb with rfl|rfl<;>simp[yF,r9,xI]
 |fn h1 h2 ih1 Vs=>simp only[yF,List.length_append,List.length_cons,List.length_nil,r9,xI];omega
end Go.Proofs.YtolmidffiegkaaaGreatDoor
namespace Go.J
open Go
end Go.J
