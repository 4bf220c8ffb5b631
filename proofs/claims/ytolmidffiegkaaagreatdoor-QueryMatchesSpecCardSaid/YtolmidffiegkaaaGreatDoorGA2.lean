/-
  Laws of walks through programs, and facts on grammars, trees and queries.
  Conditions: none.
-/
import Derived.Test.YtolmidffiegkaaaGreatDoorGA1
import Derived.Lib.ValidU
import Derived.Lib.RuneCount
import Derived.Lib.IndexAny
import Derived.Lib.TrimUEq
import Derived.Test.YtolmidffiegkaaaGreatDoorChecked
set_option linter.unusedVariables false
set_option linter.unusedSimpArgs false
namespace Go.J
open Go Go.Lib
def sH:cQ:=[32,9,10,40,41,91,93,44,59]
def dV (b:UInt8):Bool:=sH.contains b
theorem ny {b:UInt8}:dV b=true↔b.toNat=32∨b.toNat=9∨b.toNat=10∨b.toNat=40∨b.toNat=41∨b.toNat=91∨b.toNat=93∨b.toNat=44∨b.toNat=59:=by
 unfold dV sH
 simp only[List.contains_cons,List.contains_nil,Bool.or_false,Bool.or_eq_true,beq_iff_eq,←UInt8.toNat_inj]
 exact Iff.rfl
theorem tQ {b:UInt8}(h:128≤b.toNat):dV b=false:=by
 cases hb:dV b with
 |false=>rfl
 |true=>have:=ny.1 hb;omega
def more (b:Nat):Nat:=if 194≤b∧b≤223 then 1 else if 224≤b∧b≤239 then 2 else if 240≤b∧b≤244 then 3 else 0
def vA (b:Nat):Nat:=if b=224 then 160 else if b=240 then 144 else 128
def vB (b:Nat):Nat:=if b=237 then 159 else if b=244 then 143 else 191
def bt (s:cQ)(i:Nat):Nat:=(s.getD i 0).toNat
def dL (b:Nat):Bool:=decide (128≤b∧more b=0)
def cq (s:cQ)(p k:Nat):Bool:=decide (p+1+k<s.length∧(if k=0 then vA (bt s p)else 128)≤bt s (p+1+k)∧bt s (p+1+k)≤(if k=0 then vB (bt s p)else 191))
def sa (s:cQ)(p:Nat):Option Nat:=
 if dV (s.getD p 0)then none else if dL (bt s p)then none else if(List.range (more (bt s p))).all (cq s p)then some (more (bt s p)+1)else none
theorem kW (s:cQ)(i:Nat):bt s i<256:=(s.getD i 0).toNat_lt
theorem qi (s:cQ)(p:Nat):decodeL (s.drop p)=decodeN (s.length-p) (bt s p) (bt s (p+1)) (bt s (p+2)) (bt s (p+3)):=by
 rw[decodeL_N,List.length_drop,getD_dropU,getD_dropU,getD_dropU,getD_dropU,Nat.add_zero];rfl
def C2 (n b0 b1:Nat):Prop:=194≤b0∧b0≤223∧1<n∧128≤b1∧b1≤191
def C3 (n b0 b1 b2:Nat):Prop:=224≤b0∧b0≤239∧1<n∧128≤b1∧b1≤191∧(b0=224→160≤b1)∧(b0=237→b1≤159)∧2<n∧128≤b2∧b2≤191
def C4 (n b0 b1 b2 b3:Nat):Prop:=240≤b0∧b0≤244∧1<n∧128≤b1∧b1≤191∧(b0=240→144≤b1)∧(b0=244→b1≤143)∧2<n∧128≤b2∧b2≤191∧3<n∧128≤b3∧b3≤191
theorem qj {n b0 b1 b2 b3:Nat}(h0:b0<256)(h1:b1<256)(h2:b2<256)(h3:b3<256):
 (b0<128∧decodeN n b0 b1 b2 b3=(b0,1))∨(128≤b0∧¬C2 n b0 b1∧¬C3 n b0 b1 b2∧¬C4 n b0 b1 b2 b3∧decodeN n b0 b1 b2 b3=(65533,1))∨
 (C2 n b0 b1∧∃r,128≤r∧decodeN n b0 b1 b2 b3=(r,2))∨(C3 n b0 b1 b2∧∃r,128≤r∧decodeN n b0 b1 b2 b3=(r,3))∨(C4 n b0 b1 b2 b3∧∃r,128≤r∧decodeN n b0 b1 b2 b3=(r,4)):=by
 unfold C2 C3 C4 decodeN
 by_cases q0:b0<128
 ·rw[if_pos q0];exact .inl ⟨q0,rfl⟩
 ·rw[if_neg q0]
  right
  by_cases q1:b0/32=6∧(1<n∧b1/64=2)
  ·rw[if_pos q1]
   by_cases q2:b0%32*64+b1%64≥128
   ·rw[if_pos q2];exact .inr (.inl ⟨by omega,_,q2,rfl⟩)
   ·rw[if_neg q2];exact .inl ⟨by omega,by omega,by omega,by omega,rfl⟩
  ·rw[if_neg q1]
   by_cases q3:b0/16=14∧(1<n∧b1/64=2)∧(2<n∧b2/64=2)
   ·rw[if_pos q3]
    by_cases q4:b0%16*4096+b1%64*64+b2%64≥2048∧(b0%16*4096+b1%64*64+b2%64<55296∨(57344≤b0%16*4096+b1%64*64+b2%64∧b0%16*4096+b1%64*64+b2%64≤1114111))
    ·rw[if_pos q4];exact .inr (.inr (.inl ⟨by omega,_,by omega,rfl⟩))
    ·rw[if_neg q4];exact .inl ⟨by omega,by omega,by omega,by omega,rfl⟩
   ·rw[if_neg q3]
    by_cases q5:b0/8=30∧(1<n∧b1/64=2)∧(2<n∧b2/64=2)∧(3<n∧b3/64=2)
    ·rw[if_pos q5]
     by_cases q6:b0%8*262144+b1%64*4096+b2%64*64+b3%64≥65536∧(b0%8*262144+b1%64*4096+b2%64*64+b3%64<55296∨(57344≤b0%8*262144+b1%64*4096+b2%64*64+b3%64∧b0%8*262144+b1%64*4096+b2%64*64+b3%64≤1114111))
     ·rw[if_pos q6];exact .inr (.inr (.inr ⟨by omega,_,by omega,rfl⟩))
     ·rw[if_neg q6];exact .inl ⟨by omega,by omega,by omega,by omega,rfl⟩
    ·rw[if_neg q5];exact .inl ⟨by omega,by omega,by omega,by omega,rfl⟩
theorem fJ (b:Nat):(b=224∧vA b=160)∨(b=240∧vA b=144)∨(b≠224∧b≠240∧vA b=128):=by
 unfold vA;split
 ·exact .inl ⟨by assumption,rfl⟩
 ·split
  ·exact .inr (.inl ⟨by assumption,rfl⟩)
  ·exact .inr (.inr ⟨by assumption,by assumption,rfl⟩)
theorem fK (b:Nat):(b=237∧vB b=159)∨(b=244∧vB b=143)∨(b≠237∧b≠244∧vB b=191):=by
 unfold vB;split
 ·exact .inl ⟨by assumption,rfl⟩
 ·split
  ·exact .inr (.inl ⟨by assumption,rfl⟩)
  ·exact .inr (.inr ⟨by assumption,by assumption,rfl⟩)
theorem dv (b:Nat):(more b=1∧194≤b∧b≤223)∨(more b=2∧224≤b∧b≤239)∨(more b=3∧240≤b∧b≤244)∨(more b=0∧(b<194∨244<b)):=by
 unfold more
 split
 ·exact .inl ⟨rfl,by assumption⟩
 ·split
  ·exact .inr (.inl ⟨rfl,by assumption⟩)
  ·split
   ·exact .inr (.inr (.inl ⟨rfl,by assumption⟩))
   ·exact .inr (.inr (.inr ⟨rfl,by omega⟩))
theorem wA {s:cQ}{p:Nat}:cq s p 0=true↔p+1<s.length∧vA (bt s p)≤bt s (p+1)∧bt s (p+1)≤vB (bt s p):=by
 unfold cq;rw[if_pos rfl,if_pos rfl,decide_eq_true_eq]
theorem D1 {s:cQ}{p:Nat}:cq s p 1=true↔p+2<s.length∧128≤bt s (p+2)∧bt s (p+2)≤191:=by
 unfold cq;rw[if_neg (by decide),if_neg (by decide),decide_eq_true_eq]
theorem N0 {s:cQ}{p:Nat}:cq s p 2=true↔p+3<s.length∧128≤bt s (p+3)∧bt s (p+3)≤191:=by
 unfold cq;rw[if_neg (by decide),if_neg (by decide),decide_eq_true_eq]
theorem mF {s:cQ}{p m:Nat}(hs:dV (s.getD p 0)=false)(hm:more (bt s p)=m)(hb:¬(128≤bt s p∧m=0)):sa s p=if(List.range m).all (cq s p)then some (m+1)else none:=by
 unfold sa
 have h1:dL (bt s p)=false:=by unfold dL;rw[hm];exact decide_eq_false hb
 rw[hs,h1,hm];rfl
theorem D2 {s:cQ}{p:Nat}(hp:p<s.length)(hs:dV (s.getD p 0)=false):
 sa s p=if(decodeL (s.drop p)).1=65533∧(decodeL (s.drop p)).2=1 then none else some (decodeL (s.drop p)).2:=by
 rw[qi]
 have Fm:=fJ (bt s p)
 have OW:=fK (bt s p)
 have hmo:=dv (bt s p)
 have r1:(List.range 1).all (cq s p)=cq s p 0:=by simp[List.range_succ]
 have r2:(List.range 2).all (cq s p)=(cq s p 0&&cq s p 1):=by simp[List.range_succ]
 have r3:(List.range 3).all (cq s p)=(cq s p 0&&cq s p 1&&cq s p 2):=by simp[List.range_succ,Bool.and_assoc]
 rcases qj (n:=s.length-p) (kW s p) (kW s (p+1)) (kW s (p+2)) (kW s (p+3))with⟨h1,h2⟩|⟨h1,n2,n3,n4,h2⟩|⟨h1,r,hr,h2⟩|⟨h1,r,hr,h2⟩|⟨h1,r,hr,h2⟩<;>rw[h2]
 ·rw[if_neg (by simp only;omega),mF hs (m:=0) (by omega) (by omega)];rfl
 ·rw[if_pos (by simp)]
  unfold C2 at n2;unfold C3 at n3;unfold C4 at n4
  rcases hmo with⟨hm,hq⟩|⟨hm,hq⟩|⟨hm,hq⟩|⟨hm,hq⟩
  ·rw[mF hs hm (by omega),r1,if_neg (by rw[wA];omega)]
  ·rw[mF hs hm (by omega),r2,if_neg (by rw[Bool.and_eq_true,wA,D1];omega)]
  ·rw[mF hs hm (by omega),r3,if_neg (by rw[Bool.and_eq_true,Bool.and_eq_true,wA,D1,N0];omega)]
  ·unfold sa
   rw[hs,show dL (bt s p)=true by unfold dL;exact decide_eq_true ⟨h1,hm⟩];rfl
 ·unfold C2 at h1
  rw[if_neg (by simp),mF hs (m:=1) (by omega) (by omega),r1,if_pos (by rw[wA];omega)]
 ·unfold C3 at h1
  rw[if_neg (by simp),mF hs (m:=2) (by omega) (by omega),r2,if_pos (by rw[Bool.and_eq_true,wA,D1];omega)]
 ·unfold C4 at h1
  rw[if_neg (by simp),mF hs (m:=3) (by omega) (by omega),r3,if_pos (by rw[Bool.and_eq_true,Bool.and_eq_true,wA,D1,N0];omega)]
theorem iA {s:cQ}{p:Nat}(hp:p<s.length):1≤(decodeL (s.drop p)).2∧p+(decodeL (s.drop p)).2≤s.length∧
 ((bt s p<128∧decodeL (s.drop p)=(bt s p,1))∨(128≤(decodeL (s.drop p)).1∧∀j,j<(decodeL (s.drop p)).2→128≤bt s (p+j))):=by
 rw[qi]
 have e0:bt s (p+0)=bt s p:=rfl
 have h4:∀w,(w=1∨(w=2∧128≤bt s (p+1))∨(w=3∧128≤bt s (p+1)∧128≤bt s (p+2))∨(w=4∧128≤bt s (p+1)∧128≤bt s (p+2)∧128≤bt s (p+3)))→128≤bt s p→∀j,j<w→128≤bt s (p+j):=by
  intro w h h0 j hj
  have:j=0∨j=1∨j=2∨j=3:=by omega
  rcases this with rfl|rfl|rfl|rfl
  ·exact h0
  ·omega
  ·omega
  ·omega
 rcases qj (n:=s.length-p) (kW s p) (kW s (p+1)) (kW s (p+2)) (kW s (p+3))with⟨h1,h2⟩|⟨h1,n2,n3,n4,h2⟩|⟨h1,r,hr,h2⟩|⟨h1,r,hr,h2⟩|⟨h1,r,hr,h2⟩<;>rw[h2]
 ·exact⟨Nat.le_refl _,(show p+1≤s.length by omega),.inl ⟨h1,rfl⟩⟩
 ·exact⟨Nat.le_refl _,(show p+1≤s.length by omega),.inr ⟨(show 128≤65533 by decide),h4 1 (.inl rfl) h1⟩⟩
 ·unfold C2 at h1
  exact⟨(show 1≤2 by decide),(show p+2≤s.length by omega),.inr ⟨hr,h4 2 (by omega) (by omega)⟩⟩
 ·unfold C3 at h1
  exact⟨(show 1≤3 by decide),(show p+3≤s.length by omega),.inr ⟨hr,h4 3 (by omega) (by omega)⟩⟩
 ·unfold C4 at h1
  exact⟨(show 1≤4 by decide),(show p+4≤s.length by omega),.inr ⟨hr,h4 4 (by omega) (by omega)⟩⟩
theorem tR {s:cQ}{p:Nat}(hp:p<s.length)(hs:dV (s.getD p 0)=false):(s.drop p).any dV=(s.drop (p+(decodeL (s.drop p)).2)).any dV:=by
 obtain⟨h1,h2,h3⟩:=iA hp
 have h3:(decodeL (s.drop p)).2=1∨∀j,j<(decodeL (s.drop p)).2→128≤bt s (p+j):=h3.imp (fun q=>by rw[q.2]) (fun q=>q.2)
 generalize (decodeL (s.drop p)).2=w at*
 have e:s.drop p=(s.drop p).take w++s.drop (p+w):=by rw[←List.drop_drop,List.take_append_drop]
 rw[e,List.any_append]
 have:((s.drop p).take w).any dV=false:=by
  rw[List.any_eq_false];intro x hx;obtain⟨j,hj,rfl⟩:=List.mem_iff_getElem.1 hx;rw[List.length_take,List.length_drop]at hj;rw[List.getElem_take,List.getElem_drop]
  have Ok:s[p+j]'(by omega)=s.getD (p+j) 0:=by rw[List.getD_eq_getElem?_getD,List.getElem?_eq_getElem (by omega)];rfl
  rw[Ok]
  rcases h3 with q|q
  ·obtain rfl:j=0:=by omega
   rw[Nat.add_zero,hs];decide
  ·rw[tQ (q j (by omega))];decide
 rw[this,Bool.false_or]
def nA (s:cQ):Nat→Nat→Option Nat
 |0,_=>some 0
 |f+1,p=>if p<s.length then match sa s p with
  |none=>none
  |some w=>(nA s f (p+w)).map (· +1)
  else some 0
theorem xj (s:cQ):∀(f p:Nat),s.length-p≤f→nA s f p=if validGoD f (s.drop p)&& !(s.drop p).any dV then some (runeCountFrom ⟨s.toArray⟩ f p)else none
 |0,p,h=>by
  rw[List.drop_of_length_le (by omega)]
  simp[nA,validGoD,runeCountFrom]
 |f+1,p,h=>by
  by_cases hp:p<s.length
  ·have hd:s.drop p≠ []:=by intro e;have:=congrArg List.length e;rw[List.length_drop,List.length_nil]at this;omega
   have hx:s[p]?=some (s.getD p 0):=jq 0 hp
   rw[nA,if_pos hp]
   cases hs:dV (s.getD p 0)with
   |true=>
    have h1:sa s p=none:=by unfold sa;rw[hs];rfl
    have h2:(s.drop p).any dV=true:=by rw[bz hx,List.any_cons,hs];rfl
    rw[h1,h2];simp
   |false=>
    rw[D2 hp hs,validGoD,if_neg hd];obtain⟨w1,w2,w3⟩:=iA hp
    by_cases hb:(decodeL (s.drop p)).1=65533∧(decodeL (s.drop p)).2=1
    ·rw[if_pos hb,if_pos hb];rfl
    ·rw[if_neg hb,if_neg hb,tR hp hs,List.drop_drop]
     have ih:=xj s f (p+(decodeL (s.drop p)).2) (by omega)
     show Option.map _ _=_
     rw[ih,runeCountFrom]
     have fR:p<(⟨s.toArray⟩:ByteArray).size:=by show p<s.toArray.size;simpa using hp
     rw[if_pos fR]
     have zQ:=decodeL_drop ⟨s.toArray⟩ p
     simp only at zQ
     rw[←zQ]
     split
     ·simp[Nat.add_comm]
     ·rfl
  ·rw[nA,if_neg hp,List.drop_of_length_le (by omega)]
   have fR:¬p<(⟨s.toArray⟩:ByteArray).size:=by show ¬p<s.toArray.size;simpa using hp
   simp[validGoD,runeCountFrom,fR]
def wB:Option Nat→Bool
 |some n=>decide (1≤n∧n≤30)
 |none=>false
def isWord (s:cQ):Bool:=wB (nA s s.length 0)
theorem la (s:cQ):isWord s=(decide (1≤runeCountL s)&&decide (runeCountL s≤30)&&validD s&& !s.any dV):=by
 unfold isWord;rw[xj s s.length 0 (by omega),List.drop_zero]
 have:runeCountFrom ⟨s.toArray⟩ s.length 0=runeCountL s:=by unfold runeCountL runeCount;congr 1
 rw[this];unfold validD
 cases validGoD s.length s<;>cases s.any dV<;>simp[wB]
theorem EK (s:cQ):∀(f f' p:Nat),s.length-p≤f→s.length-p≤f'→nA s f p=nA s f' p:=by
 intro f
 induction f with
 |zero=>
  intro f' p h h'
  cases f' with
  |zero=>rfl
  |succ f'=>rw[nA,nA,if_neg (by omega)]
 |succ f ih=>
  intro f' p h h'
  cases f' with
  |zero=>rw[nA,nA,if_neg (by omega)]
  |succ f'=>
   rw[nA,nA]
   by_cases hp:p<s.length
   ·rw[if_pos hp,if_pos hp]
    cases hw:sa s p with
    |none=>rfl
    |some w=>
     have:1≤w:=by
      unfold sa at hw
      split at hw
      ·cases hw
      ·split at hw
       ·cases hw
       ·split at hw
        ·simp only[Option.some.injEq]at hw;omega
        ·cases hw
     show Option.map _ _=Option.map _ _
     rw[ih f' (p+w) (by omega) (by omega)]
   ·rw[if_neg hp,if_neg hp]
def wc (s:cQ)(p:Nat):Option Nat:=nA s (s.length-p) p
theorem GJ {s:cQ}{p:Nat}(h:s.length≤p):wc s p=some 0:=by
 unfold wc;rw[show s.length-p=0 by omega];rfl
theorem D3 {s:cQ}{p:Nat}(h:p<s.length)(hw:sa s p=none):wc s p=none:=by
 unfold wc
 obtain⟨f,hf⟩:∃f,s.length-p=f+1:=⟨s.length-p-1,by omega⟩
 rw[hf,nA,if_pos h,hw]
theorem D4 {s:cQ}{p w:Nat}(h:p<s.length)(hw:sa s p=some (w+1)):wc s p=(wc s (p+(w+1))).map (· +1):=by
 unfold wc
 obtain⟨f,hf⟩:∃f,s.length-p=f+1:=⟨s.length-p-1,by omega⟩
 rw[hf,nA,if_pos h,hw]
 show Option.map _ _=Option.map _ _
 rw[EK s f (s.length-(p+(w+1))) (p+(w+1)) (by omega) (Nat.le_refl _)]
theorem EL (s:cQ):isWord s=wB (wc s 0):=rfl
def jz (s:cQ)(n p:Nat):Bool:=wB ((wc s p).map (· +n))
theorem zR (s:cQ):isWord s=jz s 0 0:=by
 unfold jz;rw[EL];cases wc s 0<;>rfl
theorem nB {s:cQ}{n p:Nat}(h:p<s.length)(hw:sa s p=none):jz s n p=false:=by
 unfold jz;rw[D3 h hw];rfl
theorem zS {s:cQ}{n p w:Nat}(h:p<s.length)(hw:sa s p=some (w+1)):jz s n p=jz s (n+1) (p+(w+1)):=by
 unfold jz;rw[D4 h hw]
 cases wc s (p+(w+1))with
 |none=>rfl
 |some k=>simp[wB,Nat.add_comm,Nat.add_left_comm]
theorem Ba {s:cQ}{n p:Nat}(h:s.length≤p):jz s n p=decide (1≤n∧n≤30):=by
 unfold jz;rw[GJ h];simp[wB]
theorem KA {s:cQ}{p:Nat}(h:dV (s.getD p 0)=true):sa s p=none:=by unfold sa;rw[h];rfl
theorem KB {s:cQ}{p:Nat}(h:dL (bt s p)=true):sa s p=none:=by unfold sa;rw[h];split<;>rfl
theorem GK {s:cQ}{p k:Nat}(hk:k<more (bt s p))(h:cq s p k=false):sa s p=none:=by
 unfold sa
 split
 ·rfl
 ·split
  ·rfl
  ·rw[if_neg]
   intro eP
   have:=List.all_eq_true.1 eP k (List.mem_range.2 hk)
   rw[h]at this;cases this
theorem Ol {s:cQ}{p:Nat}(h1:dV (s.getD p 0)=false)(h2:dL (bt s p)=false)(h:(List.range (more (bt s p))).all (cq s p)=true):sa s p=some (more (bt s p)+1):=by
 unfold sa;rw[h1,h2,h];rfl
end Go.J
namespace Go.J
open Go
section
variable {P:Program}{n:Nat}{F:Fr}{A:World→Prop}{c:Ctx}{H R:List bQ}{ty:TypeId}{x y:Operand}{v:Value}{Q:Exit→Act→World→Prop}{ops:Array Oper}{rest:List Oper}
 {pos:String} {after:Array Edge} {t e:TypeId} {m k:Nat} {cs:List Value}
theorem Ev.jL {b o cap size:Nat}{i:Int}{kd:IntKind}(hv:v= .slice (some ⟨b,o,none⟩) m cap)(hx:aL F x v)(hy:aL F y (.int kd i))(ht:P.underlying t=some (.slice e))(hs:(P.info? e).map (·.size)=some size)
 (hi:i=k) (hk:k<m):Ev P n F A (.indexAddr t x y) ty (eC v size k 0):= .of_run fun a w ha _=>by
 subst hv;obtain⟨inf,pS,fR⟩:=Option.map_eq_some_iff.1 hs;subst hi
 simp[execOp,hx.eval ha,hy.eval ha,Instr.indexAt,asIntOf,run_underlying ht,sizeOf,typeInfo,pS,fR,hk,eU,Addr.add_lit]
theorem D5 {size off:Nat}{u:Value}{ρ:Ro}{w:World}(jK:eL c (row v e size m cs::R) ρ w)(hk:k<m)(zG:off<size):∃b u0,eC v size k off= .pointer (some ⟨b,k*size+off,none⟩)∧v.ownBlock=some b∧
 w.cell? ⟨b,k*size+off,none⟩=some u0∧w.frozen? ⟨b,k*size+off,none⟩=false∧eL c (row v e size m (cs.set (k*size+off) u)::R) ρ (w.setCell ⟨b,k*size+off,none⟩ u):=by
 have hr:=eT.1 (jK.dK _ (List.mem_cons_self ..))
 have iW:k*size+off<cs.length:=by
  rw[hr.1]
  have:(k+1)*size≤m*size:=Nat.mul_le_mul_right _ hk
  rw[Nat.add_mul]at this;omega
 obtain⟨b,h2,h3,h4,h5⟩:=mz hr hk (List.getElem?_eq_getElem iW);refine⟨b,_,h2,h4,h3,h5,?_⟩;refine jK.alter rfl ⟨rfl,Nat.le_refl _⟩ rfl (by simp) (fun j hj fz=> ?_) (eT.2 ?_) (fun b' j6=>by rw[ek]at j6⊢;exact .inl j6)
 ·rw[ek,h4]at fz
  simp only[World.setCell,Array.getElem?_modify]
  rw[if_neg (fun e=>fz (by rw[e]))]
 ·obtain⟨hl,h6⟩:=hr
  refine⟨by rw[List.length_set];exact hl,?_⟩
  rcases h6 with⟨rfl,rfl⟩|⟨g,cap,cur,rfl,RO,hg,zI,vJ,l9,v7⟩
  ·omega
  ·simp only[Value.ownBlock,Option.some.injEq]at h4
   subst h4;refine .inr ⟨_,cap,_,rfl,RO,kR hg,zI,vJ,by simp[l9],?_⟩;rw[←v7,Array.toList_setIfInBounds,List.take_set]
theorem St.EM {u1 u2:Value}[tk:jX v H e 2 m cs R](hx:aL F x (eC v 2 k 0))(hy:aL F y (.agg #[u1,u2]))(hs:(P.info? t).map (·.size)=some 2)(h1:u1.oneCell'=true)(h2:u2.oneCell'=true)
 (hk:k<m) (h:St n F (Mm c (row v e 2 m ((cs.set (k*2) u1).set (k*2+1) u2)::R)) (wpList P ops Q rest)):
 St n F (Mm c H) (wpList P ops Q ({dst:=none,op:= .store t x y,type:=ty,pos:=pos,after:=after,guard:=none}::rest)):=by
 refine St.mB (K:=fun u' H'=>H'=row v e 2 m ((cs.set (k*2) u1).set (k*2+1) u2)::R) ?_ ?_
 ·intro a w ρ ha hm
  have KC:=hm.perm tk.perm
  obtain⟨b,z1,p1,q1,c1,f1,B8⟩:=D5 (off:=0) (u:=u1) KC hk (by omega);obtain⟨b',z2,p2,q2,c2,f2,tD⟩:=D5 (off:=1) (u:=u2) B8 hk (by omega)
  rw[q1]at q2;cases q2
  rw[p1]at hx;obtain⟨i,hi,fR⟩:=Option.map_eq_some_iff.1 hs;refine⟨.skip,(w.setCell ⟨b,k*2+0,none⟩ u1).setCell ⟨b,k*2+1,none⟩ u2,ρ,_,?_,⟨_,.inr ⟨rfl,rfl⟩,rfl⟩,tD⟩
  simp only[Nat.add_zero]at hx c1 f1 c2 f2⊢
  simp[execOp,hx.eval ha,hy.eval ha,Instr.storeAt,Instr.sureAddr,storeVar,sizeOf,typeInfo,hi,fR,br,storeCells,run_store P w _ u1 _ h1,run_store P _ _ u2 _ h2,c1,f1,c2,f2,Addr.add_zero',Addr.add_lit]
 ·rintro _ _ rfl
  exact h
end
def pW (ds:List dm):dm:=⟨fun ρ=>∀d∈ds,d.f ρ,fun _ _ h k d hd=>d.mono _ _ h (k d hd)⟩
theorem ct.all {P:Program}{f:FuncId}{args:Array Value}{ds:List dm}{v:Value}(h:ct P f args ds v):ct P f args [pW ds] v:=by
 intro w ρ st
 have hf:∀d∈ds,d.f ρ:=dZ.1 (st.dK (aG (pW ds)) (by simp))
 have e:l8 (ds.map aG)=l8 ([pW ds].map aG):=by
  funext b
  apply propext
  constructor
  ·intro h;exact absurd h (ir ds b)
  ·intro h;exact absurd h (ir [pW ds] b)
 have YE:eL ⟨w,ρ,l8 ([pW ds].map aG),True⟩ [] ρ w:=eL.drop st
 have YF:Start (ds.map aG) ρ w:=by
  have:=YE.zE ds hf
  rw[List.append_nil]at this;unfold Start;rw[e];exact this
 have:=h w ρ YF
 rw[e]at this;exact this
theorem ct.sy {P:Program}{f:FuncId}{args:Array Value}{ds KD:List dm}{v:Value}(h:ct P f args ds v)(hi:∀ρ,(∀d∈KD,d.f ρ)→∀d∈ds,d.f ρ):ct P f args KD v:=by
 intro w ρ st
 have hf:∀d∈KD,d.f ρ:=fun d hd=>dZ.1 (st.dK (aG d) (List.mem_map_of_mem hd))
 have e:l8 (ds.map aG)=l8 (KD.map aG):=by
  funext b
  apply propext
  exact⟨fun h=>absurd h (ir ds b),fun h=>absurd h (ir KD b)⟩
 have YE:eL ⟨w,ρ,l8 (KD.map aG),True⟩ [] ρ w:=by
  have:∀(l:List dm),eL ⟨w,ρ,l8 (KD.map aG),True⟩ (l.map aG) ρ w→eL ⟨w,ρ,l8 (KD.map aG),True⟩ [] ρ w:=by
   intro l
   induction l with
   |nil=>exact fun h=>h
   |cons d l ih=>exact fun h=>ih h.drop
  exact this KD st
 have YF:Start (ds.map aG) ρ w:=by
  have:=YE.zE ds (hi ρ hf)
  rw[List.append_nil]at this;unfold Start;rw[e];exact this
 have:=h w ρ YF
 rw[e]at this;exact this
theorem kS.pW {c:Ctx}{L R:List bQ}{ds:List dm}(h:kS c L R ds):kS c L R [J.pW ds]:=fun ρ w hm d hd=>by
 rw[List.mem_singleton.1 hd]
 exact fun d' lW=>h ρ w hm d' lW
theorem fj.pW {c:Ctx}{H:List bQ}{ds:List dm}(h:fj c H ds):fj c H [J.pW ds]:=fun ρ w hm d hd=>by
 rw[List.mem_singleton.1 hd]
 exact fun d' lW=>h ρ w hm d' lW
theorem St.cast {n:Nat}{F:Fr}{c:Ctx}{H H':List bQ}{T:Act→World→Prop}(h:H=H')(k:St n F (Mm c H') T):St n F (Mm c H) T:=by rw[h];exact k
section
variable {n:Nat}{F:Fr}{c:Ctx}{H R:List bQ}{T:Act→World→Prop}{α:Type}
def aY (f:α→dm)(xs:List α):dm:=⟨fun ρ=>∀x∈xs,(f x).f ρ,fun ρ ib h k x hx=>(f x).mono _ _ h (k x hx)⟩
theorem St.cD (f:α→dm)(xs:List α){x:α}[hd:jf (aY f xs) H](hx:x∈xs)(k:St n F (Mm c (aG (f x)::H)) T):St n F (Mm c H) T:=
 St.gQ (f x) [aY f xs] (fun ρ h=>h _ (List.mem_cons_self ..) x hx) k
theorem St.da (f:α→dm)(k:St n F (Mm c (aG (aY f [])::H)) T):St n F (Mm c H) T:=
 St.fact (aY f []) (fun ρ _ _=>fun x hx=>by cases hx) k
theorem St.lb (f:α→dm){xs:List α}{x:α}[hd:jf (aY f xs) H][hx:jf (f x) H](k:St n F (Mm c (aG (aY f (xs++ [x]))::H)) T):St n F (Mm c H) T:=
 St.gQ (aY f (xs++ [x])) [aY f xs,f x] (fun ρ h y hy=>by
  rcases List.mem_append.1 hy with hy|hy
  ·exact h _ (List.mem_cons_self ..) y hy
  ·rw[List.mem_singleton.1 hy];exact h _ (List.mem_cons_of_mem _ (List.mem_cons_self ..))) k
theorem St.eo (f:α→dm){xs:List α}{x:α}[hd:jf (aY f xs) H][hx:jf (f x) H](k:St n F (Mm c (aG (aY f (x::xs))::H)) T):St n F (Mm c H) T:=
 St.gQ (aY f (x::xs)) [aY f xs,f x] (fun ρ h y hy=>by
  rcases List.mem_cons.1 hy with rfl|hy
  ·exact h _ (List.mem_cons_of_mem _ (List.mem_cons_self ..))
  ·exact h _ (List.mem_cons_self ..) y hy) k
end
abbrev iL (s:cQ):Prop:=s.length≤140737488351232
structure jj where
 name:cQ
 pv:ck
 parents:List Int
structure eF where
 name:cQ
 nC:Int
 value:Int
structure fY where
 dq:Int
 to:Int
structure k5 where
 type:Int
 lv:ck
 aZ:List fY
structure eM where
 nv:ck
 nodes:List k5
inductive cT where
 |mk (base:cQ) (av:ck) (args:List cT)
inductive cF where
 |mk (kind:Int) (name:cQ) (index:Int) (type:cT) (av:ck) (args:List cF)
inductive bh where
 |mk (eK lex:Int) (kv:ck) (kids:List bh)
def cT.base:cT→cQ| .mk b _ _=>b
def cT.av:cT→ck| .mk _ v _=>v
def cT.args:cT→List cT| .mk _ _ l=>l
def cF.kind:cF→Int| .mk k _ _ _ _ _=>k
def cF.name:cF→cQ| .mk _ s _ _ _ _=>s
def cF.index:cF→Int| .mk _ _ i _ _ _=>i
def cF.type:cF→cT| .mk _ _ _ t _ _=>t
def cF.av:cF→ck| .mk _ _ _ _ v _=>v
def cF.args:cF→List cF| .mk _ _ _ _ _ l=>l
def bh.eK:bh→Int| .mk r _ _ _=>r
def bh.lex:bh→Int| .mk _ l _ _=>l
def bh.kv:bh→ck| .mk _ _ v _=>v
def bh.kids:bh→List bh| .mk _ _ _ l=>l
structure bV where
 name:cQ
 graph:eM
 kids:Int
 weight:Int
 cg:cF
structure cv where
 word:cQ
 graph:eM
 weight:Int
 cg:cF
structure iX where
 tv:ck
 types:List jj
 fv:ck
 bZ:List eF
 rv:ck
 rules:List bV
 xv:ck
 bA:List cv
 start:eM
def e6:Rp jj:=⟨2,by decide,fun x=>[sv x.name,x.pv.1],fun x=>iL x.name,fun _=>rfl,fun x u h=>by simp at h;rcases h with rfl|rfl;rfl;exact x.pv.2⟩
def bu:Rp eF:=⟨3,by decide,fun x=>[sv x.name,iv x.nC,iv x.value],fun x=>iL x.name∧bD x.nC∧bD x.value,fun _=>rfl,fun x u h=>by simp at h;rcases h with rfl|rfl|rfl<;>rfl⟩
def fC:Rp fY:=⟨2,by decide,fun x=>[iv x.dq,iv x.to],fun x=>bD x.dq∧bD x.to,fun _=>rfl,fun x u h=>by simp at h;rcases h with rfl|rfl<;>rfl⟩
def ep:Rp k5:=⟨2,by decide,fun x=>[iv x.type,x.lv.1],fun x=>bD x.type,fun _=>rfl,fun x u h=>by simp at h;rcases h with rfl|rfl;rfl;exact x.lv.2⟩
def gh:Rp cT:=⟨2,by decide,fun x=>[sv x.base,x.av.1],fun x=>iL x.base,fun _=>rfl,fun x u h=>by simp at h;rcases h with rfl|rfl;rfl;exact x.av.2⟩
abbrev pX (x:cF):List Value:=[iv x.kind,sv x.name,iv x.index,sv x.type.base,x.type.av.1,x.av.1]
theorem fL {u:Value}{L:List Value}(h:u.oneCell'=true)(k:∀v∈L,v.oneCell'=true):∀v∈u::L,v.oneCell'=true:=fun v hv=>by
 rcases List.mem_cons.1 hv with rfl|hv
 ·exact h
 ·exact k v hv
theorem KE:∀v∈([]:List Value),v.oneCell'=true:=fun v hv=>by cases hv
theorem nz (x:cF):∀u∈pX x,u.oneCell'=true:=fL rfl (fL rfl (fL rfl (fL rfl (fL x.type.av.2 (fL x.av.2 KE)))))
def cG:Rp cF:=⟨6,by decide,pX,fun x=>bD x.kind∧iL x.name∧bD x.index∧iL x.type.base,fun _=>rfl,fun x u h=>nz x u h⟩
abbrev k6 (x:bh):List Value:=[iv x.eK,iv x.lex,x.kv.1]
def db:Rp bh:=⟨3,by decide,k6,fun x=>bD x.eK∧bD x.lex,fun _=>rfl,fun x u h=>by simp at h;rcases h with rfl|rfl|rfl;rfl;rfl;exact x.kv.2⟩
abbrev N1 (x:bV):List Value:=[sv x.name,x.graph.nv.1,iv x.kids,iv x.weight,iv x.cg.kind,sv x.cg.name,iv x.cg.index,sv x.cg.type.base,x.cg.type.av.1,x.cg.av.1]
def cA:Rp bV:=⟨10,by decide,N1,fun x=>iL x.name∧bD x.kids∧bD x.weight∧cG.wf x.cg,fun _=>rfl,fun x u h=>fL rfl (fL x.graph.nv.2 (fL rfl (fL rfl (nz x.cg)))) u h⟩
abbrev EN (x:cv):List Value:=[sv x.word,x.graph.nv.1,iv x.weight,iv x.cg.kind,sv x.cg.name,iv x.cg.index,sv x.cg.type.base,x.cg.type.av.1,x.cg.av.1]
def cI:Rp cv:=⟨9,by decide,EN,fun x=>iL x.word∧bD x.weight∧cG.wf x.cg,fun _=>rfl,fun x u h=>fL rfl (fL x.graph.nv.2 (fL rfl (nz x.cg))) u h⟩
instance (x:jj):ei e6 x [sv x.name,x.pv.1]:=⟨rfl⟩
instance (x:eF):ei bu x [sv x.name,iv x.nC,iv x.value]:=⟨rfl⟩
instance (x:fY):ei fC x [iv x.dq,iv x.to]:=⟨rfl⟩
instance (x:k5):ei ep x [iv x.type,x.lv.1]:=⟨rfl⟩
instance (x:cT):ei gh x [sv x.base,x.av.1]:=⟨rfl⟩
instance (x:cF):ei cG x (pX x):=⟨rfl⟩
instance (x:bh):ei db x (k6 x):=⟨rfl⟩
instance (x:bV):ei cA x (N1 x):=⟨rfl⟩
instance (x:cv):ei cI x (EN x):=⟨rfl⟩
abbrev Om (g:iX):List Value:=[g.tv.1,g.fv.1,g.rv.1,g.xv.1,g.start.nv.1]
inductive od (ρ:Ro):cT→Prop
 |mk {x:cT} (h:(sl gh x.av.1 x.args).f ρ) (k:∀y∈x.args,od ρ y):od ρ x
inductive mG (ρ:Ro):cF→Prop
 |mk {x:cF} (ht:od ρ x.type) (h:(sl cG x.av.1 x.args).f ρ) (k:∀y∈x.args,mG ρ y):mG ρ x
inductive nD (ρ:Ro):bh→Prop
 |mk {x:bh} (h:(sl db x.kv.1 x.kids).f ρ) (k:∀y∈x.kids,nD ρ y):nD ρ x
theorem od.mono {ρ ib:Ro}(h:∀k o,ρ k=some o→ib k=some o){x:cT}(hx:od ρ x):od ib x:=by
 induction hx with
 |mk h1 _ ih=>exact .mk ((sl _ _ _).mono _ _ h h1) ih
theorem mG.mono {ρ ib:Ro}(h:∀k o,ρ k=some o→ib k=some o){x:cF}(hx:mG ρ x):mG ib x:=by
 induction hx with
 |mk ht h1 _ ih=>exact .mk (ht.mono h) ((sl _ _ _).mono _ _ h h1) ih
theorem nD.mono {ρ ib:Ro}(h:∀k o,ρ k=some o→ib k=some o){x:bh}(hx:nD ρ x):nD ib x:=by
 induction hx with
 |mk h1 _ ih=>exact .mk ((sl _ _ _).mono _ _ h h1) ih
def bW (x:cT):dm:=⟨fun ρ=>od ρ x,fun _ _ h k=>k.mono h⟩
def bO (x:cF):dm:=⟨fun ρ=>mG ρ x,fun _ _ h k=>k.mono h⟩
def cB (x:bh):dm:=⟨fun ρ=>nD ρ x,fun _ _ h k=>k.mono h⟩
def ew (x:jj):dm:=sl aK x.pv.1 x.parents
def dW (x:k5):dm:=sl fC x.lv.1 x.aZ
def lE (g:eM):List dm:=[sl ep g.nv.1 g.nodes,aY dW g.nodes]
def bU (g:eM):dm:=pW (lE g)
def D6 (x:bV):List dm:=[bU x.graph,bO x.cg]
def cO (x:bV):dm:=pW (D6 x)
def KF (x:cv):List dm:=[bU x.graph,bO x.cg]
def dX (x:cv):dm:=pW (KF x)
def N2 (tv fv:ck)(ts:List jj)(fs:List eF):List dm:=[sl e6 tv.1 ts,aY ew ts,sl bu fv.1 fs]
def zT (g:iX):List dm:=[sl e6 g.tv.1 g.types,aY ew g.types,sl bu g.fv.1 g.bZ,sl cA g.rv.1 g.rules,aY cO g.rules,sl cI g.xv.1 g.bA,aY dX g.bA,bU g.start]
def dw (g:iX):dm:=pW (zT g)
section
variable {n:Nat}{F:Fr}{c:Ctx}{H R:List bQ}{T:Act→World→Prop}
theorem St.jk (x:cT)[hd:jf (bW x) H](k:St n F (Mm c (aG (sl gh x.av.1 x.args)::aG (aY bW x.args)::H)) T):St n F (Mm c H) T:=
 St.fI (ι:=Unit) (bW x) (fun _=>[sl gh x.av.1 x.args,aY bW x.args]) (fun ρ h=>⟨(),fun e he=>by
  cases h with
  |mk h k=>
   simp only[List.mem_cons,List.not_mem_nil,or_false]at he
   rcases he with rfl|rfl
   ·exact h
   ·exact k⟩) fun _=>k
theorem St.pY (x:cF)[hd:jf (bO x) H](k:St n F (Mm c (aG (bW x.type)::aG (sl cG x.av.1 x.args)::aG (aY bO x.args)::H)) T):St n F (Mm c H) T:=
 St.fI (ι:=Unit) (bO x) (fun _=>[bW x.type,sl cG x.av.1 x.args,aY bO x.args]) (fun ρ h=>⟨(),fun e he=>by
  cases h with
  |mk ht h k=>
   simp only[List.mem_cons,List.not_mem_nil,or_false]at he
   rcases he with rfl|rfl|rfl
   ·exact ht
   ·exact h
   ·exact k⟩) fun _=>k
theorem St.nE (x:bh)[hd:jf (cB x) H](k:St n F (Mm c (aG (sl db x.kv.1 x.kids)::aG (aY cB x.kids)::H)) T):St n F (Mm c H) T:=
 St.fI (ι:=Unit) (cB x) (fun _=>[sl db x.kv.1 x.kids,aY cB x.kids]) (fun ρ h=>⟨(),fun e he=>by
  cases h with
  |mk h k=>
   simp only[List.mem_cons,List.not_mem_nil,or_false]at he
   rcases he with rfl|rfl
   ·exact h
   ·exact k⟩) fun _=>k
end
end Go.J
namespace Go.Proofs.YtolmidffiegkaaaGreatDoor
open Go Go.J
inductive dY where
 |mk (base:cQ) (args:List dY)
inductive dB where
 |mk (kind:Int) (name:cQ) (index:Int) (type:dY) (args:List dB)
inductive fG where
 |mk (eK lex:Int) (kids:List fG)
mutual
def bK:cT→dY
 | .mk b _ l=> .mk b (D7 l)
def D7:List cT→List dY
 | []=>[]
 |x::l=>bK x::D7 l
end
mutual
def ax:cF→dB
 | .mk k s i t _ l=> .mk k s i (bK t) (xk l)
def xk:List cF→List dB
 | []=>[]
 |x::l=>ax x::xk l
end
mutual
def an:bh→fG
 | .mk r x _ l=> .mk r x (xl l)
def xl:List bh→List fG
 | []=>[]
 |x::l=>an x::xl l
end
theorem qk:∀l:List cT,D7 l=l.map bK
 | []=>rfl
 |x::l=>by rw[D7,qk l];rfl
theorem p7:∀l:List cF,xk l=l.map ax
 | []=>rfl
 |x::l=>by rw[xk,p7 l];rfl
theorem gy:∀l:List bh,xl l=l.map an
 | []=>rfl
 |x::l=>by rw[xl,gy l];rfl
def dY.base:dY→cQ| .mk b _=>b
def dY.args:dY→List dY| .mk _ l=>l
def dB.kind:dB→Int| .mk k _ _ _ _=>k
def dB.name:dB→cQ| .mk _ s _ _ _=>s
def dB.index:dB→Int| .mk _ _ i _ _=>i
def dB.type:dB→dY| .mk _ _ _ t _=>t
def dB.args:dB→List dB| .mk _ _ _ _ l=>l
def fG.eK:fG→Int| .mk r _ _=>r
def fG.lex:fG→Int| .mk _ l _=>l
def fG.kids:fG→List fG| .mk _ _ l=>l
theorem fh (x:cT):(bK x).base=x.base:=by cases x;rfl
theorem dG (x:cT):(bK x).args=x.args.map bK:=by cases x;exact qk _
theorem iw (x:cF):(ax x).args=x.args.map ax:=by cases x;exact p7 _
abbrev dc:=cQ×List Int
abbrev mm:=cQ×Int×Int
abbrev Ri:=Int×List (Int×Int)
abbrev iE:=List Ri
structure qT where
 name:cQ
 graph:iE
 kids:Int
 weight:Int
 cg:dB
structure Jk where
 word:cQ
 graph:iE
 weight:Int
 cg:dB
structure iV where
 types:List dc
 bZ:List mm
 rules:List qT
 bA:List Jk
 start:iE
def bf (x:jj):dc:=(x.name,x.parents)
def dR (x:eF):mm:=(x.name,x.nC,x.value)
def gS (x:fY):Int×Int:=(x.dq,x.to)
def kX (x:k5):Ri:=(x.type,x.aZ.map gS)
def dN (g:eM):iE:=g.nodes.map kX
def mH (x:bV):qT:=⟨x.name,dN x.graph,x.kids,x.weight,ax x.cg⟩
def jr (x:cv):Jk:=⟨x.word,dN x.graph,x.weight,ax x.cg⟩
def fV (g:iX):iV:=⟨g.types.map bf,g.bZ.map dR,g.rules.map mH,g.bA.map jr,dN g.start⟩
def mn (i:Int):Int→List Int→Int×Int
 |_,[]=>(0,0)
 |last,p::ps=>if p<0∨i≤p then(3,i)else if p≤last then(13,i)else mn i p ps
def iM:List cQ→Nat→List dc→Int×Int
 |_,_,[]=>(0,0)
 |known,i,t::ts=>if isName t.1=false then(10,i)else if t.1∈known then(7,i)else if decide (i=0)≠decide (t.2.length=0)then(5,i)
  else if(mn i (-1) t.2).1≠0 then mn i (-1) t.2 else iM (known++ [t.1]) (i+1) ts
def qU (l:List dc):Int×Int:=if l.length=0∨60<l.length then(2,-1)else iM [] 0 l
def GL (U:List Nat)(i:Nat)(ps:List Int):Nat:=ps.foldl (fun u p=>u|||U.getD p.toNat 0) (2^i)
def kY:List Nat→List dc→List Nat
 |U,[]=>U
 |U,t::l=>kY (U++ [GL U U.length t.2]) l
def vN (l:List dc):List Nat:=kY [] l
def e9 (l:List dc)(i j:Nat):Bool:=((vN l).getD i 0).testBit j
def comm (l:List dc)(a b:Nat):List Nat:=(List.range l.length).filter fun i=>e9 l i a&&e9 l i b
def gE (l:List dc)(a b:Nat):Bool:=match comm l a b with
 | []=>false
 |m::r=>r.any fun i=> !e9 l i m
def kZ (l:List dc):Option Nat:=(List.range l.length).find? fun b=>(List.range b).any fun a=>gE l a b
def jM (n:Int):List cQ→Nat→List mm→Int×Int
 |_,_,[]=>(0,0)
 |known,i,f::fs=>if isName f.1=false then(10,i)else if f.1∈known then(7,i)else if f.2.1<0∨n≤f.2.1∨f.2.2<0∨n≤f.2.2 then(3,i)else jM n (known++ [f.1]) (i+1) fs
def fZ (ts:List dc)(fs:List mm):Int×Int:=
 if 40<fs.length then(2,-1)else if(qU ts).1≠0 then qU ts else match kZ ts with
  |some b=>(16,b)
  |none=>jM ts.length [] 0 fs
def wC (nf nn i:Int):Int→List (Int×Int)→Int×Int
 |_,[]=>(0,0)
 |last,x::xs=>if x.1<0∨nf≤x.1∨x.2<0∨nn≤x.2 then(3,i)else if x.1≤last then(13,i)else wC nf nn i x.1 xs
def dx (nt nf nn:Int):Nat→iE→Int×Int
 |_,[]=>(0,0)
 |i,x::xs=>if x.1<0∨nt≤x.1 then(3,i)else if(wC nf nn i (-1) x.2).1≠0 then wC nf nn i (-1) x.2 else dx nt nf nn (i+1) xs
def de (nt nf:Int)(g:iE):Int×Int:=if g.length=0∨60<g.length then(2,-2)else dx nt nf g.length 0 g
def tS:Ri:=(0,[])
def ft0:mm:=([],0,0)
def tT (ts:List dc)(fs:List mm)(g:iE)(t:Int)(x:Int×Int):Bool:=
 !e9 ts t.toNat (fs.getD x.1.toNat ft0).2.1.toNat|| !e9 ts (g.getD x.2.toNat tS).1.toNat (fs.getD x.1.toNat ft0).2.2.toNat
def ke (ts:List dc)(fs:List mm)(g:iE)(i:Nat):Bool:=(g.getD i tS).2.any (tT ts fs g (g.getD i tS).1)
def k7 (ts:List dc)(fs:List mm)(g:iE):Option Nat:=(List.range g.length).find? (ke ts fs g)
def ij (i:Nat)(M:List Bool)(x:Int×Int):List Bool:=if M.getD i false then M.set x.2.toNat true else M
def jD (g:iE)(M:List Bool)(i:Nat):List Bool:=(g.getD i tS).2.foldl (ij i) M
def pass (g:iE)(M:List Bool):List Bool:=(List.range g.length).foldl (jD g) M
def cM (g:iE):Nat→List Bool
 |0=>(List.replicate g.length false).set 0 true
 |k+1=>pass g (cM g k)
def mI:List Bool→Int
 | []=> -1
 |b::l=>if b=false then 0 else if mI l<0 then-1 else mI l+1
def N3 (g:iE):Int:=mI (cM g g.length)
def cU (ts:List dc)(fs:List mm)(g:iE):Int×Int:=
 if(de ts.length fs.length g).1≠0 then de ts.length fs.length g else match k7 ts fs g with
  |some i=>(12,i)
  |none=>if 0≤N3 g then(5,N3 g)else(0,0)
def B9 (g:iE)(k:Int):Int:=match(g.getD 0 tS).2.find? fun x=>x.1==k with
 |some x=>x.2
 |none=> -1
def kf (g:iE)(kids:Int):Bool:=(List.range 4).all fun k=>decide (0≤B9 g k)==decide ((k:Int)≤kids)
abbrev sE:cQ:=[101]
abbrev sT:cQ:=[116]
def dS (b:cQ)(m:Nat):Bool:=(decide (b=sE)||decide (b=sT))&&decide (m=0)||decide (b=[])&&decide (m=2)
mutual
def gF:dY→Nat→Nat→Nat×Int
 | .mk b l,d,n=>if 200<n+1∨40<d then(n+1,1)else if dS b l.length=false then(n+1,5)else gT l (d+1) (n+1)
def gT:List dY→Nat→Nat→Nat×Int
 | [],_,n=>(n,0)
 |x::l,d,n=>if(gF x d n).2≠0 then gF x d n else gT l d (gF x d n).1
end
def jl (s:dY):Int:=(gF s 1 0).2
def iB (s:dY):Bool:=decide (s.base=[])&&decide (s.args.length=0)
mutual
def fp:dY→dY→Bool
 | .mk a l,.mk b m=>decide (a=b)&&decide (l.length=m.length)&&jN l m
def jN:List dY→List dY→Bool
 |x::l,y::m=>fp x y&&jN l m
 |_,_=>true
end
def gU (kind:Int)(name:cQ)(index:Int)(type:dY)(m:Nat)(bd:Nat):Int:=
 if kind=1 then(if index≠0∨m≠0 then 5 else if isName name=false then 10 else if jl type≠0 then 12 else 0)
 else if kind=2 then(if name≠ []∨iB type=false∨m≠0 then 5 else if index<0∨(bd:Int)≤index then 15 else 0)
 else if kind=3 then(if name≠ []∨index≠0∨m≠1 then 5 else if jl type≠0 then 12 else 0)
 else if kind=4 then(if name≠ []∨index≠0∨iB type=false∨m≠2 then 5 else 0)
 else 4
mutual
def fi:dB→Nat→Nat→Nat→Nat×Int×Int
 | .mk k s i t l,d,bd,n=>if 200<n+1∨40<d then(n+1,1,n)else if gU k s i t l.length bd≠0 then(n+1,gU k s i t l.length bd,n)else jE l (d+1) (if k=3 then bd+1 else bd) (n+1)
def jE:List dB→Nat→Nat→Nat→Nat×Int×Int
 | [],_,_,n=>(n,0,0)
 |x::l,d,bd,n=>if(fi x d bd n).2.1≠0 then fi x d bd n else jE l d bd (fi x d bd n).1
end
def xo:Option dY→Option dY→Option dY
 |some (.mk _ [a,b]),some x=>if fp a x then some b else none
 |_,_=>none
mutual
def iY:dB→List dY→Option dY
 | .mk k _ i t l,c=>if k=1 then some t else if k=2 then c[c.length-1-i.toNat]? else if k=3 then(kg l (c++ [t])).map fun b=> .mk [] [t,b]else xo (kg l c) (xu l c)
def kg:List dB→List dY→Option dY
 |x::_,c=>iY x c
 | [],_=>none
def xu:List dB→List dY→Option dY
 |_::l,c=>kg l c
 | [],_=>none
end
def iC (t:dB):Int×Int:=if(fi t 1 0 0).2.1≠0 then(fi t 1 0 0).2 else if(iY t []).isNone then(12,-1)else(0,0)
def kh (ts:List dc)(fs:List mm)(r:qT):Int:=
 if r.kids<1∨3<r.kids∨r.weight<0∨1000000<r.weight then 3 else if(cU ts fs r.graph).1≠0 then(cU ts fs r.graph).1 else if kf r.graph r.kids=false then 5 else(iC r.cg).1
def pZ (ts:List dc)(fs:List mm)(x:Jk):Int:=
 if isWord x.word=false then 10 else if x.weight<0∨1000000<x.weight then 3 else if(cU ts fs x.graph).1≠0 then(cU ts fs x.graph).1 else(iC x.cg).1
def gG (ts:List dc)(fs:List mm):List cQ→Nat→List qT→Int×Int
 |_,_,[]=>(0,0)
 |known,i,r::rs=>if isName r.name=false then(10,i)else if r.name∈known then(7,i)else if kh ts fs r≠0 then(kh ts fs r,i)else gG ts fs (known++ [r.name]) (i+1) rs
def gH (ts:List dc)(fs:List mm):Nat→List Jk→Int×Int
 |_,[]=>(0,0)
 |i,x::xs=>if pZ ts fs x≠0 then(pZ ts fs x,i)else gH ts fs (i+1) xs
def kP (g:iV):Int×Int:=
 if(fZ g.types g.bZ).1≠0 then fZ g.types g.bZ else if g.bZ.length≤3 then(9,-1)else if 40<g.rules.length∨100<g.bA.length then(2,-1)
 else if(gG g.types g.bZ [] 0 g.rules).1≠0 then gG g.types g.bZ [] 0 g.rules else if(gH g.types g.bZ 0 g.bA).1≠0 then gH g.types g.bZ 0 g.bA
 else if(cU g.types g.bZ g.start).1≠0 then((cU g.types g.bZ g.start).1,-1)else(0,0)
structure zU where
 nodes:Nat
 leaves:Nat
mutual
def ik (rk:List Int)(nl:Int):fG→Nat→Nat→zU→zU×Int×Int
 | .mk r x l,d,ch,s=>
  if 200<s.nodes+1∨48<d then(⟨s.nodes+1,s.leaves⟩,1,s.nodes)
  else if r< -1∨rk.length≤r∨(r= -1∧(x<0∨nl≤x))then(⟨s.nodes+1,s.leaves⟩,3,s.nodes)
  else if 0≤r∧x≠0 then(⟨s.nodes+1,s.leaves⟩,5,s.nodes)
  else if(l.length:Int)≠(if 0≤r then rk.getD r.toNat 0 else 0)then(⟨s.nodes+1,if 0≤r then s.leaves else s.leaves+1⟩,9,s.nodes)
  else if 3<(if l.length=1 then ch+1 else 0)then(⟨s.nodes+1,if 0≤r then s.leaves else s.leaves+1⟩,14,s.nodes)
  else iZ rk nl l (d+1) (if l.length=1 then ch+1 else 0) ⟨s.nodes+1,if 0≤r then s.leaves else s.leaves+1⟩
def iZ (rk:List Int)(nl:Int):List fG→Nat→Nat→zU→zU×Int×Int
 | [],_,_,s=>(s,0,0)
 |x::l,d,ch,s=>if(ik rk nl x d ch s).2.1≠0 then ik rk nl x d ch s else iZ rk nl l d ch (ik rk nl x d ch s).1
end
def ja (g:iV)(t:fG):Int×Int:=
 if(ik (g.rules.map qT.kids) g.bA.length t 1 0 ⟨0,0⟩).2.1≠0 then(ik (g.rules.map qT.kids) g.bA.length t 1 0 ⟨0,0⟩).2
 else if 12<(ik (g.rules.map qT.kids) g.bA.length t 1 0 ⟨0,0⟩).1.leaves then(2,-2)else(0,0)
end Go.Proofs.YtolmidffiegkaaaGreatDoor
namespace Go.J
open Go
def cJ (u v:Value):dm:=⟨fun _=>u=v,fun _ _ _ h=>h⟩
structure rO where
 slot:Nat
 jO:List Nat
 K:Value→dm
instance:Inhabited rO:=⟨⟨0,[],fun u=>cJ u u⟩⟩
def tU (bs:List rO)(e:Nat→Value)(ds:List Nat):Fr:=ds.map fun j=>((bs.getD j default).slot,e j)
def pa (bs:List rO)(e:Nat→Value)(ds:List Nat):List bQ:=ds.map fun j=>aG ((bs.getD j default).K (e j))
def pb (c:Ctx)(H:List bQ)(slot:Nat)(K:Value→dm)(a:Act)(w:World):Prop:=a.defers=[]∧∃u,a.tmps[slot]?=some u∧Mm c (aG (K u)::H) w
section
variable {P:Program}{ops:Array Oper}{Q:Exit→Act→World→Prop}{n:Nat}{F:Fr}{c:Ctx}{H R:List bQ}
class EO (H H':List bQ):Prop where
 eq:∃L,H'=L++H
instance (priority:=high) EO.here (H:List bQ):EO H H:=⟨[],rfl⟩
instance EO.there (E:bQ)(H H':List bQ)[h:EO H H']:EO H (E::H'):=⟨let⟨L,e⟩:=h.eq;⟨E::L,by rw[e];rfl⟩⟩
theorem eL.tail {c:Ctx}{L H:List bQ}{ρ:Ro}{w:World}(h:eL c (L++H) ρ w):eL c H ρ w:=by
 induction L with
 |nil=>exact h
 |cons E L ih=>exact ih (eL.drop h)
theorem St.aP {Fb:Fr}{H':List bQ}{slot:Nat}{K:Value→dm}(u:Value)(hl:look Fb slot=some u)(d:dm)(hd:K u=d)[hi:jf d H'][tl:EO H H']:St n Fb (Mm c H') (pb c H slot K):=
 fun a w ha hw=>⟨ha.defers,u,ha.slot _ _ hl,by
  rw[hd];obtain⟨ρ,hm⟩:=hw.out
  have lW:=dZ.1 (hm.dK _ hi.mem)
  obtain⟨L,e⟩:=tl.eq;subst e
  exact Mm.mk (hm.tail.fact d lW)⟩
def Oo (P:Program)(ops:Array Oper)(Q:Exit→Act→World→Prop)(n:Nat)(F:Fr)(dr:Prop)(H:List bQ)(bs:List rO)(b:rO)(o:Oper):Prop:=
 ∀(c:Ctx) (e:Nat→Value),(¬dr→¬c.dr)→St n (tU bs e b.jO++F) (Mm c (pa bs e b.jO++H)) (wpList P ops (Exit.then (pb c H b.slot b.K) Q) [o])
theorem Oo.mk {dr:Prop}{bs:List rO}{slot:Nat}{jO:List Nat}{K:Value→dm}{o:Oper}(Ff:(Nat→Value)→Fr)(L:(Nat→Value)→List bQ)(h1:∀e,tU bs e jO=Ff e)(h2:∀e,pa bs e jO=L e)
 (k:∀(c:Ctx) (e:Nat→Value),(¬dr→¬c.dr)→St n (Ff e++F) (Mm c (L e++H)) (wpList P ops (Exit.then (pb c H slot K) Q) [o])):Oo P ops Q n F dr H bs ⟨slot,jO,K⟩ o:=fun c e hd=>by
 show St n (tU bs e jO++F) (Mm c (pa bs e jO++H)) _
 rw[h1,h2];exact k c e hd
def aq (P:Program)(ops:Array Oper)(Q:Exit→Act→World→Prop)(n:Nat)(F:Fr)(dr:Prop)(H:List bQ)(bs:List rO):List rO→List Oper→Prop
 | [],[]=>True
 |b::l,o::m=>Oo P ops Q n F dr H bs b o∧aq P ops Q n F dr H bs l m
 |_,_=>False
theorem aq.nil {dr:Prop}{bs:List rO}:aq P ops Q n F dr H bs [] []:=trivial
theorem aq.cons {dr:Prop}{bs l:List rO}{b:rO}{o:Oper}{m:List Oper}(h:Oo P ops Q n F dr H bs b o)(k:aq P ops Q n F dr H bs l m):aq P ops Q n F dr H bs (b::l) (o::m):=⟨h,k⟩
theorem aq.at_ {dr:Prop}{bs:List rO}:∀{l:List rO} {m:List Oper},aq P ops Q n F dr H bs l m→l.length=m.length∧∀(i:Nat) (b:rO) (o:Oper),l[i]?=some b→m[i]?=some o→Oo P ops Q n F dr H bs b o
 | [],[],_=>⟨rfl,fun i b o h=>by simp at h⟩
 | [],_::_,h=>h.elim
 |_::_,[],h=>h.elim
 |b::l,o::m,h=>by
  obtain⟨h1,h2⟩:=aq.at_ h.2;refine⟨by simp[h1],fun i b' o' hb ho=> ?_⟩
  cases i with
  |zero=>simp at hb ho;subst hb ho;exact h.1
  |succ i=>exact h2 i b' o' (by simpa using hb) (by simpa using ho)
def GM (n lo:Nat)(ex:List Nat)(sd:List (Nat×List Nat))(hd:List Oper):Bool:=
 (sd.zip hd).all (fun p=>p.2.guard.isNone&&p.2.dst==some p.1.1&&Nat.ble (p.1.1+1) n&&(Nat.ble lo p.1.1||ex.contains p.1.1)&&p.1.2.all (fun j=>Nat.ble (j+1) sd.length&&p.2.after.any fun e=>Region.binds .any e&&e.on==j))&&
  (sd.map (·.1)).Nodup
theorem Oq {o:Oper}{a:Act}{w:World}{K:Act→World→Prop}(h:o.wp P a w K Q):o.wp P a w (fun a' w'=>K a' w'∧((∃v,a'=a.put o.dst v)∨a'.defers≠ [])) Q:=by
 unfold Oper.wp at*
 generalize (execOp a.eval o).run P w=r at*
 cases r with
 |ok nx w'=>
  cases nx<;>simp only[Oper.upon]at h⊢
  case value u=>exact⟨h,.inl ⟨u,rfl⟩⟩
  case skip=>exact⟨h,.inl ⟨undef,rfl⟩⟩
  case defer d=>exact⟨h,.inr (by cases o.dst<;>simp[Act.put])⟩
  case enter f args=>
   refine Calls.mono h fun e Mo he=> ?_
   cases e with
   |returned u=>exact⟨he,.inl ⟨u,rfl⟩⟩
   |panicked c=>exact he
   |outgrown=>exact he
  case row rw_ args=>exact Rows.mono h fun u Mo he=>⟨he,.inl ⟨u,rfl⟩⟩
  all_goals exact h
 |halt x w'=>
  cases x<;>simp only[Oper.upon]at h⊢
  all_goals exact h
theorem wD {i:Nat}{o:Oper}(hi:ops[i]?=some o)(hg:o.guard=none){a:Act}{w:World}{K:Act→World→Prop}(h:wpOp P ops Q i K a w):wpOp P ops Q i (fun a' w'=>K a' w'∧((∃v,a'=a.put o.dst v)∨a'.defers≠ [])) a w:=by
 unfold wpOp at*;rw[hi]at h⊢
 have hw:Region.wanted o (yielded ops a.tmps)=true:=by unfold Region.wanted;rw[hg]
 simp only[hw,if_true]at h⊢
 exact h.imp Oq id
theorem Bb {p q:Nat→Bool}{i:Nat}(hp:p i=true)(hq:q i=false)(h:∀j,j≠i→p j=q j):∀m,i<m→(List.range m).countP p=(List.range m).countP q+1:=by
 have eq:∀m,m≤i→(List.range m).countP p=(List.range m).countP q:=by
  intro m hm
  refine List.countP_congr fun j hj=> ?_
  have:=List.mem_range.1 hj
  rw[h j (by omega)]
 intro m
 induction m with
 |zero=>intro h;omega
 |succ m ih=>
  intro hm;rw[List.range_succ,List.countP_append,List.countP_append,List.countP_singleton,List.countP_singleton]
  by_cases e:i=m
  ·subst e
   rw[eq i (Nat.le_refl _),hp,hq];simp
  ·rw[ih (by omega),h m (Ne.symm e)];omega
def Jl (m:Nat)(listed:Array Bool):Nat:=(List.range m).countP fun j=> !listed.getD j true
theorem eL.KG {c:Ctx}{H:List bQ}{ρ:Ro}{w:World}(h:eL c H ρ w):eL ⟨w,ρ,l8 H,c.dr⟩ H ρ w:=
 ⟨rfl,⟨rfl,fun _=>Nat.le_refl _⟩,rfl,Nat.le_refl _,fun _ _ _=>rfl,h.fits,Ro.le_refl _,fun _ _ _=>rfl,h.dK,fun E hE b hb=>⟨(h.own E hE b hb).1,.inr ⟨E,hE,hb⟩⟩,h.Cv⟩
theorem zV:∀{F:Fr} {t:Nat} {x:Value},look F t=some x→t∈F.map (·.1)
 | [],_,_,h=>by simp[look]at h
 |(k,u)::F,t,x,h=>by
  simp only[look]at h
  cases hb:Nat.beq t k with
  |true=>rw[Nat.eq_of_beq_eq_true hb];simp
  |false=>
   simp only[hb,cond_false]at h
   have:=zV h
   simp only[List.map_cons,List.mem_cons];exact .inr this
def xw (acc:List Nat)(o:Oper):Nat:=o.after.toList.foldl (fun u e=>if Region.binds .any e then u|||(2^e.on|||acc.getD e.on 0)else u) 0
def fM:List Oper→List Nat→List Nat
 | [],acc=>acc
 |o::l,acc=>fM l (acc++ [xw acc o])
theorem Bc (acc:List Nat)(o:Oper){j:Nat}(h:(xw acc o).testBit j=true):∃e∈o.after,Region.binds .any e=true∧(e.on=j∨(acc.getD e.on 0).testBit j=true):=by
 have key:∀(l:List Edge) (u:Nat),(l.foldl (fun u e=>if Region.binds .any e then u|||(2^e.on|||acc.getD e.on 0)else u) u).testBit j=true→u.testBit j=true∨∃e∈l,Region.binds .any e=true∧(e.on=j∨(acc.getD e.on 0).testBit j=true):=by
  intro l
  induction l with
  |nil=>intro u h;exact .inl h
  |cons e l ih=>
   intro u h;rw[List.foldl_cons]at h
   rcases ih _ h with h1|⟨e',he,h1⟩
   ·split at h1
    ·rename_i hb
     rw[Nat.testBit_or,Nat.testBit_or,Bool.or_eq_true,Bool.or_eq_true,Nat.testBit_two_pow,decide_eq_true_eq]at h1
     rcases h1 with h1|h1
     ·exact .inl h1
     ·exact .inr ⟨e,List.mem_cons_self ..,hb,h1⟩
    ·exact .inl h1
   ·exact .inr ⟨e',List.mem_cons_of_mem _ he,h1⟩
 rcases key _ _ h with h1|⟨e,he,h1⟩
 ·rw[Nat.zero_testBit]at h1;cases h1
 ·exact⟨e,by simpa using he,h1⟩
theorem mJ:∀(l m:List Oper) (acc:List Nat),fM (l++m) acc=fM m (fM l acc)
 | [],_,_=>rfl
 |o::l,m,acc=>by rw[List.cons_append,fM,fM,mJ l m]
theorem ql:∀(l:List Oper) (acc:List Nat),(fM l acc).length=acc.length+l.length
 | [],_=>rfl
 |o::l,acc=>by rw[fM,ql l];simp;omega
theorem qm:∀(l:List Oper) (acc:List Nat) (i:Nat),i<acc.length→(fM l acc)[i]?=acc[i]?
 | [],_,_,_=>rfl
 |o::l,acc,i,h=>by rw[fM,qm l _ i (by simp;omega),List.getElem?_append_left h]
theorem GN {l:List Oper}{i:Nat}{o:Oper}(h:l[i]?=some o):(fM l []).getD i 0=xw (fM (l.take i) []) o:=by
 have hi:=(List.getElem?_eq_some_iff.1 h).1
 have e:fM l []=fM (l.drop (i+1)) (fM (l.take i) []++ [xw (fM (l.take i) []) o]):=by
  conv=>lhs;rw[←List.take_append_drop i l]
  rw[mJ,List.drop_eq_getElem_cons hi,fM];rw[List.getElem?_eq_getElem hi]at h;rw[Option.some.inj h]
 have hl:(fM (l.take i) []).length=i:=by rw[ql,List.length_take];simp;omega
 rw[e,List.getD_eq_getElem?_getD,qm _ _ _ (by simp[hl]),List.getElem?_append_right (by omega),hl,Nat.sub_self];rfl
theorem Bd {l:List Oper}{i j:Nat}(h:j<i)(hi:i≤l.length):(fM (l.take i) []).getD j 0=(fM l []).getD j 0:=by
 have e:fM l []=fM (l.drop i) (fM (l.take i) []):=by rw[←mJ,List.take_append_drop]
 rw[e,List.getD_eq_getElem?_getD,List.getD_eq_getElem?_getD,qm (l.drop i) (fM (l.take i) []) j (by rw[ql,List.length_take];simp;omega)]
def nF (l:List Oper)(m:Nat):Bool:=
 ((List.range l.length).all fun i=>match l[i]? with
  |some o=>(o.after.all fun e=>Nat.ble (e.on+1) i)&&(Nat.ble i m||o.after.any fun e=>Region.binds .any e&&e.on==i-1)
  |none=>false)&&(Nat.ble l.length m||(fM l []).getD m 0==2^m-1)
theorem k8 {l:List Oper}{m i:Nat}{o:Oper}(h:nF l m=true)(ho:l[i]?=some o):∀e∈o.after,e.on<i:=by
 have hi:=(List.getElem?_eq_some_iff.1 ho).1
 simp only[nF,Bool.and_eq_true]at h
 have h1:=List.all_eq_true.1 h.1 i (List.mem_range.2 hi)
 simp only[ho,Bool.and_eq_true]at h1
 intro e he;exact Nat.le_of_ble_eq_true ((Array.all_eq_true_iff_forall_mem.1 h1.1) e he)
theorem tV {l:List Oper}{m i:Nat}{o:Oper}(h:nF l m=true)(ho:l[i]?=some o)(hm:m<i):∃e∈o.after,Region.binds .any e=true∧e.on=i-1:=by
 have hi:=(List.getElem?_eq_some_iff.1 ho).1
 simp only[nF,Bool.and_eq_true]at h
 have h1:=List.all_eq_true.1 h.1 i (List.mem_range.2 hi)
 simp only[ho,Bool.and_eq_true,Bool.or_eq_true]at h1
 rcases h1.2 with h2|h2
 ·have:=Nat.le_of_ble_eq_true h2;omega
 ·obtain⟨e,he,hb⟩:=Array.any_eq_true'.1 h2
  simp only[Bool.and_eq_true,beq_iff_eq]at hb
  exact⟨e,he,hb.1,hb.2⟩
def sb (l:List Oper)(listed:Array Bool):Prop:=∀i o,l[i]?=some o→listed.getD i false=true→∀e∈o.after,Region.binds .any e=true→listed.getD e.on false=true
theorem sb.all {l:List Oper}{m:Nat}{listed:Array Bool}(hB:nF l m=true)(hc:sb l listed):∀(i:Nat) (o:Oper),l[i]?=some o→(∀e∈o.after,Region.binds .any e=true→listed.getD e.on false=true)→∀j,((fM l []).getD i 0).testBit j=true→listed.getD j false=true:=by
 intro i
 induction i using Nat.strongRecOn with
 |ind i ih=>
  intro o ho eP j hj
  have hi:=(List.getElem?_eq_some_iff.1 ho).1
  rw[GN ho]at hj;obtain⟨e,he,hb,h1⟩:=Bc _ _ hj
  have iW:=k8 hB ho e he
  have hl:=eP e he hb
  rcases h1 with rfl|h1
  ·exact hl
  ·rw[Bd iW (by omega)]at h1
   have hoe:l[e.on]?=some l[e.on]:=List.getElem?_eq_getElem (by omega)
   exact ih e.on iW _ hoe (hc _ _ hoe hl) j h1
theorem pc {l:List Oper}{m:Nat}(hB:nF l m=true):∀(r:List Oper) (k:Nat) (listed:Array Bool) (a:Act) (w:World),m≤k→(∀j:Nat,r[j]?=l[k+j]?)→k+r.length=l.length→xY k listed l.length→
 wpList P l.toArray Q r a w→wpAny P .any l.toArray Q r.length listed a w
 | [],k,listed,a,w,_,_,hs,hu,h=>by
  refine⟨?_,h⟩;unfold Region.ready;rw[List.filter_eq_nil_iff];intro i hi
  have hi':=List.mem_range.1 hi
  simp only[List.size_toArray]at hi'
  have:listed.getD i true=true:=by rw[hu.getD i true hi'];simp at hs;simp;omega
  simp[this]
 |o::r,k,listed,a,w,hmk,hl,hs,hu,h=>by
  have hk:k<l.length:=by simp at hs;omega
  have ho:l[k]?=some o:=by simpa using (hl 0).symm
  have pP:l.toArray[k]?=some o:=by simpa using ho
  have fR:listed.size=l.length:=hu.1
  refine⟨fun h0=> ?_,fun i hi=> ?_⟩
  ·have:k∈Region.ready .any l.toArray listed:=mem_ready.2 ⟨by rw[hu.getD k true hk];simp,o,pP,fun e he _=>by
    have:=k8 hB ho e he
    rw[hu.getD e.on false (by omega)];simp[this]⟩
   rw[h0]at this;cases this
  ·obtain⟨N4,oi,D8,eP⟩:=mem_ready.1 hi
   have KH:i<l.length:=by have:=(Array.getElem?_eq_some_iff.1 D8).1;simpa using this
   have EP:l[i]?=some oi:=by simpa using D8
   rw[hu.getD i true KH]at N4
   have Wn:k≤i:=by simpa using N4
   have hik:i=k:=by
    rcases Nat.lt_or_ge k i with h1|h1
    ·obtain⟨e,he,hb,hon⟩:=tV hB EP (by omega)
     have h2:=eP e he hb
     rw[hon,hu.getD (i-1) _ (by omega)]at h2
     simp at h2;omega
    ·omega
   subst hik
   have ih:=pc hB r (i+1) (listed.setIfInBounds i true)
   have ih':∀a w,wpList P l.toArray Q r a w→wpAny P .any l.toArray Q r.length (listed.setIfInBounds i true) a w:=fun a w h=>
    ih a w (by omega) (fun j=>by have:=hl (j+1);simpa[Nat.add_assoc,Nat.add_comm 1 j]using this) (by simp at hs⊢;omega) hu.set h
   unfold wpOp;rw[pP]
   simp only[wpList]at h
   simp only
   split
   ·rename_i hw
    simp only[hw,if_true]at h
    exact h.imp (Oper.wp_mono ih') id
   ·rename_i hw
    simp only[hw]at h
    exact ih' _ _ h
def Xok:Option (Nat×TypeId×Array Value)→Array Bool→(Nat→Value)→List bQ→Prop
 |none,_,_,X=>X=[]
 |some (ia,ta,Z),listed,e,X=>(listed.getD ia false=true∧∃b,e ia= .pointer (some ⟨b,0,none⟩)∧X=[ae b (.cells Z ta (0,0))])∨(listed.getD ia false=false∧X=[])
structure Be (al:Option (Nat×TypeId×Array Value))(n:Nat)(F:Fr)(c:Ctx)(H:List bQ)(bs:List rO)(listed:Array Bool)(a:Act)(w:World)(e:Nat→Value)(ρ:Ro)(X:List bQ):Prop where
 has:Has n a F
 mem:eL c (H++X) ρ w
 YG:Xok al listed e X
 YH:∀(i:Nat) (b:rO),bs[i]?=some b→listed.getD i false=true→a.tmps[b.slot]?=some (e i)∧(b.K (e i)).f ρ
theorem Be.use {al:Option (Nat×TypeId×Array Value)}{X:List bQ}{bs:List rO}{listed:Array Bool}{a:Act}{w:World}{e:Nat→Value}{ρ:Ro}(h:Be al n F c H bs listed a w e ρ X)(ds:List Nat)(hd:∀j∈ds,j<bs.length∧listed.getD j false=true):
 Has n a (tU bs e ds++F)∧eL c (pa bs e ds++(H++X)) ρ w:=by
 have gd:∀j,j<bs.length→bs[j]?=some (bs.getD j default):=fun j hj=>by rw[List.getD_eq_getElem?_getD,List.getElem?_eq_getElem hj];rfl
 constructor
 ·refine⟨h.has.size,h.has.defers,fun t v hv=> ?_⟩
  induction ds with
  |nil=>exact h.has.slot t v hv
  |cons j ds ih=>
   simp only[tU,List.map_cons,List.cons_append,look]at hv
   cases hb:Nat.beq t (bs.getD j default).slot with
   |true=>
    have e1:=Nat.eq_of_beq_eq_true hb
    simp only[hb,cond_true,Option.some.injEq]at hv
    subst hv;obtain⟨h1,h2⟩:=hd j (List.mem_cons_self ..)
    rw[e1];exact(h.YH j _ (gd j h1) h2).1
   |false=>
    simp only[hb,cond_false]at hv
    exact ih (fun k hk=>hd k (List.mem_cons_of_mem _ hk)) hv
 ·have e1:pa bs e ds=(ds.map fun j=>(bs.getD j default).K (e j)).map aG:=by unfold pa;rw[List.map_map];rfl
  rw[e1]
  refine h.mem.zE _ fun d lW=> ?_
  obtain⟨j,hj,rfl⟩:=List.mem_map.1 lW;obtain⟨h1,h2⟩:=hd j hj;exact(h.YH j _ (gd j h1) h2).2
def Rj (P:Program)(ops:Array Oper)(n:Nat)(bs:List rO):Option (Nat×TypeId×Array Value)→Prop
 |none=>True
 |some (ia,ta,Z)=>(∃d ty pos after,ops[ia]?=some {dst:=some d,op:= .alloc ta,type:=ty,pos:=pos,after:=after,guard:=none}∧Nat.ble (d+1) n=true)∧(P.info? ta).bind (fun i=>i.zero.map Value.cells)=some Z∧(bs.getD ia default).K=(fun u=>cJ u u)
def alE (al:Option (Nat×TypeId×Array Value))(e:Nat→Value)(H:List bQ)(h:List bQ→Prop):Prop:=match al with
 |none=>h H
 |some (ia,ta,Z)=>∀b,e ia= .pointer (some ⟨b,0,none⟩)→h (ae b (.cells Z ta (0,0))::H)
theorem Ot {al:Option (Nat×TypeId×Array Value)}{bs:List rO}(Rk:Rj P ops n bs al){hd tl:List Oper}{lo:Nat}{ex:List Nat}{sd:List (Nat×List Nat)}(Ou:bs.map (fun b=>(b.slot,b.jO))=sd)(Fm:F.all (fun p=>Nat.ble (p.1+1) lo&& !(ex.contains p.1))=true)(Bf:ops=(hd++tl).toArray)(hB:nF (hd++tl) hd.length=true)(hb:GM n lo ex sd hd=true)(hH:aq P ops Q n F c.dr H bs bs hd)(mK:List Nat)(rP:mK.all (fun j=>Nat.ble (j+1) sd.length)=true)
 (Qm:∀ia ta Z,al=some (ia,ta,Z)→ia<hd.length)
 (tW:∀e,alE al e H fun H'=>St n (tU bs e mK++F) (Mm c (pa bs e mK++H')) (wpList P ops Q tl)):
 ∀(f:Nat) (listed:Array Bool) (a:Act) (w:World) (e:Nat→Value) (ρ:Ro) (X:List bQ),listed.size=ops.size→sb (hd++tl) listed→(∀j,hd.length≤j→j<ops.size→listed[j]?=some false)→Jl hd.length listed=f→
  Be al n F c H bs listed a w e ρ X→wpAny P .any ops Q (f+tl.length) listed a w:=by
 obtain⟨hlen,hat⟩:=hH.at_
 have fR:ops.size=hd.length+tl.length:=by rw[Bf];simp
 have YI:∀i,i<hd.length→ops[i]?=hd[i]?:=fun i hi=>by rw[Bf];simp[List.getElem?_append_left hi]
 subst Ou
 simp only[GM,Bool.and_eq_true,decide_eq_true_eq]at hb
 obtain⟨Qn,Fo⟩:=hb;rw[List.map_map]at Fo
 change (bs.map (·.slot)).Nodup at Fo
 rw[List.length_map]at rP
 have Qn:=List.all_eq_true.1 Qn
 have each:∀(i:Nat) (b:rO) (o:Oper),bs[i]?=some b→hd[i]?=some o→o.guard=none∧o.dst=some b.slot∧b.slot<n∧b.slot∉F.map (·.1)∧∀j∈b.jO,j<bs.length∧∃ed∈o.after,Region.binds .any ed=true∧ed.on=j:=by
  intro i b o N5 ho
  have h1:=Qn ((b.slot,b.jO),o) (List.mem_of_getElem? (i:=i) (by rw[List.getElem?_zip_eq_some];exact⟨by rw[List.getElem?_map,N5];rfl,ho⟩))
  simp only[Bool.and_eq_true,Option.isNone_iff_eq_none,beq_iff_eq,Bool.not_eq_true']at h1
  obtain⟨⟨⟨⟨h1,h2⟩,h3⟩,h4⟩,h5⟩:=h1
  refine⟨h1,h2,Nat.le_of_ble_eq_true h3,fun hm=>(by
   obtain⟨p,hp,he⟩:=List.mem_map.1 hm
   have q0:=List.all_eq_true.1 Fm p hp
   simp only[Bool.and_eq_true,Bool.not_eq_true']at q0
   have q1:=Nat.le_of_ble_eq_true q0.1
   have q3:p.1=b.slot:=he
   rcases Bool.or_eq_true _ _|>.mp h4 with q2|q2
   ·have q2:=Nat.le_of_ble_eq_true q2
    omega
   ·rw[q3]at q0;rw[q2]at q0;cases q0.2),fun j hj=> ?_⟩
  have h6:=List.all_eq_true.1 h5 j hj
  simp only[Bool.and_eq_true]at h6
  obtain⟨ed,Qo,Ov⟩:=Array.any_eq_true'.1 h6.2
  simp only[Bool.and_eq_true,beq_iff_eq]at Ov
  exact⟨by have:=Nat.le_of_ble_eq_true h6.1;rwa[List.length_map]at this,ed,Qo,Ov.1,Ov.2⟩
 intro f
 induction f with
 |zero=>
  intro listed a w e ρ X hs K5 ER hu hI
  have all:∀j,j<hd.length→listed[j]?=some true:=fun j hj=>by
   have h1:¬0<Jl hd.length listed:=by omega
   unfold Jl at h1;rw[List.countP_pos_iff]at h1
   have iW:j<listed.size:=by omega
   cases hv:listed[j]? with
   |none=>rw[Array.getElem?_eq_none_iff]at hv;omega
   |some b=>
    cases b with
    |true=>rfl
    |false=>exact absurd ⟨j,List.mem_range.2 hj,by rw[Array.getD_eq_getD_getElem?,hv];rfl⟩ h1
  have Rl:xY hd.length listed ops.size:=⟨hs,fun j hj=>by
   rcases Nat.lt_or_ge j hd.length with h|h
   ·rw[all j h];simp[h]
   ·rw[ER j h hj];simp[Nat.not_lt.2 h]⟩
  rw[Nat.zero_add];rw[Bf]at Rl⊢;refine pc hB tl hd.length listed a w (Nat.le_refl _) (fun j=>by simp[List.getElem?_append_right]) (by simp) (by simpa using Rl) ?_;rw[←Bf]
  obtain⟨h1,h2⟩:=hI.use mK fun j hj=>by
   have h3:=Nat.le_of_ble_eq_true (List.all_eq_true.1 rP j hj)
   exact⟨h3,by rw[Array.getD_eq_getD_getElem?,all j (by omega)];rfl⟩
  have ht:=tW e
  have hx:=hI.YG
  cases al with
  |none=>
   have hx:X=[]:=hx
   subst hx;exact ht a w h1 (Mm.mk (by rw[List.append_nil]at h2;exact h2))
  |some q=>
   obtain⟨ia,ta,Z⟩:=q
   have hl:listed.getD ia false=true:=by rw[Array.getD_eq_getD_getElem?,all ia (Qm ia ta Z rfl)];rfl
   rcases hx with⟨_,b,hb,rfl⟩|⟨hb,_⟩
   ·exact ht b hb a w h1 (Mm.mk (h2.perm (List.Perm.append_left _ (List.perm_append_comm (l₁:=H) (l₂:=[ae b (.cells Z ta (0,0))])))))
   ·rw[hl]at hb;cases hb
 |succ f ih=>
  intro listed a w e ρ X hs K5 ER hu hI
  have hex:∃j,j<hd.length∧listed.getD j true=false:=by
   have h1:0<Jl hd.length listed:=by omega
   unfold Jl at h1;rw[List.countP_pos_iff]at h1;obtain⟨j,hj,h⟩:=h1;exact⟨j,List.mem_range.1 hj,by simpa using h⟩
  rw[show f+1+tl.length=(f+tl.length)+1 by omega];refine⟨fun h0=> ?_,fun i hi=> ?_⟩
  ·obtain⟨j,hj,Qp⟩:=hex
   exact absurd h0 (vK hs (fun i o ho=>k8 hB (by rw[Bf]at ho;simpa using ho)) ⟨j,by omega,Qp⟩)
  ·obtain⟨N4,o,D8,eP⟩:=mem_ready.1 hi
   have hiN:i<ops.size:=(Array.getElem?_eq_some_iff.1 D8).1
   have him:i<hd.length:=by
    rcases Nat.lt_or_ge i hd.length with h|h
    ·exact h
    ·obtain⟨j,hj,Qp⟩:=hex
     exfalso
     have EP:(hd++tl)[i]?=some o:=by rw[Bf]at D8;simpa using D8
     rcases Nat.lt_or_ge hd.length i with h2|h2
     ·obtain⟨ed,Qo,Ov,he3⟩:=tV hB EP h2
      have h1:=eP ed Qo Ov
      rw[he3]at h1
      have h3:=ER (i-1) (by omega) (by omega)
      rw[Array.getD_eq_getD_getElem?,h3]at h1
      cases h1
     ·obtain rfl:i=hd.length:=by omega
      have Rm:(fM (hd++tl) []).getD hd.length 0=2^hd.length-1:=by
       simp only[nF,Bool.and_eq_true,Bool.or_eq_true]at hB
       rcases hB.2 with h3|h3
       ·have:=Nat.le_of_ble_eq_true h3
        have iW:=(List.getElem?_eq_some_iff.1 EP).1
        omega
       ·simpa using h3
      have h1:=K5.all hB _ o EP (fun ed Qo Ov=>by
       have h3:=eP ed Qo Ov
       have iW:=k8 hB EP ed Qo
       rw[Array.getD_eq_getD_getElem?,Array.getElem?_eq_getElem (show ed.on<listed.size by omega)]at h3⊢
       simpa using h3) j (by rw[Rm,Nat.testBit_two_pow_sub_one];simpa using hj)
      have iW:j<listed.size:=by omega
      rw[Array.getD_eq_getD_getElem?,Array.getElem?_eq_getElem iW]at h1 Qp
      simp at h1 Qp
      rw[h1]at Qp;cases Qp
   have hho:hd[i]?=some o:=by rw[←YI i him];exact D8
   have N5:bs[i]?=some (bs[i]'(by omega)):=List.getElem?_eq_getElem (by omega)
   generalize bs[i]'(by omega)=b at N5
   obtain⟨g1,g2,g3,g4,g5⟩:=each i b o N5 hho
   have YL:=hat i b o N5 hho
   obtain⟨u1,u2⟩:=hI.use b.jO fun j hj=>by
    obtain⟨q1,ed,q2,q3,q4⟩:=g5 j hj;refine⟨q1,?_⟩
    have h1:=eP ed q2 q3
    rw[q4]at h1
    have iW:j<listed.size:=by omega
    rw[Array.getD_eq_getD_getElem?,Array.getElem?_eq_getElem iW]at h1⊢
    simpa using h1
   have iW:i<listed.size:=by omega
   have Rn:Jl hd.length (listed.setIfInBounds i true)=f:=by
    have h1:=Bb (p:=fun j=> !listed.getD j true) (q:=fun j=> !(listed.setIfInBounds i true).getD j true) (i:=i) (by simp[N4]) (by simp[Array.getD_eq_getD_getElem?,iW]) (fun j hj=>by
     simp only[Array.getD_eq_getD_getElem?,Array.getElem?_setIfInBounds];rw[if_neg (Ne.symm hj)]) hd.length him
    unfold Jl at hu⊢;omega
   have Ow:∀j,hd.length≤j→j<ops.size→(listed.setIfInBounds i true)[j]?=some false:=fun j hj YM=>by
    rw[Array.getElem?_setIfInBounds,if_neg (by omega)];exact ER j hj YM
   have other:∀j,j≠i→(listed.setIfInBounds i true).getD j false=listed.getD j false:=fun j hj=>by
    rw[Array.getD_eq_getD_getElem?,Array.getD_eq_getD_getElem?,Array.getElem?_setIfInBounds,if_neg (Ne.symm hj)]
   have Rq:sb (hd++tl) (listed.setIfInBounds i true):=fun j oj hj Rs ed he hb=>by
    have fz:ed.on≠i→(listed.setIfInBounds i true).getD ed.on false=listed.getD ed.on false:=fun h=>other _ h
    have Rt:(listed.setIfInBounds i true).getD i false=true:=by rw[Array.getD_eq_getD_getElem?,Array.getElem?_setIfInBounds,if_pos rfl,if_pos iW];rfl
    by_cases e1:ed.on=i
    ·rw[e1];exact Rt
    ·rw[fz e1]
     by_cases e2:j=i
     ·subst e2
      have:oj=o:=by
       have q:(hd++tl)[j]?=some o:=by rw[Bf]at D8;simpa using D8
       rw[q]at hj;exact(Option.some.inj hj).symm
      subst this
      have h3:=eP ed he hb
      have adT:=k8 hB hj ed he
      rw[Array.getD_eq_getD_getElem?,Array.getElem?_eq_getElem (show ed.on<listed.size by omega)]at h3⊢
      simpa using h3
     ·rw[other _ e2]at Rs
      exact K5 j oj hj Rs ed he hb
   have Ru:∀v,Has n (a.put (some b.slot) v) F:=fun v=>by
    refine⟨by simp[Act.put,hI.has.size],by simp[Act.put,hI.has.defers],fun t x hx=> ?_⟩
    have fz:b.slot≠t:=fun h=>g4 (h▸zV hx)
    simp[Act.put,fz,hI.has.slot t x hx]
   have Rv:∀(v:Value) (ib:Ro),Ro.le ρ ib→(b.K v).f ib→∀(j:Nat) (bj:rO),bs[j]?=some bj→(listed.setIfInBounds i true).getD j false=true→
    (a.put (some b.slot) v).tmps[bj.slot]?=some (if j=i then v else e j)∧(bj.K (if j=i then v else e j)).f ib:=fun v ib hle hKv j bj N6 Rs=>by
    by_cases e1:j=i
    ·subst e1
     rw[N5]at N6;cases N6
     have sc:b.slot<a.tmps.size:=by rw[hI.has.size];exact g3
     refine⟨by rw[if_pos rfl];simp[Act.put,sc],by rw[if_pos rfl];exact hKv⟩
    ·rw[if_neg e1]
     rw[other j e1]at Rs;obtain⟨k1,k2⟩:=hI.YH j bj N6 Rs;refine⟨?_,(bj.K (e j)).mono ρ ib hle k2⟩
     have fz:b.slot≠bj.slot:=fun h=>by
      have q1:(bs.map (·.slot))[i]?=some b.slot:=by rw[List.getElem?_map,N5];rfl
      have q2:(bs.map (·.slot))[j]?=some bj.slot:=by rw[List.getElem?_map,N6];rfl
      have:=(List.getElem?_inj (i:=i) (j:=j) (by rw[List.length_map];omega) Fo).1 (by rw[q1,q2,h])
      exact e1 this.symm
     simp[Act.put,fz,k1]
   have r0:eL ⟨w,ρ,l8 H,c.dr⟩ H ρ w:=(hI.mem.left).KG
   by_cases Rx:∃ta Z,al=some (i,ta,Z)
   ·obtain⟨ta,Z,rfl⟩:=Rx
    obtain⟨⟨d0,Wo,KI,Wp,Ry,Cw⟩,hz,hK⟩:=Rk;rw[D8]at Ry
    have ho:o={dst:=some d0,op:= .alloc ta,type:=Wo,pos:=KI,after:=Wp,guard:=none}:=Option.some.inj Ry
    have hd1:d0=b.slot:=by rw[ho]at g2;exact Option.some.inj g2
    have Qq:X=[]:=by
     rcases hI.YG with⟨hx,_⟩|⟨_,hx⟩
     ·rw[Array.getD_eq_getD_getElem?,Array.getElem?_eq_getElem iW]at N4 hx
      simp at N4 hx
      rw[N4]at hx;cases hx
     ·exact hx
    subst Qq
    have k1:wpOp P ops Q i (fun a' w'=>a'.defers=[]∧∃b0,a'.tmps[b.slot]?=some (.pointer (some ⟨b0,0,none⟩))∧Mm ⟨w,ρ,l8 H,c.dr⟩ (ae b0 (.cells Z ta (0,0))::H) w') a w:=by
     refine St.one (n:=n) (F:=F) (A:=Mm ⟨w,ρ,l8 H,c.dr⟩ H) D8 ?_ a w hI.has (Mm.mk r0);rw[ho];refine St.alloc hz Cw (fun b0=>St.nil (St.aA fun a' w' Fq zB=>⟨Fq.defers,b0,?_,zB⟩));rw[←hd1];exact Fq.slot _ _ (by simp[look])
    refine wpOp_mono (fun a' w' hk=> ?_) (wD D8 g1 k1);obtain⟨⟨YN,b0,Rz,jK⟩,Ox⟩:=hk
    rcases Ox with⟨v,rfl⟩|xx
    ·obtain⟨ib,jK⟩:=jK.out
     have il:eL c (H++ [ae b0 (.cells Z ta (0,0))]) ib w':=by
      have:=eL.step (R:=[]) hI.mem jK
      rw[List.append_nil]at this;exact this.perm (List.perm_append_comm (l₁:=[ae b0 (.cells Z ta (0,0))]) (l₂:=H))
     rw[g2]at Rz⊢
     have YO:v= .pointer (some ⟨b0,0,none⟩):=by
      have:b.slot<a.tmps.size:=by rw[hI.has.size];exact g3
      simpa[Act.put,this]using Rz
     have hKb:b.K=fun u=>cJ u u:=by
      have:bs.getD i default=b:=by rw[List.getD_eq_getElem?_getD,N5];rfl
      rw[←this];exact hK
     refine ih (listed.setIfInBounds i true) _ w' (fun k=>if k=i then v else e k) ib _ (by simp[hs]) Rq Ow Rn ⟨Ru v,il,.inl ⟨?_,b0,?_,rfl⟩,Rv v ib jK.le ?_⟩
     ·rw[Array.getD_eq_getD_getElem?,Array.getElem?_setIfInBounds,if_pos rfl,if_pos iW];rfl
     ·show(if i=i then v else e i)=_
      rw[if_pos rfl];exact YO
     ·rw[hKb];exact rfl
    ·exact absurd YN xx
   ·have k1:=St.one (i:=i) D8 (YL ⟨w,ρ,l8 H,c.dr⟩ e (fun h=>h)) a w u1 (Mm.mk (by
     have e1:pa bs e b.jO=(b.jO.map fun j=>(bs.getD j default).K (e j)).map aG:=by unfold pa;rw[List.map_map];rfl
     rw[e1]
     refine r0.zE _ fun d lW=> ?_
     have:=u2.dK (aG d) (List.mem_append_left _ (by rw[e1];exact List.mem_map_of_mem lW))
     exact dZ.1 this))
    refine wpOp_mono (fun a' w' hk=> ?_) (wD D8 g1 k1);obtain⟨⟨YN,u,Rz,jK⟩,Ox⟩:=hk
    rcases Ox with⟨v,rfl⟩|xx
    ·obtain⟨ib,jK⟩:=jK.out
     have hKu:(b.K u).f ib:=dZ.1 (jK.dK _ (List.mem_cons_self ..))
     have il:eL c (H++X) ib w':=eL.step hI.mem jK.drop
     rw[g2]at Rz⊢
     have YO:v=u:=by
      have:b.slot<a.tmps.size:=by rw[hI.has.size];exact g3
      simpa[Act.put,this]using Rz
     subst YO;refine ih (listed.setIfInBounds i true) _ w' (fun k=>if k=i then v else e k) ib X (by simp[hs]) Rq Ow Rn ⟨Ru v,il,?_,Rv v ib jK.le hKu⟩
     have hx:=hI.YG
     cases al with
     |none=>exact hx
     |some q=>
      obtain⟨ia,ta,Z⟩:=q
      have fz:ia≠i:=fun h=>Rx ⟨ta,Z,by rw[h]⟩
      rcases hx with⟨h1,b0,h2,h3⟩|⟨h1,h2⟩
      ·refine .inl ⟨by rw[other ia fz];exact h1,b0,?_,h3⟩
       show(if ia=i then v else e ia)=_
       rw[if_neg fz];exact h2
      ·exact .inr ⟨by rw[other ia fz];exact h1,h2⟩
    ·exact absurd YN xx
theorem St.S1 {id:Nat}(al:Option (Nat×TypeId×Array Value))(m lo:Nat)(ex:List Nat){l:List Oper}(bs:List rO)(sd:List (Nat×List Nat))(mK:List Nat)(Rk:Rj P l.toArray n bs al)(Qm:∀ia ta Z,al=some (ia,ta,Z)→ia<(l.take m).length)(Ou:bs.map (fun b=>(b.slot,b.jO))=sd)(Fm:F.all (fun p=>Nat.ble (p.1+1) lo&& !(ex.contains p.1))=true)(hm:P.follows .mixedOrders=true)(hB:nF l (l.take m).length=true)(hb:GM n lo ex sd (l.take m)=true)(rP:mK.all (fun j=>Nat.ble (j+1) sd.length)=true)
 (hH:aq P l.toArray Q n F c.dr H bs bs (l.take m)) (tW:∀e,alE al e H fun H'=>St n (tU bs e mK++F) (Mm c (pa bs e mK++H')) (wpList P l.toArray Q (l.drop m))):
 St n F (Mm c H) ((Code.region id l.toArray true).wp P Q):=by
 intro a w ha hw;refine wp_region_any hm ?_
 have zB:=(Mm.drawn c H) w hw
 obtain⟨ρ,hr⟩:=zB.out
 have hlen:l.length=(l.take m).length+(l.drop m).length:=by rw[←List.length_append,List.take_append_drop]
 have no:∀i,(Array.replicate l.length false).getD i false=false:=fun i=>by
  rw[Array.getD_eq_getD_getElem?,Array.getElem?_replicate];split<;>rfl
 have h0:=Ot (ops:=l.toArray) (hd:=l.take m) (tl:=l.drop m) Rk Ou Fm (by rw[List.take_append_drop]) (by rw[List.take_append_drop];exact hB) hb hH mK rP Qm tW (Jl (l.take m).length (Array.replicate l.length false)) (Array.replicate l.length false) a {w with drawn:=w.drawn+1} (fun _=>undef) ρ [] (by simp) (fun i _ _ hl=>by rw[no]at hl;cases hl) (fun j hj YM=>by
  rw[Array.getElem?_replicate,if_pos (by simpa using YM)]) rfl ⟨ha,by rw[List.append_nil];exact hr,by
   cases al with
   |none=>exact rfl
   |some q=>exact .inr ⟨no _,rfl⟩,fun i b _ hl=>by rw[no]at hl;cases hl⟩
 have hu:Jl (l.take m).length (Array.replicate l.length false)=(l.take m).length:=by
  unfold Jl;rw[List.countP_eq_length.2,List.length_range];intro j hj
  have:=List.mem_range.1 hj
  rw[Array.getD_eq_getD_getElem?,Array.getElem?_replicate,if_pos (by omega)];rfl
 rw[hu,←hlen]at h0
 simpa using h0
theorem St.ES {T:Act→World→Prop}{a b d e f:bQ}(h:St n F (Mm c (a::b::d::e::f::R)) T):St n F (Mm c ([a,b,d,e,f]++R)) T:=h
theorem St.Oy {T:Act→World→Prop}{a b d e f g:bQ}(h:St n F (Mm c (a::b::d::e::f::g::R)) T):St n F (Mm c ([a,b,d,e,f,g]++R)) T:=h
theorem St.N7 {id:Nat}(m lo:Nat)(ex:List Nat){l:List Oper}(bs:List rO)(sd:List (Nat×List Nat))(mK:List Nat)(Ou:bs.map (fun b=>(b.slot,b.jO))=sd)(Fm:F.all (fun p=>Nat.ble (p.1+1) lo&& !(ex.contains p.1))=true)(hm:P.follows .mixedOrders=true)(hB:nF l (l.take m).length=true)(hb:GM n lo ex sd (l.take m)=true)(rP:mK.all (fun j=>Nat.ble (j+1) sd.length)=true)
 (Ft:(Nat→Value)→Fr) (Lt:(Nat→Value)→List bQ) (t1:∀e,tU bs e mK=Ft e) (t2:∀e,pa bs e mK=Lt e)
 (hH:aq P l.toArray Q n F c.dr H bs bs (l.take m)) (tW:∀e,St n (Ft e++F) (Mm c (Lt e++H)) (wpList P l.toArray Q (l.drop m))):
 St n F (Mm c H) ((Code.region id l.toArray true).wp P Q):=St.S1 none m lo ex bs sd mK trivial (fun _ _ _ h=>by cases h) Ou Fm hm hB hb rP hH (fun e=>by show St _ _ _ _;rw[t1,t2];exact tW e)
theorem St.YP {id:Nat}(ia:Nat){ta:TypeId}{Z:Array Value}{d0 Wo:Nat}{KI:String}{Wp:Array Edge}(m lo:Nat)(ex:List Nat){l:List Oper}(bs:List rO)(sd:List (Nat×List Nat))(mK:List Nat)
 (YL:l.toArray[ia]?=some {dst:=some d0,op:= .alloc ta,type:=Wo,pos:=KI,after:=Wp,guard:=none}) (Cw:Nat.ble (d0+1) n=true) (hz:(P.info? ta).bind (fun i=>i.zero.map Value.cells)=some Z) (hK:(bs.getD ia default).K=(fun u=>cJ u u)) (Qm:Nat.ble (ia+1) (l.take m).length=true)
 (Ou:bs.map (fun b=>(b.slot,b.jO))=sd) (Fm:F.all (fun p=>Nat.ble (p.1+1) lo&& !(ex.contains p.1))=true) (hm:P.follows .mixedOrders=true) (hB:nF l (l.take m).length=true) (hb:GM n lo ex sd (l.take m)=true) (rP:mK.all (fun j=>Nat.ble (j+1) sd.length)=true)
 (Ft:(Nat→Value)→Fr) (Lt:(Nat→Value)→List bQ) (t1:∀e,tU bs e mK=Ft e) (t2:∀e,pa bs e mK=Lt e)
 (hH:aq P l.toArray Q n F c.dr H bs bs (l.take m)) (tW:∀e b,e ia= .pointer (some ⟨b,0,none⟩)→St n (Ft e++F) (Mm c (Lt e++(ae b (.cells Z ta (0,0))::H))) (wpList P l.toArray Q (l.drop m))):
 St n F (Mm c H) ((Code.region id l.toArray true).wp P Q):=
 St.S1 (some (ia,ta,Z)) m lo ex bs sd mK ⟨⟨d0,Wo,KI,Wp,YL,Cw⟩,hz,hK⟩ (fun i _ _ h=>by cases h;exact Nat.le_of_ble_eq_true Qm) Ou Fm hm hB hb rP hH (fun e b hb=>by rw[t1,t2];exact tW e b hb)
end
end Go.J
namespace Go.J
open Go Go.Proofs.YtolmidffiegkaaaGreatDoor
abbrev aQ (x:cT):Value:= .agg #[sv x.base,x.av.1]
abbrev bb (x:cF):Value:= .agg #[iv x.kind,sv x.name,iv x.index,sv x.type.base,x.type.av.1,x.av.1]
abbrev er (x:bh):Value:= .agg #[iv x.eK,iv x.lex,x.kv.1]
abbrev dQ (x:eM):Value:= .agg #[x.nv.1]
abbrev ld (x:bV):Value:= .agg #[sv x.name,x.graph.nv.1,iv x.kids,iv x.weight,iv x.cg.kind,sv x.cg.name,iv x.cg.index,sv x.cg.type.base,x.cg.type.av.1,x.cg.av.1]
abbrev GO (x:cv):Value:= .agg #[sv x.word,x.graph.nv.1,iv x.weight,iv x.cg.kind,sv x.cg.name,iv x.cg.index,sv x.cg.type.base,x.cg.type.av.1,x.cg.av.1]
abbrev iG (g:iX):Value:= .agg #[g.tv.1,g.fv.1,g.rv.1,g.xv.1,g.start.nv.1]
def au (s:dY)(u:Value):dm:=⟨fun ρ=>∃x:cT,u=aQ x∧bK x=s∧gh.wf x∧od ρ x,fun _ _ h ⟨x,a,b,c,d⟩=>⟨x,a,b,c,d.mono h⟩⟩
def isTerm (t:dB)(u:Value):dm:=⟨fun ρ=>∃x:cF,u=bb x∧ax x=t∧cG.wf x∧mG ρ x,fun _ _ h ⟨x,a,b,c,d⟩=>⟨x,a,b,c,d.mono h⟩⟩
def cw (g:iE)(u:Value):dm:=⟨fun ρ=>∃x:eM,u=dQ x∧dN x=g∧(bU x).f ρ,fun _ _ h ⟨x,a,b,c⟩=>⟨x,a,b,(bU x).mono _ _ h c⟩⟩
def dy (r:qT)(u:Value):dm:=⟨fun ρ=>∃x:bV,u=ld x∧mH x=r∧cA.wf x∧(cO x).f ρ,fun _ _ h ⟨x,a,b,c,d⟩=>⟨x,a,b,c,(cO x).mono _ _ h d⟩⟩
def rQ (g:iV)(u:Value):dm:=⟨fun ρ=>∃x:iX,u=iG x∧fV x=g∧(dw x).f ρ,fun _ _ h ⟨x,a,b,c⟩=>⟨x,a,b,(dw x).mono _ _ h c⟩⟩
def jm (ts:List dB)(u:Value):dm:=⟨fun ρ=>u.oneCell'=true∧∃xs:List cF,xs.map ax=ts∧(sl cG u xs).f ρ∧(aY bO xs).f ρ,fun _ _ h ⟨a,xs,b,c,d⟩=>⟨a,xs,b,(sl _ _ _).mono _ _ h c,(aY _ _).mono _ _ h d⟩⟩
def mL (rs:List qT)(u:Value):dm:=⟨fun ρ=>u.oneCell'=true∧∃xs:List bV,xs.map mH=rs∧(sl cA u xs).f ρ∧(aY cO xs).f ρ,fun _ _ h ⟨a,xs,b,c,d⟩=>⟨a,xs,b,(sl _ _ _).mono _ _ h c,(aY _ _).mono _ _ h d⟩⟩
def bp {α:Type}(R:Rp α)(xs:List α)(u:Value):dm:=⟨fun ρ=>u.oneCell'=true∧(sl R u xs).f ρ,fun _ _ h ⟨a,b⟩=>⟨a,(sl _ _ _).mono _ _ h b⟩⟩
def fD {α:Type}(R:Rp α)(xs:List (List α))(u:Value):dm:=⟨fun ρ=>u.oneCell'=true∧(sG R u xs).f ρ,fun _ _ h ⟨a,b⟩=>⟨a,(sG _ _ _).mono _ _ h b⟩⟩
section
variable {n:Nat}{F:Fr}{c:Ctx}{H R:List bQ}{T:Act→World→Prop}
theorem St.bT {P:Program}(k:Nat)(u v:Value)[hd:jf (cJ u v) H](hk:look F k=some u)(h:St n ((k,v)::F) (Mm c H) T):St n F (Mm c H) T:=by
 intro a w ha hw;obtain⟨ρ,hm⟩:=hw.out
 have e:u=v:=dZ.1 (hm.dK _ hd.mem)
 subst e;refine h a w ⟨ha.size,ha.defers,fun t x hx=> ?_⟩ hw
 simp only[look]at hx
 cases hb:Nat.beq t k with
 |true=>
  rw[Nat.eq_of_beq_eq_true hb]
  simp only[hb,cond_true,Option.some.injEq]at hx
  subst hx;exact ha.slot _ _ hk
 |false=>simp only[hb,cond_false]at hx;exact ha.slot _ _ hx
theorem St.pd {ι:Sort _}(d:dm)[hd:jf d H](p:ι→Prop)(L:ι→List dm)(h:∀ρ,d.f ρ→∃x,p x∧∀e∈L x,e.f ρ)(k:∀x,p x→St n F (Mm c ((L x).map aG++H)) T):St n F (Mm c H) T:=by
 intro a w ha hw;obtain⟨ρ,hm⟩:=hw.out;obtain⟨x,hp,hx⟩:=h ρ (dZ.1 (hm.dK _ hd.mem));exact k x hp a w ha (Mm.mk (hm.zE (L x) hx))
theorem St.au (s:dY)(u:Value)[hd:jf (J.au s u) H](k:∀x:cT,u=aQ x∧bK x=s∧gh.wf x→St n F (Mm c (aG (bW x)::H)) T):St n F (Mm c H) T:=
 St.pd (J.au s u) _ (fun x=>[bW x]) (fun ρ ⟨x,a,b,c,d⟩=>⟨x,⟨a,b,c⟩,fun e he=>by rw[List.mem_singleton.1 he];exact d⟩) k
theorem St.isTerm (t:dB)(u:Value)[hd:jf (J.isTerm t u) H](k:∀x:cF,u=bb x∧ax x=t∧cG.wf x→St n F (Mm c (aG (bO x)::H)) T):St n F (Mm c H) T:=
 St.pd (J.isTerm t u) _ (fun x=>[bO x]) (fun ρ ⟨x,a,b,c,d⟩=>⟨x,⟨a,b,c⟩,fun e he=>by rw[List.mem_singleton.1 he];exact d⟩) k
theorem St.cw (g:iE)(u:Value)[hd:jf (J.cw g u) H](k:∀x:eM,u=dQ x∧dN x=g→St n F (Mm c (aG (bU x)::H)) T):St n F (Mm c H) T:=
 St.pd (J.cw g u) _ (fun x=>[bU x]) (fun ρ ⟨x,a,b,c⟩=>⟨x,⟨a,b⟩,fun e he=>by rw[List.mem_singleton.1 he];exact c⟩) k
theorem St.dy (r:qT)(u:Value)[hd:jf (J.dy r u) H](k:∀x:bV,u=ld x∧mH x=r∧cA.wf x→St n F (Mm c (aG (cO x)::H)) T):St n F (Mm c H) T:=
 St.pd (J.dy r u) _ (fun x=>[cO x]) (fun ρ ⟨x,a,b,c,d⟩=>⟨x,⟨a,b,c⟩,fun e he=>by rw[List.mem_singleton.1 he];exact d⟩) k
theorem St.rQ (g:iV)(u:Value)[hd:jf (J.rQ g u) H](k:∀x:iX,u=iG x∧fV x=g→St n F (Mm c (aG (dw x)::H)) T):St n F (Mm c H) T:=
 St.pd (J.rQ g u) _ (fun x=>[dw x]) (fun ρ ⟨x,a,b,c⟩=>⟨x,⟨a,b⟩,fun e he=>by rw[List.mem_singleton.1 he];exact c⟩) k
theorem St.jm (ts:List dB)(u:Value)[hd:jf (J.jm ts u) H](k:∀xs:List cF,u.oneCell'=true∧xs.map ax=ts→St n F (Mm c (aG (sl cG u xs)::aG (aY bO xs)::H)) T):St n F (Mm c H) T:=
 St.pd (J.jm ts u) _ (fun xs=>[sl cG u xs,aY bO xs]) (fun ρ ⟨a,xs,b,c,d⟩=>⟨xs,⟨a,b⟩,fun e he=>by
  simp only[List.mem_cons,List.not_mem_nil,or_false]at he
  rcases he with rfl|rfl
  ·exact c
  ·exact d⟩) k
theorem St.mL (ts:List qT)(u:Value)[hd:jf (J.mL ts u) H](k:∀xs:List bV,u.oneCell'=true∧xs.map mH=ts→St n F (Mm c (aG (sl cA u xs)::aG (aY cO xs)::H)) T):St n F (Mm c H) T:=
 St.pd (J.mL ts u) _ (fun xs=>[sl cA u xs,aY cO xs]) (fun ρ ⟨a,xs,b,c,d⟩=>⟨xs,⟨a,b⟩,fun e he=>by
  simp only[List.mem_cons,List.not_mem_nil,or_false]at he
  rcases he with rfl|rfl
  ·exact c
  ·exact d⟩) k
theorem St.bp {α:Type}(Rr:Rp α)(xs:List α)(u:Value)[hd:jf (J.bp Rr xs u) H](k:u.oneCell'=true→St n F (Mm c (aG (sl Rr u xs)::H)) T):St n F (Mm c H) T:=
 St.pd (ι:=Unit) (J.bp Rr xs u) (fun _=>u.oneCell'=true) (fun _=>[sl Rr u xs]) (fun ρ ⟨a,b⟩=>⟨(),a,fun e he=>by rw[List.mem_singleton.1 he];exact b⟩) fun _=>k
theorem St.fD {α:Type}(Rr:Rp α)(xs:List (List α))(u:Value)[hd:jf (J.fD Rr xs u) H](k:u.oneCell'=true→St n F (Mm c (aG (sG Rr u xs)::H)) T):St n F (Mm c H) T:=
 St.pd (ι:=Unit) (J.fD Rr xs u) (fun _=>u.oneCell'=true) (fun _=>[sG Rr u xs]) (fun ρ ⟨a,b⟩=>⟨(),a,fun e he=>by rw[List.mem_singleton.1 he];exact b⟩) fun _=>k
theorem St.mb (b:cQ)(u:Value)(hu:u.oneCell'=true)(l:List cT)[h1:jf (sl gh u l) H][h2:jf (aY bW l) H](k:St n F (Mm c (aG (bW (.mk b ⟨u,hu⟩ l))::H)) T):St n F (Mm c H) T:=
 St.gQ (bW (.mk b ⟨u,hu⟩ l)) [sl gh u l,aY bW l] (fun ρ h=> .mk (h _ (List.mem_cons_self ..)) (h _ (List.mem_cons_of_mem _ (List.mem_cons_self ..)))) k
theorem St.xy (kd:Int)(nm:cQ)(i:Int)(s:cT)(u:Value)(hu:u.oneCell'=true)(l:List cF)[h0:jf (bW s) H][h1:jf (sl cG u l) H][h2:jf (aY bO l) H](k:St n F (Mm c (aG (bO (.mk kd nm i s ⟨u,hu⟩ l))::H)) T):St n F (Mm c H) T:=
 St.gQ (bO (.mk kd nm i s ⟨u,hu⟩ l)) [bW s,sl cG u l,aY bO l] (fun ρ h=> .mk (h (bW s) (by simp)) (h (sl cG u l) (by simp)) (h (aY bO l) (by simp))) k
theorem St.xz (r x:Int)(u:Value)(hu:u.oneCell'=true)(l:List bh)[h1:jf (sl db u l) H][h2:jf (aY cB l) H](k:St n F (Mm c (aG (cB (.mk r x ⟨u,hu⟩ l))::H)) T):St n F (Mm c H) T:=
 St.gQ (cB (.mk r x ⟨u,hu⟩ l)) [sl db u l,aY cB l] (fun ρ h=> .mk (h _ (List.mem_cons_self ..)) (h _ (List.mem_cons_of_mem _ (List.mem_cons_self ..)))) k
theorem St.zW (x:cT){s:dY}(u:Value)(hu:u=aQ x)(hs:bK x=s)(hw:gh.wf x)[hd:jf (bW x) H](k:St n F (Mm c (aG (J.au s u)::H)) T):St n F (Mm c H) T:=
 St.gQ (J.au s u) [bW x] (fun ρ h=>⟨x,hu,hs,hw,h _ (List.mem_cons_self ..)⟩) k
theorem St.toTerm (x:cF){s:dB}(u:Value)(hu:u=bb x)(hs:ax x=s)(hw:cG.wf x)[hd:jf (bO x) H](k:St n F (Mm c (aG (J.isTerm s u)::H)) T):St n F (Mm c H) T:=
 St.gQ (J.isTerm s u) [bO x] (fun ρ h=>⟨x,hu,hs,hw,h _ (List.mem_cons_self ..)⟩) k
theorem St.KJ (x:eM){g:iE}(u:Value)(hu:u=dQ x)(hs:dN x=g)[hd:jf (bU x) H](k:St n F (Mm c (aG (J.cw g u)::H)) T):St n F (Mm c H) T:=
 St.gQ (J.cw g u) [bU x] (fun ρ h=>⟨x,hu,hs,h _ (List.mem_cons_self ..)⟩) k
theorem St.fk {α:Type}{Rr:Rp α}{xs:List α}(u:Value)(hu:u.oneCell'=true)[hd:jf (sl Rr u xs) H](k:St n F (Mm c (aG (J.bp Rr xs u)::H)) T):St n F (Mm c H) T:=
 St.gQ (J.bp Rr xs u) [sl Rr u xs] (fun ρ h=>⟨hu,h _ (List.mem_cons_self ..)⟩) k
theorem St.fE {α:Type}{Rr:Rp α}{xs:List (List α)}(u:Value)(hu:u.oneCell'=true)[hd:jf (sG Rr u xs) H](k:St n F (Mm c (aG (J.fD Rr xs u)::H)) T):St n F (Mm c H) T:=
 St.gQ (J.fD Rr xs u) [sG Rr u xs] (fun ρ h=>⟨hu,h _ (List.mem_cons_self ..)⟩) k
end
abbrev fa:ck:=⟨.slice none 0 0,rfl⟩
end Go.J
namespace Go.J
open Go Go.ChangeShapes Go.WideShapes Go.ChangeAt Go.RowKit Go.Deep Go.Proofs.YtolmidffiegkaaaGreatDoor
section
variable {H:Type}{enc:TypeId×Value→H}{P:Program}{W:World}{α:Type}
abbrev Tr (enc:TypeId×Value→H)(P:Program)(W:World)(n:Nat)(t:TypeId)(cs:List Value)(y:DataW H×List MemPlace):Prop:=DataW.trod enc P W 0 (fun _=>true) true n t cs=some y
theorem Bg {t:TypeId}{fs:Array Field}{ps:List (DataW H)}(ht:P.underlying t=some (.struct fs))(h:lT ((DataW.agg ps).weights P t)=true):lT (DataW.weightsEach P (fs.toList.map (·.type)) ps)=true:=by
 simpa only[DataW.weights,ht]using h
theorem dz {t:TypeId}{fs:Array Field}{n:Nat}{cs:List Value}{y:DataW H×List MemPlace}(ht:P.underlying t=some (.struct fs))(h:Tr enc P W n t cs y)(hw:lT (y.1.weights P t)=true):
 ∃m,n=m+1∧∀(i:Nat) (f:Field),fs[i]?=some f→∃z,Tr enc P W m f.type ((cs.drop f.offset).take (P.cellsOf f.type)) z∧lT (z.1.weights P f.type)=true:=by
 obtain⟨xs,m,hn,hy,_,hl,hf⟩:=DataW.trod_struct ht h;subst hy;refine⟨m,hn,fun i f hi=> ?_⟩
 have h1:=hf i f hi
 have N4:i<fs.size:=(Array.getElem?_eq_some_iff.1 hi).1
 have h2:xs[i]?=some (xs[i]'(by omega)):=List.getElem?_eq_getElem (by omega)
 refine⟨xs[i]'(by omega),h1.trans h2,?_⟩;refine n7 (Bg ht hw) (j:=i) (t:=f.type) (d:=(xs[i]'(by omega)).1) ?_ ?_
 ·rw[List.getElem?_map,Array.getElem?_toList,hi];rfl
 ·rw[List.getElem?_map,h2];rfl
theorem bS {fs:Array Field}{m:Nat}{cs:List Value}(hp:∀(i:Nat) (f:Field),fs[i]?=some f→∃z,Tr enc P W m f.type ((cs.drop f.offset).take (P.cellsOf f.type)) z∧lT (z.1.weights P f.type)=true)
 (i:Nat) {f:Field} {t:TypeId} {o k:Nat} (hi:fs[i]?=some f) (ht:f.type=t) (ho:f.offset=o) (hk:P.cellsOf t=k):∃z,Tr enc P W m t ((cs.drop o).take k) z∧lT (z.1.weights P t)=true:=by
 subst ht ho hk;exact hp i f hi
theorem ET (R:Rp α){t e:TypeId}{Mz:List Value}{d:DataW H}{p:List MemPlace}{fuel:Nat}(ht:P.underlying t=some (.slice e))(hc:P.cellsOf e=R.size)
 (Rg:∀(n:Nat),n<fuel→∀(cs:List Value) (y:DataW H×List MemPlace),cs.length=R.size→Tr enc P W n e cs y→lT (y.1.weights P e)=true→∃x:α,cs=R.cells x∧R.wf x)
 (qd:lT (d.weights P t)=true) (hf:Tr enc P W fuel t Mz (d,p)):∃(v:Value) (xs:List α),Mz=[v]∧v.oneCell'=true∧(sl R v xs).f (J.all W)∧((d= .nil∧xs=[])∨∃es sp,d= .slice es sp∧es.length=xs.length):=by
 rcases DataW.trod_slice ht hf with⟨l9,S2⟩|⟨a,len,cap,elems,rest,n,hn,l9,S2,_,hl,hm,hlen,he,_,_⟩
 ·exact⟨.slice none 0 0,[],l9,rfl,BV _ _,.inl ⟨by simpa using (Prod.mk.inj S2).1,rfl⟩⟩
 ·refine⟨.slice (some a) len cap,?_⟩
  rw[l9]
  suffices hs:∃xs:List α,(sl R (.slice (some a) len cap) xs).f (J.all W)∧((d= .nil∧xs=[])∨∃es sp,d= .slice es sp∧es.length=xs.length) by
   obtain⟨xs,h1,h2⟩:=hs;exact⟨xs,rfl,rfl,h1,h2⟩
  rcases Nat.eq_zero_or_pos len with hz|mD
  ·refine⟨[],⟨_,cap,by rw[hz];rfl,Nat.zero_le _,hm,(fun x hx=>by cases hx),.inl rfl⟩,.inr ⟨_,_,(Prod.mk.inj S2).1,by rw[List.length_map,hlen,hz];rfl⟩⟩
  have each:∀i,i<len→∃x:α,R.wf x∧∀k u,k<R.size→(R.cells x)[k]?=some u→W.cell? ((a.add (i*R.size)).add k)=some u:=fun i hi=>by
   have h0:=he i hi
   rw[List.getElem?_eq_getElem (show i<elems.length by omega)]at h0;obtain⟨cs,h1,h2⟩:=Option.bind_eq_some_iff.1 h0;rw[hc]at h1;obtain⟨_,h4,h5⟩:=World.cells?_some h1;obtain⟨x,rfl,hw⟩:=Rg n (by omega) cs _ h4 h2 (EG ht (by rw[(Prod.mk.inj S2).1]at qd;exact qd) (.inl (List.mem_map_of_mem (List.getElem_mem (show i<elems.length by omega)))));exact⟨x,hw,fun k u hk hu=>by rw[h5 k hk,hu]⟩
  obtain⟨x0,Qr⟩:=each 0 (by omega)
  haveI:Inhabited α:=⟨x0⟩
  obtain⟨X,hX⟩:=choose_lt (α:=α) each
  have tB:((List.range len).map X).length=len:=by simp
  obtain⟨b,off,spot⟩:=a
  have YQ:∃u,(R.cells (X 0))[0]?=some u:=by
   have:=R.len (X 0)
   have:=R.pos
   exact⟨_,List.getElem?_eq_getElem (by omega)⟩
  obtain⟨u0,YQ⟩:=YQ
  have GP:=(hX 0 (by omega)).2 0 u0 R.pos YQ
  rw[Nat.zero_mul,Deep.add_add]at GP;obtain⟨hs,C,e',fr,hb,_⟩:=gC GP
  have zP:spot=none:=by simpa[Addr.add]using hs
  subst zP
  have hb:W.heap[b]?=some (.cells C e' fr):=by simpa[Addr.add]using hb
  refine⟨(List.range len).map X,⟨some ⟨b,off,none⟩,cap,by rw[tB],by rw[tB];exact hl,hm,?_,.inr ⟨b,off,C,e',fr,rfl,hb,?_⟩⟩,.inr ⟨_,_,(Prod.mk.inj S2).1,by simp[hlen]⟩⟩
  ·intro x hx'
   obtain⟨i,hi,rfl⟩:=List.mem_map.1 hx';exact(hX i (List.mem_range.1 hi)).1
  ·intro j u hj
   obtain⟨i,k,x,h1,h2,h3,h4⟩:=xZ _ _ _ hj
   have KH:i<((List.range len).map X).length:=(List.getElem?_eq_some_iff.1 h1).1
   rw[tB]at KH
   have Oz:x=X i:=by simpa[KH]using h1.symm
   subst Oz
   have:=(hX i KH).2 k u h2 h4
   rw[Deep.add_add,←h3]at this;obtain⟨_,C',YC,YD,j6,pV⟩:=gC this
   have j6:W.heap[b]?=some (.cells C' YC YD):=by
    by_cases h0:j=0
    ·subst h0;simpa[Addr.add]using j6
    ·simpa[Addr.add,h0]using j6
   have pV:C'[off+j]?=some u:=by
    by_cases h0:j=0
    ·subst h0;simpa[Addr.add]using pV
    ·simpa[Addr.add,h0]using pV
   rw[hb]at j6
   simp only[Option.some.injEq,Obj.cells.injEq]at j6
   rw[j6.1];exact pV
def Rp.with {α:Type}(R:Rp α)(p:α→Prop):Rp α:=⟨R.size,R.pos,R.cells,fun x=>R.wf x∧p x,R.len,R.one⟩
theorem KK {R:Rp α}{p:α→Prop}{v:Value}{xs:List α}{ρ:Ro}(h:(sl (R.with p) v xs).f ρ):(sl R v xs).f ρ∧∀x∈xs,p x:=by
 obtain⟨a,cap,h1,h2,h3,h4,h5⟩:=h;exact⟨⟨a,cap,h1,h2,h3,fun x hx=>(h4 x hx).1,h5⟩,fun x hx=>(h4 x hx).2⟩
theorem EU {t e:TypeId}{es sp:List (DataW H)}(ht:P.underlying t=some (.slice e))(h:lT ((DataW.slice es sp).weights P t)=true):es.length*P.bytesOf e≤140737488351232:=by
 simp only[lT,DataW.weights,ht,List.all_cons,Bool.and_eq_true,decide_eq_true_eq]at h
 have h1:=h.1
 have h2:es.length*P.bytesOf e≤(es.length+sp.length)*P.bytesOf e:=Nat.mul_le_mul_right _ (by omega)
 unfold reachBytes at h1;omega
theorem fb (R:Rp α)(p:α→Prop){t e:TypeId}{Mz:List Value}{y:DataW H×List MemPlace}{fuel:Nat}(ht:P.underlying t=some (.slice e))(hc:P.cellsOf e=R.size)
 (Rg:∀(n:Nat),n<fuel→∀(cs:List Value) (y:DataW H×List MemPlace),cs.length=R.size→Tr enc P W n e cs y→lT (y.1.weights P e)=true→∃x:α,cs=R.cells x∧R.wf x∧p x)
 (hf:Tr enc P W fuel t Mz y) (qd:lT (y.1.weights P t)=true):∃(v:ck) (xs:List α),Mz=[v.1]∧(sl R v.1 xs).f (J.all W)∧(∀x∈xs,p x)∧xs.length*P.bytesOf e≤140737488351232:=by
 obtain⟨v,xs,h1,h2,h3,h4⟩:=ET (R.with p) (d:=y.1) (p:=y.2) ht hc (fun n hn cs y hl hy hw=>by
  obtain⟨x,a,b⟩:=Rg n hn cs y hl hy hw
  exact⟨x,a,b⟩) qd hf
 obtain⟨h5,h6⟩:=KK h3;refine⟨⟨v,h2⟩,xs,h1,h5,h6,?_⟩
 rcases h4 with⟨_,rfl⟩|⟨es,sp,he,hl⟩
 ·simp
 ·rw[he]at qd
  rw[←hl];exact EU ht qd
theorem gI {e:TypeId}(he:P.underlying e=some (.int .i64)){n:Nat}{cs:List Value}{y:DataW H×List MemPlace}(h:Tr enc P W n e cs y):∃x:Int,cs=[iv x]∧bD x:=by
 obtain⟨z,rfl,_,hw⟩:=DataW.trod_int he h;exact⟨z,rfl,wf_i64 hw⟩
theorem nG {e:TypeId}(he:P.underlying e=some .string){n:Nat}{cs:List Value}{y:DataW H×List MemPlace}(h:Tr enc P W n e cs y)(Wq:lT (y.1.weights P e)=true):∃x:cQ,cs=[sv x]∧iL x:=by
 obtain⟨s,rfl,hy,hw⟩:=DataW.trod_string he h;refine⟨s.data.toList,by rw[My],?_⟩;subst hy
 simp only[lT,DataW.weights,reachBytes,List.all_cons,List.all_nil,Bool.and_true]at Wq
 exact of_decide_eq_true Wq
end
end Go.J
namespace Go.Proofs.YtolmidffiegkaaaGreatDoor
open Go Go.J
structure Nq where
 no:Nat
 leaf:Bool
 label:cQ
 up:Int
 fin:Nat
 oO:Nat
 to:Nat
def se:Nq:=⟨0,false,[],0,0,0,0⟩
def tm0:dB:= .mk 0 [] 0 (.mk [] []) []
def lx0:Jk:=⟨[],[],0,tm0⟩
def ru0:qT:=⟨[],[],0,0,tm0⟩
mutual
def oP:fG→Nat
 | .mk _ _ l=>1+m6 l
def m6:List fG→Nat
 | []=>0
 |x::l=>oP x+m6 l
end
mutual
def mc:fG→Nat
 | .mk r _ l=>(if r<0 then 1 else 0)+jF l
def jF:List fG→Nat
 | []=>0
 |x::l=>mc x+jF l
end
def sI (g:iV)(r x:Int):cQ:=if r<0 then(g.bA.getD x.toNat lx0).word else(g.rules.getD r.toNat ru0).name
mutual
def m7 (g:iV):fG→Nat→Int→Nat→List Nq
 | .mk r x l,k,up,w=>⟨k,decide (r<0),sI g r x,up,k+(1+m6 l),w,w+((if r<0 then 1 else 0)+jF l)⟩::pQ g l (k+1) k (w+(if r<0 then 1 else 0))
def pQ (g:iV):List fG→Nat→Int→Nat→List Nq
 | [],_,_,_=>[]
 |x::l,k,up,w=>m7 g x k up w++pQ g l (k+oP x) up (w+mc x)
end
mutual
def fq (nr nl:Nat):fG→Prop
 | .mk r x l=>(-1≤r∧r<nr)∧(r<0→l=[]∧0≤x∧x<nl)∧(0≤r→l≠ [])∧lg nr nl l
def lg (nr nl:Nat):List fG→Prop
 | []=>True
 |x::l=>fq nr nl x∧lg nr nl l
end
mutual
theorem sf (g:iV):∀(t:fG) (k:Nat) (up:Int) (w:Nat),(m7 g t k up w).length=oP t
 | .mk r x l,k,up,w=>by rw[m7,List.length_cons,y0 g l,oP];omega
theorem y0 (g:iV):∀(l:List fG) (k:Nat) (up:Int) (w:Nat),(pQ g l k up w).length=m6 l
 | [],_,_,_=>by rw[pQ,m6];rfl
 |x::l,k,up,w=>by rw[pQ,List.length_append,sf g x,y0 g l,m6]
end
mutual
theorem D9 {nr nl:Nat}:∀t:fG,fq nr nl t→0<mc t
 | .mk r x l,h=>by
  rw[fq]at h;rw[mc]
  by_cases hr:r<0
  ·rw[if_pos hr];omega
  ·have:=KL l h.2.2.2 (h.2.2.1 (by omega));omega
theorem KL {nr nl:Nat}:∀l:List fG,lg nr nl l→l≠ []→0<jF l
 | [],_,h=>absurd rfl h
 |x::l,h,_=>by
  rw[lg]at h
  have:=D9 x h.1
  rw[jF];omega
end
def DA (x y:Nq):Prop:=x.no<y.no∧((y.no<x.fin∧x.oO≤y.oO∧y.to≤x.to)∨(x.fin≤y.no∧x.to≤y.oO))
def S3 (k m w n:Nat)(x:Nq):Prop:=k≤x.no∧x.no<x.fin∧x.fin≤k+m∧w≤x.oO∧x.oO<x.to∧x.to≤w+n
mutual
theorem GQ {nr nl:Nat}(g:iV):∀(t:fG) (k:Nat) (up:Int) (w:Nat),fq nr nl t→(m7 g t k up w).Pairwise DA∧∀x∈m7 g t k up w,S3 k (oP t) w (mc t) x
 | .mk r x l,k,up,w,h=>by
  have hp:=D9 _ h
  rw[fq]at h;obtain⟨h1,h2⟩:=GR g l (k+1) k (w+(if r<0 then 1 else 0)) h.2.2.2;rw[m7,oP];rw[mc]at hp⊢;refine⟨List.pairwise_cons.2 ⟨fun y hy=> ?_,h1⟩,fun y hy=> ?_⟩
  ·obtain⟨a1,a2,a3,a4,a5,a6⟩:=h2 y hy
   refine⟨?_,Or.inl ⟨?_,?_,?_⟩⟩<;>dsimp only<;>omega
  ·rcases List.mem_cons.1 hy with rfl|hy
   ·refine⟨?_,?_,?_,?_,?_,?_⟩<;>dsimp only<;>omega
   ·obtain⟨a1,a2,a3,a4,a5,a6⟩:=h2 y hy
    refine⟨?_,?_,?_,?_,?_,?_⟩<;>omega
theorem GR {nr nl:Nat}(g:iV):∀(l:List fG) (k:Nat) (up:Int) (w:Nat),lg nr nl l→(pQ g l k up w).Pairwise DA∧∀x∈pQ g l k up w,S3 k (m6 l) w (jF l) x
 | [],_,_,_,_=>by rw[pQ];exact⟨List.Pairwise.nil,fun x hx=>by cases hx⟩
 |t::l,k,up,w,h=>by
  rw[lg]at h;obtain⟨h1,h2⟩:=GQ g t k up w h.1;obtain⟨h3,h4⟩:=GR g l (k+oP t) up (w+mc t) h.2;rw[pQ,m6,jF];refine⟨List.pairwise_append.2 ⟨h1,h3,fun x hx y hy=> ?_⟩,fun y hy=> ?_⟩
  ·obtain⟨a1,a2,a3,a4,a5,a6⟩:=h2 x hx
   obtain⟨b1,b2,b3,b4,b5,b6⟩:=h4 y hy;exact⟨by omega,Or.inr ⟨by omega,by omega⟩⟩
  ·rcases List.mem_append.1 hy with hy|hy
   ·obtain⟨a1,a2,a3,a4,a5,a6⟩:=h2 y hy
    refine⟨?_,?_,?_,?_,?_,?_⟩<;>omega
   ·obtain⟨b1,b2,b3,b4,b5,b6⟩:=h4 y hy
    refine⟨?_,?_,?_,?_,?_,?_⟩<;>omega
end
mutual
theorem Bh (g:iV):∀(t:fG) (k:Nat) (up:Int) (w i:Nat) (x:Nq),(m7 g t k up w)[i]?=some x→x.no=k+i
 | .mk r y l,k,up,w,i,x,h=>by
  rw[m7]at h
  cases i with
  |zero=>rw[List.getElem?_cons_zero]at h;cases h;rfl
  |succ i=>rw[List.getElem?_cons_succ]at h;have:=GS g l _ _ _ i x h;omega
theorem GS (g:iV):∀(l:List fG) (k:Nat) (up:Int) (w i:Nat) (x:Nq),(pQ g l k up w)[i]?=some x→x.no=k+i
 | [],_,_,_,_,_,h=>by rw[pQ]at h;simp at h
 |t::l,k,up,w,i,x,h=>by
  rw[pQ]at h
  rcases Nat.lt_or_ge i (oP t)with hi|hi
  ·rw[List.getElem?_append_left (by rw[sf];exact hi)]at h
   exact Bh g t k up w i x h
  ·rw[List.getElem?_append_right (by rw[sf];exact hi),sf]at h
   have:=GS g l _ _ _ _ x h
   omega
end
structure cj where
 name:cQ
 kind:Int
 label:cQ
structure eH where
 kind:Int
 a:Int
 b:Int
def lh (v:cj)(x:Nq):Bool:=
 if v.kind=2 then !x.leaf&&decide (x.label=v.label)else if v.kind=3 then x.leaf&&decide (x.label=v.label)else if v.kind=4 then x.leaf else true
def oe (L:List Nq)(k:Int)(a b:Nat):Bool:=
 if k=1 then decide ((L.getD b se).up=(a:Int))else if k=2 then decide (a<b)&&decide (b<(L.getD a se).fin)
 else if k=3 then decide ((L.getD a se).to≤(L.getD b se).oO)else if k=4 then decide ((L.getD a se).to=(L.getD b se).oO)
 else decide (a≠b)&&decide ((L.getD a se).up=(L.getD b se).up)
def pe (L:List Nq)(p:List Nat)(x:eH):Bool:= !decide (max x.a x.b=(p.length:Int)-1)||oe L x.kind (p.getD x.a.toNat 0) (p.getD x.b.toNat 0)
def okB (L:List Nq)(ks:List eH)(p:List Nat):Bool:=ks.all (pe L p)
def Fu (L:List Nq)(ks:List eH)(v:cj)(p:List Nat)(i:Nat):Bool:=lh v (L.getD i se)&&okB L ks (p++ [i])
def lj (L:List Nq)(ks:List eH):List cj→List Nat→List (List Nat)
 | [],p=>[p]
 |v::vs,p=>(List.range L.length).flatMap fun i=>if Fu L ks v p i then lj L ks vs (p++ [i])else []
def vO (L:List Nq)(ks:List eH):List cj→List Nat→List (List Nat)→List (List Nat)
 | [],p,O=>O++ [p]
 |v::vs,p,O=>(List.range L.length).foldl (fun O i=>if 500<O.length then O else if Fu L ks v p i then vO L ks vs (p++ [i]) O else O) O
def fT:List cQ→Nat→List cj→Int×Int
 |_,_,[]=>(0,0)
 |known,i,v::vs=>if v.kind<1∨4<v.kind then(4,i)else if isName v.name=false∨(v.kind=2∧isName v.label=false)∨(v.kind=3∧isWord v.label=false)then(10,i)
  else if v.name∈known then(7,i)else if(v.kind=1∨v.kind=4)∧v.label≠ []then(5,i)else fT (known++ [v.name]) (i+1) vs
def gV (n:Int):Nat→List eH→Int×Int
 |_,[]=>(0,0)
 |i,l::ls=>if l.kind<1∨5<l.kind then(4,i)else if l.a<0∨n≤l.a∨l.b<0∨n≤l.b then(3,i)else if l.a=l.b then(5,i)else gV n (i+1) ls
def iy (vs:List cj)(ks:List eH):Int×Int:=if 4<vs.length∨8<ks.length then(2,-1)else if vs.length=0 then(9,-1)else if(fT [] 0 vs).1≠0 then fT [] 0 vs else gV vs.length vs.length ks
theorem vP {α:Type}(A B:List α)(n:Nat):(A.take n++B).take n=(A++B).take n:=by
 rcases Nat.lt_or_ge A.length n with h|h
 ·rw[List.take_of_length_le (l:=A) (by omega)]
 ·rw[List.take_append_of_le_length (by rw[List.length_take];omega),List.take_take,Nat.min_self,List.take_append_of_le_length h]
theorem y1 (L:List Nq)(ks:List eH):∀(vs:List cj) (p:List Nat) (O:List (List Nat)),O.length≤501→(vs=[]→O.length≤500)→vO L ks vs p O=(O++lj L ks vs p).take 501
 | [],p,O,_,h=>by
  have:=h rfl
  rw[vO,lj,List.take_of_length_le]
  rw[List.length_append];simp only[List.length_cons,List.length_nil];omega
 |v::vs,p,O,h,hv=>by
  clear hv
  rw[vO,lj]
  generalize List.range L.length=is
  induction is generalizing O with
  |nil=>rw[List.foldl_nil,List.flatMap_nil,List.append_nil,List.take_of_length_le h]
  |cons i is ih=>
   rw[List.foldl_cons,List.flatMap_cons]
   by_cases hO:500<O.length
   ·rw[if_pos hO,ih O h,List.take_append_of_le_length (by omega),List.take_append_of_le_length (by omega)]
   ·rw[if_neg hO]
    by_cases hg:Fu L ks v p i=true
    ·rw[if_pos hg,if_pos hg,y1 L ks vs (p++ [i]) O h (fun _=>by omega),ih _ (by rw[List.length_take];omega),vP,List.append_assoc]
    ·rw[if_neg hg,if_neg hg,ih O h,List.nil_append]
mutual
theorem GU {rk:List Int}{nl:Nat}(hk:∀k∈rk,1≤k):∀(t:fG) (d ch:Nat) (s:zU),(ik rk nl t d ch s).2.1=0→fq rk.length nl t∧(ik rk nl t d ch s).1.nodes=s.nodes+oP t∧(ik rk nl t d ch s).1.nodes≤200∧(ik rk nl t d ch s).1.leaves=s.leaves+mc t
 | .mk r x l,d,ch,s,h=>by
  rw[ik]at h⊢
  by_cases h1:200<s.nodes+1∨48<d
  ·rw[if_pos h1]at h;exact absurd h (by simp)
  rw[if_neg h1]at h⊢
  by_cases h2:r< -1∨rk.length≤r∨(r= -1∧(x<0∨nl≤x))
  ·rw[if_pos h2]at h;exact absurd h (by simp)
  rw[if_neg h2]at h⊢
  by_cases h3:0≤r∧x≠0
  ·rw[if_pos h3]at h;exact absurd h (by simp)
  rw[if_neg h3]at h⊢
  by_cases h4:(l.length:Int)≠(if 0≤r then rk.getD r.toNat 0 else 0)
  ·rw[if_pos h4]at h;exact absurd h (by simp)
  rw[if_neg h4]at h⊢
  by_cases h5:3<(if l.length=1 then ch+1 else 0)
  ·rw[if_pos h5]at h;exact absurd h (by simp)
  rw[if_neg h5]at h⊢;obtain⟨k1,k2,k3,k4⟩:=DB hk l _ _ _ h (show s.nodes+1≤200 by omega);refine⟨?_,by rw[k2,oP];dsimp only;omega,k3,?_⟩
  ·rw[fq]
   refine⟨by omega,fun hr=> ?_,fun hr hl=> ?_,k1⟩
   ·rw[if_neg (by omega)]at h4
    refine⟨List.eq_nil_of_length_eq_zero (by omega),by omega,by omega⟩
   ·rw[if_pos hr,hl]at h4
    have iW:r.toNat<rk.length:=by omega
    have:=hk (rk.getD r.toNat 0) (by rw[List.getD_eq_getElem?_getD,List.getElem?_eq_getElem iW];exact List.getElem_mem iW)
    simp only[List.length_nil]at h4
    omega
  ·rw[k4,mc]
   dsimp only
   by_cases hr:0≤r
   ·rw[if_pos hr,if_neg (by omega)];omega
   ·rw[if_neg hr,if_pos (by omega)];omega
theorem DB {rk:List Int}{nl:Nat}(hk:∀k∈rk,1≤k):∀(l:List fG) (d ch:Nat) (s:zU),(iZ rk nl l d ch s).2.1=0→s.nodes≤200→lg rk.length nl l∧(iZ rk nl l d ch s).1.nodes=s.nodes+m6 l∧(iZ rk nl l d ch s).1.nodes≤200∧(iZ rk nl l d ch s).1.leaves=s.leaves+jF l
 | [],d,ch,s,_,hs=>by rw[iZ,lg,m6,jF];exact⟨trivial,rfl,hs,rfl⟩
 |x::l,d,ch,s,h,hs=>by
  rw[iZ]at h⊢
  by_cases h1:(ik rk nl x d ch s).2.1≠0
  ·rw[if_pos h1]at h;exact absurd h h1
  rw[if_neg h1]at h⊢;obtain⟨a1,a2,a3,a4⟩:=GU hk x d ch s (Decidable.not_not.1 h1);obtain⟨b1,b2,b3,b4⟩:=DB hk l d ch _ h a3;rw[lg,m6,jF];exact⟨⟨a1,b1⟩,by omega,b3,by omega⟩
end
structure wE (L:List Nq):Prop where
 ahead:L.Pairwise DA
 no:∀(i:Nat) (x:Nq),L[i]?=some x→x.no=i
 words:∀x∈L,x.oO<x.to∧x.no<x.fin
theorem wE.of {nr nl:Nat}(g:iV){t:fG}(h:fq nr nl t):wE (m7 g t 0 (-1) 0):=by
 obtain⟨h1,h2⟩:=GQ g t 0 (-1) 0 h;exact⟨h1,fun i x hx=>by have:=Bh g t 0 (-1) 0 i x hx;omega,fun x hx=>by obtain⟨a1,a2,a3,a4,a5,a6⟩:=h2 x hx;exact⟨a5,a2⟩⟩
theorem getD_some {L:List Nq}{i:Nat}(h:i<L.length):L[i]?=some (L.getD i se):=by
 rw[List.getD_eq_getElem?_getD,List.getElem?_eq_getElem h];rfl
theorem wE.lt {L:List Nq}(h:wE L){i j:Nat}(Od:i<j)(hj:j<L.length):DA (L.getD i se) (L.getD j se)∧(L.getD i se).no=i∧(L.getD j se).no=j:=by
 have h1:=getD_some (show i<L.length by omega)
 have h2:=getD_some hj
 refine⟨?_,h.no _ _ h1,h.no _ _ h2⟩
 have:=List.pairwise_iff_getElem.1 h.ahead i j (by omega) hj Od
 rw[List.getElem?_eq_getElem (show i<L.length by omega)]at h1;rw[List.getElem?_eq_getElem hj]at h2
 injection h1 with h1;injection h2 with h2
 rw[←h1,←h2];exact this
theorem wE.one {L:List Nq}(h:wE L){i:Nat}(hi:i<L.length):(L.getD i se).oO<(L.getD i se).to:=(h.words _ (List.mem_of_getElem? (getD_some hi))).1
theorem mM {α β:Type}{f g:α→List β}:∀{l:List α},(∀a∈l,f a=g a)→l.flatMap f=l.flatMap g
 | [],_=>rfl
 |a::l,h=>by rw[List.flatMap_cons,List.flatMap_cons,h a (List.mem_cons_self ..),mM (fun b hb=>h b (List.mem_cons_of_mem _ hb))]
end Go.Proofs.YtolmidffiegkaaaGreatDoor
namespace Go.J
open Go Go.Proofs.YtolmidffiegkaaaGreatDoor
def gz:Rp cj:=⟨3,by decide,fun x=>[sv x.name,iv x.kind,sv x.label],fun x=>iL x.name∧bD x.kind∧iL x.label,fun _=>rfl,fun x u h=>by simp at h;rcases h with rfl|rfl|rfl<;>rfl⟩
def iH:Rp eH:=⟨3,by decide,fun x=>[iv x.kind,iv x.a,iv x.b],fun x=>bD x.kind∧bD x.a∧bD x.b,fun _=>rfl,fun x u h=>by simp at h;rcases h with rfl|rfl|rfl<;>rfl⟩
def gi:Rp Nq:=⟨6,by decide,fun x=>[.bool x.leaf,sv x.label,iv x.up,iv (x.fin:Int),iv (x.oO:Int),iv (x.to:Int)],fun _=>True,fun _=>rfl,fun x u h=>by simp at h;rcases h with rfl|rfl|rfl|rfl|rfl|rfl<;>rfl⟩
instance (x:cj):ei gz x [sv x.name,iv x.kind,sv x.label]:=⟨rfl⟩
instance (x:eH):ei iH x [iv x.kind,iv x.a,iv x.b]:=⟨rfl⟩
instance (x:Nq):ei gi x [.bool x.leaf,sv x.label,iv x.up,iv (x.fin:Int),iv (x.oO:Int),iv (x.to:Int)]:=⟨rfl⟩
structure eu where
 vv:ck
 vars:List cj
 kv:ck
 aZ:List eH
abbrev gJ (q:eu):Value:= .agg #[q.vv.1,q.kv.1]
def p8 (q:eu):List dm:=[sl gz q.vv.1 q.vars,sl iH q.kv.1 q.aZ]
def dD (q:eu):dm:=pW (p8 q)
end Go.J
set_option maxRecDepth 20000
namespace Go.Proofs.YtolmidffiegkaaaGreatDoor
open Go Go.J Go.ChangeShapes Go.WideShapes Go.ChangeAt Go.RowKit Go.Deep
theorem S4 {α:Type}{l:List α}(h:l.length=1):∃a0,l=[a0]:=match l,h with
 | [a0],_=>⟨a0,rfl⟩
theorem wF {α:Type}{l:List α}(h:l.length=2):∃a0 a1,l=[a0,a1]:=match l,h with
 | [a0,a1],_=>⟨a0,a1,rfl⟩
theorem DC {α:Type}{l:List α}(h:l.length=3):∃a0 a1 a2,l=[a0,a1,a2]:=match l,h with
 | [a0,a1,a2],_=>⟨a0,a1,a2,rfl⟩
theorem S5 {α:Type}{l:List α}(h:l.length=5):∃a0 a1 a2 a3 a4,l=[a0,a1,a2,a3,a4]:=match l,h with
 | [a0,a1,a2,a3,a4],_=>⟨a0,a1,a2,a3,a4,rfl⟩
theorem S6 {α:Type}{l:List α}(h:l.length=6):∃a0 a1 a2 a3 a4 a5,l=[a0,a1,a2,a3,a4,a5]:=match l,h with
 | [a0,a1,a2,a3,a4,a5],_=>⟨a0,a1,a2,a3,a4,a5,rfl⟩
theorem S7 {α:Type}{l:List α}(h:l.length=9):∃a0 a1 a2 a3 a4 a5 a6 a7 a8,l=[a0,a1,a2,a3,a4,a5,a6,a7,a8]:=match l,h with
 | [a0,a1,a2,a3,a4,a5,a6,a7,a8],_=>⟨a0,a1,a2,a3,a4,a5,a6,a7,a8,rfl⟩
theorem P0 {α:Type}{l:List α}(h:l.length=10):∃a0 a1 a2 a3 a4 a5 a6 a7 a8 a9,l=[a0,a1,a2,a3,a4,a5,a6,a7,a8,a9]:=match l,h with
 | [a0,a1,a2,a3,a4,a5,a6,a7,a8,a9],_=>⟨a0,a1,a2,a3,a4,a5,a6,a7,a8,a9,rfl⟩
theorem gK:Tryz.prog.cellsOf 3=1:=by kernel_rfl
theorem nH:Tryz.prog.cellsOf 9=1:=by kernel_rfl
theorem KM:Tryz.prog.cellsOf 22=1:=by kernel_rfl
theorem KN:Tryz.prog.cellsOf 23=1:=by kernel_rfl
theorem KO:Tryz.prog.cellsOf 25=2:=by kernel_rfl
theorem KP:Tryz.prog.cellsOf 26=1:=by kernel_rfl
theorem KQ:Tryz.prog.cellsOf 27=1:=by kernel_rfl
theorem KR:Tryz.prog.cellsOf 28=1:=by kernel_rfl
theorem y2:Tryz.prog.cellsOf 30=1:=by kernel_rfl
theorem KS:Tryz.prog.cellsOf 32=5:=by kernel_rfl
theorem KT:Tryz.prog.cellsOf 33=1:=by kernel_rfl
theorem KU:Tryz.prog.cellsOf 34=1:=by kernel_rfl
theorem KV:Tryz.prog.cellsOf 36=2:=by kernel_rfl
theorem KX:Tryz.prog.cellsOf 37=1:=by kernel_rfl
theorem DD:Tryz.prog.cellsOf 39=3:=by kernel_rfl
theorem KY:Tryz.prog.cellsOf 56=3:=by kernel_rfl
theorem KZ:Tryz.prog.cellsOf 57=1:=by kernel_rfl
theorem Ka:Tryz.prog.cellsOf 71=3:=by kernel_rfl
theorem Kb:Tryz.prog.cellsOf 86=1:=by kernel_rfl
theorem DE:Tryz.prog.cellsOf 88=2:=by kernel_rfl
theorem Kc:Tryz.prog.cellsOf 89=1:=by kernel_rfl
theorem y5:Tryz.prog.cellsOf 91=6:=by kernel_rfl
theorem Kd:Tryz.prog.cellsOf 93=10:=by kernel_rfl
theorem Ke:Tryz.prog.cellsOf 96=9:=by kernel_rfl
theorem GV:Tryz.prog.cellsOf 116=3:=by kernel_rfl
theorem GW:Tryz.prog.cellsOf 141=1:=by kernel_rfl
theorem GX:Tryz.prog.cellsOf 143=2:=by kernel_rfl
theorem GY:Tryz.prog.cellsOf 145=2:=by kernel_rfl
theorem GZ:Tryz.prog.cellsOf 165=2:=by kernel_rfl
section
variable {H:Type}{enc:TypeId×Value→H}{W:World}
theorem Kf:∀(n:Nat) (cs:List Value) (y:DataW H×List MemPlace),cs.length=2→Tr enc Tryz.prog W n 145 cs y→lT (y.1.weights Tryz.prog 145)=true→∃x:fY,cs=fC.cells x∧fC.wf x∧True:=by
 intro n;intro cs y hl h hw;obtain⟨c0,c1,rfl⟩:=wF hl;obtain⟨m,rfl,hp⟩:=dz Tryz.underlying145 h hw;obtain⟨z0,t0,w0⟩:=bS hp 0 rfl rfl rfl gK
 have t0:Tr enc Tryz.prog W m 3 [c0] z0:=t0
 obtain⟨x0,e0,k0⟩:=gI Tryz.underlying3 t0;obtain⟨z1,t1,w1⟩:=bS hp 1 rfl rfl rfl gK
 have t1:Tr enc Tryz.prog W m 3 [c1] z1:=t1
 obtain⟨x1,e1,k1⟩:=gI Tryz.underlying3 t1
 simp only[List.cons.injEq,and_true]at e0
 subst e0
 simp only[List.cons.injEq,and_true]at e1
 subst e1;exact⟨⟨x0,x1⟩,rfl,⟨k0,k1⟩,trivial⟩
theorem Kg:∀(n:Nat) (cs:List Value) (y:DataW H×List MemPlace),cs.length=2→Tr enc Tryz.prog W n 143 cs y→lT (y.1.weights Tryz.prog 143)=true→∃x:k5,cs=ep.cells x∧ep.wf x∧(dW x).f (J.all W):=by
 intro n;intro cs y hl h hw;obtain⟨c0,c1,rfl⟩:=wF hl;obtain⟨m,rfl,hp⟩:=dz Tryz.underlying143 h hw;obtain⟨z0,t0,w0⟩:=bS hp 0 rfl rfl rfl gK
 have t0:Tr enc Tryz.prog W m 3 [c0] z0:=t0
 obtain⟨x0,e0,k0⟩:=gI Tryz.underlying3 t0;obtain⟨z1,t1,w1⟩:=bS hp 1 rfl rfl rfl GW
 have t1:Tr enc Tryz.prog W m 141 [c1] z1:=t1
 obtain⟨x1,l1,e1,f1,k1,s1⟩:=fb fC (fun _=>True) Tryz.underlying141 GY (fun n _=>Kf n) t1 w1
 simp only[List.cons.injEq,and_true]at e0
 subst e0
 simp only[List.cons.injEq,and_true]at e1
 subst e1;exact⟨⟨x0,x1,l1⟩,rfl,k0,f1⟩
theorem tX:∀(n:Nat) (cs:List Value) (y:DataW H×List MemPlace),cs.length=1→Tr enc Tryz.prog W n 30 cs y→lT (y.1.weights Tryz.prog 30)=true→∃x:eM,cs=[x.nv.1]∧(bU x).f (J.all W):=by
 intro n;intro cs y hl h hw;obtain⟨c0,rfl⟩:=S4 hl;obtain⟨m,rfl,hp⟩:=dz Tryz.underlying30 h hw;obtain⟨z0,t0,w0⟩:=bS hp 0 rfl rfl rfl KR
 have t0:Tr enc Tryz.prog W m 28 [c0] z0:=t0
 obtain⟨x0,l0,e0,f0,k0,s0⟩:=fb ep (fun x=>(dW x).f (J.all W)) Tryz.underlying28 GX (fun n _=>Kg n) t0 w0
 simp only[List.cons.injEq,and_true]at e0
 subst e0
 exact⟨⟨x0,l0⟩,rfl,fun d hd=>by
  simp only[lE,List.mem_cons,List.not_mem_nil,or_false]at hd
  rcases hd with rfl|rfl
  ·exact f0
  ·exact k0⟩
theorem S8:∀(n:Nat) (cs:List Value) (y:DataW H×List MemPlace),cs.length=2→Tr enc Tryz.prog W n 165 cs y→lT (y.1.weights Tryz.prog 165)=true→∃x:jj,cs=e6.cells x∧e6.wf x∧(ew x).f (J.all W):=by
 intro n;intro cs y hl h hw;obtain⟨c0,c1,rfl⟩:=wF hl;obtain⟨m,rfl,hp⟩:=dz Tryz.underlying165 h hw;obtain⟨z0,t0,w0⟩:=bS hp 0 rfl rfl rfl nH
 have t0:Tr enc Tryz.prog W m 9 [c0] z0:=t0
 obtain⟨x0,e0,k0⟩:=nG Tryz.underlying9 t0 w0;obtain⟨z1,t1,w1⟩:=bS hp 1 rfl rfl rfl KZ
 have t1:Tr enc Tryz.prog W m 57 [c1] z1:=t1
 obtain⟨x1,l1,e1,f1,k1,s1⟩:=fb aK (fun _=>True) Tryz.underlying57 gK (fun n _ cs y hl h _=>by obtain⟨x,e,w⟩:=gI Tryz.underlying3 h;exact⟨x,e,w,trivial⟩) t1 w1
 simp only[List.cons.injEq,and_true]at e0
 subst e0
 simp only[List.cons.injEq,and_true]at e1
 subst e1;exact⟨⟨x0,x1,l1⟩,rfl,k0,f1⟩
theorem Kh:∀(n:Nat) (cs:List Value) (y:DataW H×List MemPlace),cs.length=3→Tr enc Tryz.prog W n 116 cs y→lT (y.1.weights Tryz.prog 116)=true→∃x:eF,cs=bu.cells x∧bu.wf x∧True:=by
 intro n;intro cs y hl h hw;obtain⟨c0,c1,c2,rfl⟩:=DC hl;obtain⟨m,rfl,hp⟩:=dz Tryz.underlying116 h hw;obtain⟨z0,t0,w0⟩:=bS hp 0 rfl rfl rfl nH
 have t0:Tr enc Tryz.prog W m 9 [c0] z0:=t0
 obtain⟨x0,e0,k0⟩:=nG Tryz.underlying9 t0 w0;obtain⟨z1,t1,w1⟩:=bS hp 1 rfl rfl rfl gK
 have t1:Tr enc Tryz.prog W m 3 [c1] z1:=t1
 obtain⟨x1,e1,k1⟩:=gI Tryz.underlying3 t1;obtain⟨z2,t2,w2⟩:=bS hp 2 rfl rfl rfl gK
 have t2:Tr enc Tryz.prog W m 3 [c2] z2:=t2
 obtain⟨x2,e2,k2⟩:=gI Tryz.underlying3 t2
 simp only[List.cons.injEq,and_true]at e0
 subst e0
 simp only[List.cons.injEq,and_true]at e1
 subst e1
 simp only[List.cons.injEq,and_true]at e2
 subst e2;exact⟨⟨x0,x1,x2⟩,rfl,⟨k0,k1,k2⟩,trivial⟩
theorem P1:∀(n:Nat) (cs:List Value) (y:DataW H×List MemPlace),cs.length=2→Tr enc Tryz.prog W n 88 cs y→lT (y.1.weights Tryz.prog 88)=true→∃x:cT,cs=gh.cells x∧gh.wf x∧od (J.all W) x:=by
 intro n
 induction n using Nat.strongRecOn with
 |_ n ih=>
 intro cs y hl h hw;obtain⟨c0,c1,rfl⟩:=wF hl;obtain⟨m,rfl,hp⟩:=dz Tryz.underlying88 h hw;obtain⟨z0,t0,w0⟩:=bS hp 0 rfl rfl rfl nH
 have t0:Tr enc Tryz.prog W m 9 [c0] z0:=t0
 obtain⟨x0,e0,k0⟩:=nG Tryz.underlying9 t0 w0;obtain⟨z1,t1,w1⟩:=bS hp 1 rfl rfl rfl Kb
 have t1:Tr enc Tryz.prog W m 86 [c1] z1:=t1
 obtain⟨x1,l1,e1,f1,k1,s1⟩:=fb gh (od (J.all W)) Tryz.underlying86 DE (fun k hk=>ih k (by omega)) t1 w1
 simp only[List.cons.injEq,and_true]at e0
 subst e0
 simp only[List.cons.injEq,and_true]at e1
 subst e1;exact⟨.mk x0 x1 l1,rfl,k0,.mk f1 k1⟩
theorem DF:∀(n:Nat) (cs:List Value) (y:DataW H×List MemPlace),cs.length=6→Tr enc Tryz.prog W n 91 cs y→lT (y.1.weights Tryz.prog 91)=true→∃x:cF,cs=cG.cells x∧cG.wf x∧mG (J.all W) x:=by
 intro n
 induction n using Nat.strongRecOn with
 |_ n ih=>
 intro cs y hl h hw;obtain⟨c0,c1,c2,c3,c4,c5,rfl⟩:=S6 hl;obtain⟨m,rfl,hp⟩:=dz Tryz.underlying91 h hw;obtain⟨z0,t0,w0⟩:=bS hp 0 rfl rfl rfl gK
 have t0:Tr enc Tryz.prog W m 3 [c0] z0:=t0
 obtain⟨x0,e0,k0⟩:=gI Tryz.underlying3 t0;obtain⟨z1,t1,w1⟩:=bS hp 1 rfl rfl rfl nH
 have t1:Tr enc Tryz.prog W m 9 [c1] z1:=t1
 obtain⟨x1,e1,k1⟩:=nG Tryz.underlying9 t1 w1;obtain⟨z2,t2,w2⟩:=bS hp 2 rfl rfl rfl gK
 have t2:Tr enc Tryz.prog W m 3 [c2] z2:=t2
 obtain⟨x2,e2,k2⟩:=gI Tryz.underlying3 t2;obtain⟨z3,t3,w3⟩:=bS hp 3 rfl rfl rfl DE
 have t3:Tr enc Tryz.prog W m 88 [c3,c4] z3:=t3
 obtain⟨x3,e3,k3,q3⟩:=P1 _ _ _ rfl t3 w3;obtain⟨z4,t4,w4⟩:=bS hp 4 rfl rfl rfl Kc
 have t4:Tr enc Tryz.prog W m 89 [c5] z4:=t4
 obtain⟨x4,l4,e4,f4,k4,s4⟩:=fb cG (mG (J.all W)) Tryz.underlying89 y5 (fun k hk=>ih k (by omega)) t4 w4
 simp only[List.cons.injEq,and_true]at e0
 subst e0
 simp only[List.cons.injEq,and_true]at e1
 subst e1
 simp only[List.cons.injEq,and_true]at e2
 subst e2
 cases e3
 simp only[List.cons.injEq,and_true]at e4
 subst e4;exact⟨.mk x0 x1 x2 x3 x4 l4,rfl,⟨k0,k1,k2,k3⟩,.mk q3 f4 k4⟩
theorem Ki:∀(n:Nat) (cs:List Value) (y:DataW H×List MemPlace),cs.length=3→Tr enc Tryz.prog W n 39 cs y→lT (y.1.weights Tryz.prog 39)=true→∃x:bh,cs=db.cells x∧db.wf x∧nD (J.all W) x:=by
 intro n
 induction n using Nat.strongRecOn with
 |_ n ih=>
 intro cs y hl h hw;obtain⟨c0,c1,c2,rfl⟩:=DC hl;obtain⟨m,rfl,hp⟩:=dz Tryz.underlying39 h hw;obtain⟨z0,t0,w0⟩:=bS hp 0 rfl rfl rfl gK
 have t0:Tr enc Tryz.prog W m 3 [c0] z0:=t0
 obtain⟨x0,e0,k0⟩:=gI Tryz.underlying3 t0;obtain⟨z1,t1,w1⟩:=bS hp 1 rfl rfl rfl gK
 have t1:Tr enc Tryz.prog W m 3 [c1] z1:=t1
 obtain⟨x1,e1,k1⟩:=gI Tryz.underlying3 t1;obtain⟨z2,t2,w2⟩:=bS hp 2 rfl rfl rfl KX
 have t2:Tr enc Tryz.prog W m 37 [c2] z2:=t2
 obtain⟨x2,l2,e2,f2,k2,s2⟩:=fb db (nD (J.all W)) Tryz.underlying37 DD (fun k hk=>ih k (by omega)) t2 w2
 simp only[List.cons.injEq,and_true]at e0
 subst e0
 simp only[List.cons.injEq,and_true]at e1
 subst e1
 simp only[List.cons.injEq,and_true]at e2
 subst e2;exact⟨.mk x0 x1 x2 l2,rfl,⟨k0,k1⟩,.mk f2 k2⟩
theorem Kj:∀(n:Nat) (cs:List Value) (y:DataW H×List MemPlace),cs.length=10→Tr enc Tryz.prog W n 93 cs y→lT (y.1.weights Tryz.prog 93)=true→∃x:bV,cs=cA.cells x∧cA.wf x∧(cO x).f (J.all W):=by
 intro n;intro cs y hl h hw;obtain⟨c0,c1,c2,c3,c4,c5,c6,c7,c8,c9,rfl⟩:=P0 hl;obtain⟨m,rfl,hp⟩:=dz Tryz.underlying93 h hw;obtain⟨z0,t0,w0⟩:=bS hp 0 rfl rfl rfl nH
 have t0:Tr enc Tryz.prog W m 9 [c0] z0:=t0
 obtain⟨x0,e0,k0⟩:=nG Tryz.underlying9 t0 w0;obtain⟨z1,t1,w1⟩:=bS hp 1 rfl rfl rfl y2
 have t1:Tr enc Tryz.prog W m 30 [c1] z1:=t1
 obtain⟨x1,e1,q1⟩:=tX _ _ _ rfl t1 w1;obtain⟨z2,t2,w2⟩:=bS hp 2 rfl rfl rfl gK
 have t2:Tr enc Tryz.prog W m 3 [c2] z2:=t2
 obtain⟨x2,e2,k2⟩:=gI Tryz.underlying3 t2;obtain⟨z3,t3,w3⟩:=bS hp 3 rfl rfl rfl gK
 have t3:Tr enc Tryz.prog W m 3 [c3] z3:=t3
 obtain⟨x3,e3,k3⟩:=gI Tryz.underlying3 t3;obtain⟨z4,t4,w4⟩:=bS hp 4 rfl rfl rfl y5
 have t4:Tr enc Tryz.prog W m 91 [c4,c5,c6,c7,c8,c9] z4:=t4
 obtain⟨x4,e4,k4,q4⟩:=DF _ _ _ rfl t4 w4
 simp only[List.cons.injEq,and_true]at e0
 subst e0
 cases e1
 simp only[List.cons.injEq,and_true]at e2
 subst e2
 simp only[List.cons.injEq,and_true]at e3
 subst e3
 cases e4
 exact⟨⟨x0,x1,x2,x3,x4⟩,rfl,⟨k0,k2,k3,k4⟩,fun d hd=>by
  simp only[D6,List.mem_cons,List.not_mem_nil,or_false]at hd
  rcases hd with rfl|rfl
  ·exact q1
  ·exact q4⟩
theorem P2:∀(n:Nat) (cs:List Value) (y:DataW H×List MemPlace),cs.length=9→Tr enc Tryz.prog W n 96 cs y→lT (y.1.weights Tryz.prog 96)=true→∃x:cv,cs=cI.cells x∧cI.wf x∧(dX x).f (J.all W):=by
 intro n;intro cs y hl h hw;obtain⟨c0,c1,c2,c3,c4,c5,c6,c7,c8,rfl⟩:=S7 hl;obtain⟨m,rfl,hp⟩:=dz Tryz.underlying96 h hw;obtain⟨z0,t0,w0⟩:=bS hp 0 rfl rfl rfl nH
 have t0:Tr enc Tryz.prog W m 9 [c0] z0:=t0
 obtain⟨x0,e0,k0⟩:=nG Tryz.underlying9 t0 w0;obtain⟨z1,t1,w1⟩:=bS hp 1 rfl rfl rfl y2
 have t1:Tr enc Tryz.prog W m 30 [c1] z1:=t1
 obtain⟨x1,e1,q1⟩:=tX _ _ _ rfl t1 w1;obtain⟨z2,t2,w2⟩:=bS hp 2 rfl rfl rfl gK
 have t2:Tr enc Tryz.prog W m 3 [c2] z2:=t2
 obtain⟨x2,e2,k2⟩:=gI Tryz.underlying3 t2;obtain⟨z3,t3,w3⟩:=bS hp 3 rfl rfl rfl y5
 have t3:Tr enc Tryz.prog W m 91 [c3,c4,c5,c6,c7,c8] z3:=t3
 obtain⟨x3,e3,k3,q3⟩:=DF _ _ _ rfl t3 w3
 simp only[List.cons.injEq,and_true]at e0
 subst e0
 cases e1
 simp only[List.cons.injEq,and_true]at e2
 subst e2
 cases e3
 exact⟨⟨x0,x1,x2,x3⟩,rfl,⟨k0,k2,k3⟩,fun d hd=>by
  simp only[KF,List.mem_cons,List.not_mem_nil,or_false]at hd
  rcases hd with rfl|rfl
  ·exact q1
  ·exact q3⟩
theorem Kk:∀(n:Nat) (cs:List Value) (y:DataW H×List MemPlace),cs.length=2→Tr enc Tryz.prog W n 25 cs y→lT (y.1.weights Tryz.prog 25)=true→∃(tv:ck) (ts:List jj) (fv:ck) (fs:List eF),cs=[tv.1,fv.1]∧∀d∈N2 tv fv ts fs,d.f (J.all W):=by
 intro n;intro cs y hl h hw;obtain⟨c0,c1,rfl⟩:=wF hl;obtain⟨m,rfl,hp⟩:=dz Tryz.underlying25 h hw;obtain⟨z0,t0,w0⟩:=bS hp 0 rfl rfl rfl KM
 have t0:Tr enc Tryz.prog W m 22 [c0] z0:=t0
 obtain⟨x0,l0,e0,f0,k0,s0⟩:=fb e6 (fun x=>(ew x).f (J.all W)) Tryz.underlying22 GZ (fun n _=>S8 n) t0 w0;obtain⟨z1,t1,w1⟩:=bS hp 1 rfl rfl rfl KN
 have t1:Tr enc Tryz.prog W m 23 [c1] z1:=t1
 obtain⟨x1,l1,e1,f1,k1,s1⟩:=fb bu (fun _=>True) Tryz.underlying23 GV (fun n _=>Kh n) t1 w1
 simp only[List.cons.injEq,and_true]at e0
 subst e0
 simp only[List.cons.injEq,and_true]at e1
 subst e1
 exact⟨x0,l0,x1,l1,rfl,fun d hd=>by
  simp only[N2,List.mem_cons,List.not_mem_nil,or_false]at hd
  rcases hd with rfl|rfl|rfl
  ·exact f0
  ·exact k0
  ·exact f1⟩
theorem P3:∀(n:Nat) (cs:List Value) (y:DataW H×List MemPlace),cs.length=5→Tr enc Tryz.prog W n 32 cs y→lT (y.1.weights Tryz.prog 32)=true→∃x:iX,cs=Om x∧(dw x).f (J.all W):=by
 intro n cs y hl h hw;obtain⟨c0,c1,c2,c3,c4,rfl⟩:=S5 hl;obtain⟨m,rfl,hp⟩:=dz Tryz.underlying32 h hw;obtain⟨z0,t0,w0⟩:=bS hp 0 rfl rfl rfl KO
 have t0:Tr enc Tryz.prog W m 25 [c0,c1] z0:=t0
 obtain⟨tv,ts,fv,fs,e0,q0⟩:=Kk _ _ _ rfl t0 w0;obtain⟨z1,t1,w1⟩:=bS hp 1 rfl rfl rfl KP
 have t1:Tr enc Tryz.prog W m 26 [c2] z1:=t1
 obtain⟨x1,l1,e1,f1,k1,_⟩:=fb cA (fun x=>(cO x).f (J.all W)) Tryz.underlying26 Kd (fun n _=>Kj n) t1 w1;obtain⟨z2,t2,w2⟩:=bS hp 2 rfl rfl rfl KQ
 have t2:Tr enc Tryz.prog W m 27 [c3] z2:=t2
 obtain⟨x2,l2,e2,f2,k2,_⟩:=fb cI (fun x=>(dX x).f (J.all W)) Tryz.underlying27 Ke (fun n _=>P2 n) t2 w2;obtain⟨z3,t3,w3⟩:=bS hp 3 rfl rfl rfl y2
 have t3:Tr enc Tryz.prog W m 30 [c4] z3:=t3
 obtain⟨x3,e3,q3⟩:=tX _ _ _ rfl t3 w3
 simp only[List.cons.injEq,and_true]at e0 e1 e2 e3
 obtain⟨rfl,rfl⟩:=e0;subst e1 e2 e3;refine⟨⟨tv,ts,fv,fs,x1,l1,x2,l2,x3⟩,rfl,fun d hd=> ?_⟩
 have h0:=q0 _ (List.mem_cons_self ..)
 have h1:=q0 _ (List.mem_cons_of_mem _ (List.mem_cons_self ..))
 have h2:=q0 _ (List.mem_cons_of_mem _ (List.mem_cons_of_mem _ (List.mem_cons_self ..)))
 simp only[zT,List.mem_cons,List.not_mem_nil,or_false]at hd
 rcases hd with rfl|rfl|rfl|rfl|rfl|rfl|rfl|rfl
 ·exact h0
 ·exact h1
 ·exact h2
 ·exact f1
 ·exact k1
 ·exact f2
 ·exact k2
 ·exact q3
theorem Kl:∀(n:Nat) (cs:List Value) (y:DataW H×List MemPlace),cs.length=3→Tr enc Tryz.prog W n 71 cs y→lT (y.1.weights Tryz.prog 71)=true→∃x:cj,cs=gz.cells x∧gz.wf x∧True:=by
 intro n;intro cs y hl h hw;obtain⟨c0,c1,c2,rfl⟩:=DC hl;obtain⟨m,rfl,hp⟩:=dz Tryz.underlying71 h hw;obtain⟨z0,t0,w0⟩:=bS hp 0 rfl rfl rfl nH
 have t0:Tr enc Tryz.prog W m 9 [c0] z0:=t0
 obtain⟨x0,e0,k0⟩:=nG Tryz.underlying9 t0 w0;obtain⟨z1,t1,w1⟩:=bS hp 1 rfl rfl rfl gK
 have t1:Tr enc Tryz.prog W m 3 [c1] z1:=t1
 obtain⟨x1,e1,k1⟩:=gI Tryz.underlying3 t1;obtain⟨z2,t2,w2⟩:=bS hp 2 rfl rfl rfl nH
 have t2:Tr enc Tryz.prog W m 9 [c2] z2:=t2
 obtain⟨x2,e2,k2⟩:=nG Tryz.underlying9 t2 w2
 simp only[List.cons.injEq,and_true]at e0
 subst e0
 simp only[List.cons.injEq,and_true]at e1
 subst e1
 simp only[List.cons.injEq,and_true]at e2
 subst e2;exact⟨⟨x0,x1,x2⟩,rfl,⟨k0,k1,k2⟩,trivial⟩
theorem P4:∀(n:Nat) (cs:List Value) (y:DataW H×List MemPlace),cs.length=3→Tr enc Tryz.prog W n 56 cs y→lT (y.1.weights Tryz.prog 56)=true→∃x:eH,cs=iH.cells x∧iH.wf x∧True:=by
 intro n;intro cs y hl h hw;obtain⟨c0,c1,c2,rfl⟩:=DC hl;obtain⟨m,rfl,hp⟩:=dz Tryz.underlying56 h hw;obtain⟨z0,t0,w0⟩:=bS hp 0 rfl rfl rfl gK
 have t0:Tr enc Tryz.prog W m 3 [c0] z0:=t0
 obtain⟨x0,e0,k0⟩:=gI Tryz.underlying3 t0;obtain⟨z1,t1,w1⟩:=bS hp 1 rfl rfl rfl gK
 have t1:Tr enc Tryz.prog W m 3 [c1] z1:=t1
 obtain⟨x1,e1,k1⟩:=gI Tryz.underlying3 t1;obtain⟨z2,t2,w2⟩:=bS hp 2 rfl rfl rfl gK
 have t2:Tr enc Tryz.prog W m 3 [c2] z2:=t2
 obtain⟨x2,e2,k2⟩:=gI Tryz.underlying3 t2
 simp only[List.cons.injEq,and_true]at e0
 subst e0
 simp only[List.cons.injEq,and_true]at e1
 subst e1
 simp only[List.cons.injEq,and_true]at e2
 subst e2;exact⟨⟨x0,x1,x2⟩,rfl,⟨k0,k1,k2⟩,trivial⟩
theorem Ga:∀(n:Nat) (cs:List Value) (y:DataW H×List MemPlace),cs.length=2→Tr enc Tryz.prog W n 36 cs y→lT (y.1.weights Tryz.prog 36)=true→∃x:eu,cs=[x.vv.1,x.kv.1]∧(dD x).f (J.all W)∧x.vars.length*40≤140737488351232∧x.aZ.length*24≤140737488351232:=by
 intro n;intro cs y hl h hw;obtain⟨c0,c1,rfl⟩:=wF hl;obtain⟨m,rfl,hp⟩:=dz Tryz.underlying36 h hw;obtain⟨z0,t0,w0⟩:=bS hp 0 rfl rfl rfl KT
 have t0:Tr enc Tryz.prog W m 33 [c0] z0:=t0
 obtain⟨x0,l0,e0,f0,k0,s0⟩:=fb gz (fun _=>True) Tryz.underlying33 Ka (fun n _=>Kl n) t0 w0;obtain⟨z1,t1,w1⟩:=bS hp 1 rfl rfl rfl KU
 have t1:Tr enc Tryz.prog W m 34 [c1] z1:=t1
 obtain⟨x1,l1,e1,f1,k1,s1⟩:=fb iH (fun _=>True) Tryz.underlying34 KY (fun n _=>P4 n) t1 w1
 simp only[List.cons.injEq,and_true]at e0
 subst e0
 simp only[List.cons.injEq,and_true]at e1
 subst e1
 exact⟨⟨x0,l0,x1,l1⟩,rfl,(fun d hd=>by
  simp only[p8,List.mem_cons,List.not_mem_nil,or_false]at hd
  rcases hd with rfl|rfl
  ·exact f0
  ·exact f1),s0,s1⟩
theorem Gb {v:Value}{d:DataW H}{p:List MemPlace}{zX:Nat}(hv:Value.okWide Tryz.prog W .any zX 32 v)(hw:lT (d.weights Tryz.prog 32)=true)(h:DataW.Trod enc Tryz.prog W 0 (fun _=>true) true 32 v d p):∃x:iX,v=iG x∧(dw x).f (J.all W):=by
 obtain⟨cs,rfl,hc⟩:=okWide_struct Tryz.underlying32 hv;obtain⟨fuel,hf⟩:=h;obtain⟨x,e,q⟩:=P3 fuel cs.toList (d,p) (by rw[Array.length_toList,hc,KS]) hf hw;exact⟨x,congrArg Value.agg (Array.toList_inj.1 e),q⟩
theorem EV {v:Value}{d:DataW H}{p:List MemPlace}{zX:Nat}(hv:Value.okWide Tryz.prog W .any zX 39 v)(hw:lT (d.weights Tryz.prog 39)=true)(h:DataW.Trod enc Tryz.prog W 0 (fun _=>true) true 39 v d p):∃x:bh,v=er x∧db.wf x∧(cB x).f (J.all W):=by
 obtain⟨cs,rfl,hc⟩:=okWide_struct Tryz.underlying39 hv;obtain⟨fuel,hf⟩:=h;obtain⟨x,e,k,q⟩:=Ki fuel cs.toList (d,p) (by rw[Array.length_toList,hc,DD]) hf hw;exact⟨x,congrArg Value.agg (Array.toList_inj.1 e),k,q⟩
theorem Bi {v:Value}{d:DataW H}{p:List MemPlace}{zX:Nat}(hv:Value.okWide Tryz.prog W .any zX 36 v)(hw:lT (d.weights Tryz.prog 36)=true)(h:DataW.Trod enc Tryz.prog W 0 (fun _=>true) true 36 v d p):∃x:eu,v=gJ x∧(dD x).f (J.all W)∧x.vars.length*40≤140737488351232∧x.aZ.length*24≤140737488351232:=by
 obtain⟨cs,rfl,hc⟩:=okWide_struct Tryz.underlying36 hv;obtain⟨fuel,hf⟩:=h;obtain⟨x,e,q,s⟩:=Ga fuel cs.toList (d,p) (by rw[Array.length_toList,hc,KV]) hf hw;exact⟨x,congrArg Value.agg (Array.toList_inj.1 e),q,s⟩
end
end Go.Proofs.YtolmidffiegkaaaGreatDoor
namespace Go.J
open Go
section
variable {P:Program}{n:Nat}{F:Fr}{A:World→Prop}{c:Ctx}{H R:List bQ}{ty:TypeId}{x y:Operand}{v:Value}{Q:Exit→Act→World→Prop}{ops:Array Oper}{rest:List Oper}
 {pos:String} {after:Array Edge} {t e:TypeId}
theorem y7 {b off:Nat}{L:List Value}{u:Value}{ρ:Ro}{w:World}(jK:eL c (ae b (.cells L.toArray e (0,0))::R) ρ w)(ho:off<L.length):w.cell? ⟨b,off,none⟩=some L[off]∧w.frozen? ⟨b,off,none⟩=false∧
 eL c (ae b (.cells (L.set off u).toArray e (0,0))::R) ρ (w.setCell ⟨b,off,none⟩ u):=by
 have hb:=eS.1 (jK.dK _ (List.mem_cons_self ..))
 refine⟨by rw[cY hb];simp,by simp[World.frozen?,hb],?_⟩;refine jK.alter rfl ⟨rfl,Nat.le_refl _⟩ rfl (by simp) (fun k hk fz=> ?_) (eS.2 ?_) (fun b' j6=>by rw[fQ]at j6⊢;exact .inl j6)
 ·rw[fQ]at fz
  simp only[World.setCell,Array.getElem?_modify]
  rw[if_neg (fun e=>fz (by rw[e]))]
 ·rw[kR hb];simp
theorem St.lF {T:Act→World→Prop}(L:List bQ)(hs:L.Sublist H)(k:St n F (Mm c L) T):St n F (Mm c H) T:=k.sy fun w hw=>by
 obtain⟨ρ,h⟩:=hw.out;exact Mm.mk ⟨h.os,h.tape,h.output,h.size,h.BL,h.fits,h.le,h.new,fun E hE=>h.dK E (hs.subset hE),fun E hE=>h.own E (hs.subset hE),h.Cv.sublist hs⟩
theorem St.Gc {b off:Nat}{L L':List Value}{u1:Value}[tk:lX b H (.cells L.toArray e (0,0)) R](hx:aL F x (.pointer (some ⟨b,off,none⟩)))(hy:aL F y (.agg #[u1]))(hs:(P.info? t).map (·.size)=some 1)(h1:u1.oneCell'=true)
 (zG:Nat.ble (off+1) L.length=true) (hL:L.set off u1=L') (h:St n F (Mm c (ae b (.cells L'.toArray e (0,0))::R)) (wpList P ops Q rest)):
 St n F (Mm c H) (wpList P ops Q ({dst:=none,op:= .store t x y,type:=ty,pos:=pos,after:=after,guard:=none}::rest)):=by
 subst hL;refine St.mB (K:=fun u H'=>H'=ae b (.cells (L.set off u1).toArray e (0,0))::R) ?_ ?_
 ·intro a w ρ ha hm
  have KC:=hm.perm tk.perm
  obtain⟨c1,f1,B8⟩:=y7 (u:=u1) KC (Nat.le_of_ble_eq_true zG);obtain⟨i,hi,fR⟩:=Option.map_eq_some_iff.1 hs;refine⟨.skip,_,ρ,_,?_,⟨_,.inr ⟨rfl,rfl⟩,rfl⟩,B8⟩
  simp[execOp,hx.eval ha,hy.eval ha,Instr.storeAt,Instr.sureAddr,storeVar,sizeOf,typeInfo,hi,fR,br,storeCells,run_store P w _ u1 _ h1,c1,f1,Addr.add_zero',Addr.add_lit]
 ·rintro _ _ rfl
  exact h
theorem St.Gd {b off:Nat}{L L':List Value}{u1 u2:Value}[tk:lX b H (.cells L.toArray e (0,0)) R](hx:aL F x (.pointer (some ⟨b,off,none⟩)))(hy:aL F y (.agg #[u1,u2]))(hs:(P.info? t).map (·.size)=some 2)(h1:u1.oneCell'=true)(h2:u2.oneCell'=true)
 (zG:Nat.ble (off+2) L.length=true) (hL:(L.set off u1).set (off+1) u2=L') (h:St n F (Mm c (ae b (.cells L'.toArray e (0,0))::R)) (wpList P ops Q rest)):
 St n F (Mm c H) (wpList P ops Q ({dst:=none,op:= .store t x y,type:=ty,pos:=pos,after:=after,guard:=none}::rest)):=by
 subst hL;refine St.mB (K:=fun u H'=>H'=ae b (.cells ((L.set off u1).set (off+1) u2).toArray e (0,0))::R) ?_ ?_
 ·intro a w ρ ha hm
  have KC:=hm.perm tk.perm
  have ho:=Nat.le_of_ble_eq_true zG
  obtain⟨c1,f1,B8⟩:=y7 (u:=u1) KC (show off<L.length by omega);obtain⟨c2,f2,tD⟩:=y7 (u:=u2) B8 (show off+1<(L.set off u1).length by rw[List.length_set];omega);obtain⟨i,hi,fR⟩:=Option.map_eq_some_iff.1 hs;refine⟨.skip,_,ρ,_,?_,⟨_,.inr ⟨rfl,rfl⟩,rfl⟩,tD⟩
  simp[execOp,hx.eval ha,hy.eval ha,Instr.storeAt,Instr.sureAddr,storeVar,sizeOf,typeInfo,hi,fR,br,storeCells,run_store P w _ u1 _ h1,run_store P _ _ u2 _ h2,c1,f1,c2,f2,Addr.add_zero',Addr.add_lit]
 ·rintro _ _ rfl
  exact h
end
section
variable {P:Program}{n:Nat}{F:Fr}{c:Ctx}{H R:List bQ}{ty:TypeId}{x y:Operand}{t e:TypeId}
theorem Ev.iI {b off:Nat}{dd:TypeDesc}{fr:Nat×Nat}{L L':List Value}[hb:ju b H (.cells L.toArray e fr)](m:Nat)(hx:aL F x (.pointer (some ⟨b,off,none⟩)))(ht:P.underlying t=some dd)(lz:(match dd with| .struct _| .array _ _=>True|_=>False))
 (hs:(P.info? t).map (·.size)=some m) (hL:(L.drop off).take m=L') (hl:L'.length=m):Ev P n F (Mm c H) (.load t x) ty (.agg L'.toArray):= .of_run fun a w ha hw=>by
 obtain⟨ρ,hm⟩:=hw.out
 have h1:=eS.1 (hm.dK _ hb.mem)
 have h4:=eh (P:=P) (w:=w) (b:=b) (off:=off) (L:=L') ht lz (by rw[hl];exact hs) (fun j u hj=>by
  rw[cY h1];rw[←hL,List.getElem?_take]at hj
  split at hj
  ·rw[List.getElem?_drop]at hj;simpa using hj
  ·cases hj)
 simp[execOp,hx.eval ha,Instr.loadAt,Instr.sureAddr,h4]
end
theorem cT.ind {p:cT→Prop}(h:∀x,(∀y∈x.args,p y)→p x)(x:cT):p x:=
 cT.rec (motive_1:=p) (motive_2:=fun l=>∀y∈l,p y) (fun b v l ih=>h (.mk b v l) ih) (fun y hy=>by cases hy) (fun a l ha hl y hy=>by
  rcases List.mem_cons.1 hy with rfl|hy
  ·exact ha
  ·exact hl y hy) x
theorem cF.ind {p:cF→Prop}(h:∀x,(∀y∈x.args,p y)→p x)(x:cF):p x:=
 cF.rec (motive_1:=p) (motive_2:=fun l=>∀y∈l,p y) (fun k s i t v l ih=>h (.mk k s i t v l) ih) (fun y hy=>by cases hy) (fun a l ha hl y hy=>by
  rcases List.mem_cons.1 hy with rfl|hy
  ·exact ha
  ·exact hl y hy) x
theorem bh.ind {p:bh→Prop}(h:∀x,(∀y∈x.kids,p y)→p x)(x:bh):p x:=
 bh.rec (motive_1:=p) (motive_2:=fun l=>∀y∈l,p y) (fun r i v l ih=>h (.mk r i v l) ih) (fun y hy=>by cases hy) (fun a l ha hl y hy=>by
  rcases List.mem_cons.1 hy with rfl|hy
  ·exact ha
  ·exact hl y hy) x
section
variable {P:Program}{n:Nat}{F F0:Fr}{A:World→Prop}{c:Ctx}{H R:List bQ}{ty:TypeId}{x y:Operand}{v:Value}{Q:Exit→Act→World→Prop}{ops:Array Oper}{rest:List Oper}{d:Nat}{pos:String}{after:Array Edge}{op:Op}{t u e:TypeId}{i j:Int}{k:IntKind}
theorem St.ee (m9:Ev P n F A op ty v)(h:St n ((d,v)::F) A (wpList P ops Q rest))(hd:Nat.ble (d+1) n=true:=by rfl):St n F A (wpList P ops Q ({dst:=some d,op:=op,type:=ty,pos:=pos,after:=after,guard:=none}::rest)):=St.ev v m9 hd h
theorem Sq.ee {T:Act→Prop}(m9:Ev P n F A op ty v)(h:Sq n ((d,v)::F) (wpQuiet P ops A T rest))(hd:Nat.ble (d+1) n=true:=by rfl):Sq n F (wpQuiet P ops A T ({dst:=some d,op:=op,type:=ty,pos:=pos,after:=after,guard:=none}::rest)):=Sq.ev v m9 hd h
theorem St.sA {b m:Nat}{L L':List Value}[tk:lX b H (.cells L.toArray t (0,0)) R](hx:aL F x (.pointer (some ⟨b,0,none⟩)))(hy:aL F y (.agg L'.toArray))(hs:(P.info? e).map (·.size)=some m)(h:St n F (Mm c (ae b (.cells L'.toArray t (0,0))::R)) (wpList P ops Q rest))
 (hm:m=L'.length:=by rfl) (hl:L.length=L'.length:=by first|simp only[List.length_cons,List.length_nil]|rfl) (h1:L'.all (·.oneCell')=true:=by rfl):
 St n F (Mm c H) (wpList P ops Q ({dst:=none,op:= .store e x y,type:=ty,pos:=pos,after:=after,guard:=none}::rest)):=St.OP hx hy (by rw[hs,hm]) hl h1 h
theorem aq.cc {dr:Prop}{bs l:List rO}{slot:Nat}{jO:List Nat}{K:Value→dm}{o:Oper}{m:List Oper}(Ff:(Nat→Value)→Fr)(L:(Nat→Value)→List bQ)(h:∀(c:Ctx) (e:Nat→Value),(¬dr→¬c.dr)→St n (Ff e++F) (Mm c (L e++H)) (wpList P ops (Exit.then (pb c H slot K) Q) [o]))(k:aq P ops Q n F dr H bs l m)(h1:∀e,tU bs e jO=Ff e:=by exact fun _=>rfl)(h2:∀e,pa bs e jO=L e:=by exact fun _=>rfl):aq P ops Q n F dr H bs (⟨slot,jO,K⟩::l) (o::m):=⟨Oo.mk Ff L h1 h2 h,k⟩
theorem aq.c0 {dr:Prop}{bs l:List rO}{slot:Nat}{jO:List Nat}{K:Value→dm}{o:Oper}{m:List Oper}(h:∀(c:Ctx) (e:Nat→Value),(¬dr→¬c.dr)→St n ((fun e=>[]) e++F) (Mm c ((fun e=>[]) e++H)) (wpList P ops (Exit.then (pb c H slot K) Q) [o]))(k:aq P ops Q n F dr H bs l m)(h1:∀e,tU bs e jO=(fun e=>[]) e:=by exact fun _=>rfl)(h2:∀e,pa bs e jO=(fun e=>[]) e:=by exact fun _=>rfl):aq P ops Q n F dr H bs (⟨slot,jO,K⟩::l) (o::m):=⟨Oo.mk (fun e=>[]) (fun e=>[]) h1 h2 h,k⟩
theorem St.rT {fn:Func}{post:Value→List bQ→Prop}{rl:List ResultVar}(vs:List Value)(H':List bQ)(hr:fn.results=rl.toArray)(hv:Mr P F H rl vs)(hp:post (EA vs) H')(hH:∀w,Mm c H w→Mm c H' w:=by exact fun _ hw=>hw.sub):
 St n F (Mm c H) (bodyPost P fn (fun e w'=>∃v H',e= .returned v∧post v H'∧Mm c H' w') .ret):=St.RJ vs H' hr hv hp hH
theorem St.rU {fn:Func}{post:Value→List bQ→Prop}{rl:List ResultVar}(vs:List Value)(H':List bQ)(hr:fn.results=rl.toArray)(hp:post (EA vs) H')(hv:Mr P F H rl vs:=by first|exact⟨rfl,trivial⟩|exact⟨⟨_,_,_,_,rfl,ju.mem,.inl ⟨⟨_,fl⟩,ay,rfl⟩⟩,trivial⟩)(hH:∀w,Mm c H w→Mm c H' w:=by exact fun _ hw=>hw.sub):
 St n F (Mm c H) (bodyPost P fn (fun e w'=>∃v H',e= .returned v∧post v H'∧Mm c H' w') .ret):=St.RJ vs H' hr hv hp hH
theorem St.sr {id:Nat}{l:List Oper}{y:Code}(h:St n F A (wpList P l.toArray (Exit.then (y.wp P Q) Q) l)):St n F A ((Code.seq (Code.region id l.toArray false) y).wp P Q):=St.seq (St.rg h)
theorem St.mf {ι κ:Type}{body:Code}(G:ι→κ→Fr→Fr)(Hf:ι→κ→List bQ)(φ:ι→κ→Prop)(μ:ι→κ→Nat)(gb:ι)(xX:κ)(hk:aE F F0)(h0:φ gb xX)
 (round:∀x z,φ x z→St n (G x z F0) (Mm c (Hf x z)) (body.wp P (Exit.then (xW n G F0 φ μ c Hf (μ x z)) Q))) (hF:Sub (G gb xX F0) F:=by repeat(first|exact Sub.nil|refine Sub.cons (by first|rfl|exact congrArg (fun z=>some (iv z)) (by first|omega|(dsimp only;omega))|exact congrArg (fun z=>some (Value.bool z)) (by first|assumption|exact Eq.symm (by assumption))) ?_)) (hH:∀w,Mm c H w→Mm c (Hf gb xX) w:=by exact fun _ hw=>hw.sub):
 St n F (Mm c H) ((Code.loop body).wp P Q):=St.OS G Hf φ μ gb xX hk h0 hF hH round
theorem St.lH {ι:Type}{body:Code}(G:ι→Fr→Fr)(Hf:ι→List bQ)(φ:ι→Prop)(μ:ι→Nat)(gb:ι)(hk:aE F F0)(h0:φ gb)
 (round:∀x,φ x→St n (G x F0) (Mm c (Hf x)) (body.wp P (Exit.then (rL n G F0 φ μ c Hf (μ x)) Q))) (hF:Sub (G gb F0) F:=by repeat(first|exact Sub.nil|refine Sub.cons (by first|rfl|exact congrArg (fun z=>some (iv z)) (by first|omega|(dsimp only;omega))|exact congrArg (fun z=>some (Value.bool z)) (by first|assumption|exact Eq.symm (by assumption))) ?_)) (hH:∀w,Mm c H w→Mm c (Hf gb) w:=by exact fun _ hw=>hw.sub):
 St n F (Mm c H) ((Code.loop body).wp P Q):=St.Mt G Hf φ μ gb hk h0 hF hH round
theorem St.lS {ι:Type}{body:Code}(G:ι→Fr→Fr)(φ:ι→Prop)(μ:ι→Nat)(gb:ι)(hk:aE F F0)(h0:φ gb)
 (round:∀x,φ x→St n (G x F0) (Mm c H) (body.wp P (Exit.then (rL n G F0 φ μ c (fun _=>H) (μ x)) Q))) (hF:Sub (G gb F0) F:=by repeat(first|exact Sub.nil|refine Sub.cons (by first|rfl|exact congrArg (fun z=>some (iv z)) (by first|omega|(dsimp only;omega))|exact congrArg (fun z=>some (Value.bool z)) (by first|assumption|exact Eq.symm (by assumption))) ?_)):
 St n F (Mm c H) ((Code.loop body).wp P Q):=St.RN G φ μ gb hk h0 hF round
theorem St.jb {ι κ:Type}{G:ι→κ→Fr→Fr}{Hf:ι→κ→List bQ}{φ:ι→κ→Prop}{μ:ι→κ→Nat}{k:Nat}(y:ι)(z:κ)(BR:φ y z)(hm:μ y z<k:=by first|omega|(dsimp only;omega))(hF:Sub (G y z F0) F:=by repeat(first|exact Sub.nil|refine Sub.cons (by first|rfl|exact congrArg (fun z=>some (iv z)) (by first|omega|(dsimp only;omega))|exact congrArg (fun z=>some (Value.bool z)) (by first|assumption|exact Eq.symm (by assumption))) ?_))(hA:∀w,Mm c H w→Mm c (Hf y z) w:=by exact fun _ hw=>hw.sub):
 St n F (Mm c H) (xW n G F0 φ μ c Hf k):=St.Cx y z BR hm hF hA
theorem St.aH {ι:Type}{G:ι→Fr→Fr}{Hf:ι→List bQ}{φ:ι→Prop}{μ:ι→Nat}{k:Nat}(y:ι)(BR:φ y)(hm:μ y<k:=by first|omega|(dsimp only;omega))(hF:Sub (G y F0) F:=by repeat(first|exact Sub.nil|refine Sub.cons (by first|rfl|exact congrArg (fun z=>some (iv z)) (by first|omega|(dsimp only;omega))|exact congrArg (fun z=>some (Value.bool z)) (by first|assumption|exact Eq.symm (by assumption))) ?_))(hA:∀w,Mm c H w→Mm c (Hf y) w:=by exact fun _ hw=>hw.sub):
 St n F (Mm c H) (rL n G F0 φ μ c Hf k):=St.G4 y BR hm hF hA
theorem St.aS {ι:Type}{G:ι→Fr→Fr}{φ:ι→Prop}{μ:ι→Nat}{k:Nat}{H':List bQ}(y:ι)(BR:φ y)(hm:μ y<k:=by first|omega|(dsimp only;omega))(hF:Sub (G y F0) F:=by repeat(first|exact Sub.nil|refine Sub.cons (by first|rfl|exact congrArg (fun z=>some (iv z)) (by first|omega|(dsimp only;omega))|exact congrArg (fun z=>some (Value.bool z)) (by first|assumption|exact Eq.symm (by assumption))) ?_))(hA:∀w,Mm c H w→Mm c H' w:=by exact fun _ hw=>hw.sub):
 St n F (Mm c H) (rL n G F0 φ μ c (fun _=>H') k):=St.BS y BR hm hF hA
theorem St.mE {ι:Type}{G:ι→Fr→Fr}{Hf:ι→List bQ}{φ:ι→Prop}(y:ι)(BR:φ y)(hF:Sub (G y F0) F:=by repeat(first|exact Sub.nil|refine Sub.cons (by first|rfl|exact congrArg (fun z=>some (iv z)) (by first|omega|(dsimp only;omega))|exact congrArg (fun z=>some (Value.bool z)) (by first|assumption|exact Eq.symm (by assumption))) ?_))(hA:∀w,Mm c H w→Mm c (Hf y) w:=by exact fun _ hw=>hw.sub):
 St n F (Mm c H) (Met n G F0 φ c Hf):=St.met y BR hF hA
theorem Ev.l0 {b off:Nat}{fr:Nat×Nat}{d:TypeDesc}{u:Value}{L:List Value}[hb:ju b H (.cells L.toArray e fr)](hx:aL F x (.pointer (some ⟨b,off,none⟩)))(ht:P.underlying t=some d)(lz:(match d with| .struct _| .array _ _=>False|_=>True):=by trivial)
 (hu:L[off]?=some u:=by rfl):Ev P n F (Mm c H) (.load t x) ty u:=Ev.cN hx ht lz hu
theorem Ev.o0 {p q:Bool}(hx:aL F x (.bool p):=by exact .mk rfl)(hy:(!p)=true→aL F y (.bool q):=by exact fun hp=>aL.gv rfl hp):Ev P n F A (.pick x (.const (.bool true)) y) ty (.bool (p||q)):=Ev.or hx hy
theorem Ev.n0 {p q:Bool}(hx:aL F x (.bool p):=by exact .mk rfl)(hy:p=true→aL F y (.bool q):=by exact fun hp=>aL.gv rfl hp):Ev P n F A (.pick x y (.const (.bool false))) ty (.bool (p&&q)):=Ev.and hx hy
theorem Ev.a0 (hx:aL F x (iv i):=by exact .mk rfl)(hy:aL F y (iv j):=by exact .mk rfl)(h: -9223372036854775808≤i+j∧i+j≤9223372036854775807:=by omega):Ev P n F A (.binOp .add t x y u) ty (iv (i+j)):=Ev.add hx hy h
theorem Ev.s0 (hx:aL F x (iv i):=by exact .mk rfl)(hy:aL F y (iv j):=by exact .mk rfl)(h: -9223372036854775808≤i-j∧i-j≤9223372036854775807:=by omega):Ev P n F A (.binOp .sub t x y u) ty (iv (i-j)):=Ev.sub hx hy h
theorem Ev.dn (hx:aL F x (.int k i):=by exact .mk rfl)(hy:aL F y (.int k j):=by exact .mk rfl):Ev P n F A (.binOp .lss t x y u) ty (.bool (decide (i<j))):=Ev.lss hx hy
theorem Ev.ey (hx:aL F x (.int k i):=by exact .mk rfl)(hy:aL F y (.int k j):=by exact .mk rfl):Ev P n F A (.binOp .eql t x y u) ty (.bool (decide (i=j))):=Ev.eql hx hy
theorem Ev.k9 (hx:aL F x (.int k i):=by exact .mk rfl)(hy:aL F y (.int k j):=by exact .mk rfl):Ev P n F A (.binOp .neq t x y u) ty (.bool (!decide (i=j))):=Ev.neq hx hy
theorem Ev.qn (hx:aL F x (.int k i):=by exact .mk rfl)(hy:aL F y (.int k j):=by exact .mk rfl):Ev P n F A (.binOp .gtr t x y u) ty (.bool (decide (j<i))):=Ev.gtr hx hy
theorem Ev.qV (hx:aL F x (.int k i):=by exact .mk rfl)(hy:aL F y (.int k j):=by exact .mk rfl):Ev P n F A (.binOp .geq t x y u) ty (.bool (decide (j≤i))):=Ev.geq hx hy
theorem Ev.Jm (hx:aL F x (.int k i):=by exact .mk rfl)(hy:aL F y (.int k j):=by exact .mk rfl):Ev P n F A (.binOp .leq t x y u) ty (.bool (decide (i≤j))):=Ev.leq hx hy
theorem St.nn {K:Act→World→Prop}(h:St n F A K):St n F A (wpList P ops (Exit.then K Q) []):=h
theorem St.dup (d:dm){T:Act→World→Prop}[hd:p4 [d] H](k:St n F (Mm c (aG d::H)) T):St n F (Mm c H) T:=St.gQ d [d] (fun ρ h=>h _ (List.mem_cons_self ..)) k
end
section
variable {P:Program}{ops:Array Oper}{Q:Exit→Act→World→Prop}{n:Nat}{F:Fr}{c:Ctx}{H Fp r r' C':List bQ}{f:Nat}{listed:Array Bool}{d:Nat}{op:Op}{ty:TypeId}{pos:String}{after:Array Edge}{v:Value}
theorem SW.dd (i:Nat)(hi:ops[i]?=some {dst:=some d,op:=op,type:=ty,pos:=pos,after:=after,guard:=none})(m9:∀R,Ev P n F (Mm c (Fp++R)) op ty v)(h:SW P ops Q n ((d,v)::F) c Fp r f (listed.setIfInBounds i true))
 (hQ:NP Q:=by assumption) (hs:Region.noSelect ops=true:=by assumption) (hr:((Region.ready .any ops listed).contains i&&Region.free .any ops listed i)=true:=by kernel_rfl) (hd:Nat.ble (d+1) n=true:=by rfl):SW P ops Q n F c Fp r (f+1) listed:=SW.defer i hQ hs hi m9 hr hd h
end
end Go.J
namespace Go.Proofs
theorem S9:type_of% @Tryz.underlying0:=Tryz.underlying0
theorem bP:type_of% @Tryz.underlying3:=Tryz.underlying3
theorem sJ:type_of% @Tryz.underlying4:=Tryz.underlying4
theorem DG:type_of% @Tryz.underlying5:=Tryz.underlying5
theorem df:type_of% @Tryz.underlying9:=Tryz.underlying9
theorem eW:type_of% @Tryz.underlying22:=Tryz.underlying22
theorem iz:type_of% @Tryz.underlying23:=Tryz.underlying23
theorem nI:type_of% @Tryz.underlying25:=Tryz.underlying25
theorem j0:type_of% @Tryz.underlying26:=Tryz.underlying26
theorem j1:type_of% @Tryz.underlying27:=Tryz.underlying27
theorem eQ:type_of% @Tryz.underlying28:=Tryz.underlying28
theorem p9:type_of% @Tryz.underlying30:=Tryz.underlying30
theorem sK:type_of% @Tryz.underlying32:=Tryz.underlying32
theorem eX:type_of% @Tryz.underlying33:=Tryz.underlying33
theorem jG:type_of% @Tryz.underlying34:=Tryz.underlying34
theorem sL:type_of% @Tryz.underlying36:=Tryz.underlying36
theorem jP:type_of% @Tryz.underlying37:=Tryz.underlying37
theorem lk:type_of% @Tryz.underlying39:=Tryz.underlying39
theorem fl:type_of% @Tryz.underlying42:=Tryz.underlying42
theorem dE:type_of% @Tryz.underlying44:=Tryz.underlying44
theorem tY:type_of% @Tryz.underlying51:=Tryz.underlying51
theorem Km:type_of% @Tryz.underlying56:=Tryz.underlying56
theorem bE:type_of% @Tryz.underlying57:=Tryz.underlying57
theorem Ge:type_of% @Tryz.underlying71:=Tryz.underlying71
theorem zY:type_of% @Tryz.underlying75:=Tryz.underlying75
theorem hG:type_of% @Tryz.underlying78:=Tryz.underlying78
theorem dM:type_of% @Tryz.underlying86:=Tryz.underlying86
theorem bX:type_of% @Tryz.underlying88:=Tryz.underlying88
theorem ez:type_of% @Tryz.underlying89:=Tryz.underlying89
theorem fO:type_of% @Tryz.underlying91:=Tryz.underlying91
theorem Gf:type_of% @Tryz.underlying93:=Tryz.underlying93
theorem Kn:type_of% @Tryz.underlying96:=Tryz.underlying96
theorem ll:type_of% @Tryz.underlying103:=Tryz.underlying103
theorem zZ:type_of% @Tryz.underlying116:=Tryz.underlying116
theorem eY:type_of% @Tryz.underlying127:=Tryz.underlying127
theorem og:type_of% @Tryz.underlying129:=Tryz.underlying129
theorem eA:type_of% @Tryz.underlying141:=Tryz.underlying141
theorem wG:type_of% @Tryz.underlying143:=Tryz.underlying143
theorem pf:type_of% @Tryz.underlying145:=Tryz.underlying145
theorem za:type_of% @Tryz.underlying165:=Tryz.underlying165
theorem zb:type_of% @Tryz.underlying171:=Tryz.underlying171
theorem mg:type_of% @Tryz.underlying175:=Tryz.underlying175
theorem wH:type_of% @Tryz.underlying178:=Tryz.underlying178
theorem ft:type_of% @Tryz.underlying179:=Tryz.underlying179
theorem tZ:type_of% @Tryz.underlying190:=Tryz.underlying190
theorem rR:type_of% @Tryz.underlying198:=Tryz.underlying198
theorem rS:type_of% @Tryz.underlying215:=Tryz.underlying215
theorem kA:type_of% @Tryz.underlying216:=Tryz.underlying216
end Go.Proofs
namespace Go.Proofs.YtolmidffiegkaaaGreatDoor
open Go Go.J
theorem mixed:Tryz.prog.follows .mixedOrders=true:=by kernel_rfl
theorem iP:(Tryz.prog.info? 88).bind (fun i=>i.zero.map Value.cells)=some #[.string ⟨#[]⟩,.slice none 0 0]:=by kernel_rfl
theorem P5 (w:World):cm Tryz.prog 88 w= .ok #[(0,1),(1,1)] w:=by kernel_rfl
theorem bC:(Tryz.prog.info? 88).map (·.size)=some 2:=by kernel_rfl
theorem EW:(Tryz.prog.info? 88).bind (·.zero)=some (Value.agg #[.string ⟨#[]⟩,.slice none 0 0]):=by kernel_rfl
theorem sM:(Tryz.prog.info? 91).bind (fun i=>i.zero.map Value.cells)=some #[.int .i64 0,.string ⟨#[]⟩,.int .i64 0,.string ⟨#[]⟩,.slice none 0 0,.slice none 0 0]:=by kernel_rfl
theorem Ko (w:World):cm Tryz.prog 91 w= .ok #[(0,1),(1,1),(2,1),(3,2),(5,1)] w:=by kernel_rfl
theorem dC:(Tryz.prog.info? 91).map (·.size)=some 6:=by kernel_rfl
theorem P6:(Tryz.prog.info? 91).bind (·.zero)=some (Value.agg #[.int .i64 0,.string ⟨#[]⟩,.int .i64 0,.string ⟨#[]⟩,.slice none 0 0,.slice none 0 0]):=by kernel_rfl
theorem EX:aW Tryz.prog 50:=⟨_,Tryz.func50,rfl,by kernel_rfl⟩
theorem nJ:aW Tryz.prog 51:=⟨_,Tryz.func51,rfl,by kernel_rfl⟩
theorem lG:aW Tryz.prog 57:=⟨_,Tryz.func57,rfl,by kernel_rfl⟩
theorem kB:aW Tryz.prog 60:=⟨_,Tryz.func60,rfl,by kernel_rfl⟩
theorem mN:aW Tryz.prog 59:=⟨_,Tryz.func59,rfl,by kernel_rfl⟩
theorem kC:aW Tryz.prog 58:=⟨_,Tryz.func58,rfl,by kernel_rfl⟩
theorem SA:(Tryz.prog.info? 30).bind (fun i=>i.zero.map Value.cells)=some #[.slice none 0 0]:=by kernel_rfl
theorem eI:(Tryz.prog.info? 57).map (·.size)=some 1:=by kernel_rfl
theorem cr:(Tryz.prog.info? 3).map (·.size)=some 1:=by kernel_rfl
theorem SB (w:World):cm Tryz.prog 143 w= .ok #[(0,1),(1,1)] w:=by kernel_rfl
theorem tb:(Tryz.prog.info? 143).bind (fun i=>i.zero.map Value.cells)=some #[.int .i64 0,.slice none 0 0]:=by kernel_rfl
theorem fc:(Tryz.prog.info? 143).map (·.size)=some 2:=by kernel_rfl
theorem gR:ar Tryz.prog 143 1=some 1:=by kernel_rfl
theorem SC (w:World):cm Tryz.prog 145 w= .ok #[(0,1),(1,1)] w:=by kernel_rfl
theorem rV:(Tryz.prog.info? 145).bind (fun i=>i.zero.map Value.cells)=some #[.int .i64 0,.int .i64 0]:=by kernel_rfl
theorem eZ:(Tryz.prog.info? 145).map (·.size)=some 2:=by kernel_rfl
theorem DH:(Tryz.prog.info? 145).bind (·.zero)=some (Value.agg #[.int .i64 0,.int .i64 0]):=by kernel_rfl
theorem N8:(Tryz.prog.info? 145).map (·.bytes)=some 16:=by kernel_rfl
theorem N9:(Tryz.prog.info? 141).map (·.size)=some 1:=by kernel_rfl
theorem eb:ar Tryz.prog 30 0=some 0:=by kernel_rfl
theorem NA:(Tryz.prog.info? 143).bind (·.zero)=some (Value.agg #[.int .i64 0,.slice none 0 0]):=by kernel_rfl
theorem SD:(Tryz.prog.info? 143).map (·.bytes)=some 32:=by kernel_rfl
theorem YR:(Tryz.prog.info? 28).map (·.size)=some 1:=by kernel_rfl
theorem nK:(Tryz.prog.info? 30).map (·.size)=some 1:=by kernel_rfl
theorem P7:(Tryz.prog.info? 25).bind (fun i=>i.zero.map Value.cells)=some #[.slice none 0 0,.slice none 0 0]:=by kernel_rfl
theorem EY:(Tryz.prog.info? 9).map (·.size)=some 1:=by kernel_rfl
theorem SE (w:World):cm Tryz.prog 165 w= .ok #[(0,1),(1,1)] w:=by kernel_rfl
theorem wI:(Tryz.prog.info? 165).bind (fun i=>i.zero.map Value.cells)=some #[.string ⟨#[]⟩,.slice none 0 0]:=by kernel_rfl
theorem im:(Tryz.prog.info? 165).map (·.size)=some 2:=by kernel_rfl
theorem eJ:(Tryz.prog.info? 3).bind (·.zero)=some (Value.int .i64 0):=by kernel_rfl
theorem kk:ar Tryz.prog 165 1=some 1:=by kernel_rfl
theorem fm:ar Tryz.prog 25 0=some 0:=by kernel_rfl
theorem NB:(Tryz.prog.info? 165).bind (·.zero)=some (Value.agg #[.string ⟨#[]⟩,.slice none 0 0]):=by kernel_rfl
theorem SF:(Tryz.prog.info? 165).map (·.bytes)=some 40:=by kernel_rfl
theorem YT:(Tryz.prog.info? 22).map (·.size)=some 1:=by kernel_rfl
theorem jQ:ar Tryz.prog 25 1=some 1:=by kernel_rfl
theorem YU:(Tryz.prog.info? 23).map (·.size)=some 1:=by kernel_rfl
theorem ln:(Tryz.prog.info? 25).map (·.size)=some 2:=by kernel_rfl
theorem jR:ar Tryz.prog 32 2=some 3:=by kernel_rfl
theorem y8:aW Tryz.prog 54:=⟨_,Tryz.func54,rfl,by kernel_rfl⟩
theorem YV (w:World):cm Tryz.prog 96 w= .ok #[(0,1),(1,1),(2,1),(3,6)] w:=by kernel_rfl
theorem P8:(Tryz.prog.info? 96).bind (fun i=>i.zero.map Value.cells)=some #[.string ⟨#[]⟩,.slice none 0 0,.int .i64 0,.int .i64 0,.string ⟨#[]⟩,.int .i64 0,.string ⟨#[]⟩,.slice none 0 0,.slice none 0 0]:=by kernel_rfl
theorem oQ:(Tryz.prog.info? 96).map (·.size)=some 9:=by kernel_rfl
theorem EZ:(Tryz.prog.info? 96).bind (·.zero)=some (Value.agg #[.string ⟨#[]⟩,.slice none 0 0,.int .i64 0,.int .i64 0,.string ⟨#[]⟩,.int .i64 0,.string ⟨#[]⟩,.slice none 0 0,.slice none 0 0]):=by kernel_rfl
theorem P9:(Tryz.prog.info? 96).map (·.bytes)=some 144:=by kernel_rfl
theorem PA:(Tryz.prog.info? 27).map (·.size)=some 1:=by kernel_rfl
theorem SG:(Tryz.prog.info? 32).bind (fun i=>i.zero.map Value.cells)=some #[.slice none 0 0,.slice none 0 0,.slice none 0 0,.slice none 0 0,.slice none 0 0]:=by kernel_rfl
theorem Qs:(Tryz.prog.info? 9).bind (·.zero)=some (Value.string ⟨#[]⟩):=by kernel_rfl
theorem SH (w:World):cm Tryz.prog 116 w= .ok #[(0,1),(1,1),(2,1)] w:=by kernel_rfl
theorem wJ:(Tryz.prog.info? 116).bind (fun i=>i.zero.map Value.cells)=some #[.string ⟨#[]⟩,.int .i64 0,.int .i64 0]:=by kernel_rfl
theorem jH:(Tryz.prog.info? 116).map (·.size)=some 3:=by kernel_rfl
theorem SI:(Tryz.prog.info? 116).bind (·.zero)=some (Value.agg #[.string ⟨#[]⟩,.int .i64 0,.int .i64 0]):=by kernel_rfl
theorem YW:aW Tryz.prog 52:=⟨_,Tryz.func52,rfl,by kernel_rfl⟩
theorem pA:ar Tryz.prog 32 0=some 0:=by kernel_rfl
theorem YX:aW Tryz.prog 53:=⟨_,Tryz.func53,rfl,by kernel_rfl⟩
theorem fU:(Tryz.prog.info? 57).bind (·.zero)=some (Value.slice none 0 0):=by kernel_rfl
theorem SJ (w:World):cm Tryz.prog 93 w= .ok #[(0,1),(1,1),(2,1),(3,1),(4,6)] w:=by kernel_rfl
theorem Gg:(Tryz.prog.info? 93).bind (fun i=>i.zero.map Value.cells)=some #[.string ⟨#[]⟩,.slice none 0 0,.int .i64 0,.int .i64 0,.int .i64 0,.string ⟨#[]⟩,.int .i64 0,.string ⟨#[]⟩,.slice none 0 0,.slice none 0 0]:=by kernel_rfl
theorem nL:(Tryz.prog.info? 93).map (·.size)=some 10:=by kernel_rfl
theorem YY:(Tryz.prog.info? 93).bind (·.zero)=some (Value.agg #[.string ⟨#[]⟩,.slice none 0 0,.int .i64 0,.int .i64 0,.int .i64 0,.string ⟨#[]⟩,.int .i64 0,.string ⟨#[]⟩,.slice none 0 0,.slice none 0 0]):=by kernel_rfl
theorem jS:ar Tryz.prog 32 1=some 2:=by kernel_rfl
theorem YZ:(Tryz.prog.info? 26).map (·.size)=some 1:=by kernel_rfl
theorem PB:aW Tryz.prog 56:=⟨_,Tryz.func56,rfl,by kernel_rfl⟩
theorem lI:aW Tryz.prog 55:=⟨_,Tryz.func55,rfl,by kernel_rfl⟩
theorem Bj:ar Tryz.prog 32 3=some 4:=by kernel_rfl
theorem qo:(Tryz.prog.info? 32).map (·.size)=some 5:=by kernel_rfl
theorem dF:(Tryz.prog.info? 42).bind (fun i=>i.zero.map Value.cells)=some #[.int .i64 0,.int .i64 0]:=by kernel_rfl
theorem PC (w:World):cm Tryz.prog 42 w= .ok #[(0,1),(1,1)] w:=by kernel_rfl
theorem ay:(Tryz.prog.info? 42).map (·.size)=some 2:=by kernel_rfl
theorem j2:ar Tryz.prog 88 0=some 0:=by kernel_rfl
theorem ef:ar Tryz.prog 88 1=some 1:=by kernel_rfl
theorem NC:aW Tryz.prog 138:=⟨_,Tryz.func138,rfl,by kernel_rfl⟩
theorem ND:(Tryz.prog.info? 3).bind (fun i=>i.zero.map Value.cells)=some #[.int .i64 0]:=by kernel_rfl
theorem SK:(Tryz.prog.info? 211).bind (fun i=>i.zero.map Value.cells)=some #[.nilFunc]:=by kernel_rfl
theorem SL:(Tryz.prog.info? 211).map (·.size)=some 1:=by kernel_rfl
theorem NF:aW Tryz.prog 139:=⟨_,Tryz.func139,rfl,by kernel_rfl⟩
theorem oh:aW Tryz.prog 118:=⟨_,Tryz.func118,rfl,by kernel_rfl⟩
theorem hJ:ar Tryz.prog 91 0=some 0:=by kernel_rfl
theorem lJ:ar Tryz.prog 91 2=some 2:=by kernel_rfl
theorem gN:ar Tryz.prog 91 4=some 5:=by kernel_rfl
theorem pB:ar Tryz.prog 91 1=some 1:=by kernel_rfl
theorem Ea:aW Tryz.prog 25:=⟨_,Tryz.func25,rfl,by kernel_rfl⟩
theorem lK:ar Tryz.prog 91 3=some 3:=by kernel_rfl
theorem NG:aW Tryz.prog 119:=⟨_,Tryz.func119,rfl,by kernel_rfl⟩
theorem NH:aW Tryz.prog 120:=⟨_,Tryz.func120,rfl,by kernel_rfl⟩
theorem rX:aW Tryz.prog 117:=⟨_,Tryz.func117,rfl,by kernel_rfl⟩
theorem cX:ar Tryz.prog 42 0=some 0:=by kernel_rfl
theorem SM:(Tryz.prog.info? 88).map (·.bytes)=some 40:=by kernel_rfl
theorem DI:aW Tryz.prog 121:=⟨_,Tryz.func121,rfl,by kernel_rfl⟩
theorem SN:(Tryz.prog.info? 190).bind (fun i=>i.zero.map Value.cells)=some #[.nilFunc]:=by kernel_rfl
theorem SO:(Tryz.prog.info? 190).map (·.size)=some 1:=by kernel_rfl
theorem tc:aW Tryz.prog 92:=⟨_,Tryz.func92,rfl,by kernel_rfl⟩
theorem o3:ar Tryz.prog 165 0=some 0:=by kernel_rfl
theorem pg:(Tryz.prog.info? 129).bind (fun i=>i.zero.map Value.cells)=some #[.slice none 0 0,.slice none 0 0]:=by kernel_rfl
theorem fP:(Tryz.prog.info? 175).map (·.size)=some 1:=by kernel_rfl
theorem om:(Tryz.prog.info? 175).bind (·.zero)=some (Value.int .u64 0):=by kernel_rfl
theorem oo:(Tryz.prog.info? 175).map (·.bytes)=some 8:=by kernel_rfl
theorem SP (w:World):cm Tryz.prog 129 w= .ok #[(0,1),(1,1)] w:=by kernel_rfl
theorem iQ:(Tryz.prog.info? 129).map (·.size)=some 2:=by kernel_rfl
theorem ph:ar Tryz.prog 129 0=some 0:=by kernel_rfl
theorem sg:ar Tryz.prog 129 1=some 1:=by kernel_rfl
theorem SQ:aW Tryz.prog 115:=⟨_,Tryz.func115,rfl,by kernel_rfl⟩
theorem Ya:aW Tryz.prog 93:=⟨_,Tryz.func93,rfl,by kernel_rfl⟩
theorem SR:aW Tryz.prog 66:=⟨_,Tryz.func66,rfl,by kernel_rfl⟩
theorem Yb:aW Tryz.prog 94:=⟨_,Tryz.func94,rfl,by kernel_rfl⟩
theorem o4:ar Tryz.prog 116 0=some 0:=by kernel_rfl
theorem o5:ar Tryz.prog 116 1=some 1:=by kernel_rfl
theorem o6:ar Tryz.prog 116 2=some 2:=by kernel_rfl
theorem Eb:aW Tryz.prog 99:=⟨_,Tryz.func99,rfl,by kernel_rfl⟩
theorem km:ar Tryz.prog 143 0=some 0:=by kernel_rfl
theorem gn:ar Tryz.prog 145 0=some 0:=by kernel_rfl
theorem gp:ar Tryz.prog 145 1=some 1:=by kernel_rfl
theorem qW:(Tryz.prog.info? 4).map (·.size)=some 1:=by kernel_rfl
theorem Wr:(Tryz.prog.info? 4).bind (·.zero)=some (Value.bool false):=by kernel_rfl
theorem Ws:(Tryz.prog.info? 4).map (·.bytes)=some 1:=by kernel_rfl
theorem Gh:(Tryz.prog.info? 3).map (·.bytes)=some 8:=by kernel_rfl
theorem NI:aW Tryz.prog 103:=⟨_,Tryz.func103,rfl,by kernel_rfl⟩
theorem Yc:aW Tryz.prog 97:=⟨_,Tryz.func97,rfl,by kernel_rfl⟩
theorem SS:aW Tryz.prog 98:=⟨_,Tryz.func98,rfl,by kernel_rfl⟩
theorem SU:aW Tryz.prog 100:=⟨_,Tryz.func100,rfl,by kernel_rfl⟩
theorem NJ:aW Tryz.prog 146:=⟨_,Tryz.func146,rfl,by kernel_rfl⟩
theorem SV:aW Tryz.prog 137:=⟨_,Tryz.func137,rfl,by kernel_rfl⟩
theorem NK:aW Tryz.prog 136:=⟨_,Tryz.func136,rfl,by kernel_rfl⟩
theorem SX:aW Tryz.prog 135:=⟨_,Tryz.func135,rfl,by kernel_rfl⟩
theorem SY:aW Tryz.prog 116:=⟨_,Tryz.func116,rfl,by kernel_rfl⟩
theorem Kp {u0:Value}(h0:u0.oneCell'=true)(w:World):(Instr.build 88 #[(0,u0)]).run Tryz.prog w= .ok (.agg #[u0,.slice none 0 0]) w:=
 bc iP (P5 w) (by simp[Instr.fill,J.br,J.aI h0])
theorem zc {u0 u1 zd ze:Value}(h0:u0.oneCell'=true)(h1:u1.oneCell'=true)(w:World):(Instr.build 91 #[(0,u0),(1,u1),(3,.agg #[zd,ze])]).run Tryz.prog w= .ok (.agg #[u0,u1,.int .i64 0,zd,ze,.slice none 0 0]) w:=
 bc sM (Ko w) (by simp[Instr.fill,J.br,J.aI h0,J.aI h1])
theorem Ec {u0 u2:Value}(h0:u0.oneCell'=true)(h2:u2.oneCell'=true)(w:World):(Instr.build 91 #[(0,u0),(2,u2)]).run Tryz.prog w= .ok (.agg #[u0,.string ⟨#[]⟩,u2,.string ⟨#[]⟩,.slice none 0 0,.slice none 0 0]) w:=
 bc sM (Ko w) (by simp[Instr.fill,J.br,J.aI h0,J.aI h2])
theorem zf {u0 zd ze u4:Value}(h0:u0.oneCell'=true)(h4:u4.oneCell'=true)(w:World):(Instr.build 91 #[(0,u0),(3,.agg #[zd,ze]),(4,u4)]).run Tryz.prog w= .ok (.agg #[u0,.string ⟨#[]⟩,.int .i64 0,zd,ze,u4]) w:=
 bc sM (Ko w) (by simp[Instr.fill,J.br,J.aI h0,J.aI h4])
theorem Ed {u0 u4:Value}(h0:u0.oneCell'=true)(h4:u4.oneCell'=true)(w:World):(Instr.build 91 #[(0,u0),(4,u4)]).run Tryz.prog w= .ok (.agg #[u0,.string ⟨#[]⟩,.int .i64 0,.string ⟨#[]⟩,.slice none 0 0,u4]) w:=
 bc sM (Ko w) (by simp[Instr.fill,J.br,J.aI h0,J.aI h4])
theorem Gi {u0:Value}(h0:u0.oneCell'=true)(w:World):(Instr.build 143 #[(0,u0)]).run Tryz.prog w= .ok (.agg #[u0,.slice none 0 0]) w:=
 bc tb (SB w) (by simp[Instr.fill,J.br,J.aI h0])
theorem Bk {u0 u1:Value}(h0:u0.oneCell'=true)(h1:u1.oneCell'=true)(w:World):(Instr.build 145 #[(0,u0),(1,u1)]).run Tryz.prog w= .ok (.agg #[u0,u1]) w:=
 bc rV (SC w) (by simp[Instr.fill,J.br,J.aI h0,J.aI h1])
theorem Gj {u0:Value}(h0:u0.oneCell'=true)(w:World):(Instr.build 165 #[(0,u0)]).run Tryz.prog w= .ok (.agg #[u0,.slice none 0 0]) w:=
 bc wI (SE w) (by simp[Instr.fill,J.br,J.aI h0])
theorem oq {u0 u2 zd ze SZ Sa Sb Sc zg:Value}(h0:u0.oneCell'=true)(h2:u2.oneCell'=true)(w:World):(Instr.build 96 #[(0,u0),(2,u2),(3,.agg #[zd,ze,SZ,Sa,Sb,Sc]),(1,.agg #[zg])]).run Tryz.prog w= .ok (.agg #[u0,zg,u2,zd,ze,SZ,Sa,Sb,Sc]) w:=
 bc P8 (YV w) (by simp[Instr.fill,J.br,J.aI h0,J.aI h2])
theorem iR {u0 u1 u2:Value}(h0:u0.oneCell'=true)(h1:u1.oneCell'=true)(h2:u2.oneCell'=true)(w:World):(Instr.build 116 #[(0,u0),(1,u1),(2,u2)]).run Tryz.prog w= .ok (.agg #[u0,u1,u2]) w:=
 bc wJ (SH w) (by simp[Instr.fill,J.br,J.aI h0,J.aI h1,J.aI h2])
theorem ot {u0 u2 Gk Gl Gm Gn Gp Gq zg:Value}(h0:u0.oneCell'=true)(h2:u2.oneCell'=true)(w:World):(Instr.build 93 #[(0,u0),(2,u2),(4,.agg #[Gk,Gl,Gm,Gn,Gp,Gq]),(1,.agg #[zg])]).run Tryz.prog w= .ok (.agg #[u0,zg,u2,.int .i64 0,Gk,Gl,Gm,Gn,Gp,Gq]) w:=
 bc Gg (SJ w) (by simp[Instr.fill,J.br,J.aI h0,J.aI h2])
theorem gq {u0 u2 u3 Gk Gl Gm Gn Gp Gq zg:Value}(h0:u0.oneCell'=true)(h2:u2.oneCell'=true)(h3:u3.oneCell'=true)(w:World):(Instr.build 93 #[(0,u0),(2,u2),(3,u3),(4,.agg #[Gk,Gl,Gm,Gn,Gp,Gq]),(1,.agg #[zg])]).run Tryz.prog w= .ok (.agg #[u0,zg,u2,u3,Gk,Gl,Gm,Gn,Gp,Gq]) w:=
 bc Gg (SJ w) (by simp[Instr.fill,J.br,J.aI h0,J.aI h2,J.aI h3])
theorem j3 {u0 u1:Value}(h0:u0.oneCell'=true)(h1:u1.oneCell'=true)(w:World):(Instr.build 129 #[(0,u0),(1,u1)]).run Tryz.prog w= .ok (.agg #[u0,u1]) w:=
 bc pg (SP w) (by simp[Instr.fill,J.br,J.aI h0,J.aI h1])
theorem y9 {u1:Value}(h1:u1.oneCell'=true)(w:World):(Instr.build 88 #[(1,u1)]).run Tryz.prog w= .ok (.agg #[.string ⟨#[]⟩,u1]) w:=
 bc iP (P5 w) (by simp[Instr.fill,J.br,J.aI h1])
theorem qp (w:World):(Instr.build 88 #[]).run Tryz.prog w= .ok (.agg #[.string ⟨#[]⟩,.slice none 0 0]) w:=
 bc iP (P5 w) (by simp[Instr.fill,J.br])
theorem bJ {u0 u1:Value}(h0:u0.oneCell'=true)(h1:u1.oneCell'=true)(w:World):(Instr.build 42 #[(0,u0),(1,u1)]).run Tryz.prog w= .ok (.agg #[u0,u1]) w:=
 bc dF (PC w) (by simp[Instr.fill,J.br,J.aI h0,J.aI h1])
theorem fA (w:World):(Instr.build 42 #[]).run Tryz.prog w= .ok (.agg #[.int .i64 0,.int .i64 0]) w:=
 bc dF (PC w) (by simp[Instr.fill,J.br])
theorem DJ {u0:Value}(h0:u0.oneCell'=true)(w:World):(Instr.build 42 #[(0,u0)]).run Tryz.prog w= .ok (.agg #[u0,.int .i64 0]) w:=
 bc dF (PC w) (by simp[Instr.fill,J.br,J.aI h0])
theorem j8 (b:cQ)(v:ck)(l:List cT):bK (.mk b v l)= .mk b (l.map bK):=by rw[bK,qk]
theorem lp (k:Int)(s:cQ)(i:Int)(t:cT)(v:ck)(l:List cF):ax (.mk k s i t v l)= .mk k s i (bK t) (l.map ax):=by rw[ax,p7]
abbrev S0:dY:= .mk [] []
abbrev gW:cT:= .mk [] fa []
theorem td {α:Type}{p:α→Prop}{x y:α}(hx:p x)(hy:p y):∀z∈[x,y],p z:=fun z hz=>by
 simp only[List.mem_cons,List.not_mem_nil,or_false]at hz
 rcases hz with rfl|rfl
 ·exact hx
 ·exact hy
theorem Gr {α:Type}{p:α→Prop}{x:α}(hx:p x):∀z∈[x],p z:=fun z hz=>by rw[List.mem_singleton.1 hz];exact hx
theorem Sd:bD 1:=by unfold bD;decide
theorem Se:bD 2:=by unfold bD;decide
theorem Sf:bD 3:=by unfold bD;decide
theorem Sg:bD 4:=by unfold bD;decide
theorem Gs:bD 0:=by unfold bD;decide
theorem js (s:cQ)(hs:iL s):fF Tryz.prog 50 #[sv s] ([].map aG) (fun v H'=>H'=[aG (au (.mk s []) v)]):=by
 refine fF.body (args:=[sv s]) 5 Tryz.func50 rfl Tryz.ntmps50 rfl (fun c=> ?_);refine St.cast (H':=[]) rfl ?_;refine St.sr ?_;refine St.alloc iP rfl (fun b2=> ?_);refine St.nn (St.sr ?_);refine St.mv ?_;refine St.ee (Ev.build (ps:=[(0,(.tmp 3))]) (aU.cons (aL.mk rfl) aU.nil) (fun w=>Kp rfl w)) ?_;refine St.sA (.mk rfl) (.mk rfl) bC ?_;refine St.nn (St.aX ?_);refine St.hY gh ?_;refine St.da bW ?_;refine St.mb s (.slice none 0 0) rfl [] ?_;refine St.zW (.mk s fa []) (s:= .mk s []) (aQ (.mk s fa [])) rfl (j8 _ _ _) hs ?_;refine St.rT [_] [aG (au (.mk s []) (aQ (.mk s fa [])))] Tryz.results50 ⟨⟨_,_,_,_,rfl,ju.mem,.inl ⟨⟨_,bX⟩,bC,rfl⟩⟩,trivial⟩ ?_;rfl
theorem eB (u1 u2:Value)(s1 s2:dY):fF Tryz.prog 51 #[u1,u2] ([au s1 u1,au s2 u2].map aG) (fun v H'=>H'=[aG (au (.mk [] [s1,s2]) v)]):=by
 refine fF.body (args:=[u1,u2]) 9 Tryz.func51 rfl Tryz.ntmps51 rfl (fun c=> ?_);refine St.cast (H':=[aG (au s1 u1),aG (au s2 u2)]) rfl ?_;refine St.seq ?_;refine St.au s1 u1 (fun x hx=> ?_);obtain⟨rfl,rfl,lq⟩:=hx;refine St.au s2 u2 (fun y hy=> ?_);obtain⟨rfl,rfl,Kq⟩:=hy;refine St.rg ?_;refine St.cV (.mk rfl) rfl (fun b2=> ?_);refine St.cV (.mk rfl) rfl (fun b3=> ?_);refine St.alloc iP rfl (fun b4=> ?_);refine St.nn (St.sr ?_);refine St.ee (Ev.bF (.mk rfl) bX trivial (by exact bC)) ?_;refine St.ee (Ev.bF (.mk rfl) bX trivial (by exact bC)) ?_;refine St.cn rfl (.cons (.mk rfl) (.cons (.mk rfl) .nil)) dM bC EW rfl rfl (by simp[Value.cells]) rfl rfl (fun b7=> ?_);refine St.aV (.slice (some ⟨b7,0,none⟩) 2 2) gh [x,y] rfl rfl (td lq Kq) ?_;refine St.da bW ?_;refine St.eo bW (xs:=[]) (x:=y) ?_;refine St.eo bW (xs:=[y]) (x:=x) ?_;refine St.mb [] (.slice (some ⟨b7,0,none⟩) 2 2) rfl [x,y] ?_;refine St.ee (Ev.build (ps:=[(1,(.tmp 7))]) (aU.cons (aL.mk rfl) aU.nil) (fun w=>y9 rfl w)) ?_;refine St.sA (.mk rfl) (.mk rfl) bC ?_;refine St.nn (St.aX ?_);refine St.zW (.mk [] ⟨(.slice (some ⟨b7,0,none⟩) 2 2),rfl⟩ [x,y]) (s:= .mk [] [bK x,bK y]) (aQ (.mk [] ⟨(.slice (some ⟨b7,0,none⟩) 2 2),rfl⟩ [x,y])) rfl (j8 _ _ _) (Nat.zero_le _) ?_;refine St.rT [_] [aG (au (.mk [] [bK x,bK y]) (aQ (.mk [] ⟨(.slice (some ⟨b7,0,none⟩) 2 2),rfl⟩ [x,y])))] Tryz.results51 ⟨⟨_,_,_,_,rfl,ju.mem,.inl ⟨⟨_,bX⟩,bC,rfl⟩⟩,trivial⟩ ?_;rfl
theorem dI (name:cQ)(hn:iL name)(u:Value)(s:dY):fF Tryz.prog 57 #[sv name,u] ([au s u].map aG) (fun v H'=>H'=[aG (isTerm (.mk 1 name 0 s []) v)]):=by
 refine fF.body (args:=[sv name,u]) 8 Tryz.func57 rfl Tryz.ntmps57 rfl (fun c=> ?_);refine St.cast (H':=[aG (au s u)]) rfl ?_;refine St.seq ?_;refine St.au s u (fun x hx=> ?_);obtain⟨rfl,rfl,lq⟩:=hx;refine St.rg ?_;refine St.cV (.mk rfl) rfl (fun b3=> ?_);refine St.alloc sM rfl (fun b4=> ?_);refine St.nn (St.sr ?_);refine St.mv ?_;refine St.ee (Ev.bF (.mk rfl) bX trivial (by exact bC)) ?_;refine St.ee (Ev.build (ps:=[(0,(.const (.int .i64 1))),(1,(.tmp 5)),(3,(.tmp 6))]) (aU.cons (aL.mk rfl) (aU.cons (aL.mk rfl) (aU.cons (aL.mk rfl) aU.nil))) (fun w=>zc rfl rfl w)) ?_;refine St.sA (.mk rfl) (.mk rfl) dC ?_ (h1:=(by simp only[List.all_cons,List.all_nil,Bool.and_true,Bool.and_eq_true];exact⟨rfl,rfl,rfl,rfl,x.av.2,rfl⟩));refine St.nn (St.aX ?_);refine St.hY cG ?_;refine St.da bO ?_;refine St.xy 1 name 0 x (.slice none 0 0) rfl [] ?_;refine St.toTerm (.mk 1 name 0 x fa []) (s:= .mk 1 name 0 (bK x) []) (bb (.mk 1 name 0 x fa [])) rfl (lp _ _ _ _ _ _) ⟨Sd,hn,Gs,lq⟩ ?_;refine St.rT [_] [aG (isTerm (.mk 1 name 0 (bK x) []) (bb (.mk 1 name 0 x fa [])))] Tryz.results57 ⟨⟨_,_,_,_,rfl,ju.mem,.inl ⟨⟨_,fO⟩,dC,rfl⟩⟩,trivial⟩ ?_;rfl
theorem cP (i:Int)(hi:bD i):fF Tryz.prog 60 #[iv i] ([].map aG) (fun v H'=>H'=[aG (isTerm (.mk 2 [] i S0 []) v)]):=by
 refine fF.body (args:=[iv i]) 5 Tryz.func60 rfl Tryz.ntmps60 rfl (fun c=> ?_);refine St.cast (H':=[]) rfl ?_;refine St.sr ?_;refine St.alloc sM rfl (fun b2=> ?_);refine St.nn (St.sr ?_);refine St.mv ?_;refine St.ee (Ev.build (ps:=[(0,(.const (.int .i64 2))),(2,(.tmp 3))]) (aU.cons (aL.mk rfl) (aU.cons (aL.mk rfl) aU.nil)) (fun w=>Ec rfl rfl w)) ?_;refine St.sA (.mk rfl) (.mk rfl) dC ?_;refine St.nn (St.aX ?_);refine St.hY gh ?_;refine St.da bW ?_;refine St.mb [] (.slice none 0 0) rfl [] ?_;refine St.hY cG ?_;refine St.da bO ?_;refine St.xy 2 [] i gW (.slice none 0 0) rfl [] ?_;refine St.toTerm (.mk 2 [] i gW fa []) (s:= .mk 2 [] i S0 []) (bb (.mk 2 [] i gW fa [])) rfl (by rw[lp,j8];rfl) ⟨Se,Nat.zero_le _,hi,Nat.zero_le _⟩ ?_;refine St.rT [_] [aG (isTerm (.mk 2 [] i S0 []) (bb (.mk 2 [] i gW fa [])))] Tryz.results60 ⟨⟨_,_,_,_,rfl,ju.mem,.inl ⟨⟨_,fO⟩,dC,rfl⟩⟩,trivial⟩ ?_;rfl
theorem cx (u1 u2:Value)(s:dY)(t:dB):fF Tryz.prog 58 #[u1,u2] ([au s u1,isTerm t u2].map aG) (fun v H'=>H'=[aG (isTerm (.mk 3 [] 0 s [t]) v)]):=by
 refine fF.body (args:=[u1,u2]) 9 Tryz.func58 rfl Tryz.ntmps58 rfl (fun c=> ?_);refine St.cast (H':=[aG (au s u1),aG (isTerm t u2)]) rfl ?_;refine St.seq ?_;refine St.au s u1 (fun x hx=> ?_);obtain⟨rfl,rfl,lq⟩:=hx;refine St.isTerm t u2 (fun y hy=> ?_);obtain⟨rfl,rfl,Kq⟩:=hy;refine St.rg ?_;refine St.cV (.mk rfl) rfl (fun b2=> ?_);refine St.cV (.mk rfl) rfl (fun b3=> ?_);refine St.alloc sM rfl (fun b4=> ?_);refine St.nn (St.sr ?_);refine St.ee (Ev.bF (.mk rfl) bX trivial (by exact bC)) ?_;refine St.ee (Ev.bF (.mk rfl) fO trivial (by exact dC)) ?_;refine St.cn rfl (.cons (.mk rfl) .nil) ez dC P6 rfl rfl (by simp[Value.cells]) rfl rfl (fun b7=> ?_);refine St.aV (.slice (some ⟨b7,0,none⟩) 1 1) cG [y] rfl rfl (Gr Kq) ?_;refine St.da bO ?_;refine St.eo bO (xs:=[]) (x:=y) ?_;refine St.xy 3 [] 0 x (.slice (some ⟨b7,0,none⟩) 1 1) rfl [y] ?_;refine St.ee (Ev.build (ps:=[(0,(.const (.int .i64 3))),(3,(.tmp 5)),(4,(.tmp 7))]) (aU.cons (aL.mk rfl) (aU.cons (aL.mk rfl) (aU.cons (aL.mk rfl) aU.nil))) (fun w=>zf rfl rfl w)) ?_;refine St.sA (.mk rfl) (.mk rfl) dC ?_ (h1:=(by simp only[List.all_cons,List.all_nil,Bool.and_true,Bool.and_eq_true];exact⟨rfl,rfl,rfl,rfl,x.av.2,rfl⟩));refine St.nn (St.aX ?_);refine St.toTerm (.mk 3 [] 0 x ⟨(.slice (some ⟨b7,0,none⟩) 1 1),rfl⟩ [y]) (s:= .mk 3 [] 0 (bK x) [ax y]) (bb (.mk 3 [] 0 x ⟨(.slice (some ⟨b7,0,none⟩) 1 1),rfl⟩ [y])) rfl (lp _ _ _ _ _ _) ⟨Sf,Nat.zero_le _,Gs,lq⟩ ?_;refine St.rT [_] [aG (isTerm (.mk 3 [] 0 (bK x) [ax y]) (bb (.mk 3 [] 0 x ⟨(.slice (some ⟨b7,0,none⟩) 1 1),rfl⟩ [y])))] Tryz.results58 ⟨⟨_,_,_,_,rfl,ju.mem,.inl ⟨⟨_,fO⟩,dC,rfl⟩⟩,trivial⟩ ?_;rfl
theorem dg (u1 u2:Value)(t1 t2:dB):fF Tryz.prog 59 #[u1,u2] ([isTerm t1 u1,isTerm t2 u2].map aG) (fun v H'=>H'=[aG (isTerm (.mk 4 [] 0 S0 [t1,t2]) v)]):=by
 refine fF.body (args:=[u1,u2]) 9 Tryz.func59 rfl Tryz.ntmps59 rfl (fun c=> ?_);refine St.cast (H':=[aG (isTerm t1 u1),aG (isTerm t2 u2)]) rfl ?_;refine St.seq ?_;refine St.isTerm t1 u1 (fun x hx=> ?_);obtain⟨rfl,rfl,lq⟩:=hx;refine St.isTerm t2 u2 (fun y hy=> ?_);obtain⟨rfl,rfl,Kq⟩:=hy;refine St.rg ?_;refine St.cV (.mk rfl) rfl (fun b2=> ?_);refine St.cV (.mk rfl) rfl (fun b3=> ?_);refine St.alloc sM rfl (fun b4=> ?_);refine St.nn (St.sr ?_);refine St.ee (Ev.bF (.mk rfl) fO trivial (by exact dC)) ?_;refine St.ee (Ev.bF (.mk rfl) fO trivial (by exact dC)) ?_;refine St.cn rfl (.cons (.mk rfl) (.cons (.mk rfl) .nil)) ez dC P6 rfl rfl (by simp[Value.cells]) rfl rfl (fun b7=> ?_);refine St.aV (.slice (some ⟨b7,0,none⟩) 2 2) cG [x,y] rfl rfl (td lq Kq) ?_;refine St.hY gh ?_;refine St.da bW ?_;refine St.mb [] (.slice none 0 0) rfl [] ?_;refine St.da bO ?_;refine St.eo bO (xs:=[]) (x:=y) ?_;refine St.eo bO (xs:=[y]) (x:=x) ?_;refine St.xy 4 [] 0 gW (.slice (some ⟨b7,0,none⟩) 2 2) rfl [x,y] ?_;refine St.ee (Ev.build (ps:=[(0,(.const (.int .i64 4))),(4,(.tmp 7))]) (aU.cons (aL.mk rfl) (aU.cons (aL.mk rfl) aU.nil)) (fun w=>Ed rfl rfl w)) ?_;refine St.sA (.mk rfl) (.mk rfl) dC ?_;refine St.nn (St.aX ?_);refine St.toTerm (.mk 4 [] 0 gW ⟨(.slice (some ⟨b7,0,none⟩) 2 2),rfl⟩ [x,y]) (s:= .mk 4 [] 0 S0 [ax x,ax y]) (bb (.mk 4 [] 0 gW ⟨(.slice (some ⟨b7,0,none⟩) 2 2),rfl⟩ [x,y])) rfl (by rw[lp,j8];rfl) ⟨Sg,Nat.zero_le _,Gs,Nat.zero_le _⟩ ?_;refine St.rT [_] [aG (isTerm (.mk 4 [] 0 S0 [ax x,ax y]) (bb (.mk 4 [] 0 gW ⟨(.slice (some ⟨b7,0,none⟩) 2 2),rfl⟩ [x,y])))] Tryz.results59 ⟨⟨_,_,_,_,rfl,ju.mem,.inl ⟨⟨_,fO⟩,dC,rfl⟩⟩,trivial⟩ ?_;rfl
mutual
def rY:dY→Nat
 | .mk _ l=>yA l+1
def yA:List dY→Nat
 | []=>0
 |x::l=>rY x+yA l
end
mutual
def jn:dB→Nat
 | .mk _ _ _ _ l=>dT l+1
def dT:List dB→Nat
 | []=>0
 |x::l=>jn x+dT l
end
def ko:List (dY×Nat)→Nat→Int
 | [],_=>0
 |x::r,n=>if(gF x.1 x.2 n).2≠0 then(gF x.1 x.2 n).2 else ko r (gF x.1 x.2 n).1
theorem wK (d:Nat)(r:List (dY×Nat)):∀(l:List dY) (n:Nat),ko (l.map (fun y=>(y,d))++r) n=if(gT l d n).2≠0 then(gT l d n).2 else ko r (gT l d n).1
 | [],n=>by simp[gT]
 |x::l,n=>by
  rw[List.map_cons,List.cons_append,ko,gT]
  by_cases h:(gF x d n).2≠0
  ·rw[if_pos h,if_pos h,if_pos h]
  ·rw[if_neg h,if_neg h,wK d r l]
theorem Ee (s:dY):ko [(s,1)] 0=jl s:=by
 show(if(gF s 1 0).2≠0 then(gF s 1 0).2 else 0)=(gF s 1 0).2
 split
 ·rfl
 ·rename_i h;exact(Decidable.not_not.1 h).symm
theorem si (x:dY)(d n:Nat):gF x d n=if 200<n+1∨40<d then(n+1,1)else if dS x.base x.args.length=false then(n+1,5)else gT x.args (d+1) (n+1):=by cases x;rw[gF];rfl
theorem pC (x:dY)(d n:Nat)(r:List (dY×Nat)):ko ((x,d)::r) n=if(gF x d n).2≠0 then(gF x d n).2 else ko r (gF x d n).1:=by rw[ko]
theorem Ef {x:dY}{d n:Nat}{r:List (dY×Nat)}(h:200<n+1∨40<d):ko ((x,d)::r) n=1:=by
 rw[pC,si,if_pos h];rfl
theorem wL {x:dY}{d n:Nat}{r:List (dY×Nat)}(h:¬(200<n+1∨40<d))(h2:dS x.base x.args.length=false):ko ((x,d)::r) n=5:=by
 rw[pC,si,if_neg h,if_pos h2];rfl
theorem zh {x:dY}{d n:Nat}{r:List (dY×Nat)}(h:¬(200<n+1∨40<d))(h2:dS x.base x.args.length=true):ko ((x,d)::r) n=ko (x.args.map (fun y=>(y,d+1))++r) (n+1):=by
 have e:gF x d n=gT x.args (d+1) (n+1):=by
  rw[si,if_neg h,if_neg]
  rw[h2];decide
 rw[pC,e,wK]
def pD:List (dB×Nat×Nat)→Nat→Int×Int
 | [],_=>(0,0)
 |x::r,n=>if(fi x.1 x.2.1 x.2.2 n).2.1≠0 then(fi x.1 x.2.1 x.2.2 n).2 else pD r (fi x.1 x.2.1 x.2.2 n).1
theorem zi (d b:Nat)(r:List (dB×Nat×Nat)):∀(l:List dB) (n:Nat),pD (l.map (fun y=>(y,d,b))++r) n=if(jE l d b n).2.1≠0 then(jE l d b n).2 else pD r (jE l d b n).1
 | [],n=>by simp[jE]
 |x::l,n=>by
  rw[List.map_cons,List.cons_append,pD,jE]
  by_cases h:(fi x d b n).2.1≠0
  ·rw[if_pos h,if_pos h,if_pos h]
  ·rw[if_neg h,if_neg h,zi d b r l]
def jT (x:dB)(b:Nat):Int:=gU x.kind x.name x.index x.type x.args.length b
theorem yB (x:dB)(d b n:Nat):fi x d b n=if 200<n+1∨40<d then(n+1,1,(n:Int))else if jT x b≠0 then(n+1,jT x b,(n:Int))else jE x.args (d+1) (if x.kind=3 then b+1 else b) (n+1):=by cases x;rw[fi];rfl
theorem o7 (x:dB)(d b n:Nat)(r:List (dB×Nat×Nat)):pD ((x,d,b)::r) n=if(fi x d b n).2.1≠0 then(fi x d b n).2 else pD r (fi x d b n).1:=by rw[pD]
theorem Gt {x:dB}{d b n:Nat}{r:List (dB×Nat×Nat)}(h:200<n+1∨40<d):pD ((x,d,b)::r) n=(1,(n:Int)):=by
 rw[o7,yB,if_pos h];rfl
theorem Gu {x:dB}{d b n:Nat}{r:List (dB×Nat×Nat)}(h:¬(200<n+1∨40<d))(h2:jT x b≠0):pD ((x,d,b)::r) n=(jT x b,(n:Int)):=by
 rw[o7,yB,if_neg h,if_pos h2];exact if_pos h2
theorem Kr {x:dB}{d b n:Nat}{r:List (dB×Nat×Nat)}(h:¬(200<n+1∨40<d))(h2:jT x b=0):pD ((x,d,b)::r) n=pD (x.args.map (fun y=>(y,d+1,if x.kind=3 then b+1 else b))++r) (n+1):=by
 rw[o7,yB,if_neg h,if_neg (not_not_intro h2),zi]
theorem Gv:∀(x:dB) (d b n:Nat),(fi x d b n).2.1=0→(fi x d b n).2=(0,0):=by
 intro x;refine dB.rec (motive_1:=fun x=>∀d b n,(fi x d b n).2.1=0→(fi x d b n).2=(0,0)) (motive_2:=fun l=>∀d b n,(jE l d b n).2.1=0→(jE l d b n).2=(0,0)) ?_ ?_ ?_ x
 ·intro k s i t l ih d b n h
  rw[fi]at h⊢
  split
  ·rename_i h1;rw[if_pos h1]at h;exact absurd h (by simp)
  ·rename_i h1
   rw[if_neg h1]at h
   split
   ·rename_i h2;rw[if_pos h2]at h;exact absurd h h2
   ·rename_i h2;rw[if_neg h2]at h;exact ih _ _ _ h
 ·intro d b n _;rfl
 ·intro x l BA yC d b n h
  rw[jE]at h⊢
  split
  ·rename_i h1;rw[if_pos h1]at h;exact absurd h h1
  ·rename_i h1;rw[if_neg h1]at h;exact yC _ _ _ h
theorem te:∀(x:dB) (d b n:Nat),(fi x d b n).2.1=0→(fi x d b n).1≤200∧(fi x d b n).1=n+jn x:=by
 intro x;refine dB.rec (motive_1:=fun x=>∀d b n,(fi x d b n).2.1=0→(fi x d b n).1≤200∧(fi x d b n).1=n+jn x) (motive_2:=fun l=>∀d b n,(jE l d b n).2.1=0→(n≤200→(jE l d b n).1≤200)∧(jE l d b n).1=n+dT l) ?_ ?_ ?_ x
 ·intro k s i t l ih d b n h
  rw[fi]at h⊢
  by_cases h1:200<n+1∨40<d
  ·rw[if_pos h1]at h;exact absurd h (by simp)
  rw[if_neg h1]at h⊢
  by_cases h2:gU k s i t l.length b≠0
  ·rw[if_pos h2]at h;exact absurd h h2
  rw[if_neg h2]at h⊢;obtain⟨k1,k2⟩:=ih _ _ _ h;exact⟨k1 (by omega),by rw[k2,jn];omega⟩
 ·intro d b n _;exact⟨fun h=>h,rfl⟩
 ·intro x l BA yC d b n h
  rw[jE]at h⊢
  by_cases h1:(fi x d b n).2.1≠0
  ·rw[if_pos h1]at h;exact absurd h h1
  rw[if_neg h1]at h⊢;obtain⟨a1,a2⟩:=BA d b n (Decidable.not_not.1 h1);obtain⟨b1,b2⟩:=yC _ _ _ h;exact⟨fun _=>b1 a1,by rw[b2,a2,dT];omega⟩
theorem PD:∀(x:dB) (d b n:Nat),n≤200→(fi x d b n).1≤201:=by
 intro x;refine dB.rec (motive_1:=fun x=>∀d b n,n≤200→(fi x d b n).1≤201) (motive_2:=fun l=>∀d b n,n≤200→(jE l d b n).1≤201) ?_ ?_ ?_ x
 ·intro k s i t l ih d b n hn
  rw[fi]
  split
  ·show n+1≤201;omega
  ·split
   ·show n+1≤201;omega
   ·exact ih _ _ _ (by omega)
 ·intro d b n h;show n≤201;omega
 ·intro x l BA yC d b n h
  rw[jE]
  split
  ·exact BA d b n h
  ·rename_i h1
   exact yC _ _ _ (te x d b n (Decidable.not_not.1 h1)).1
inductive vQ:dB→Nat→Nat→Prop
 |mk {x:dB} {d b:Nat} (hd:d≤40) (h:jT x b=0) (k:∀y∈x.args,vQ y (d+1) (if x.kind=3 then b+1 else b)):vQ x d b
theorem zj:∀(x:dB) (d b n:Nat),(fi x d b n).2.1=0→vQ x d b:=by
 intro x;refine dB.rec (motive_1:=fun x=>∀d b n,(fi x d b n).2.1=0→vQ x d b) (motive_2:=fun l=>∀d b n,(jE l d b n).2.1=0→∀y∈l,vQ y d b) ?_ ?_ ?_ x
 ·intro k s i t l ih d b n h
  rw[fi]at h
  by_cases h1:200<n+1∨40<d
  ·rw[if_pos h1]at h;exact absurd h (by simp)
  rw[if_neg h1]at h
  by_cases h2:gU k s i t l.length b≠0
  ·rw[if_pos h2]at h;exact absurd h h2
  rw[if_neg h2]at h;exact .mk (by omega) (Decidable.not_not.1 h2) (ih _ _ _ h)
 ·intro d b n _ y hy;cases hy
 ·intro x l BA yC d b n h y hy
  rw[jE]at h
  by_cases h1:(fi x d b n).2.1≠0
  ·rw[if_pos h1]at h;exact absurd h h1
  rw[if_neg h1]at h
  rcases List.mem_cons.1 hy with rfl|hy
  ·exact BA _ _ _ (Decidable.not_not.1 h1)
  ·exact yC _ _ _ h y hy
theorem vQ.inv {x:dB}{d b:Nat}(h:vQ x d b):d≤40∧jT x b=0∧∀y∈x.args,vQ y (d+1) (if x.kind=3 then b+1 else b):=by
 cases h with
 |mk a b c=>exact⟨a,b,c⟩
theorem qq {k:Int}{nm:cQ}{ix:Int}{tp:dY}{m b:Nat}(h:gU k nm ix tp m b=0):
 (k=1∧jl tp=0∧m=0)∨(k=2∧0≤ix∧ix<b∧m=0)∨(k=3∧m=1∧jl tp=0)∨(k=4∧m=2):=by
 unfold gU at h
 by_cases h1:k=1
 ·rw[if_pos h1]at h
  by_cases c:ix≠0∨m≠0
  ·rw[if_pos c]at h;cases h
  rw[if_neg c]at h
  by_cases c2:isName nm=false
  ·rw[if_pos c2]at h;cases h
  rw[if_neg c2]at h
  by_cases c3:jl tp≠0
  ·rw[if_pos c3]at h;cases h
  exact .inl ⟨h1,Decidable.not_not.1 c3,by omega⟩
 rw[if_neg h1]at h
 by_cases h2:k=2
 ·rw[if_pos h2]at h
  by_cases c:nm≠ []∨iB tp=false∨m≠0
  ·rw[if_pos c]at h;cases h
  rw[if_neg c]at h
  by_cases c2:ix<0∨(b:Int)≤ix
  ·rw[if_pos c2]at h;cases h
  exact .inr (.inl ⟨h2,by omega,by omega,Decidable.not_not.1 fun hm=>c (.inr (.inr hm))⟩)
 rw[if_neg h2]at h
 by_cases h3:k=3
 ·rw[if_pos h3]at h
  by_cases c:nm≠ []∨ix≠0∨m≠1
  ·rw[if_pos c]at h;cases h
  rw[if_neg c]at h
  by_cases c3:jl tp≠0
  ·rw[if_pos c3]at h;cases h
  exact .inr (.inr (.inl ⟨h3,Decidable.not_not.1 fun hm=>c (.inr (.inr hm)),Decidable.not_not.1 c3⟩))
 rw[if_neg h3]at h
 by_cases h4:k=4
 ·rw[if_pos h4]at h
  by_cases c:nm≠ []∨ix≠0∨iB tp=false∨m≠2
  ·rw[if_pos c]at h;cases h
  exact .inr (.inr (.inr ⟨h4,Decidable.not_not.1 fun hm=>c (.inr (.inr (.inr hm)))⟩))
 rw[if_neg h4]at h;cases h
theorem pk (x:dB)(c:List dY):iY x c=if x.kind=1 then some x.type else if x.kind=2 then c[c.length-1-x.index.toNat]? else if x.kind=3 then(kg x.args (c++ [x.type])).map fun b=> .mk [] [x.type,b]else xo (kg x.args c) (xu x.args c):=by
 cases x;rw[iY];rfl
theorem jo (x:dB)(l:List dB)(c:List dY):kg (x::l) c=iY x c:=by rw[kg]
theorem rZ (x y:dB)(l:List dB)(c:List dY):xu (x::y::l) c=iY y c:=by rw[xu,kg]
theorem wM (a b:Option dY)(h:∀s l x,a=some s→s.args=l→b=some x→¬∃p q,l=[p,q]∧fp p x=true):xo a b=none:=by
 unfold xo
 split
 ·rename_i _ p q x
  split
  ·rename_i hs;exact absurd ⟨p,q,rfl,hs⟩ (h _ _ _ rfl rfl rfl)
  ·rfl
 ·rfl
theorem wN {s p q x:dY}(hl:s.args=[p,q])(h:fp p x=true):xo (some s) (some x)=some q:=by
 cases s with
 |mk b l=>
  cases (show l=[p,q]from hl)
  show(if fp p x then some q else none)=some q
  rw[if_pos h]
theorem zk (x:dB)(d b n:Nat):jE [x] d b n=fi x d b n:=by
 rw[jE,jE]
 split
 ·rfl
 ·rename_i h
  have:=Gv x d b n (Decidable.not_not.1 h)
  rw[←this]
theorem Gw (x y:dB)(d b n:Nat):jE [x,y] d b n=if(fi x d b n).2.1≠0 then fi x d b n else fi y d b (fi x d b n).1:=by rw[jE,zk]
theorem Eg:∀(x y:dY),fp x y=true↔x=y:=by
 intro x;refine dY.rec (motive_1:=fun x=>∀y,fp x y=true↔x=y) (motive_2:=fun l=>∀m,l.length=m.length→(jN l m=true↔l=m)) ?_ ?_ ?_ x
 ·intro b l ih y
  cases y with
  |mk c m=>
   rw[fp]
   simp only[Bool.and_eq_true,decide_eq_true_eq,dY.mk.injEq]
   constructor
   ·rintro ⟨⟨rfl,h⟩,k⟩;exact⟨rfl,(ih m h).1 k⟩
   ·rintro ⟨rfl,rfl⟩;exact⟨⟨rfl,rfl⟩,(ih l rfl).2 rfl⟩
 ·intro m h
  cases m with
  |nil=>exact⟨fun _=>rfl,fun _=>rfl⟩
  |cons _ _=>simp at h
 ·intro x l BA yC m h
  cases m with
  |nil=>simp at h
  |cons y m=>
   rw[jN,Bool.and_eq_true,BA y,yC m (by simpa using h),List.cons.injEq]
inductive gX:dY→Prop
 |leaf {b:cQ} (h:b=sE∨b=sT):gX (.mk b [])
 |fn {x y:dY} (hx:gX x) (hy:gX y):gX (.mk [] [x,y])
theorem tf {b:cQ}{l:List dY}(h:dS b l.length=true):((b=sE∨b=sT)∧l=[])∨(b=[]∧∃x y,l=[x,y]):=by
 unfold dS at h
 simp only[Bool.or_eq_true,Bool.and_eq_true,decide_eq_true_eq]at h
 rcases h with⟨h1,h2⟩|⟨h1,h2⟩
 ·exact .inl ⟨h1,List.eq_nil_of_length_eq_zero h2⟩
 ·refine .inr ⟨h1,?_⟩
  match l,h2 with
  | [x,y],_=>exact⟨x,y,rfl⟩
theorem yD:∀(x:dY) (d n:Nat),(gF x d n).2=0→gX x∧(gF x d n).1=n+rY x∧(gF x d n).1≤200:=by
 intro x;refine dY.rec (motive_1:=fun x=>∀d n,(gF x d n).2=0→gX x∧(gF x d n).1=n+rY x∧(gF x d n).1≤200) (motive_2:=fun l=>∀d n,(gT l d n).2=0→(∀x∈l,gX x)∧(gT l d n).1=n+yA l∧(n≤200→(gT l d n).1≤200)) ?_ ?_ ?_ x
 ·intro b l ih d n h
  rw[gF]at h⊢
  by_cases h1:200<n+1∨40<d
  ·rw[if_pos h1]at h;exact absurd h (by simp)
  rw[if_neg h1]at h⊢
  by_cases h2:dS b l.length=false
  ·rw[if_pos h2]at h;exact absurd h (by simp)
  rw[if_neg h2]at h⊢;obtain⟨k1,k2,k3⟩:=ih _ _ h;refine⟨?_,by rw[k2,rY];omega,k3 (by omega)⟩
  rcases tf (by simpa using h2)with⟨hb,rfl⟩|⟨rfl,x,y,rfl⟩
  ·exact .leaf hb
  ·exact .fn (k1 x (by simp)) (k1 y (by simp))
 ·intro d n _;exact⟨fun x hx=>(by cases hx),rfl,fun h=>h⟩
 ·intro x l BA yC d n h
  rw[gT]at h⊢
  by_cases h1:(gF x d n).2≠0
  ·rw[if_pos h1]at h;exact absurd h h1
  rw[if_neg h1]at h⊢;obtain⟨a1,a2,a3⟩:=BA d n (Decidable.not_not.1 h1);obtain⟨b1,b2,b3⟩:=yC _ _ h;refine⟨fun y hy=> ?_,by rw[b2,a2,yA];omega,fun _=>b3 a3⟩
  rcases List.mem_cons.1 hy with rfl|hy
  ·exact a1
  ·exact b1 y hy
theorem Ks {x:dY}(h:jl x=0):gX x∧rY x≤200:=by
 obtain⟨h1,h2,h3⟩:=yD x 1 0 h;exact⟨h1,by omega⟩
def yx:dY→cQ
 | .mk b l=>match b,l with
  | [],[x,y]=>[40]++yx x++ [32]++yx y++ [41]
  |b,_=>b
theorem Kt:∀{x:dY},gX x→∀{y:dY},gX y→∀r s:cQ,yx x++r=yx y++s→x=y∧r=s:=by
 intro x hx
 induction hx with
 |leaf hb=>
  intro y hy r s h
  cases hy with
  |leaf hc=>
   rcases hb with rfl|rfl<;>rcases hc with rfl|rfl<;>simp[yx]at h
   ·exact⟨rfl,h⟩
   ·exact⟨rfl,h⟩
  |fn h1 h2=>
   rcases hb with rfl|rfl<;>simp[yx]at h
 |fn h1 h2 ih1 Wt=>
  intro y hy r s h
  cases hy with
  |leaf hc=>
   rcases hc with rfl|rfl<;>simp[yx]at h
  |fn k1 k2=>
   simp only[yx,List.append_assoc,List.cons_append,List.nil_append,List.cons.injEq,true_and]at h
   obtain⟨e1,q1⟩:=ih1 k1 _ _ h;obtain⟨e2,q2⟩:=Wt k2 _ _ (List.cons.inj q1).2;exact⟨by rw[e1,e2],(List.cons.inj q2).2⟩
theorem Gx {x y:dY}(hx:gX x)(hy:gX y):(yx x==yx y)=fp x y:=by
 rw[Bool.eq_iff_iff,Eg,beq_iff_eq];refine⟨fun h=>(Kt hx hy [] [] (by rw[h])).1,fun h=>by rw[h]⟩
theorem yE {x:dY}(hx:gX x):(yx x).length≤3*rY x:=by
 induction hx with
 |leaf hb=>rcases hb with rfl|rfl<;>simp[yx,rY,yA]
 |fn h1 h2 ih1 Wt=>simp only[yx,List.length_append,List.length_cons,List.length_nil,rY,yA];omega
end Go.Proofs.YtolmidffiegkaaaGreatDoor
namespace Go.J
open Go
end Go.J
