/-
  Laws of walks through programs, and facts on grammars, trees and queries.
  Conditions: none.
-/
import Derived.Test.YtiefglecbgdaiaaGreatDoorGR9
set_option maxHeartbeats 4000000
set_option maxRecDepth 20000
set_option linter.unusedVariables false
set_option linter.unusedSimpArgs false
namespace Go.Proofs.YtiefglecbgdaiaaGreatDoor
open Go Go.J Tryz
theorem Fk (n d:Int)(e:aZ n)(hd:aZ d):dK prog 84 #[iv n,iv d] [] (Lz (oQ n d)):=by
 refine dK.gx (args:=[iv n,iv d]) 34 func84 rfl ntmps84 rfl (λc=>go ?_)
 have f:=e
 have a:=hd
 unfold aZ at f a;refine go ?_;refine St.al (λg=>St.al (λh=>g9 ?_));refine St.cq (λb=> ?_) (λb=> ?_)
 ·refine g2 ?_
  refine St.ee (Ev.build (au.nil) (λw=>mg w)) (St.ee (Ev.build (au.aX rfl rfl) (λw=>eV rfl rfl w)) (g6 ?_));refine St.rV [_,_] [] ?_;exact OX (by unfold oQ;rw[aB b])
 ·have i:Nat.gcd n.natAbs d.natAbs≠0:=by have:=Nat.gcd_pos_of_pos_right n.natAbs (show 0<d.natAbs by omega);omega
  refine g5 ?_;refine St.ee (Ev.call (gY n e) Da (.aq rfl)) (go ?_);refine St.ee (Ev.call (gY d hd) Da (.aq rfl)) (g8 ?_);refine St.ee (Ev.call (l6 n.natAbs d.natAbs) Lq (.aX rfl rfl)) (g4 ?_);refine St.rqs 14 mixed (by kernel_rfl) (by kernel_rfl) (Mm.drawn _ _) ?_;refine g4 ?_;refine Sq.ee (Ev.uF (.mk rfl) (.mk rfl) EY) (g2 ?_);refine Sq.ee (Ev.tM (.mk rfl) (.mk rfl) zE) (g2 ?_);refine Sq.ee (Ev.tM (.mk rfl) (.mk rfl) zE) (Sq.ee (Ev.call (vh _ _ _) Xw (.eI rfl rfl rfl)) (g8 ?_));refine St.rV [_,_] [] ?_;exact KJ (by unfold oQ;rw[aA b];rfl)
def dv:Rp Pr:=⟨2,by decide,λx=>[iv x.1,iv x.2],BN,λ_=>rfl,λ_ u h=>by simp at h;rcases h with rfl|rfl<;>rfl⟩
instance (x:Pr):gH dv x [iv x.1,iv x.2]:=⟨rfl⟩
def oz:Int→List Pr→Pr
 |_,[]=>(0,0)
 |k,x::l=>if(mD x.1 x.2 k).1=0 then oz (k+1) l else mD x.1 x.2 k
def pW:Int→Pr→List Pr→Pr×Pr
 |_,s,[]=>(s,(0,0))
 |k,s,x::l=>if(gX s x).2.1=0 then pW (k+1) (gX s x).1 l else((0,0),((gX s x).2.1,k))
def sV (l:List Pr):Pr×Pr:=if 300<l.length then((0,0),(2,-1))else if(oz 0 l).1=0 then pW 0 (0,1) l else((0,0),oz 0 l)
theorem zP {l:List Pr}{k:Nat}{p:Pr}(h:l[k]?=some p):oz k (l.drop k)=if(mD p.1 p.2 k).1=0 then oz ((k+1:Nat):Int) (l.drop (k+1))else mD p.1 p.2 k:=by
 rw[bW h,oz,Int.natCast_add];rfl
theorem wu {l:List Pr}{k:Nat}{s p:Pr}(h:l[k]?=some p):pW k s (l.drop k)=if(gX s p).2.1=0 then pW ((k+1:Nat):Int) (gX s p).1 (l.drop (k+1))else((0,0),((gX s p).2.1,(k:Int))):=by
 rw[bW h,pW,Int.natCast_add];rfl
theorem CC:∀{l:List Pr} {k:Int},(oz k l).1=0→∀p∈l,ij p
 | [],_,_,p,hp=>by cases hp
 |x::l,k,h,p,hp=>by
  unfold oz at h
  by_cases h1:(mD x.1 x.2 k).1=0
  ·rw[aB h1]at h
   rcases cN.1 hp with rfl|hp
   ·exact oy.1 h1
   ·exact CC h p hp
  ·rw[aA h1]at h;exact absurd h h1
theorem Z1:ij (0,1):=⟨by decide,by decide,by decide,by decide,rfl⟩
theorem M1 {l:List Pr}(h:300<l.length):sV l=((0,0),(2,-1)):=by unfold sV;rw[aB h]
theorem M0 {l:List Pr}(h:¬300<l.length){f:Pr}(a:oz 0 l=f)(b:f.1≠0):sV l=((0,0),f):=by unfold sV;rw[aA h,a,aA b]
theorem IG {l:List Pr}(h:¬300<l.length)(a:(oz 0 l).1=0):sV l=pW 0 (0,1) l:=by unfold sV;rw[aA h,aB a]
theorem CD {l:List Pr}{k:Nat}(h:l.length≤k)(a:Int):oz a (l.drop k)=(0,0):=by rw[iy h];rfl
theorem ID {l:List Pr}{k:Nat}(h:l.length≤k)(a:Int)(s:Pr):pW a s (l.drop k)=(s,(0,0)):=by rw[iy h];rfl
theorem akG {r:Pr×Pr}{a b k:Int}(h:r=((0,0),(a,k)))(c:b=k):qS [.agg #[iv 0,iv 0],.agg #[iv a,iv b]]=Lz r:=by rw[h,c];rfl
theorem akH {r:Pr×Pr}{s:Pr}(h:r=(s,(0,0))):qS [.agg #[iv s.1,iv s.2],.agg #[iv 0,iv 0]]=Lz r:=by rw[h];rfl
theorem zS (v0:Value)(l:List Pr):dK prog 9 #[v0] [sl dv v0 l] (Lz (sV l)):=by
 refine dK.pz (args:=[v0]) 59 func9 rfl ntmps9 rfl (λc=>go ?_);refine St.wf v0 (λr hlen=>go ?_);refine St.al (λb=>St.al (λd=>g10 ?_));refine St.cq (λs=> ?_) (λs=> ?_)
 ·refine g2 ?_
  refine St.ee (Ev.build (au.nil) (λw=>mg w)) (St.ee (Ev.build (au.aX rfl rfl) (λw=>eV rfl rfl w)) (g6 ?_));refine St.rV [_,_] [] ?_;exact OX (M1 zE)
 ·refine g11 ?_
  refine St.lH (ι:=Nat) (λk T=>(19,iv k)::T) (λk=>[aW b (.cells #[iv 0,iv 0] 47 (0,0)),aW d (.cells #[iv 0,iv 0] 39 (0,0)),aD (sl dv v0 l)]) (λk=>k≤l.length∧oz 0 l=oz k (l.drop k)) (λk=>l.length-k) 0 (aC.k5 0 2 3 17 18) ⟨aQ _,rfl⟩ ?_;intro k g;obtain⟨hk,e⟩:=g;refine g6 ?_;refine St.cq (λi=> ?_) (λi=> ?_)
  ·obtain⟨p,hp⟩:=aF (show k<l.length by omega)
   have hw:=r p (aY hp)
   have m:BN p:=hw
   refine g7 ?_;refine St.ee (Ev.cI (.mk rfl) (.mk rfl) wW nG rfl zE) (St.ee (Ev.iD (.mk rfl) (by first|assumption|exact wL default zE) vB trivial nG gH.eq) ?_);refine St.al (λB=>g8 ?_);refine St.ee (Ev.call (pX p.1 p.2 k m.1 m.2) Xs (.aX rfl rfl)) (St.al (λC=>g10 ?_));refine St.cq (λf=> ?_) (λf=> ?_)
   ·refine go ?_
    refine St.jm [b,d] mixed (λt u=>SW.dd 0 rfl (λ_=>Ev.build (ps:=[]) (au.nil) (λw=>mg w)) (SW.gd 1 ?_));refine SW.t1 2 ?_;refine g3 ?_;refine SW.go (SW.t1 3 ?_);refine g3 ?_;refine SW.go (SW.dn (g7 ?_));refine St.rV [_,_] [] ?_;exact acX (M0 zE (by rw[e,zP hp,aA f]) f)
   ·refine g8 ?_
    refine St.aH (k+1) ⟨by omega,by rw[e,zP hp,aB f]⟩
  ·refine g7 ?_
   refine St.ee (Ev.build (au.aq rfl) (λw=>DU rfl w)) (St.al (λv=>g12 ?_))
   have y:=CC (l:=l) (k:=0) (by rw[e,CD zE])
   have n:=IG (l:=l) zE (by rw[e,CD zE])
   refine St.lH (ι:=Nat×Pr) (λx T=>(36,iv x.1)::T) (λx=>[aW b (.cells #[iv 0,iv 0] 47 (0,0)),aW d (.cells #[iv 0,iv 0] 39 (0,0)),aW v (.cells #[iv x.2.1,iv x.2.2] 47 (0,0)),aD (sl dv v0 l)]) (λx=>x.1≤l.length∧ij x.2∧pW 0 (0,1) l=pW x.1 x.2 (l.drop x.1)) (λx=>l.length-x.1) (0,(0,1)) (aC.k5 2 3 7 34 35) ⟨aQ _,Z1,rfl⟩ ?_;intro x g;obtain⟨D,o,j⟩:=g;refine g6 ?_;refine St.cq (λz=> ?_) (λz=> ?_)
   ·obtain⟨p,hp⟩:=aF (show x.1<l.length by omega)
    have q:=y p (aY hp)
    refine g7 ?_;refine St.ee (Ev.cI (k:=x.1) (.mk rfl) (.mk rfl) wW nG zE zE) (St.ee (Ev.iD (.mk rfl) (by first|assumption|exact wL default zE) vB trivial nG gH.eq) ?_);refine St.al (λE=>g8 ?_);refine St.ee (Ev.call (IH x.2 p o q) ajX (.aX rfl rfl)) (g3 ?_);refine St.al (λF=>St.al (λG=>g12 ?_));refine St.cq (λa=> ?_) (λa=> ?_)
    ·refine go ?_
     refine St.jm [b,d] mixed (λt u=>SW.dd 0 rfl (λ_=>Ev.build (ps:=[]) (au.nil) (λw=>mg w)) (SW.gd 1 ?_));refine SW.gd 2 ?_;refine SW.gd 3 ?_;refine SW.dd 4 rfl (λ_=>Ev.build (ps:=[(0,(.tmp 52)),(1,(.tmp 53))]) (au.aX rfl rfl) (λw=>eV rfl rfl w)) (SW.t1 5 ?_);refine g3 ?_;refine SW.go (SW.t1 6 ?_);refine g3 ?_;refine SW.go (SW.dn (g8 ?_));refine St.rV [_,_] [] ?_;exact akG (by rw[n,j,wu hp,aA a]) rfl
    ·have A:ij (gX x.2 p).1:=by rcases zO o q with h|h;exact h.1;rw[h]at a;simp at a
     refine g13 ?_;refine St.aH (x.1+1,(gX x.2 p).1) ⟨by dsimp only;omega,A,by dsimp only;rw[j,wu hp,aB a]⟩
   ·refine g8 ?_
    refine St.ee (Ev.build (au.nil) (λw=>fP w)) (g5 ?_);refine St.rV [_,_] [] ?_;exact akH (by rw[n,j,ID zE])
theorem Ml {T:List Int}{a:List (Nat×Int)}{k:Nat}{z:Nat×Int}(h:a[k]?=some z):(a.take (k+1)).map (shr T)=(a.take k).map (shr T)++ [shr T z]:=by rw[ag h,cY];rfl
theorem Eh {a:List Nat}{C:List Int}{k t:Nat}{n:Int}(h1:a[k]?=some t)(b:C[k]?=some n):(a.zip C)[k]?=some (t,n):=by rw[List.getElem?_zip_eq_some];exact⟨h1,b⟩
theorem zW {T:List Int}{t:Nat}{n:Int}(h:T[t]?=some n):T.getD t 0=n:=by rw[ax,h];rfl
theorem E4 {l:List Int}{b:Int}(h:∀z∈l,0≤z∧z≤b)(a:b≤1000000000){k:Nat}{z:Int}(hz:l[k]?=some z):aZ z∧0≤z∧z≤b:=by
 have:=h z (aY hz)
 unfold aZ;omega
theorem zT {l:List Pr}(h:∀p∈l,tL p):∀p∈l,dv.wf p:=h
theorem Qf {l:List cK}{k:Nat}{r:cK}(h:l[k]?=some r):((l.map iE).map vM).take (k+1)=((l.map iE).map vM).take k++ [vM (iE r)]:=ag (by rw[bJ,bJ,h];rfl)
theorem Pu {l:List fq}{k:Nat}{r:fq}(h:l[k]?=some r):((l.map jg).map vq).take (k+1)=((l.map jg).map vq).take k++ [vq (jg r)]:=ag (by rw[bJ,bJ,h];rfl)
theorem zM {T:List Int}{a:List (Nat×Int)}{k:Nat}{z:Nat×Int}(h:a[k]?=some z):(a.take (k+1)).foldl jL T=jL ((a.take k).foldl jL T) z:=by rw[ag h,rK];rfl
theorem Jl {T:List Int}{t:Nat}{n m:Int}(h:T[t]?=some m):T.set t (m+n)=jL T (t,n):=by unfold jL;dsimp only;rw[zW h]
theorem Ke {l:List Nat}{b:Nat}(h:∀x∈l,x≤b)(a:b≤1000000000):∀z∈bV l,aJ.wf z:=λz hz=>by
 obtain⟨x,hx,rfl⟩:=cS.1 hz
 have:=h x hx
 show aZ (x:Int)
 unfold aZ;omega
theorem AK (bt:Nat)(tv d zv:ah)(a:List Nat)(C T:List Int)(I:C.length=a.length)(ht:∀t∈a,t<T.length)(q:∀z∈C,0≤z∧z≤1000000)(r:∀z∈T,0≤z∧z≤1000000000)(J:a.length≤1000):
 dx prog 83 ([tv.1,d.1]++ [tW bt]).toArray ([kH bt zv.1,sl aJ zv.1 T,sl aJ tv.1 (bV a),sl aJ d.1 C].map aD) (λv H'=>∃b:ah,v=b.1∧H'=[aD (sl dv b.1 ((a.zip C).map (shr T)))]):=by
 refine dx.body (args:=[tv.1,d.1]++ [tW bt]) 41 func83 rfl ntmps83 rfl (λc=>go ?_);refine St.cast (H':=[aD (kH bt zv.1),aD (sl aJ zv.1 T),aD (sl aJ tv.1 (bV a)),aD (sl aJ d.1 C)]) rfl ?_
 have K:=dc a
 have L:(a.zip C).length=a.length:=by rw[List.length_zip];omega
 refine g18 ?_;refine St.e7 47 2 (St.aP (.slice none 0 0) (show _=(((a.zip C).take 0).map (shr T)).length from rfl) (show _=rows dv (((a.zip C).take 0).map (shr T))from rfl) (St.lH (ι:=Nat×ah) (λ⟨k,b⟩ T=>(12,iv k)::(6,b.1)::T) (λ⟨k,b⟩=>[row b.1 47 2 (((a.zip C).take k).map (shr T)).length (rows dv (((a.zip C).take k).map (shr T))),aD (kH bt zv.1),aD (sl aJ zv.1 T),aD (sl aJ tv.1 (bV a)),aD (sl aJ d.1 C)]) (λ⟨k,b⟩=>k≤a.length) (λ⟨k,b⟩=>a.length-k) ⟨0,bx⟩ (aC.k5 1 2 5 10 11) (aQ _) ?_));rintro ⟨k,b⟩ hk
 dsimp only at hk⊢
 have M:(((a.zip C).take k).map (shr T)).length≤1000:=by rw[aO,eR];omega
 refine g6 ?_;refine St.cq (λf=> ?_) (λf=> ?_)
 ·obtain⟨t,g⟩:=aF (show k<a.length by omega)
  obtain⟨n,j⟩:=aF (show k<C.length by omega)
  have s:=ht t (aY g)
  obtain⟨m,hm⟩:=aF s
  have h:=Eh g j
  have l:=Ml (T:=T) h
  obtain⟨x,N,O⟩:=E4 q zE j;obtain⟨y,P,A⟩:=E4 r zE hm
  have e:=zW hm
  refine g8 ?_;refine St.ee (Ev.ld1 (.mk rfl) (iw g) fA trivial rfl) (g6 ?_);refine St.ee (Ev.build (au.aq rfl) (λw=>DU rfl w)) (St.al (λo=>g3 ?_));refine St.join (ι:=Pr) (λp T=>T) (λp=>[tI o [iv p.1,iv p.2] 47,row b.1 47 2 (((a.zip C).take k).map (shr T)).length (rows dv (((a.zip C).take k).map (shr T))),aD (kH bt zv.1),aD (sl aJ zv.1 T),aD (sl aJ tv.1 (bV a)),aD (sl aJ d.1 C)]) (λp=>p=shr T (t,n)) (aC.k8 1 2 5 6 9 10 11 12) ?_ ?_
  ·refine g9 ?_
   refine St.cq (λB=> ?_) (λB=> ?_)
   ·refine St.jm [o] mixed (λQ R=>?_)
    refine SW.gd 0 ?_;refine SW.gd 1 ?_;refine SW.gd 2 ?_;refine SW.gd 3 ?_;refine SW.gd 4 ?_;refine SW.gd 5 ?_;refine SW.gd 6 ?_;refine SW.gd 7 ?_;refine SW.dd 8 rfl (λ_=>Ev.call (Fk n m x y) aj9 (.aX rfl rfl)) (SW.slot 32 (.tuple #[.agg #[iv (oQ n m).1.1,iv (oQ n m).1.2],fv (oQ n m).2]) rfl rfl (SW.gd 9 ?_));refine SW.gd 10 ?_;refine SW.gd 11 ?_;refine SW.t1 12 ?_;refine g3 ?_;refine SW.go (SW.dn (go ?_));refine St.mE (oQ n m).1 (by unfold shr;dsimp only;rw[e,aB zE])
   ·refine g2 ?_
    refine St.mE (0,1) (by unfold shr;dsimp only;rw[e,aA zE])
  ·rintro p hp
   refine g3 ?_;refine St.iu rfl (.aq rfl) wW nG Jh rfl rfl (by simp[Value.cells]) rfl rfl (λD=> ?_);refine St.bH (.mk rfl) (.mk rfl) wW nG Jh Xm (by intro u hu;exact dv.one p u hu) zE zE rfl rfl rfl rfl (λv38 E=> ?_);refine St.aP v38 (show _=(((a.zip C).take (k+1)).map (shr T)).length by rw[l,cA];rfl) (show _=rows dv (((a.zip C).take (k+1)).map (shr T)) by rw[l,bN,hp];rfl) ?_;refine St.cH v38 (λF _=>g9 ?_);refine St.aH ⟨k+1,⟨v38,F⟩⟩ (by dsimp only;omega)
 ·obtain rfl:k=a.length:=by omega
  rw[show(a.zip C).take a.length=a.zip C from fZ zE]
  obtain⟨⟨i,G⟩,H⟩:∃z,z=b:=⟨b,rfl⟩
  subst H;refine St.bU i dv ((a.zip C).map (shr T)) rfl rfl (zT λp hp=>by obtain⟨z,_,rfl⟩:=cS.1 hp;exact ZK T z) ?_;refine g12 ?_;refine St.rV [_] [aD (sl dv i ((a.zip C).map (shr T)))] ?_;exact⟨⟨i,G⟩,rfl,rfl⟩
theorem sc (g:eU)(rv xv:ah)(R X:List Int)(l:tq (bK g))(i:D8 (bK g) R X):dx prog 38 #[eF g,.agg #[rv.1,xv.1]] ([cj g,sl aJ rv.1 R,sl aJ xv.1 X].map aD) (λv H'=>∃e pv:ah,v= .tuple #[e.1,pv.1]∧H'=[aD (sl dv e.1 (SV (bK g) R X)),aD (sl dv pv.1 (SX (bK g) R X))]):=by
 refine dx.body (args:=[eF g,.agg #[rv.1,xv.1]]) 95 func38 rfl ntmps38 rfl (λc=>go ?_);refine St.cast (H':=[aD (cj g),aD (sl aJ rv.1 R),aD (sl aJ xv.1 X)]) rfl (St.fF (sl lW g.tv.1 g.types) [cj g] (λρ h=>h (cj g) (aR ..) _ (by simp[qO])) ?_);refine St.fF (sl bZ g.rv.1 g.rules) [cj g] (λρ h=>h (cj g) (aR ..) _ (by simp[qO])) ?_;refine St.fF (aL bb g.rules) [cj g] (λρ h=>h (cj g) (aR ..) _ (by simp[qO])) ?_;refine St.fF (sl cy g.xv.1 g.aG) [cj g] (λρ h=>h (cj g) (aR ..) _ (by simp[qO])) ?_;refine St.fF (aL dz g.aG) [cj g] (λρ h=>h (cj g) (aR ..) _ (by simp[qO])) ?_
 have K:(bK g).rules.length=g.rules.length:=aO _
 have M:(bK g).aG.length=g.aG.length:=aO _
 have y:(bK g).types.length=g.types.length:=aO _
 have O:=i.rl
 have hXl:=i.xl
 rw[K]at O;rw[M]at hXl
 have YX:=l.rn
 have hxn:=l.xn
 rw[K]at YX;rw[M]at hxn
 have htl:=l.ty.len
 rw[y]at htl
 have P:∀z∈(List.replicate g.types.length 0),(0:Int)≤z∧z≤0:=λz hz=>by rw[Ao hz];omega
 have KS:∀k,∀z∈(((lP (bK g) R).take k).foldl jL (List.replicate g.types.length 0)),0≤z∧z≤40000000:=λk z hz=>by
  have h:=u7 ((lP (bK g) R).take k) (List.replicate g.types.length 0) 0 (Int.le_refl _) P (λx hx=>yY i.rb x (Au hx)) z hz
  have h2:((lP (bK g) R).take k).length≤40:=by rw[eR,uq i.rl,K];omega
  omega
 have Q:∀z∈((lP (bK g) R).foldl jL (List.replicate g.types.length 0)),0≤z∧z≤40000000:=λz hz=>KS (lP (bK g) R).length z (by rw[iT];exact hz)
 have CJ:∀k,∀z∈(((rH (bK g) X).take k).foldl jL ((lP (bK g) R).foldl jL (List.replicate g.types.length 0))),0≤z∧z≤140000000:=λk z hz=>by
  have h:=u7 ((rH (bK g) X).take k) _ 40000000 zE Q (λx hx=>yY i.xb x (Au hx)) z hz
  have h2:((rH (bK g) X).take k).length≤100:=by rw[eR,vE i.xl,M];omega
  omega
 have S:∀k,(((lP (bK g) R).take k).foldl jL (List.replicate g.types.length 0)).length=g.types.length:=λk=>by rw[qZ,mI]
 have U:∀k,(((rH (bK g) X).take k).foldl jL ((lP (bK g) R).foldl jL (List.replicate g.types.length 0))).length=g.types.length:=λk=>by rw[qZ,qZ,mI]
 have SP:∀t∈((g.rules.map iE).map vM),t<g.types.length:=λt ht=>by obtain⟨r,w,rfl⟩:=cS.1 ht;rw[←y];exact(Qe l w).2.2.1
 have UH:∀t∈((g.aG.map jg).map vq),t<g.types.length:=λt ht=>by obtain⟨r,w,rfl⟩:=cS.1 ht;rw[←y];exact(Pt l w).2.1
 refine go ?_;refine St.cC (.mk rfl) rfl (λb2=>St.cC (.mk rfl) rfl (λb3=>g10 ?_));refine St.nC (m:=g.types.length) (.mk rfl) (.mk rfl) bQ dQ ec yt rfl rfl zE rfl rfl (λf=> ?_);refine St.al (λp=>St.cP (.mk rfl) (.mk rfl) fT (by rfl) (by rfl) ?_);refine g3 ?_;refine St.aP (tO f g.types.length g.types.length) (show _=g.types.length from rfl) (show _=rows aJ (((lP (bK g) R).take 0).foldl jL (List.replicate g.types.length 0)) by rw[pL,fR];show _=(List.replicate g.types.length 0).map _;rw[rM]) ?_;refine g15 ?_;refine St.e7 3 1 (St.aP (.slice none 0 0) (show _=(bV (((g.rules.map iE).map vM).take 0)).length from rfl) (show _=rows aJ (bV (((g.rules.map iE).map vM).take 0))from rfl) (St.lH (ι:=Nat×ah) (λ⟨k,sv⟩ T=>(24,iv k)::(7,sv.1)::T) (λ⟨k,sv⟩=>[row sv.1 3 1 (bV (((g.rules.map iE).map vM).take k)).length (rows aJ (bV (((g.rules.map iE).map vM).take k))),row (tO f g.types.length g.types.length) 3 1 g.types.length (rows aJ (((lP (bK g) R).take k).foldl jL (List.replicate g.types.length 0))),tI p [(tO f g.types.length g.types.length)] 35,tI b2 (kR g) 32,tI b3 [rv.1,xv.1] 37,aD (cj g),aD (sl aJ rv.1 R),aD (sl aJ xv.1 X),aD (sl lW g.tv.1 g.types),aD (sl bZ g.rv.1 g.rules),aD (aL bb g.rules),aD (sl cy g.xv.1 g.aG),aD (aL dz g.aG)]) (λ⟨k,sv⟩=>k≤g.rules.length) (λ⟨k,sv⟩=>g.rules.length-k) ⟨0,bx⟩ (aC.k8 2 3 4 5 6 8 22 23) (aQ _) ?_));rintro ⟨k,sv⟩ hk
 dsimp only at hk⊢
 have hsl:(bV (((g.rules.map iE).map vM).take k)).length≤40:=by rw[dc,eR];simp only[List.length_map];omega
 refine g6 ?_;refine St.cq (λh25=> ?_) (λh25=> ?_)
 ·obtain⟨r,w⟩:=aF (show k<g.rules.length by omega)
  have G:=aY w
  have A:iE r∈(bK g).rules:=dh G
  obtain⟨V,q,o,s⟩:=Qe l A
  have q:(nS (bE r.graph) 0).toNat<(bE r.graph).length:=q
  rw[ct]at q;rw[y]at o;obtain⟨nd,N⟩:=aF q
  have W:(((vM (iE r)):Nat):Int)=nd.type:=by rw[s];show((bE r.graph).getD (nS (bE r.graph) 0).toNat gq).1=_;clear s;generalize (nS (bE r.graph) 0).toNat=j at N⊢;rw[ax,bE,bJ,N];rfl
  obtain⟨n,I⟩:=aF (show k<R.length by omega);obtain⟨Y,Z,hn6⟩:=E4 i.rb zE I
  have J:=Qf w
  have B:(lP (bK g) R)[k]?=some (vM (iE r),n):=Eh (by rw[bJ];show((g.rules.map iE)[k]?).map vM=_;rw[bJ,w];rfl) I
  have hfs:=zM (T:=(List.replicate g.types.length 0)) B
  obtain⟨m,hm⟩:=aF (show vM (iE r)<(((lP (bK g) R).take k).foldl jL (List.replicate g.types.length 0)).length by rw[S];exact o)
  have hmb:=KS k m (aY hm)
  refine St.bh bb g.rules (x:=r) G (St.fF (aI r.graph) [bb r] (λρ h=>h (bb r) (aR ..) _ (by simp[GY])) ?_);refine St.fF (sl bz r.graph.nv.1 r.graph.nodes) [aI r.graph] (λρ h=>h (aI r.graph) (aR ..) _ (by simp[jb])) ?_
  have SQ:=fz (g:=r.graph) (l.rule (iE r) A).gr (dH l.ft (by decide))
  have U9:=(l.rule (iE r) A).gr.pos
  have U9:0<(bE r.graph).length:=U9
  rw[ct]at U9;refine g8 ?_;refine St.ee (Ev.iD (.mk rfl) w BZ trivial oV gH.eq) (St.al (λb10=>g5 ?_));refine St.rq mixed (by kernel_rfl) (Mm.drawn _ _) ?_;refine g4 ?_;refine Sq.ee (Ev.jO 1 (.mk rfl) nI trivial jx rfl rfl) (Sq.slot 33 (bF r.graph) rfl rfl (Sq.ee (Ev.call (lI r.graph 0 0 zE (λn hn=>⟨(SQ n hn).1,by have:=(SQ n hn).2;omega⟩)) O4 (.eI rfl rfl rfl)) ?_));refine Sq.slot 34 (iv ((nS (bE r.graph) 0).toNat:Nat)) rfl (congrArg iv (by rw[uy];have h:0≤nS (bE r.graph) 0:=V;omega)) ?_;refine Sq.ee (Ev.cI (.mk rfl) (.mk rfl) na jF rfl zE) (g2 ?_);refine Sq.slot 37 (iv (vM (iE r):Nat)) rfl (congrArg iv W.symm) (g7 ?_);refine St.iu rfl (.aq rfl) bQ dQ ec rfl rfl (by simp[Value.cells]) rfl rfl (λb40=> ?_);refine St.bH (.mk rfl) (.mk rfl) bQ dQ ec yt (by simp[Value.oneCell',Value.cells]) zE zE rfl rfl rfl rfl (λv41 am4=> ?_);refine St.aP v41 (show _=(bV (((g.rules.map iE).map vM).take (k+1))).length by rw[J,gz,cA];rfl) (show _=rows aJ (bV (((g.rules.map iE).map vM).take (k+1))) by rw[J,gz,bN];rfl) ?_;refine St.cH v41 (λh41 _=>g3 ?_);refine St.rqs 11 mixed (by kernel_rfl) (by kernel_rfl) (Mm.drawn _ _) ?_;refine g2 ?_;refine Sq.ee (Ev.dV (k:=vM (iE r)) (.mk rfl) (.mk rfl) bQ dQ zE zE) (Sq.ee (Ev.dw (.mk rfl) fA trivial zE (pB hm)) (g6 ?_));refine Sq.ee (Ev.dV (k:=vM (iE r)) (.mk rfl) (.mk rfl) bQ dQ zE zE) (go ?_);refine St.dF (.mk rfl) (.mk rfl) dQ rfl zE (by decide) ?_;refine St.aP (tO f g.types.length g.types.length) rfl (show _=rows aJ (((lP (bK g) R).take (k+1)).foldl jL (List.replicate g.types.length 0)) by rw[r4,hfs,Jl hm]) ?_;refine g8 ?_;refine St.aH ⟨k+1,⟨v41,h41⟩⟩ (by dsimp only;omega)
 ·obtain rfl:k=g.rules.length:=by omega
  rw[show((g.rules.map iE).map vM).take g.rules.length=((g.rules.map iE).map vM)from fZ (by simp),show(lP (bK g) R).take g.rules.length=lP (bK g) R from List.take_of_length_le (by rw[uq i.rl,K];exact aU _)]
  obtain⟨⟨u,hsv⟩,MF⟩:∃z,z=sv:=⟨sv,rfl⟩
  subst MF;refine St.bU u aJ (bV ((g.rules.map iE).map vM)) rfl rfl (Ke (b:=1000) (λt ht=>by have:=SP t ht;omega) zE) ?_;refine g15 ?_;refine St.e7 3 1 (St.aP (.slice none 0 0) (show _=(bV (((g.aG.map jg).map vq).take 0)).length from rfl) (show _=rows aJ (bV (((g.aG.map jg).map vq).take 0))from rfl) (St.aP (tO f g.types.length g.types.length) rfl (show _=rows aJ (((rH (bK g) X).take 0).foldl jL ((lP (bK g) R).foldl jL (List.replicate g.types.length 0)))from rfl) (St.lH (ι:=Nat×ah) (λ⟨k,d⟩ T=>(57,iv k)::(8,d.1)::T) (λ⟨k,d⟩=>[row d.1 3 1 (bV (((g.aG.map jg).map vq).take k)).length (rows aJ (bV (((g.aG.map jg).map vq).take k))),row (tO f g.types.length g.types.length) 3 1 g.types.length (rows aJ (((rH (bK g) X).take k).foldl jL ((lP (bK g) R).foldl jL (List.replicate g.types.length 0)))),aD (sl aJ u (bV ((g.rules.map iE).map vM))),tI p [(tO f g.types.length g.types.length)] 35,tI b2 (kR g) 32,tI b3 [rv.1,xv.1] 37,aD (cj g),aD (sl aJ rv.1 R),aD (sl aJ xv.1 X),aD (sl lW g.tv.1 g.types),aD (sl bZ g.rv.1 g.rules),aD (aL bb g.rules),aD (sl cy g.xv.1 g.aG),aD (aL dz g.aG)]) (λ⟨k,d⟩=>k≤g.aG.length) (λ⟨k,d⟩=>g.aG.length-k) ⟨0,bx⟩ (aC.k7 3 4 5 6 7 55 56) (aQ _) ?_)));rintro ⟨k,d⟩ hk
  dsimp only at hk⊢
  have hsl:(bV (((g.aG.map jg).map vq).take k)).length≤100:=by rw[dc,eR];simp only[List.length_map];omega
  refine g6 ?_;refine St.cq (λh58=> ?_) (λh58=> ?_)
  ·obtain⟨x,hx⟩:=aF (show k<g.aG.length by omega)
   have WT:=aY hx
   have UI:jg x∈(bK g).aG:=dh WT
   obtain⟨q,o,s⟩:=Pt l UI
   have q:0<(bE x.graph).length:=q
   rw[ct]at q;rw[y]at o;obtain⟨nd,N⟩:=aF q
   have W:(((vq (jg x)):Nat):Int)=nd.type:=by rw[s];show((bE x.graph).getD 0 gq).1=_;rw[ax,bE,bJ,N];rfl
   obtain⟨n,I⟩:=aF (show k<X.length by omega);obtain⟨Y,Z,hn6⟩:=E4 i.xb zE I
   have J:=Pu hx
   have B:(rH (bK g) X)[k]?=some (vq (jg x),n):=Eh (by rw[bJ];show((g.aG.map jg)[k]?).map vq=_;rw[bJ,hx];rfl) I
   have hfs:=zM (T:=((lP (bK g) R).foldl jL (List.replicate g.types.length 0))) B
   obtain⟨m,hm⟩:=aF (show vq (jg x)<(((rH (bK g) X).take k).foldl jL ((lP (bK g) R).foldl jL (List.replicate g.types.length 0))).length by rw[U];exact o)
   have hmb:=CJ k m (aY hm)
   refine St.bh dz g.aG (x:=x) WT (St.fF (aI x.graph) [dz x] (λρ h=>h (dz x) (aR ..) _ (by simp[Pd])) ?_);refine St.fF (sl bz x.graph.nv.1 x.graph.nodes) [aI x.graph] (λρ h=>h (aI x.graph) (aR ..) _ (by simp[jb])) ?_;refine g8 ?_;refine St.ee (Ev.iD (.mk rfl) hx xI trivial mH gH.eq) (St.al (λVc=>g9 ?_));refine St.ee (Ev.cI (k:=0) (.mk rfl) (.mk rfl) na jF rfl zE) (g2 ?_);refine St.slot 67 (iv (vq (jg x):Nat)) rfl (congrArg iv W.symm) (g7 ?_);refine St.iu rfl (.aq rfl) bQ dQ ec rfl rfl (by simp[Value.cells]) rfl rfl (λb70=> ?_);refine St.bH (.mk rfl) (.mk rfl) bQ dQ ec yt (by simp[Value.oneCell',Value.cells]) zE zE rfl rfl rfl rfl (λC am6=> ?_);refine St.aP C (show _=(bV (((g.aG.map jg).map vq).take (k+1))).length by rw[J,gz,cA];rfl) (show _=rows aJ (bV (((g.aG.map jg).map vq).take (k+1))) by rw[J,gz,bN];rfl) ?_;refine St.cH C (λh71 _=>g3 ?_);refine St.rqs 11 mixed (by kernel_rfl) (by kernel_rfl) (Mm.drawn _ _) ?_;refine g2 ?_;refine Sq.ee (Ev.dV (k:=vq (jg x)) (.mk rfl) (.mk rfl) bQ dQ zE zE) (Sq.ee (Ev.dw (.mk rfl) fA trivial zE (pB hm)) (g6 ?_));refine Sq.ee (Ev.dV (k:=vq (jg x)) (.mk rfl) (.mk rfl) bQ dQ zE zE) (go ?_);refine St.dF (.mk rfl) (.mk rfl) dQ rfl zE (by decide) ?_;refine St.aP (tO f g.types.length g.types.length) rfl (show _=rows aJ (((rH (bK g) X).take (k+1)).foldl jL ((lP (bK g) R).foldl jL (List.replicate g.types.length 0))) by rw[r4,hfs,Jl hm]) ?_;refine g8 ?_;refine St.aH ⟨k+1,⟨C,h71⟩⟩ (by dsimp only;omega)
  ·obtain rfl:k=g.aG.length:=by omega
   rw[show((g.aG.map jg).map vq).take g.aG.length=((g.aG.map jg).map vq)from fZ (by simp),show(rH (bK g) X).take g.aG.length=rH (bK g) X from List.take_of_length_le (by rw[vE i.xl,M];exact aU _)]
   obtain⟨⟨D,huv⟩,hv3⟩:∃z,z=d:=⟨d,rfl⟩
   subst hv3;refine St.bU D aJ (bV ((g.aG.map jg).map vq)) rfl rfl (Ke (b:=1000) (λt ht=>by have:=UH t ht;omega) zE) ?_
   have E:=ZZ i l
   have F:(y8 (bK g) R X).length=g.types.length:=by unfold y8;rw[qZ,qZ,mI,y]
   have htE:(rH (bK g) X).foldl jL ((lP (bK g) R).foldl jL (List.replicate g.types.length 0))=y8 (bK g) R X:=by unfold y8;rw[y]
   rw[htE];refine St.bU (tO f g.types.length g.types.length) aJ (y8 (bK g) R X) rfl F.symm (OE E zE) (St.pA p (g7 ?_));refine St.ee (Ev.func (.aq rfl)) (g4 ?_);refine St.jm [] mixed (λnp ns=>SW.gd 0 ?_);refine SW.gd 1 ?_;refine SW.gd 2 ?_;refine SW.gd 3 ?_;refine SW.gd 5 ?_;refine SW.gd 6 ?_;refine SW.gd 7 ?_;refine SW.gd 8 ?_;refine SW.t1 4 ?_;refine St.nk (dr:=True) (ds:=[kH p (tO f g.types.length g.types.length),sl aJ (tO f g.types.length g.types.length) (y8 (bK g) R X),sl aJ u (bV ((g.rules.map iE).map vM)),sl aJ rv.1 R]) (L:=[]) (caps:=[tW p]) (post:=λv Hq=>∃e:ah,v=e.1∧Hq=[aD (sl dv e.1 (SV (bK g) R X))]) (λ_=>trivial) (DA.mono (AK p ⟨u,hsv⟩ rv ⟨(tO f g.types.length g.types.length),rfl⟩ ((g.rules.map iE).map vM) R (y8 (bK g) R X) (by simp;omega) (λt ht=>by rw[F];exact SP t ht) i.rb (λz hz=>by have:=E z hz;omega) (by simp;omega)) (λv H ⟨e,a,b⟩=>⟨e,a,b⟩)) acM (.mk rfl) (.aX rfl rfl) rfl ?_;rintro v89 _ ⟨e,rfl,rfl⟩;refine St.bB (g2 ?_);refine SW.go (SW.t1 9 ?_);refine St.nk (dr:=True) (ds:=[kH p (tO f g.types.length g.types.length),sl aJ (tO f g.types.length g.types.length) (y8 (bK g) R X),sl aJ D (bV ((g.aG.map jg).map vq)),sl aJ xv.1 X]) (L:=[]) (caps:=[tW p]) (post:=λv Hq=>∃e:ah,v=e.1∧Hq=[aD (sl dv e.1 (SX (bK g) R X))]) (λ_=>trivial) (DA.mono (AK p ⟨D,huv⟩ xv ⟨(tO f g.types.length g.types.length),rfl⟩ ((g.aG.map jg).map vq) X (y8 (bK g) R X) (by simp;omega) (λt ht=>by rw[F];exact UH t ht) i.xb (λz hz=>by have:=E z hz;omega) (by simp;omega)) (λv H ⟨e,a,b⟩=>⟨e,a,b⟩)) acM (.mk rfl) (.aX rfl rfl) rfl ?_;rintro v94 _ ⟨pv,rfl,rfl⟩;refine St.bB (g2 ?_);refine SW.go (SW.gd 10 ?_);refine SW.gd 11 ?_;refine SW.dn (g2 ?_);refine St.rV [_,_] [aD (sl dv e.1 (SV (bK g) R X)),aD (sl dv pv.1 (SX (bK g) R X))] ?_;exact⟨e,pv,rfl,rfl⟩
end Go.Proofs.YtiefglecbgdaiaaGreatDoor
namespace Go.Proofs
open Go.Shelf
def Tryz.sI:Go.Shelf.Ren:=⟨λ|6=>78|14=>120|15=>94|20=>179|21=>180|22=>181|23=>182|24=>183|25=>184|26=>185|27=>186|28=>139|29=>140|46=>212|47=>190|48=>191|49=>213|50=>214|57=>244|n=>n,λ|0=>0|3=>3|4=>4|5=>5|9=>9|22=>33|24=>51|25=>181|39=>192|45=>246|46=>247|50=>157|53=>253|55=>123|66=>295|70=>299|76=>323|77=>324|n=>n,λ|n=>n⟩
theorem Tryz.xo:Go.Proofs.SlLaysF0.n6 Tryz.prog Tryz.sI:={
 mixed:=by kernel_rfl
 f6:=⟨Tryz.f78.name,by decide,Tryz.func78.trans (congrArg some (by kernel_rfl))⟩
 f14:=⟨Tryz.f120.name,by decide,Tryz.func120.trans (congrArg some (by kernel_rfl))⟩
 f15:=Tryz.func94.trans (congrArg some (by kernel_rfl))
 f20:=⟨Tryz.f179.name,by decide,Tryz.func179.trans (congrArg some (by kernel_rfl))⟩
 f21:=⟨Tryz.f180.name,by decide,Tryz.func180.trans (congrArg some (by kernel_rfl))⟩
 f22:=⟨Tryz.f181.name,by decide,Tryz.func181.trans (congrArg some (by kernel_rfl))⟩
 f23:=⟨Tryz.f182.name,by decide,Tryz.func182.trans (congrArg some (by kernel_rfl))⟩
 f24:=⟨Tryz.f183.name,by decide,Tryz.func183.trans (congrArg some (by kernel_rfl))⟩
 f25:=⟨Tryz.f184.name,by decide,Tryz.func184.trans (congrArg some (by kernel_rfl))⟩
 f26:=⟨Tryz.f185.name,by decide,Tryz.func185.trans (congrArg some (by kernel_rfl))⟩
 f27:=⟨Tryz.f186.name,by decide,Tryz.func186.trans (congrArg some (by kernel_rfl))⟩
 f28:=Tryz.func139.trans (congrArg some (by kernel_rfl))
 f29:=Tryz.func140.trans (congrArg some (by kernel_rfl))
 f46:=⟨Tryz.f212.name,by decide,Tryz.func212.trans (congrArg some (by kernel_rfl))⟩
 f47:=Tryz.func190.trans (congrArg some (by kernel_rfl))
 f48:=Tryz.func191.trans (congrArg some (by kernel_rfl))
 f49:=⟨Tryz.f213.name,by decide,Tryz.func213.trans (congrArg some (by kernel_rfl))⟩
 f50:=⟨Tryz.f214.name,by decide,Tryz.func214.trans (congrArg some (by kernel_rfl))⟩
 f57:=⟨Tryz.f244.name,by decide,Tryz.func244.trans (congrArg some (by kernel_rfl))⟩
 t0:=Zb
 a0:=Tryz.isAgg0
 z0:=Tryz.sizeOf0
 v0:=Tryz.zeroValue0
 t3:=fA
 a3:=Tryz.isAgg3
 z3:=Tryz.sizeOf3
 v3:=Tryz.zeroValue3
 t4:=EY
 a4:=Tryz.isAgg4
 z4:=Tryz.sizeOf4
 v4:=Tryz.zeroValue4
 t5:=EZ
 a5:=Tryz.isAgg5
 z5:=Tryz.sizeOf5
 v5:=Tryz.zeroValue5
 t9:=wX
 a9:=Tryz.isAgg9
 z9:=Tryz.sizeOf9
 v9:=Tryz.zeroValue9
 t22:=rE
 a22:=Tryz.isAgg33
 z22:=Tryz.sizeOf33
 v22:=Tryz.zeroValue33
 t25:=Tryz.underlying181
 a25:=Tryz.isAgg181
 z25:=Tryz.sizeOf181
 v25:=Tryz.zeroValue181
 t39:=xL
 a39:=Tryz.isAgg192
 z39:=Tryz.sizeOf192
 v39:=Tryz.zeroValue192
 t45:=Tryz.underlying246
 a45:=Tryz.isAgg246
 z45:=Tryz.sizeOf246
 v45:=Tryz.zeroValue246
 t46:=Tryz.underlying247
 a46:=Tryz.isAgg247
 z46:=Tryz.sizeOf247
 v46:=Tryz.zeroValue247
 t50:=Tryz.underlying157
 a50:=Tryz.isAgg157
 z50:=Tryz.sizeOf157
 v50:=Tryz.zeroValue157
 t53:=Tryz.underlying253
 a53:=Tryz.isAgg253
 z53:=Tryz.sizeOf253
 v53:=Tryz.zeroValue253
 t55:=gj
 a55:=Tryz.isAgg123
 z55:=Tryz.sizeOf123
 v55:=Tryz.zeroValue123
 t66:=Tryz.underlying295
 a66:=Tryz.isAgg295
 z66:=Tryz.sizeOf295
 v66:=Tryz.zeroValue295
 t70:=Tryz.underlying299
 a70:=Tryz.isAgg299
 z70:=Tryz.sizeOf299
 v70:=Tryz.zeroValue299
 t76:=Tryz.underlying323
 a76:=Tryz.isAgg323
 z76:=Tryz.sizeOf323
 v76:=Tryz.zeroValue323
 t77:=Tryz.underlying324
 a77:=Tryz.isAgg324
 z77:=Tryz.sizeOf324
 v77:=Tryz.zeroValue324}
end Go.Proofs
namespace Go.Proofs.YtiefglecbgdaiaaGreatDoor
open Go Go.J Tryz
theorem FA (g:eU)(hw:SI (bK g)):∀x:bM,tm (bK g) (aN x)=true→nV (aN x)≤1000→dK prog 123 #[eF g,dA x] [cj g,ae x] (iv (pF (bK g) (aN x))):=by
 intro x
 induction x using bM.ind
 rename_i x p
 intro i j;refine dK.qf (args:=[eF g,dA x]) 39 func123 rfl ntmps123 rfl (λc=>go ?_)
 refine St.jU (cj g) (λ_:Unit=>qO g) (λρ h=>⟨(),h⟩) λ_=> ?_
 refine St.cast (H':=[aD (sl lW g.tv.1 g.types),aD (aL s6 g.types),aD (sl fw g.fv.1 g.cJ),aD (sl bZ g.rv.1 g.rules),aD (aL bb g.rules),aD (sl cy g.xv.1 g.aG),aD (aL dz g.aG),aD (aI g.start),aD (cj g),aD (ae x)]) rfl (St.kS x ?_)
 have a:aN x= .mk x.rule x.lex (x.kids.map aN):=fG x
 have b:=VE (bK g) x.rule x.lex (x.kids.map aN)
 rw[←a]at b;rw[a,Za]at i;rw[a,Yx]at j
 have q:(bK g).rules.length=g.rules.length:=aO _
 have s:(bK g).aG.length=g.aG.length:=aO _
 have t:=GL (x.kids.map aN)
 rw[aO]at t;refine go ?_;refine St.cC (.mk rfl) rfl (λu=>St.cC (.mk rfl) rfl (λv=>g11 ?_));refine St.cq (λe=> ?_) (λe=> ?_)
 ·rw[aB e,nQ,gD,gD,s]at i
  rw[aB e]at b;obtain⟨y,hy⟩:=aF (show x.lex.toNat<g.aG.length by omega)
  have m:((g.aG.map jg).map (·.weight))[x.lex.toNat]?=some y.weight:=by rw[bJ,bJ,hy];rfl
  rw[show(bK g).aG=g.aG.map jg from rfl,m]at b;refine g6 ?_;refine St.ee (Ev.cI (k:=x.lex.toNat) (.mk rfl) (.mk rfl) wV mH zE zE) (g7 ?_);refine St.rV [_] [] ?_;exact ie (by rw[b];rfl)
 ·rw[aA (Int.not_lt.2 e),nQ,gD,q]at i
  rw[aA (Int.not_lt.2 e)]at b;obtain⟨y,hy⟩:=aF (show x.rule.toNat<g.rules.length by omega)
  have m:((g.rules.map iE).map (·.weight))[x.rule.toNat]?=some y.weight:=by rw[bJ,bJ,hy];rfl
  rw[show(bK g).rules=g.rules.map iE from rfl,m]at b
  have E:0≤y.weight∧y.weight≤1000000:=hw.r (iE y) (dh (aY hy))
  have n:=AZ i.2
  refine g8 ?_;refine St.ee (Ev.cI (k:=x.rule.toNat) (.mk rfl) (.mk rfl) BX oV zE zE) (g15 ?_);refine St.slot 5 (iv (y.weight+jW (bK g) ((x.kids.map aN).take 0))) rfl (congrArg iv (by rw[pL,jW,Int.add_zero])) ?_;refine St.lH (ι:=Nat) (λk T=>(28,iv k)::(5,iv (y.weight+jW (bK g) ((x.kids.map aN).take k)))::T) (λk=>[aD (cj g),aD (ae x),aD (sl bR x.kv.1 x.kids),aD (aL ae x.kids),aD (sl bZ g.rv.1 g.rules),tI u (kR g) 32,tI v (oA x) 51]) (λk=>k≤x.kids.length) (λk=>x.kids.length-k) 0 (aC.k4 2 4 26 27) (aQ _) ?_;intro k hk
  have w:=AU hw ((x.kids.map aN).take k)
  have F:=vx (l:=x.kids.map aN) k
  refine g6 ?_;refine St.cq (λA=> ?_) (λA=> ?_)
  ·obtain⟨z,hz⟩:=aF (show k<x.kids.length by omega)
   have f:=aY hz
   refine St.bh ae x.kids (x:=z) f ?_
   have d:(x.kids.map aN)[k]?=some (aN z):=by rw[bJ,hz];rfl
   have B:=JR (g:=bK g) d
   have C:=GM (aY d)
   have o:=n (aN z) (aY d)
   have D:=Kv hw (aN z)
   refine g7 ?_;refine St.ee (Ev.iD (.mk rfl) hz po trivial jo gH.eq) (St.al (λG=>g6 ?_));refine St.slot 33 (eF g) rfl rfl (go ?_);refine St.slot 34 (dA z) rfl rfl (St.ee (Ev.call (p z f o zE) Ny (.aX rfl rfl)) (go ?_));refine St.slot 36 (iv (y.weight+jW (bK g) ((x.kids.map aN).take (k+1)))) rfl (congrArg iv (by rw[B,Int.add_assoc])) ?_;refine g9 ?_;refine St.aH (k+1) zE
  ·obtain rfl:k=x.kids.length:=by omega
   rw[show(x.kids.map aN).take x.kids.length=x.kids.map aN from fZ (by rw[aO];exact aU _)];refine g12 ?_;refine St.rV [_] [] ?_;exact ie (by rw[b];rfl)
theorem HZ (g:eU)(hw:SI (bK g))(a b:bM)(l:tm (bK g) (aN a)=true)(m:tm (bK g) (aN b)=true)(d:nV (aN a)≤1000)(e:nV (aN b)≤1000)(f:HJ (aN a))(h:HJ (aN b))(i:qI (aN a))(j:qI (aN b)):
 dx prog 80 #[eF g,dA a,dA b] ([cj g,ae a,ae b].map aD) (λv H2=>v=iv (xy (bK g) (aN a) (aN b))∧H2=[]):=by
 refine dx.body (args:=[eF g,dA a,dA b]) 21 func80 rfl ntmps80 rfl (λc=>go ?_);refine St.cast (H':=[aD (cj g),aD (ae a),aD (ae b)]) rfl (go ?_);refine St.cC (.mk rfl) rfl (λq=>St.cC (.mk rfl) rfl (λr=>St.cC (.mk rfl) rfl (λs=>g4 ?_)));refine St.jm [] mixed (λt u=>SW.gd 0 ?_);refine SW.slot 7 (eF g) rfl rfl (SW.gd 1 ?_);refine SW.slot 8 (dA a) rfl rfl (SW.dd 2 rfl (λ_=>Ev.call (FA g hw a l d) Ny (.aX rfl rfl)) (SW.gd 3 ?_));refine SW.slot 10 (eF g) rfl rfl (SW.gd 4 ?_);refine SW.slot 11 (dA b) rfl rfl (SW.dd 5 rfl (λ_=>Ev.call (FA g hw b m e) Ny (.aX rfl rfl)) (SW.dd 6 rfl (λ_=>Ev.call (eh _ _) qi (.aX rfl rfl)) (SW.gd 7 ?_)));refine SW.slot 14 (dA a) rfl rfl (SW.gd 9 ?_);refine SW.slot 16 (dA b) rfl rfl (SW.t1 8 ?_);refine St.ak (Bc a f i d) Vk (.aq rfl) rfl ?_;rintro n _ ⟨o,rfl,rfl⟩;refine St.bB (g2 ?_);refine SW.go (SW.t1 10 ?_);refine St.ak (Bc b h j e) Vk (.aq rfl) rfl ?_;rintro v17 _ ⟨p,rfl,rfl⟩;refine St.bB (g2 ?_);refine SW.go (SW.t1 11 ?_);refine St.ee (Ev.call (B6 o.1 p.1 (jZ (aN a)) (jZ (aN b))) abJ (.aX rfl rfl)) (g2 ?_);refine SW.go (SW.t1 12 ?_);refine St.iu rfl (.aX rfl rfl) bQ dQ ec rfl rfl (by simp[Value.cells]) rfl rfl (λk=> ?_);refine St.aP (tO k 2 2) (show _=([(lf (pF (bK g) (aN a)) (pF (bK g) (aN b))),(kI lf (jZ (aN a)) (jZ (aN b)))]).length from rfl) (show _=rows aJ ([(lf (pF (bK g) (aN a)) (pF (bK g) (aN b))),(kI lf (jZ (aN a)) (jZ (aN b)))])from rfl) (g2 ?_);refine SW.go (SW.t1 13 ?_);refine St.ee (Ev.Bt (tx (tO k 2 2) [(lf (pF (bK g) (aN a)) (pF (bK g) (aN b))),(kI lf (jZ (aN a)) (jZ (aN b)))]) Jw (.aq rfl) (eu.row eu.nil rfl rfl rfl (DR (λx hx=>by simp only[List.mem_cons,List.not_mem_nil,or_false]at hx;rcases hx with rfl|rfl;exact oq _ _;exact z7 oq _ _)))) ?_;refine g2 ?_;refine SW.go (SW.gd 14 ?_);refine SW.dn (g2 ?_);refine St.rV [_] [] ?_;exact⟨ie (show te _ (te _ 0)=_ by rw[Kh];rfl),rfl⟩
theorem yf (bw:Nat)(d:eU)(uv k l:ah)(hw:SI (bK d))(a b:bM)(m:tm (bK d) (aN a)=true)(n:tm (bK d) (aN b)=true)(e:nV (aN a)≤1000)(f:nV (aN b)≤1000)(g:HJ (aN a))(h:HJ (aN b))(i:qI (aN a))(j:qI (aN b)):
 dx prog 79 ([dA a,dA b]++ [tW bw]).toArray ([iG bw [d.tv.1,d.fv.1,d.rv.1,d.xv.1,d.start.nv.1,uv.1,k.1,l.1],cj d,ae a,ae b].map aD) (λv H2=>v=iv (xy (bK d) (aN a) (aN b))∧H2=[]):=by
 refine dx.body (args:=[dA a,dA b]++ [tW bw]) 11 func79 rfl ntmps79 rfl (λc=>go ?_);refine St.cast (H':=[aD (iG bw [d.tv.1,d.fv.1,d.rv.1,d.xv.1,d.start.nv.1,uv.1,k.1,l.1]),aD (cj d),aD (ae a),aD (ae b)]) rfl (go ?_);refine St.cC (.mk rfl) rfl (λo=>St.cC (.mk rfl) rfl (λp=>g6 ?_));refine St.ee (Ev.KX 5 (.mk rfl) Zc trivial RE rfl rfl) (St.slot 7 (eF d) rfl rfl (go ?_));refine St.slot 8 (dA a) rfl rfl (go ?_);refine St.slot 9 (dA b) rfl rfl (St.ak (HZ d hw a b m n e f g h i j) aj8 (.eI rfl rfl rfl) rfl ?_);rintro v10 _ ⟨rfl,rfl⟩;refine St.aM (g4 ?_);refine St.rV [_] [] ?_;exact⟨rfl,rfl⟩
def VI:dX:= .mk 0 [] 0 (.mk [] bx []) bx []
def ruZ (k w:Int):cK:=⟨[],⟨bx,[]⟩,k,w,VI⟩
def lxZ (w:Int):fq:=⟨[],⟨bx,[]⟩,w,VI⟩
theorem RQ (ρ:Ro):(cu VI).f ρ:= .mk (x:=VI) (.mk (x:= .mk [] bx []) (lp kW ρ) (λy hy=>by cases hy)) (lp cz ρ) (λy hy=>by cases hy)
theorem IK (ρ:Ro):(aI ⟨bx,[]⟩).f ρ:=λd hd=>by
 simp only[jb,List.mem_cons,List.not_mem_nil,or_false]at hd
 rcases hd with rfl|rfl
 ·exact lp bz ρ
 ·exact λx hx=>by cases hx
theorem ZJ (ρ:Ro)(k w:Int):(bb (ruZ k w)).f ρ:=λd hd=>by
 simp only[GY,List.mem_cons,List.not_mem_nil,or_false]at hd
 rcases hd with rfl|rfl
 ·exact IK ρ
 ·exact RQ ρ
theorem Yv (ρ:Ro)(w:Int):(dz (lxZ w)).f ρ:=λd hd=>by
 simp only[Pd,List.mem_cons,List.not_mem_nil,or_false]at hd
 rcases hd with rfl|rfl
 ·exact IK ρ
 ·exact RQ ρ
theorem Wu:cx VI= .mk 0 [] 0 (.mk [] []) []:=by unfold VI;rw[cx,dW,Ge,AW]
theorem ahK (k w:Int):iE (ruZ k w)=⟨[],[],k,w,.mk 0 [] 0 (.mk [] []) []⟩:=by
 show(⟨[],[],k,w,cx VI⟩:kM)=_
 rw[Wu]
theorem agX (w:Int):jg (lxZ w)=⟨[],[],w,.mk 0 [] 0 (.mk [] []) []⟩:=by
 show(⟨[],[],w,cx VI⟩:Bg)=_
 rw[Wu]
def Em (l:List cK):List cK:=l.map λr=>ruZ r.kids r.weight
def GC (l:List fq):List fq:=l.map λx=>lxZ x.weight
def E2 (g:eU)(rv xv:ah):eU:=⟨bx,[],bx,[],rv,Em g.rules,xv,GC g.aG,⟨bx,[]⟩⟩
theorem ac0 (g:eU)(rv xv:ah):bK (E2 g rv xv)=wG (bK g):=by
 have h1:(Em g.rules).map iE=(g.rules.map iE).map λr=>⟨[],[],r.kids,r.weight,.mk 0 [] 0 (.mk [] []) []⟩:=by
  unfold Em;rw[jJ,jJ]
  exact sk λr _=>ahK r.kids r.weight
 have a:(GC g.aG).map jg=(g.aG.map jg).map λx=>⟨[],[],x.weight,.mk 0 [] 0 (.mk [] []) []⟩:=by
  unfold GC;rw[jJ,jJ]
  exact sk λx _=>agX x.weight
 unfold bK E2 wG
 dsimp only
 rw[h1,a];rfl
theorem Gq:cz.wf VI:=⟨by unfold aZ;decide,by decide,by unfold aZ;decide,by decide⟩
theorem ZI {g:eU}(h:∀r∈g.rules,bZ.wf r):∀r∈Em g.rules,bZ.wf r:=λr a=>by
 obtain⟨x,hx,rfl⟩:=cS.1 a
 have:=h x hx
 exact⟨aQ _,this.2.1,this.2.2.1,Gq⟩
theorem Yu {g:eU}(h:∀r∈g.aG,cy.wf r):∀r∈GC g.aG,cy.wf r:=λr a=>by
 obtain⟨x,hx,rfl⟩:=cS.1 a
 have:=h x hx
 exact⟨aQ _,this.2.1,Gq⟩
theorem Qg {l:List cK}{k:Nat}{r:cK}(h:l[k]?=some r):Em (l.take (k+1))=Em (l.take k)++ [ruZ r.kids r.weight]:=kB h
theorem Pv {l:List fq}{k:Nat}{r:fq}(h:l[k]?=some r):GC (l.take (k+1))=GC (l.take k)++ [lxZ r.weight]:=kB h
theorem V0 (l:List cK):(Em l).length=l.length:=aO _
theorem Ud (l:List fq):(GC l).length=l.length:=aO _
theorem YB {g:eU}{rv xv:ah}{ρ:Ro}(h1:(sl bZ rv.1 (Em g.rules)).f ρ)(a:(sl cy xv.1 (GC g.aG)).f ρ):(cj (E2 g rv xv)).f ρ:=λd hd=>by
 simp only[qO,List.mem_cons,List.not_mem_nil,or_false]at hd
 rcases hd with rfl|rfl|rfl|rfl|rfl|rfl|rfl|rfl
 ·exact lp lW ρ
 ·exact λx hx=>by cases hx
 ·exact lp fw ρ
 ·exact h1
 ·exact λx hx=>by obtain⟨y,_,rfl⟩:=cS.1 (show x∈g.rules.map _ from hx);exact ZJ ρ _ _
 ·exact a
 ·exact λx hx=>by obtain⟨y,_,rfl⟩:=cS.1 (show x∈g.aG.map _ from hx);exact Yv ρ _
 ·exact IK ρ
theorem Ed (g:eU)(G:g.rules.length≤40)(hx:g.aG.length≤100):dx prog 73 #[eF g] ([cj g].map aD) (λv H'=>∃rv xv:ah,v=eF (E2 g rv xv)∧H'=[aD (cj (E2 g rv xv))]):=by
 refine dx.body (args:=[eF g]) 43 func73 rfl ntmps73 rfl (λc=>go ?_);refine St.cast (H':=[aD (cj g)]) rfl (St.fF (sl bZ g.rv.1 g.rules) [cj g] (λρ h=>h (cj g) (aR ..) _ (by simp[qO])) ?_);refine St.fF (sl cy g.xv.1 g.aG) [cj g] (λρ h=>h (cj g) (aR ..) _ (by simp[qO])) ?_;refine St.wf g.rv.1 (λl _=>St.wf g.xv.1 (λt _=>go ?_));refine St.cC (.mk rfl) rfl (λn=>St.al (λo=>g4 ?_));refine St.al (λp=>g12 ?_);refine St.e7 98 10 (St.aP (.slice none 0 0) (show _=(Em (g.rules.take 0)).length from rfl) (show _=rows bZ (Em (g.rules.take 0))from rfl) (St.lH (ι:=Nat×ah) (λ⟨k,rv⟩ T=>(11,iv k)::T) (λ⟨k,rv⟩=>[row rv.1 98 10 (Em (g.rules.take k)).length (rows bZ (Em (g.rules.take k))),tI p [(.slice none 0 0),(.slice none 0 0),rv.1,(.slice none 0 0),(.slice none 0 0)] 32,aD (sl bZ g.rv.1 g.rules),aD (sl cy g.xv.1 g.aG),tI n (kR g) 32,tI o [(.slice none 0 0),(.slice none 0 0),(.slice none 0 0),(.slice none 0 0),(.slice none 0 0)] 32]) (λ⟨k,rv⟩=>k≤g.rules.length) (λ⟨k,rv⟩=>g.rules.length-k) ⟨0,bx⟩ (aC.k5 1 2 3 9 10) (aQ _) ?_));rintro ⟨k,rv⟩ hk
 dsimp only at hk⊢
 have H:(Em (g.rules.take k)).length≤40:=by rw[V0,eR];omega
 refine g6 ?_;refine St.cq (λy=> ?_) (λy=> ?_)
 ·obtain⟨r,d⟩:=aF (show k<g.rules.length by omega)
  have e:=Qg d
  refine g7 ?_;refine St.ee (Ev.iD (.mk rfl) d BZ trivial oV gH.eq) (St.al (λI=>g10 ?_));refine St.ee (Ev.build (au.aX rfl rfl) (λw=>Lk rfl rfl w)) (St.iu rfl (.aq rfl) BX oV Zt rfl rfl (by simp[Value.cells]) rfl rfl (λA=> ?_));refine St.bH (.mk rfl) (.mk rfl) BX oV Zt ajQ (by intro u hu;exact bZ.one (ruZ r.kids r.weight) u hu) zE zE rfl rfl rfl rfl (λv23 B=> ?_);refine St.aP v23 (show _=(Em (g.rules.take (k+1))).length by rw[e,cA];rfl) (show _=rows bZ (Em (g.rules.take (k+1))) by rw[e,bN];rfl) ?_;refine St.cH v23 (λq _=>go ?_);refine St.cP (.mk rfl) (.mk rfl) ahV q (by rfl) ?_;refine g8 ?_;refine St.aH ⟨k+1,⟨v23,q⟩⟩ (by dsimp only;omega)
 ·obtain rfl:k=g.rules.length:=by omega
  rw[iT];refine g7 ?_
  obtain⟨⟨a,f⟩,C⟩:∃z,z=rv:=⟨rv,rfl⟩
  subst C;refine St.bU a bZ (Em g.rules) rfl rfl (ZI l) (g8 ?_);refine St.e7 100 9 (St.aP (.slice none 0 0) (show _=(GC (g.aG.take 0)).length from rfl) (show _=rows cy (GC (g.aG.take 0))from rfl) (St.lH (ι:=Nat×ah) (λ⟨k,xv⟩ T=>(29,iv k)::T) (λ⟨k,xv⟩=>[row xv.1 100 9 (GC (g.aG.take k)).length (rows cy (GC (g.aG.take k))),tI p [(.slice none 0 0),(.slice none 0 0),a,xv.1,(.slice none 0 0)] 32,aD (sl bZ a (Em g.rules)),aD (sl bZ g.rv.1 g.rules),aD (sl cy g.xv.1 g.aG),tI n (kR g) 32,tI o [(.slice none 0 0),(.slice none 0 0),(.slice none 0 0),(.slice none 0 0),(.slice none 0 0)] 32]) (λ⟨k,xv⟩=>k≤g.aG.length) (λ⟨k,xv⟩=>g.aG.length-k) ⟨0,bx⟩ (aC.k4 2 3 27 28) (aQ _) ?_));rintro ⟨k,xv⟩ hk
  dsimp only at hk⊢
  have J:(GC (g.aG.take k)).length≤100:=by rw[Ud,eR];omega
  refine g6 ?_;refine St.cq (λD=> ?_) (λD=> ?_)
  ·obtain⟨x,i⟩:=aF (show k<g.aG.length by omega)
   have e:=Pv i
   refine g7 ?_;refine St.ee (Ev.iD (.mk rfl) i xI trivial mH gH.eq) (St.al (λK=>g8 ?_));refine St.ee (Ev.build (au.aq rfl) (λw=>Nk rfl w)) (St.iu rfl (.aq rfl) wV mH LP rfl rfl (by simp[Value.cells]) rfl rfl (λE=> ?_));refine St.bH (.mk rfl) (.mk rfl) wV mH LP Vf (by intro u hu;exact cy.one (lxZ x.weight) u hu) zE zE rfl rfl rfl rfl (λv39 F=> ?_);refine St.aP v39 (show _=(GC (g.aG.take (k+1))).length by rw[e,cA];rfl) (show _=rows cy (GC (g.aG.take (k+1))) by rw[e,bN];rfl) ?_;refine St.cH v39 (λs _=>go ?_);refine St.cP (.mk rfl) (.mk rfl) ahX s (by rfl) ?_;refine g8 ?_;refine St.aH ⟨k+1,⟨v39,s⟩⟩ (by dsimp only;omega)
  ·obtain rfl:k=g.aG.length:=by omega
   rw[iT]
   obtain⟨⟨b,j⟩,m⟩:∃z,z=xv:=⟨xv,rfl⟩
   subst m;refine St.bU b cy (GC g.aG) rfl rfl (Yu t) (St.fF (cj (E2 g ⟨a,f⟩ ⟨b,j⟩)) [sl bZ a (Em g.rules),sl cy b (GC g.aG)] (λρ h=>YB (rv:=⟨a,f⟩) (xv:=⟨b,j⟩) (h _ (aR ..)) (h _ (cO _ (aR ..)))) (g8 ?_));refine St.sA (.mk rfl) (.mk rfl) RE ?_ (h1:=(by simp only[List.all_cons,List.all_nil,Bool.and_true,Bool.and_eq_true];exact⟨rfl,rfl,f,j,rfl⟩));refine g3 ?_;refine St.rV [_] [aD (cj (E2 g ⟨a,f⟩ ⟨b,j⟩))] ?_;exact⟨⟨a,f⟩,⟨b,j⟩,rfl,rfl⟩
abbrev sY (its:List cT)(e:Nat):List dY:=kJ (its.map dy) 60 e
theorem NT (a b K:List dY):lZ (a++b) K=lZ a K++lZ b K:=by unfold lZ;rw[qF]
theorem NU (t:dY)(K:List dY):lZ [t] K=K.map λs=> .mk t.rule 0 (t.kids++ [s]):=by unfold lZ;rw[iQ,List.flatMap_nil,ib]
def MV (its:List cT)(w:oH)(j:Nat):List dY:=(w.kids.take j).foldl (λl k=>lZ l (sY its k)) [.mk w.rule w.lex []]
theorem G7 {its:List cT}{w:oH}{j q:Nat}(h:w.kids[j]?=some q):MV its w (j+1)=lZ (MV its w j) (sY its q):=by unfold MV;rw[ag h,rK];rfl
theorem Ka (its:List cT)(w:oH):MV its w w.kids.length=pc (sY its) (vN w):=by unfold MV;rw[iT];rfl
theorem Po {its:List cT}{w:oH}(hk:∀k∈w.kids,1≤(sY its k).length)(j:Nat):(MV its w j).length≤(pc (sY its) (vN w)).length:=by
 have h:=uY (sY its) (w.kids.drop j) (MV its w j) λk hm=>hk k (D1 hm)
 have e:(w.kids.drop j).foldl (λl k=>lZ l (sY its k)) (MV its w j)=pc (sY its) (vN w):=by
  unfold MV pc
  rw[←rK,nR];rfl
 rw[e]at h;exact h
theorem Ub {its:List cT}{w:oH}(hk:∀k∈w.kids,1≤(sY its k).length)(j:Nat):1≤(MV its w j).length:=uY (sY its) (w.kids.take j) [.mk w.rule w.lex []] λk hm=>hk k (Au hm)
theorem CA (get:Nat→List dY):∀(ks:List Nat) (l:List dY) (b:Nat),(∀t∈l,t.kids.length≤b)→∀t∈ks.foldl (λl k=>lZ l (get k)) l,t.kids.length≤b+ks.length
 | [],l,b,h,t,ht=>h t ht
 |k::ks,l,b,h,t,ht=>by
  rw[jX]at ht
  have:=CA get ks (lZ l (get k)) (b+1) (λs c=>by
   obtain⟨a,d,u,_,rfl⟩:=Jm c
   show(a.kids++ [u]).length≤b+1
   rw[cA]
   have:=h a d
   simp only[List.length_cons,List.length_nil];omega) t ht
  rw[fL];omega
theorem Pn {its:List cT}{w:oH}{j:Nat}:∀t∈MV its w j,t.kids.length≤w.kids.length:=λt ht=>by
 have h:=CA (sY its) (w.kids.take j) [.mk w.rule w.lex []] 0 (λs a=>by rw[ba.1 a];exact aU _) t ht
 rw[eR]at h;omega
theorem ahL (t:bM):(aN t).rule=t.rule:=by rw[fG];rfl
theorem WV (t:bM):(aN t).kids=t.kids.map aN:=by rw[fG];rfl
def QK (its:List cT)(y:cT)(k:Nat):List dY:=((y.cD.map vN).take k).flatMap (pc (sY its))
theorem GP {its:List cT}{y:cT}{k:Nat}{w:oH}(h:y.cD[k]?=some w):QK its y (k+1)=QK its y k++pc (sY its) (vN w):=by
 have a:(y.cD.map vN)[k]?=some (vN w):=by rw[bJ,h];rfl
 unfold QK;rw[ag a,qF];simp
theorem Z6 {its:List cT}{y:cT}(k:Nat):(QK its y k).length≤(QK its y y.cD.length).length:=by
 have e:y.cD.map vN=(y.cD.map vN).take k++(y.cD.map vN).drop k:=(nR _ _).symm
 have h:QK its y y.cD.length=QK its y k++((y.cD.map vN).drop k).flatMap (pc (sY its)):=by
  unfold QK;rw[show(y.cD.map vN).take y.cD.length=y.cD.map vN from fZ (by rw[aO];exact aU _)];rw[←qF,nR]
 rw[h,cA];omega
theorem Uo {R X:List Int}{its:List cT}(a:qU ⟨its.map dy,R,X⟩){e:Nat}{y:cT}(h:its[e]?=some y)(he:p5 ⟨its.map dy,R,X⟩ e<60):QK its y y.cD.length=sY its e:=by
 have b:e<(⟨its.map dy,R,X⟩:lX).its.length:=by show e<(its.map dy).length;rw[aO];exact(fj.1 h).1
 have h1:=G8 a 60 61 e b he zE
 unfold sY;rw[show kJ (its.map dy) 60 e=kJ (its.map dy) 61 e from h1,kJ,Fh h];unfold QK;rw[show(y.cD.map vN).take y.cD.length=y.cD.map vN from fZ (by rw[aO];exact aU _)];rfl
theorem an3 {its:List cT}{w:oH}{j:Nat}{ls:List bM}(h:ls.map aN=MV its w j){t:bM}(ht:t∈ls):t.kids.length≤w.kids.length:=by
 have:=Pn (its:=its) (w:=w) (j:=j) (aN t) (by rw[←h];exact dh ht)
 rw[WV,aO]at this;exact this
theorem MT (a:eU)(uv p r:ah)(its:List cT)(R X:List Int)(E:qU ⟨its.map dy,R,X⟩)(hw:nh (its.map dy))(PD:its.length≤300):∀(f e:Nat),e<its.length→p5 ⟨its.map dy,R,X⟩ e<f→(sY its e).length≤200→
 dx prog 77 #[.agg #[a.tv.1,a.fv.1,a.rv.1,a.xv.1,a.start.nv.1,uv.1,p.1,r.1],iv (e:Nat)] ([sl eT uv.1 its,aL dp its].map aD) (λv H'=>∃(g:ah) (outs:List bM),v=g.1∧outs.map aN=sY its e∧H'=[aD (sl bR g.1 outs),aD (aL ae outs)]):=by
 intro f
 induction f with
 |zero=>(intro e _ h;omega)
 |succ f ih=> ?_
 intro e he hef hlen;refine dx.body (args:=[.agg #[a.tv.1,a.fv.1,a.rv.1,a.xv.1,a.start.nv.1,uv.1,p.1,r.1],iv (e:Nat)]) 81 func77 rfl ntmps77 rfl (λc=>go ?_);refine St.cast (H':=[aD (sl eT uv.1 its),aD (aL dp its)]) rfl ?_;obtain⟨y,hy⟩:=aF he
 have P:e<(⟨its.map dy,R,X⟩:lX).its.length:=by show e<(its.map dy).length;rw[aO];exact he
 have h60:=E.ht e P
 have YU:=Uo E hy h60
 refine St.bh dp its (x:=y) (aY hy) (St.fF (sl mZ y.wv.1 y.cD) [dp y] (λρ h=>h (dp y) (aR ..) _ (cO _ (aR ..))) (St.wf y.wv.1 (λhyw hyl=>go ?_)));refine St.cC (.mk rfl) rfl (λQ=>g22 ?_);refine St.e7 51 3 (St.aP (.slice none 0 0) (show _=([]:List bM).length from rfl) (show _=rows bR []from rfl) (St.dN ae (St.lH (ι:=Nat×ah×List bM) (λ⟨k,g,outs⟩ T=>(23,iv k)::(5,g.1)::T) (λ⟨k,g,outs⟩=>[row g.1 51 3 (outs).length (rows bR (outs)),aD (aL ae outs),aD (sl eT uv.1 its),aD (aL dp its),aD (sl mZ y.wv.1 y.cD),aD (dp y),tI Q [a.tv.1,a.fv.1,a.rv.1,a.xv.1,a.start.nv.1,uv.1,p.1,r.1] 109]) (λ⟨k,g,outs⟩=>k≤y.cD.length∧outs.map aN=QK its y k∧∀t∈outs,bR.wf t) (λ⟨k,g,outs⟩=>y.cD.length-k) ⟨0,bx,[]⟩ (aC.k4 2 4 21 22) ⟨aQ _,rfl,λt ht=>by cases ht⟩ ?_)));rintro ⟨k,g,outs⟩ ⟨hk,H,A⟩
 dsimp only at hk H A⊢
 have hol:=congrArg List.length H
 rw[aO]at hol;refine g6 ?_;refine St.cq (λh24=> ?_) (λh24=> ?_)
 ·obtain⟨wy,F⟩:=aF (show k<y.cD.length by omega)
  have hwx:vN wy∈((⟨its.map dy,R,X⟩:lX).its.getD e fX).cD:=by rw[show(⟨its.map dy,R,X⟩:lX).its.getD e fX=dy y from Fh hy];exact dh (aY F)
  have hkk:=vp E P hwx
  have hww:=hyw wy (aY F)
  have hk3:wy.kids.length≤3:=by
   obtain⟨wi,PL,n⟩:=Jc hwx
   by_cases hr:(vN wy).rule<0
   ·have h:=(E.lex e wi P PL (by rw[n];exact hr)).1;rw[n]at h;have h:wy.kids=[]:=h;rw[h];decide
   ·have h:=(E.rule e wi P PL (by rw[n];exact hr)).2.1;rw[n]at h;exact h
  have o:∀k∈wy.kids,1≤(sY its k).length:=λq B=>by have h:=hkk q B;exact yO E hw 60 q h.1 zE
  have V:=GP (its:=its) F
  have W:=Z6 (its:=its) (y:=y) (k+1)
  rw[YU,V,cA]at W
  have hnk:(bV wy.kids).length=wy.kids.length:=dc _
  refine St.fF (sl aJ wy.kv.1 (bV wy.kids)) [dp y] (λρ h=>h (dp y) (aR ..) (aL nA y.cD) (cO _ (cO _ (aR ..))) wy (aY F)) (g7 ?_);refine St.ee (Ev.MR (Rr:=mZ) (sz:=3) (.mk rfl) F Gz trivial uw (by decide) (by decide)) ?_;refine St.slot 26 (.agg #[iv wy.rule,iv wy.lex,wy.kv.1]) rfl rfl (St.al (λb7=>g9 ?_));refine St.ee (Ev.build (au.aX rfl rfl) (λw=>Bs rfl rfl w)) (St.iu rfl (.aq rfl) rE jo Ei rfl rfl (by simp[Value.cells]) rfl rfl (λI=> ?_));refine St.bU (tO I 1 1) bR [.mk wy.rule wy.lex bx []] rfl rfl (λt ht=>by rw[ba.1 ht];exact hww) ?_;refine St.fact (aL ae [.mk wy.rule wy.lex bx []]) (λρ _ _ t ht=>by rw[ba.1 ht];exact l3.mk (x:= .mk wy.rule wy.lex bx []) (lp bR ρ) (λy hy=>by cases hy)) ?_;refine g13 ?_;refine St.lH (ι:=Nat×ah×List bM) (λ⟨j,lv,ls⟩ T=>(36,iv j)::(8,lv.1)::T) (λ⟨j,lv,ls⟩=>[aD (sl bR lv.1 ls),aD (aL ae ls),aD (sl aJ wy.kv.1 (bV wy.kids)),row g.1 51 3 (outs).length (rows bR (outs)),aD (aL ae outs),aD (sl eT uv.1 its),aD (aL dp its),aD (sl mZ y.wv.1 y.cD),aD (dp y),tI Q [a.tv.1,a.fv.1,a.rv.1,a.xv.1,a.start.nv.1,uv.1,p.1,r.1] 109]) (λ⟨j,lv,ls⟩=>j≤wy.kids.length∧ls.map aN=MV its wy j) (λ⟨j,lv,ls⟩=>wy.kids.length-j) ⟨0,⟨tO I 1 1,rfl⟩,[.mk wy.rule wy.lex bx []]⟩ (aC.k8 2 4 5 21 22 23 34 35) ⟨aQ _,by rw[fM,fG];rfl⟩ ?_;rintro ⟨j,lv,ls⟩ ⟨hj,J⟩
  dsimp only at hj J⊢
  refine St.wf lv.1 (λWL _=>?_)
  have S:=congrArg List.length J
  rw[aO]at S
  have hlJ:=Po o j
  refine g6 ?_;refine St.cq (λh37=> ?_) (λh37=> ?_)
  ·obtain⟨q,B⟩:=aF (show j<wy.kids.length by omega)
   obtain⟨Y,WO⟩:=hkk q (aY B)
   have Y:q<its.length:=by have h:q<(its.map dy).length:=Y;rwa[aO]at h
   have K:=Po o (j+1)
   rw[G7 B,u9,←S]at K
   have L:=Ub o j
   rw[←S]at L
   have hK1:=o q (aY B)
   have Z:(sY its q).length≤200:=by have:=fC (sY its q).length L;omega
   refine g7 ?_;refine St.ee (Ev.ld1 (.mk rfl) (iw B) fA trivial rfl) (g17 ?_);refine St.e7 51 3 (St.aP (.slice none 0 0) (show _=([]:List bM).length from rfl) (show _=rows bR []from rfl) (St.dN ae (St.lH (ι:=Nat×ah×List bM) (λ⟨m,nv,b⟩ T=>(42,iv m)::(11,nv.1)::T) (λ⟨m,nv,b⟩=>[row nv.1 51 3 (b).length (rows bR (b)),aD (aL ae (b)),aD (sl bR lv.1 ls),aD (aL ae ls),aD (sl aJ wy.kv.1 (bV wy.kids)),row g.1 51 3 (outs).length (rows bR (outs)),aD (aL ae outs),aD (sl eT uv.1 its),aD (aL dp its),aD (sl mZ y.wv.1 y.cD),aD (dp y),tI Q [a.tv.1,a.fv.1,a.rv.1,a.xv.1,a.start.nv.1,uv.1,p.1,r.1] 109]) (λ⟨m,nv,b⟩=>m≤ls.length∧b.map aN=lZ ((ls.map aN).take m) (sY its q)∧∀t∈b,bR.wf t) (λ⟨m,nv,b⟩=>ls.length-m) ⟨0,bx,[]⟩ (aC.k13 2 4 5 8 10 21 22 23 34 35 36 40 41) ⟨aQ _,by rw[pL];rfl,λt ht=>by cases ht⟩ ?_)));rintro ⟨m,nv,b⟩ ⟨hm,d,C⟩
   dsimp only at hm d C⊢
   refine g6 ?_;refine St.cq (λh43=> ?_) (λh43=> ?_)
   ·obtain⟨t,ht⟩:=aF (show m<ls.length by omega)
    have htm:=aY ht
    have htk:=an3 J htm
    have htw:=WL t htm
    have hte:(ls.map aN)[m]?=some (aN t):=by rw[bJ,ht];rfl
    have hml:m+1≤ls.length:=by omega
    have M:=fC (sY its q).length hml
    rw[jK,nM]at M;refine St.bh ae ls (x:=t) htm (St.kS t (St.wf t.kv.1 (λam3 _=>g7 ?_)));refine St.ee (Ev.iD (.mk rfl) ht po trivial jo gH.eq) (St.al (λVc=>g6 ?_));refine St.slot 46 (.agg #[a.tv.1,a.fv.1,a.rv.1,a.xv.1,a.start.nv.1,uv.1,p.1,r.1]) rfl rfl (go ?_);refine St.ak (ih q Y zE Z) acK (.aX rfl rfl) rfl ?_;rintro v48 _ ⟨sv,G,rfl,N,rfl⟩;refine St.dD (St.wf sv.1 (λhsw _=>?_))
    have U:=congrArg List.length N
    rw[aO]at U;refine g5 ?_;refine St.lH (ι:=Nat×ah×List bM) (λ⟨i,nv,b⟩ T=>(50,iv i)::(11,nv.1)::T) (λ⟨i,nv,b⟩=>[row nv.1 51 3 (b).length (rows bR (b)),aD (aL ae (b)),aD (sl bR sv.1 G),aD (aL ae G),aD (sl bR t.kv.1 t.kids),aD (aL ae t.kids),tI Vc (oA t) 51,aD (sl bR lv.1 ls),aD (aL ae ls),aD (sl aJ wy.kv.1 (bV wy.kids)),row g.1 51 3 (outs).length (rows bR (outs)),aD (aL ae outs),aD (sl eT uv.1 its),aD (aL dp its),aD (sl mZ y.wv.1 y.cD),aD (dp y),tI Q [a.tv.1,a.fv.1,a.rv.1,a.xv.1,a.start.nv.1,uv.1,p.1,r.1] 109]) (λ⟨i,nv,b⟩=>i≤G.length∧b.map aN=lZ ((ls.map aN).take m) (sY its q)++((sY its q).take i).map (λs=> .mk t.rule 0 (t.kids.map aN++ [s]))∧∀t∈b,bR.wf t) (λ⟨i,nv,b⟩=>G.length-i) ⟨0,nv,b⟩ (aC.k17 2 4 5 8 10 13 21 22 23 34 35 36 40 41 42 48 49) ⟨aQ _,by rw[d,pL,kb,ib],C⟩ ?_;rintro ⟨i,nv,b⟩ ⟨hi,d,C⟩
    dsimp only at hi d C⊢
    have hnl:=congrArg List.length d
    rw[aO,cA,u9,eR,aO,aO,eR,il hm,←U,il hi]at hnl;refine g6 ?_;refine St.cq (λh51=> ?_) (λh51=> ?_)
    ·obtain⟨s,hs⟩:=aF (show i<G.length by omega)
     have hsm:=aY hs
     have hse:(sY its q)[i]?=some (aN s):=by rw[←N,bJ,hs];rfl
     refine St.bh ae G (x:=s) hsm ?_;rw[←U]at M K;refine g7 ?_;refine St.ee (Ev.iD (.mk rfl) hs po trivial jo gH.eq) (St.al (λb15=>g3 ?_));refine St.ef [row nv.1 51 3 (b).length (rows bR (b))] mixed (λnp ns=>SW.gd 0 ?_);refine SW.gd 1 ?_;refine SW.gd 2 ?_;refine SW.gd 3 ?_;refine SW.gd 4 ?_;refine SW.gd 5 ?_;refine SW.gd 6 ?_;refine SW.gd 7 ?_;refine SW.gd 8 ?_;refine SW.gd 9 ?_;refine SW.gd 10 ?_;refine SW.dd 11 rfl (λ_=>Ev.clip (.mk rfl) (.mk rfl) (.mk rfl) rE jo rfl rfl) (SW.gd 12 ?_);refine SW.t1 13 ?_;refine St.iu rfl (.aq rfl) rE jo Ei rfl rfl (by simp[Value.cells]) rfl rfl (λb67=> ?_);refine g2 ?_;refine SW.go (SW.t1 14 ?_);refine St.sy (.mk rfl) (.mk rfl) rE jo Ei Nv (by intro u hu;exact bR.one s u hu) zE zE rfl rfl rfl rfl (λv68 aqD=> ?_);refine St.cH v68 (λl _=>St.bU v68 bR (t.kids++ [s]) (by rw[bN];rfl) (by rw[cA];rfl) (λz hz=>(ca.1 hz).elim (am3 z) (λh=>by rw[ba.1 h];exact hsw s hsm)) ?_);refine St.ou ae (xs:=t.kids) (x:=s) ?_
     have amQ:aN (bM.mk t.rule 0 ⟨v68,l⟩ (t.kids++ [s]))= .mk t.rule 0 (t.kids.map aN++ [aN s]):=by rw[fG];show dY.mk t.rule 0 ((t.kids++ [s]).map aN)=_;rw[cY];rfl
     refine St.fF (ae (bM.mk t.rule 0 ⟨v68,l⟩ (t.kids++ [s]))) [sl bR v68 (t.kids++ [s]),aL ae (t.kids++ [s])] (λρ h=>l3.mk (x:=(bM.mk t.rule 0 ⟨v68,l⟩ (t.kids++ [s]))) (h _ (aR ..)) (λy hy=>h (aL ae (t.kids++ [s])) (cO _ (aR ..)) y hy)) (g2 ?_);refine SW.go (SW.dd 15 rfl (λ_=>Ev.build (ps:=[(0,(.tmp 56)),(2,(.tmp 68))]) (au.aX rfl rfl) (λw=>Lh rfl l w)) (SW.t1 16 ?_));refine St.iu rfl (.aq rfl) rE jo Ei rfl rfl (by simp[Value.cells]) rfl rfl (λb70=> ?_);refine g2 ?_;refine SW.go (SW.t1 17 ?_);refine St.bH (.mk rfl) (.mk rfl) rE jo Ei Nv (by intro u hu;exact bR.one (bM.mk t.rule 0 ⟨v68,l⟩ (t.kids++ [s])) u hu) zE zE rfl rfl rfl rfl (λD am6=> ?_);refine St.aP D (show _=(b++ [(bM.mk t.rule 0 ⟨v68,l⟩ (t.kids++ [s]))]).length by rw[cA];rfl) (show _=rows bR (b++ [(bM.mk t.rule 0 ⟨v68,l⟩ (t.kids++ [s]))]) by rw[bN];rfl) ?_;refine St.cH D (λh71 _=>St.ou ae (xs:=b) (x:=(bM.mk t.rule 0 ⟨v68,l⟩ (t.kids++ [s]))) (g2 ?_));refine SW.go (SW.gd 18 ?_);refine SW.dn (g7 ?_);refine St.aH ⟨i+1,⟨D,h71⟩,b++ [(bM.mk t.rule 0 ⟨v68,l⟩ (t.kids++ [s]))]⟩ ⟨by dsimp only;omega,by dsimp only;rw[cY,d,ag hse,cY,dg,show [(bM.mk t.rule 0 ⟨v68,l⟩ (t.kids++ [s]))].map aN=[aN (bM.mk t.rule 0 ⟨v68,l⟩ (t.kids++ [s]))]from rfl,amQ];rfl,λz hz=>(ca.1 hz).elim (C z) (λh=>by rw[ba.1 h];exact⟨htw.1,by show aZ 0;unfold aZ;decide⟩)⟩
    ·refine g11 ?_
     refine St.aH ⟨m+1,nv,b⟩ ⟨by dsimp only;omega,by dsimp only;rw[d,ag hte,NT,NU,show i=(sY its q).length by rw[←U];omega,iT,WV,ahL],C⟩
   ·refine g16 ?_
    obtain⟨⟨O,hnv⟩,hv3⟩:∃z,z=nv:=⟨nv,rfl⟩
    subst hv3;refine St.bU O bR b rfl rfl C ?_;refine St.aH ⟨j+1,⟨O,hnv⟩,b⟩ ⟨by dsimp only;omega,by dsimp only;rw[d,G7 B,←J,show m=(ls.map aN).length by rw[aO];omega,iT]⟩
  ·obtain rfl:j=wy.kids.length:=by omega
   rw[Ka]at S;refine g8 ?_;refine St.ym (.mk rfl) (.mk rfl) rE jo Ei Nv (AB _ _) zE zE rfl rfl trivial rfl (λv78 aqF=> ?_);refine St.Wm v78 3 rfl ?_;refine St.aP v78 (show _=(outs++ls).length by rw[cA]) (show _=rows bR (outs++ls) by unfold rows;rw[qF]) ?_;refine St.cH v78 (λh78 _=> ?_);refine St.fF (aL ae (outs++ls)) [aL ae outs,aL ae ls] (λρ h z hz=>(ca.1 hz).elim (h (aL ae outs) (aR ..) z) (h (aL ae ls) (cO _ (aR ..)) z)) ?_;refine g9 ?_;refine St.aH ⟨k+1,⟨v78,h78⟩,outs++ls⟩ ⟨by dsimp only;omega,by dsimp only;rw[cY,H,J,Ka,GP F],λt ht=>(ca.1 ht).elim (A t) (WL t)⟩
 ·obtain rfl:k=y.cD.length:=by omega
  rw[YU]at H
  obtain⟨⟨ovv,hov⟩,MF⟩:∃z,z=g:=⟨g,rfl⟩
  subst MF;refine St.bU ovv bR outs rfl rfl A (g12 ?_);refine St.rV [_] [aD (sl bR ovv outs),aD (aL ae outs)] ?_;exact⟨⟨ovv,hov⟩,outs,rfl,H,rfl⟩
theorem S4 {words:List cM}{k:Nat}{w:cM}(h:words[k]?=some w):yA k (words.drop k)=if isWord w=false then(10,(k:Int))else yA (k+1) (words.drop (k+1)):=by rw[bW h,yA]
theorem VT {words:List cM}{k:Nat}(h:words.length≤k):yA k (words.drop k)=(0,0):=by rw[iy h,yA]
theorem OV {L:List Bg}{words:List cM}{k:Nat}{w:cM}(h:words[k]?=some w):BC L k (words.drop k)=if w∈L.map (·.word)then BC L (k+1) (words.drop (k+1))else(6,(k:Int)):=by rw[bW h,BC]
theorem Tm {L:List Bg}{words:List cM}{k:Nat}(h:words.length≤k):BC L k (words.drop k)=(0,0):=by rw[iy h,BC]
theorem MQ {g:fD}{words:List cM}(h:(tH g words).1=0):0<words.length∧words.length≤12:=by
 unfold tH at h
 by_cases c:words.length=0∨12<words.length
 ·rw[aB c]at h;exact absurd h (by decide)
 ·omega
theorem Mm.EA {c:Ctx}(a:TypeId){w:World}:∀(m:Nat) (H:List ay),Mm c H w→Mm c (bX (gP a) (List.replicate m (bx,[]))++H) w
 |0,_,h=>h
 |m+1,H,h=>by
  obtain⟨ρ,hm⟩:=(Mm.EA a m H h).out;exact Mm.mk (hm.GK rfl ⟨rfl,aU _⟩ rfl (aU _) (λ_ _=>rfl) (eQ.2 (World.ownsRow_nil _ _ _ _)) (λb d=>by rw[eA]at d;simp[Value.ownBlock]at d))
theorem St.EA {n:Nat}{F:Fr}{c:Ctx}{H H':List ay}{T:Act→World→Prop}(e d:TypeId)(m:Nat)[t:mf [] (bX (ew e d) []++bX (gP d) (List.replicate m (bx,[]))) H H'](h:St n F (Mm c H') T):St n F (Mm c H) T:=by
 obtain⟨L,a,b⟩:=t.eq
 refine h.oY λw hw=> ?_
 rw[a,ib]at hw;obtain⟨ρ,k⟩:=(Mm.EA d m L hw).out;rw[b];exact Mm.mk (k.perm kf)
theorem St.ah2 {n:Nat}{F:Fr}{c:Ctx}{H H':List ay}{T:Act→World→Prop}(X Y:List ay)[t:mf (X++Y) X H H'](h:St n F (Mm c H') T):St n F (Mm c H) T:=by
 obtain⟨L,a,b⟩:=t.eq
 refine h.oY λw hw=> ?_
 rw[a,←dg]at hw;obtain⟨ρ,k⟩:=hw.out;rw[b];exact Mm.mk k.left
theorem Uv {f:lF}{g:eU}{words:List cM}(h:we f (bK g) (iP (g.types.map dG)))(hk:∀r∈(bK g).rules,r.kids≤3):ku f (g.types.map dG) words.length g=qrG (bK g) words:=by
 unfold qrG ku
 rw[NW h hk];rfl
theorem ZF {g:eU}(h:tq (bK g)){f:lF}{n:Nat}(b:n≤12):sB (g.types.map dG).length (g.cJ.map iJ).length (ku f (g.types.map dG) n g):=
 ⟨b,GH _,h.rn,h.xn,λr a=>⟨(h.rule r a).kids,(h.rule r a).gr,(h.rule r a).len⟩,λx hx=>⟨(h.lex x hx).gr,(h.lex x hx).len⟩⟩
theorem VS {nt nf n len frm:Nat}{Q:Qr}{words:List cM}(a:sB nt nf Q){d:nc}(c:oG nt nf n len frm d.cs)(hd:gV Q words d.cs):∀x∈d.its,x.cD.length≤3000000000000∧∀w∈x.cD,mZ.wf w∧w.kids.length≤1000∧∀k∈w.kids,k<d.its.length:=λx hx=>by
 have hm:dy x∈d.cs.its:=dh hx
 have h1:=c.cD _ hm
 have f:(dy x).cD.length=x.cD.length:=aO _
 unfold wM at h1;refine⟨by omega,λw hw=> ?_⟩
 have e:vN w∈(dy x).cD:=dh hw
 have hk:∀k∈w.kids,k<d.its.length:=λk hk=>by rw[←ik];exact c.ok.kids _ hm _ e k hk
 rcases hd _ hm _ e with⟨b,a2,_,_,i,hi,a5,_⟩|⟨i,hi,a2,a3,a4,_⟩
 ·have b:w.rule= -1:=b
  have a2:w.kids=[]:=a2
  have a5:w.lex=i:=a5
  have:=a.xn
  exact⟨⟨by rw[b];unfold aZ;omega,by rw[a5];unfold aZ;omega⟩,by rw[a2];exact aQ _,hk⟩
 ·have a2:w.rule=i:=a2
  have a3:w.lex=0:=a3
  have a4:((w.kids.length:Nat):Int)=_:=a4
  have:=a.rn
  have g:=(a.wF hi).1.2
  exact⟨⟨by rw[a2];unfold aZ;omega,by rw[a3];unfold aZ;omega⟩,by omega,hk⟩
theorem ZN {nt nf n:Nat}{cs:Cs}(h:gw nt nf n cs){it:jY}(hit:it∈ff cs.its):it.ed.frm<it.ed.tqo∧it.ed.tqo≤n∧it.ed.cp≤3∧eG nt nf it.ed.gr∧it.ed.gr.length≤60:=by
 unfold ff at hit;obtain⟨i,hi,rfl⟩:=cS.1 hit
 have a:i<cs.its.length:=dM.1 ((lB _ _).mem_iff.1 hi)
 have e:cs.its.getD i fX=cs.its[i]:=by rw[ax,bT a];rfl
 dsimp only
 rw[e];exact h.gr _ (gl a)
theorem Pb {Q:Qr}{words:List cM}{len m frm:Nat}{cs:Cs}(hm:0<m):xu Q words len m frm cs=if 300<(pD Q words frm (frm+len) cs).its.length then none else xu Q words len (m-1) (frm+1) (pD Q words frm (frm+len) cs):=by
 obtain⟨k,rfl⟩:∃k,m=k+1:=⟨m-1,by omega⟩
 rfl
theorem NX {Q:Qr}{words:List cM}{len m:Nat}{cs:Cs}(hm:0<m):xX Q words m len cs=(xu Q words len (Q.n+1-len) 0 cs).bind λcs=>xX Q words (m-1) (len+1) cs:=by
 obtain⟨k,rfl⟩:∃k,m=k+1:=⟨m-1,by omega⟩
 rfl
theorem zU {mt:Nat→Nat→Option Nat}{n:Nat}{start:eB}{its:List jY}{k:Nat}:((List.range (k+1)).filter λi=>decide ((its.getD i fX).ed.frm=0)&&decide ((its.getD i fX).ed.tqo=n)&&(dT mt (its.getD i fX).ed.gr 0 start).isSome)=
 ((List.range k).filter λi=>decide ((its.getD i fX).ed.frm=0)&&decide ((its.getD i fX).ed.tqo=n)&&(dT mt (its.getD i fX).ed.gr 0 start).isSome)++if(decide ((its.getD k fX).ed.frm=0)&&decide ((its.getD k fX).ed.tqo=n)&&(dT mt (its.getD k fX).ed.gr 0 start).isSome)=true then [k]else []:=by
 rw[vH,List.filter_append,List.filter_cons,List.filter_nil]
theorem PW (g:eU)(wv:Value)(words:List cM):kL prog 114 #[eF g,wv] [sl cy g.xv.1 g.aG,aL dz g.aG,sl fK wv words,u8] (fv (tH (bK g) words)):=by
 refine kL.body (args:=[eF g,wv]) (ds:=[sl cy g.xv.1 g.aG,aL dz g.aG,sl fK wv words,u8]) 69 func114 rfl ntmps114 rfl (λc p=>St.cast (H':=[aD (sl cy g.xv.1 g.aG),aD (aL dz g.aG),aD (sl fK wv words),aD (u8)]) rfl (go ?_));refine St.wf wv (λr B=>St.wf g.xv.1 (λC D=>go ?_));refine St.cC (.mk rfl) rfl (λj=>St.al (λl=>g9 ?_));refine St.gf _ rfl rfl (λe=>Ev.move (.mk rfl)) rfl (St.gf _ rfl rfl (λe=>Ev.gN (aa.gv rfl e) Mz) rfl (St.gf _ rfl rfl (λe=>Ev.gtr (aa.gv rfl e) (.mk rfl)) rfl (g3 ?_)));refine St.cq (λs=> ?_) (λs=> ?_)
 ·have hk:(tH (bK g) words)=(9,-2):=by unfold tH;rw[aB zE]
  refine g2 ?_;refine St.ee (Ev.build (au.aX rfl rfl) (λw=>eV rfl rfl w)) (g5 ?_);refine St.rV [_] [] ?_
  rw[hk];rfl
 ·have hk:(tH (bK g) words)=if(yA 0 words).1≠0 then yA 0 words else BC (g.aG.map jg) 0 words:=by unfold tH;rw[aA zE];rfl
  refine g11 ?_;refine St.lH (ι:=Nat) (λk T=>(25,iv k)::T) (λk=>[tI j (kR g) 32,tI l [iv 0,iv 0] 39,aD (sl cy g.xv.1 g.aG),aD (aL dz g.aG),aD (sl fK wv words),aD (u8)]) (λk=>k≤words.length∧yA 0 words=yA k (words.drop k)) (λk=>words.length-k) 0 (aC.k5 1 2 4 23 24) ⟨aQ _,rfl⟩ ?_;rintro k ⟨t,f⟩;refine g6 ?_;refine St.cq (λv=> ?_) (λv=> ?_)
  ·obtain⟨w,hw⟩:=aF (show k<words.length by omega)
   have y:w.length≤140737488351232:=r w (aY hw)
   have h:=S4 hw
   refine g16 ?_;refine St.ee (Ev.nj p (Bm w zE) acH (.aq rfl)) (g3 ?_);refine St.cond _ rfl (λn=> ?_) (λn=> ?_)
   ·skip
    rw[aB (show isWord w=false by simpa using n)]at h;rw[f.trans h,aB (show(10:Int)≠0 by decide)]at hk;refine g3 ?_;refine St.ee (Ev.build (au.aX rfl rfl) (λw=>eV rfl rfl w)) (g9 ?_);refine St.rV [_] [] ?_
    rw[hk];rfl
   ·skip
    rw[aA (show ¬isWord w=false by simpa using n)]at h;refine g8 ?_;refine St.aH (k+1) ⟨by omega,f.trans h⟩
  ·rw[VT zE]at f
   rw[f,aA (by decide)]at hk;refine g7 ?_;refine St.makeMap mkStr rfl (λb=>g13 ?_);refine St.td (ι:=Nat) (κ:=List (cM×Value)) (λq m T=>(40,iv q)::T) (λq m=>[aW b (eW mkStr m),tI j (kR g) 32,tI l [iv 0,iv 0] 39,aD (sl cy g.xv.1 g.aG),aD (aL dz g.aG),aD (sl fK wv words),aD (u8)]) (λq m=>q≤g.aG.length∧LS m ((g.aG.take q).map fq.word)) (λq m=>g.aG.length-q) 0 [] (aC.k5 1 4 7 38 39) ⟨aQ _,LS.nil⟩ ?_;rintro q m ⟨E,o⟩;refine g6 ?_;refine St.cq (λz=> ?_) (λz=> ?_)
   ·obtain⟨x,hx⟩:=aF (show q<g.aG.length by omega)
    refine g8 ?_;refine St.ee (Ev.iD (.mk rfl) hx xI trivial mH gH.eq) (St.al (λF=>go ?_));refine St.sA (.mk rfl) (.mk rfl) mH ?_ (h1:=(fY.2 λu hu=>cy.one x u hu));refine g7 ?_;refine St.mapUpdate mkStr (k:=x.word) (.mk rfl) (.mk rfl) (.mk rfl) qE (by exact wX) ?_;refine g8 ?_;refine St.vL (q+1) (lN m x.word (iv q)) ⟨by omega,by rw[gm fq.word hx];exact o.snoc _ _⟩
   ·obtain rfl:q=g.aG.length:=by omega
    rw[iT]at o;refine g14 ?_;refine St.lH (ι:=Nat) (λk T=>(52,iv k)::T) (λk=>[aW b (eW mkStr m),tI j (kR g) 32,tI l [iv 0,iv 0] 39,aD (sl cy g.xv.1 g.aG),aD (aL dz g.aG),aD (sl fK wv words),aD (u8)]) (λk=>k≤words.length∧BC (g.aG.map jg) 0 words=BC (g.aG.map jg) k (words.drop k)) (λk=>words.length-k) 0 (aC.k4 4 7 50 51) ⟨aQ _,rfl⟩ ?_;rintro k ⟨t,i⟩;refine g6 ?_;refine St.cq (λA=> ?_) (λA=> ?_)
    ·obtain⟨w,hw⟩:=aF (show k<words.length by omega)
     have d:=OV (L:=g.aG.map jg) hw
     rw[jJ]at d;refine g17 ?_;refine St.ee (Ev.uV mkStr (k:=w) (.mk rfl) (.mk rfl) qE (by exact wX) ec) ?_;refine g3 ?_;refine St.slot 62 (.bool (decide (w∈g.aG.map fq.word))) rfl (congrArg Value.bool (o w)) (g10 ?_);refine St.cond _ rfl (λa=> ?_) (λa=> ?_)
     ·skip
      rw[aA (show ¬w∈g.aG.map ((·.word)∘jg)from(by simpa using a:¬w∈g.aG.map fq.word))]at d;rw[i.trans d]at hk;refine g3 ?_;refine St.ee (Ev.build (au.aX rfl rfl) (λw=>eV rfl rfl w)) (g9 ?_);refine St.rV [_] [] ?_
      rw[hk];rfl
     ·skip
      rw[aB (show w∈g.aG.map ((·.word)∘jg)from(by simpa using a:w∈g.aG.map fq.word))]at d;refine g8 ?_;refine St.aH (k+1) ⟨by omega,i.trans d⟩
    ·rw[Tm zE]at i
     rw[i]at hk;refine g7 ?_;refine St.ee (Ev.build (au.nil) (λw=>fP w)) (g4 ?_);refine St.rV [_] [] ?_
     rw[hk];rfl
theorem QP (g:eU)(wv:Value)(words:List cM):Be prog 72 #[eF g,wv] ([cj g,sl fK wv words,tz,u8].map aD) (λv H'=>∃(p u3:ah) (m:Nat) (d:List cT),v= .tuple #[.agg #[p.1,iv (m:Nat),u3.1],fv (fO (bK g) words).2]∧d.map dy=(fO (bK g) words).1.1∧H'=[aD (sl eT p.1 d),aD (aL dp d),aD (sl aJ u3.1 (bV (fO (bK g) words).1.2))]):=by
 refine Be.body (args:=[eF g,wv]) 124 func72 rfl ntmps72 rfl (λc hdr=>St.cast (H':=[aD (cj g),aD (sl fK wv words),aD (tz),aD (u8)]) rfl ?_)
 refine St.jU (cj g) (λ_:Unit=>qO g) (λρ h=>⟨(),h⟩) λ_=> ?_
 refine St.cast (H':=[aD (sl lW g.tv.1 g.types),aD (aL s6 g.types),aD (sl fw g.fv.1 g.cJ),aD (sl bZ g.rv.1 g.rules),aD (aL bb g.rules),aD (sl cy g.xv.1 g.aG),aD (aL dz g.aG),aD (aI g.start),aD (cj g),aD (sl fK wv words),aD (tz),aD (u8)]) rfl (g2 ?_);refine St.cC (.mk rfl) rfl (λQ=>St.al (λG=>St.al (λH=>g6 ?_)));refine St.slot 17 (eF g) rfl rfl (St.ee (Ev.nj hdr (qo g) Xp (.aq rfl)) (St.slot 18 (.agg #[iv (km (bK g)).1,iv (km (bK g)).2]) rfl rfl (St.al (λb6=>g10 ?_))));refine St.cq (λh21=> ?_) (λh21=> ?_)
 ·have l:(fO (bK g) words)=(([],[]),km (bK g)):=by unfold fO;rw[aB h21]
  refine go ?_;refine St.jm [G,H] mixed (λnp ns=>SW.dd 0 rfl (λ_=>Ev.build (ps:=[]) (au.nil) (λw=>DT w)) (SW.gd 1 ?_));refine SW.t1 2 ?_;refine g3 ?_;refine SW.go (SW.t1 3 ?_);refine g3 ?_;refine SW.go (SW.dn (g3 ?_));refine St.gi eT (St.dN dp (St.gi aJ (St.rV [_,_] [aD (sl eT (.slice none 0 0) []),aD (aL dp []),aD (sl aJ (.slice none 0 0) [])] ?_)));exact⟨bx,bx,0,[],by rw[l];rfl,by rw[l];rfl,by rw[l];rfl⟩
 ·have hg0:(km (bK g)).1=0:=by omega
  have s:=zX hg0
  have S:j5 (g.types.map dG):=s.ty
  have hTl:=S.len
  have hFl:(g.cJ.map iJ).length≤40:=s.ft
  refine g6 ?_;refine St.slot 24 (eF g) rfl rfl (go ?_);refine St.ee (Ev.nj hdr (PW g wv words) abD (.aX rfl rfl)) (St.slot 26 (.agg #[iv (tH (bK g) words).1,iv (tH (bK g) words).2]) rfl rfl (St.al (λb7=>g10 ?_)));refine St.cq (λh29=> ?_) (λh29=> ?_)
  ·have l:(fO (bK g) words)=(([],[]),(tH (bK g) words)):=by unfold fO;rw[aA (λh=>h hg0),aB h29]
   refine go ?_;refine St.jm [G,H] mixed (λnp ns=>SW.dd 0 rfl (λ_=>Ev.build (ps:=[]) (au.nil) (λw=>DT w)) (SW.gd 1 ?_));refine SW.t1 2 ?_;refine g3 ?_;refine SW.go (SW.t1 3 ?_);refine g3 ?_;refine SW.go (SW.dn (g3 ?_));refine St.gi eT (St.dN dp (St.gi aJ (St.rV [_,_] [aD (sl eT (.slice none 0 0) []),aD (aL dp []),aD (sl aJ (.slice none 0 0) [])] ?_)));exact⟨bx,bx,0,[],by rw[l];rfl,by rw[l];rfl,by rw[l];rfl⟩
  ·have U:(tH (bK g) words).1=0:=by omega
   obtain⟨hw0,J⟩:=MQ U
   have hru:∀r∈g.rules,(1≤r.kids∧r.kids≤3)∧eG (g.types.map dG).length (g.cJ.map iJ).length (bE r.graph)∧r.graph.nodes.length≤60:=λr K=>by have h:=s.rule (iE r) (dh K);exact⟨h.kids,h.gr,by rw[←ct];exact h.len⟩
   have YO:∀x∈g.aG,eG (g.types.map dG).length (g.cJ.map iJ).length (bE x.graph)∧x.graph.nodes.length≤60:=λx hx=>by have h:=s.lex (jg x) (dh hx);exact⟨h.gr,by rw[←ct];exact h.len⟩
   have D:eG (g.types.map dG).length (g.cJ.map iJ).length (bE g.start)∧g.start.nodes.length≤60:=⟨s.start.1,by rw[←ct];exact s.start.2⟩
   have HM:∀r∈g.rules,∀k:Int,0≤k→k≤r.kids→0≤nS (bE r.graph) k:=λr K=>(s.rule (iE r) (dh K)).nS
   have YX:g.rules.length≤40:=by have h:(g.rules.map iE).length≤40:=s.rn;rwa[aO]at h
   have hxn:g.aG.length≤100:=by have h:(g.aG.map jg).length≤100:=s.xn;rwa[aO]at h
   refine g7 ?_;refine St.ak (qX g.tv.1 g.types S) Xt (.aq rfl) rfl ?_;rintro v35 _ ⟨a,b,rfl,rfl⟩;refine St.dD (St.al (λR=>g3 ?_));refine St.join (ι:=lF×ah×Nat×Nat×nc) (λ⟨f,sv,e,y,d0⟩ T=>(9,tW y)::T) (λ⟨f,sv,e,y,d0⟩=>(aD (aL (λx:cT=>aI x.gr) d0.its)::tI y (nW g a b f words.length d0.gb.1 sv.1 e) 223::aW e (eW mkStr d0.m)::row d0.gb.1 229 6 d0.its.length (rows eT d0.its)::row sv.1 35 1 d0.cE.length (rows cr (d0.cE.map Prod.fst))::aD (j7 [iX f,sl bZ g.rv.1 g.rules,aL bb g.rules,sl cy g.xv.1 g.aG,aL dz g.aG])::aD (j7 [sl bP a.1 (da (g.types.map dG)),sl bP b.1 (dZ (g.types.map dG)),tz,sl fK wv words,aI g.start])::tI Q (kR g) 32::tI G [(.slice none 0 0),iv 0,(.slice none 0 0)] 170::tI H [iv 0,iv 0] 39::tI R [a.1,b.1] 154::(bX (ew 234 3) d0.its++bX (gP 3) d0.cE))) (λ⟨f,sv,e,y,d0⟩=>we f (bK g) (iP (g.types.map dG))∧d0.o9=sv∧lY d0∧d0.cs=(⟨[],List.replicate (words.length*(words.length+1)) []⟩:Cs)) (aC.k5 1 2 4 5 8) ?_ ?_
   ·refine St.ef [aD (sl bZ g.rv.1 g.rules),aD (aL bb g.rules),aD (sl cy g.xv.1 g.aG),aD (aL dz g.aG),aD (aI g.start),aD (sl bP a.1 (da (g.types.map dG))),aD (sl bP b.1 (dZ (g.types.map dG))),aD (tz)] mixed (λnp ns=>?_)
    repeat' first
     |with_reducible refine SW.me ?_
      first
       |refine SW.gd 0 ?_
        refine SW.slot 36 (eF g) rfl rfl ?_
       |refine SW.gd 1 ?_
        refine SW.slot 37 (kX a b) rfl rfl ?_
       |refine SW.gd 2 ?_
        refine SW.slot 38 (eF g) rfl rfl ?_
       |refine SW.gd 3 ?_
        refine SW.slot 39 (kX a b) rfl rfl ?_
       |refine SW.gd 5 ?_
       |refine SW.gd 6 ?_
       |refine SW.dd 9 rfl (λ_=>Ev.build (ps:=[(0,(.tmp 36)),(1,(.tmp 37)),(2,(.tmp 40)),(4,(.tmp 43)),(5,(.tmp 44))]) (au.BM rfl rfl rfl rfl rfl) (λw=>vT rfl w)) ?_
        refine SW.slot 45 (.agg (nW g a b f words.length bx.1 sv.1 e).toArray) rfl rfl ?_
       |refine SW.gd 11 ?_
       |refine SW.t2 4 8 ?_ ?_
       |refine SW.t2 7 8 ?_ ?_
       |refine SW.t1 8 ?_
       |refine SW.t1 10 ?_
       |refine SW.t1 7 ?_
       |refine SW.t1 4 ?_
     |with_reducible refine SW.tg 4 ?_
      refine St.ak (Sf g a b (g.types.map dG) S (g.cJ.map iJ).length zE YX hxn hru YO D HM) abE (.aX rfl rfl) rfl ?_;rintro v40 _ ⟨f,rfl,A,rfl⟩;refine St.bB (g2 ?_);refine SW.go ?_
     |with_reducible refine SW.tg 7 ?_
      refine St.call (BL words.length J (words.length*(words.length+1)) rfl) abF (.aq rfl) rfl ?_;rintro v43 _ ⟨sv,rfl,rfl⟩;refine St.bB (g2 ?_);refine SW.go ?_
     |with_reducible refine SW.tg 8 ?_
      refine St.makeMap mkStr rfl (λe=>g2 ?_);refine SW.go ?_
     |with_reducible refine SW.tg 10 ?_
      refine St.cC (.mk rfl) rfl (λy=>g2 ?_);refine SW.go ?_
    all_goals refine SW.dn ?_
    all_goals
     refine go ?_;refine St.aP sv.1 (show _=(List.replicate (words.length*(words.length+1)) ((bx,[]):ah×List Nat)).length by rw[mI,mI]) (show _=rows cr ((List.replicate (words.length*(words.length+1)) ((bx,[]):ah×List Nat)).map Prod.fst) by rw[rM]) ?_;refine St.e7 229 6 (St.aP (.slice none 0 0) (show _=([]:List cT).length from rfl) (show _=rows eT []from rfl) (St.dN (λx:cT=>aI x.gr) (St.EA 234 3 (words.length*(words.length+1)) (St.fF (j7 [iX f,sl bZ g.rv.1 g.rules,aL bb g.rules,sl cy g.xv.1 g.aG,aL dz g.aG]) [iX f,sl bZ g.rv.1 g.rules,aL bb g.rules,sl cy g.xv.1 g.aG,aL dz g.aG] (λρ h=>h) (St.fF (j7 [sl bP a.1 (da (g.types.map dG)),sl bP b.1 (dZ (g.types.map dG)),tz,sl fK wv words,aI g.start]) [sl bP a.1 (da (g.types.map dG)),sl bP b.1 (dZ (g.types.map dG)),tz,sl fK wv words,aI g.start] (λρ h=>h) ?_)))));refine St.mE ⟨f,sv,e,y,(⟨bx,[],sv,List.replicate (words.length*(words.length+1)) (bx,[]),[]⟩:nc)⟩ ⟨A,rfl,⟨λ_ h=>(by cases h),xV.nil,.nil⟩,(by show(⟨_,_⟩:Cs)=_;rw[rM];rfl)⟩
   ·rintro ⟨f,sv,e,y,d0⟩ ⟨A,V,hp0,hc0⟩
    dsimp only at A V hp0 hc0⊢
    refine St.Kg [sl bP a.1 (da (g.types.map dG)),sl bP b.1 (dZ (g.types.map dG)),tz,sl fK wv words,aI g.start] (St.cast (H':=(aD (sl bP a.1 (da (g.types.map dG)))::aD (sl bP b.1 (dZ (g.types.map dG)))::aD (tz)::aD (sl fK wv words)::aD (aI g.start)::(aD (aL (λx:cT=>aI x.gr) d0.its)::tI y (nW g a b f words.length d0.gb.1 sv.1 e) 223::aW e (eW mkStr d0.m)::row d0.gb.1 229 6 d0.its.length (rows eT d0.its)::row sv.1 35 1 d0.cE.length (rows cr (d0.cE.map Prod.fst))::aD (j7 [iX f,sl bZ g.rv.1 g.rules,aL bb g.rules,sl cy g.xv.1 g.aG,aL dz g.aG])::aD (j7 [sl bP a.1 (da (g.types.map dG)),sl bP b.1 (dZ (g.types.map dG)),tz,sl fK wv words,aI g.start])::tI Q (kR g) 32::tI G [(.slice none 0 0),iv 0,(.slice none 0 0)] 170::tI H [iv 0,iv 0] 39::tI R [a.1,b.1] 154::(bX (ew 234 3) d0.its++bX (gP 3) d0.cE)))) rfl (St.Kg [iX f,sl bZ g.rv.1 g.rules,aL bb g.rules,sl cy g.xv.1 g.aG,aL dz g.aG] (St.cast (H':=(aD (iX f)::aD (sl bZ g.rv.1 g.rules)::aD (aL bb g.rules)::aD (sl cy g.xv.1 g.aG)::aD (aL dz g.aG)::aD (sl bP a.1 (da (g.types.map dG)))::aD (sl bP b.1 (dZ (g.types.map dG)))::aD (tz)::aD (sl fK wv words)::aD (aI g.start)::aD (aL (λx:cT=>aI x.gr) d0.its)::tI y (nW g a b f words.length d0.gb.1 sv.1 e) 223::aW e (eW mkStr d0.m)::row d0.gb.1 229 6 d0.its.length (rows eT d0.its)::row sv.1 35 1 d0.cE.length (rows cr (d0.cE.map Prod.fst))::aD (j7 [iX f,sl bZ g.rv.1 g.rules,aL bb g.rules,sl cy g.xv.1 g.aG,aL dz g.aG])::aD (j7 [sl bP a.1 (da (g.types.map dG)),sl bP b.1 (dZ (g.types.map dG)),tz,sl fK wv words,aI g.start])::tI Q (kR g) 32::tI G [(.slice none 0 0),iv 0,(.slice none 0 0)] 170::tI H [iv 0,iv 0] 39::tI R [a.1,b.1] 154::(bX (ew 234 3) d0.its++bX (gP 3) d0.cE))) rfl ?_)))
    have hFn:=A.ln (by have:=s.rn;omega) (by have:=s.xn;omega) (λr K=>(s.rule r K).kids.2)
    have hQ:=ZF s (f:=f) J
    have hQs:=Uv (words:=words) A (λr K=>(s.rule r K).kids.2)
    have amF:f.nr=g.rules.length:=by rw[A.nr];exact aO _
    obtain⟨W,hW⟩:∃W,W=xX (ku f (g.types.map dG) words.length g) words words.length 1 (⟨[],List.replicate (words.length*(words.length+1)) []⟩:Cs):=⟨_,rfl⟩
    have al9:FK (bK g) words=W.map λcs=>ff cs.its:=by unfold FK;rw[←hQs,hW]
    have l:(fO (bK g) words)=match FK (bK g) words with|none=>(([],[]),(17,-2))|some its=>((its,M4 (iP (g.types.map dG)) words.length (bE g.start) its),(0,0)):=by unfold fO;rw[aA (λh=>h hg0),aA (λh=>h U)];rfl
    rw[al9]at l;refine g7 ?_;refine St.lH (ι:=Nat×nc) (λ⟨i,d1⟩ T=>(10,iv ((i+1:Nat):Int))::T) (λ⟨i,d1⟩=>(aD (aL (λx:cT=>aI x.gr) d1.its)::tI y (nW g a b f words.length d1.gb.1 sv.1 e) 223::aW e (eW mkStr d1.m)::row d1.gb.1 229 6 d1.its.length (rows eT d1.its)::row sv.1 35 1 d1.cE.length (rows cr (d1.cE.map Prod.fst))::aD (iX f)::aD (sl bZ g.rv.1 g.rules)::aD (aL bb g.rules)::aD (sl cy g.xv.1 g.aG)::aD (aL dz g.aG)::aD (sl bP a.1 (da (g.types.map dG)))::aD (sl bP b.1 (dZ (g.types.map dG)))::aD (tz)::aD (sl fK wv words)::aD (aI g.start)::tI Q (kR g) 32::tI G [(.slice none 0 0),iv 0,(.slice none 0 0)] 170::tI H [iv 0,iv 0] 39::tI R [a.1,b.1] 154::(bX (ew 234 3) d1.its++bX (gP 3) d1.cE))) (λ⟨i,d1⟩=>i≤words.length∧d1.o9=sv∧lY d1∧oG (g.types.map dG).length (g.cJ.map iJ).length words.length (i+1) 0 d1.cs∧gV (ku f (g.types.map dG) words.length g) words d1.cs∧xX (ku f (g.types.map dG) words.length g) words (words.length-i) (i+1) d1.cs=W) (λ⟨i,d1⟩=>words.length-i) ⟨0,d0⟩ (aC.k6 1 2 4 5 8 9) ⟨aQ _,V,hp0,by rw[hc0];exact Gg,by rw[hc0];exact λit h=>(by cases h),by rw[hc0,hW];rfl⟩ ?_;rintro ⟨i,d1⟩ ⟨hi,ME,YW,Y,hn1,Z⟩
    dsimp only at hi ME YW Y hn1 Z⊢
    refine g9 ?_;refine St.cq (λh50=> ?_) (λh50=> ?_)
    ·have PD:i<words.length:=by omega
     rw[NX zE,show((ku f (g.types.map dG) words.length g)).n+1-(i+1)=words.length-i from(by show words.length+1-(i+1)=_;omega)]at Z;refine g10 ?_;refine St.lH (ι:=Nat×nc) (λ⟨fr,d2⟩ T=>(11,iv fr)::T) (λ⟨fr,d2⟩=>(aD (aL (λx:cT=>aI x.gr) d2.its)::tI y (nW g a b f words.length d2.gb.1 sv.1 e) 223::aW e (eW mkStr d2.m)::row d2.gb.1 229 6 d2.its.length (rows eT d2.its)::row sv.1 35 1 d2.cE.length (rows cr (d2.cE.map Prod.fst))::aD (iX f)::aD (sl bZ g.rv.1 g.rules)::aD (aL bb g.rules)::aD (sl cy g.xv.1 g.aG)::aD (aL dz g.aG)::aD (sl bP a.1 (da (g.types.map dG)))::aD (sl bP b.1 (dZ (g.types.map dG)))::aD (tz)::aD (sl fK wv words)::aD (aI g.start)::tI Q (kR g) 32::tI G [(.slice none 0 0),iv 0,(.slice none 0 0)] 170::tI H [iv 0,iv 0] 39::tI R [a.1,b.1] 154::(bX (ew 234 3) d2.its++bX (gP 3) d2.cE))) (λ⟨fr,d2⟩=>fr+i≤words.length∧d2.o9=sv∧lY d2∧oG (g.types.map dG).length (g.cJ.map iJ).length words.length (i+1) fr d2.cs∧gV (ku f (g.types.map dG) words.length g) words d2.cs∧(xu (ku f (g.types.map dG) words.length g) words (i+1) (words.length-i-fr) fr d2.cs).bind (λcs=>xX (ku f (g.types.map dG) words.length g) words (words.length-i-1) (i+1+1) cs)=W) (λ⟨fr,d2⟩=>words.length-fr) ⟨0,d1⟩ (aC.k7 1 2 4 5 8 9 10) ⟨by omega,ME,YW,Y,hn1,Z⟩ ?_;rintro ⟨fr,d2⟩ ⟨hfr,BE,MB,E,hn2,hlen⟩
     dsimp only at hfr BE MB E hn2 hlen⊢
     refine g6 ?_;refine St.slot 55 (iv ((fr+(i+1):Nat):Int)) rfl (congrArg iv (by push_cast;omega)) ?_;refine g5 ?_;refine St.cq (λh58=> ?_) (λh58=> ?_)
     ·have P5:fr+(i+1)≤words.length:=by omega
      rw[Pb zE]at hlen;refine g12 ?_;refine St.slot 66 (iv ((fr+(i+1):Nat):Int)) rfl (congrArg iv (by push_cast;omega)) ?_;refine St.yw (ds:=[iX f,sl bZ g.rv.1 g.rules,aL bb g.rules,sl cy g.xv.1 g.aG,aL dz g.aG,sl bP a.1 (da (g.types.map dG)),sl bP b.1 (dZ (g.types.map dG)),tz,sl fK wv words,aL (λx:cT=>aI x.gr) d2.its]) (L:=[tI y (nW g a b f words.length d2.gb.1 sv.1 e) 223,aW e (eW mkStr d2.m),row d2.gb.1 229 6 d2.its.length (rows eT d2.its),row sv.1 35 1 d2.cE.length (rows cr (d2.cE.map Prod.fst))]) (X:=(bX (ew 234 3) d2.its++bX (gP 3) d2.cE)) (post:=λv L' X'=>∃d3:nc,d3.cs=pD (ku f (g.types.map dG) words.length g) words fr (fr+(i+1)) d2.cs∧d3.o9=sv∧lY d3∧L'=[aD (aL (λx:cT=>aI x.gr) d3.its),tI y (nW g a b f words.length d3.gb.1 sv.1 e) 223,aW e (eW mkStr d3.m),row d3.gb.1 229 6 d3.its.length (rows eT d3.its),row sv.1 35 1 d3.cE.length (rows cr (d3.cE.map Prod.fst))]∧X'=(bX (ew 234 3) d3.its++bX (gP 3) d3.cE)) ((Mq g a b (g.types.map dG) S (g.cJ.map iJ).length zE f hFn words.length J y e sv wv words rfl amF hQ HM fr (fr+(i+1)) (i+1) zE rfl P5 d2 BE MB E).mono (λv H' ⟨d3,I,a2,a3,a4⟩=>⟨_,_,a4,d3,I,a2,a3,rfl,rfl⟩)) abG (.gn rfl rfl rfl rfl) rfl ?_;rintro v67 _ _ ⟨d3,I,a2,a3,rfl,rfl⟩;refine St.DM (g12 ?_);refine St.cq (λh73=> ?_) (λh73=> ?_)
      ·rw[aB (by rw[←I,ik];omega)]at hlen
       have hWn:W=none:=hlen.symm
       rw[hWn]at l;refine g2 ?_;refine St.ee (Ev.build (au.nil) (λw=>DT w)) (St.ee (Ev.build (au.aX rfl rfl) (λw=>eV rfl rfl w)) (g14 ?_));refine St.gi eT (St.dN dp (St.gi aJ (St.rV [_,_] [aD (sl eT (.slice none 0 0) []),aD (aL dp []),aD (sl aJ (.slice none 0 0) [])] ?_)));exact⟨bx,bx,0,[],by rw[l];rfl,by rw[l];rfl,by rw[l];rfl⟩
      ·have hle:¬300<(pD (ku f (g.types.map dG) words.length g) words fr (fr+(i+1)) d2.cs).its.length:=by rw[←I,ik];omega
       rw[aA hle,←I]at hlen
       have hs3:=Gi hQ (words:=words) (show 1≤i+1 by omega) P5 E hle
       have hn3:=Kr hQ zE zE (show 1≤i+1 by omega) P5 E hn2
       rw[←I]at hs3 hn3;refine g9 ?_;refine St.aH ⟨fr+1,d3⟩ ⟨by omega,a2,a3,hs3,hn3,by dsimp only;rw[show words.length-i-(fr+1)=words.length-i-fr-1 by omega];exact hlen⟩
     ·rw[show words.length-i-fr=0 by omega]at hlen
      have aeR:xX (ku f (g.types.map dG) words.length g) words (words.length-i-1) (i+1+1) d2.cs=W:=hlen
      refine g12 ?_;refine St.aH ⟨i+1,d2⟩ ⟨by omega,BE,MB,Kq E,hn2,by dsimp only;rw[show words.length-(i+1)=words.length-i-1 by omega];exact aeR⟩
    ·obtain rfl:i=words.length:=by omega
     rw[gp]at Z
     have hWs:W=some d1.cs:=Z.symm
     rw[hWs]at l;refine g13 ?_;refine St.ee (Ev.build (au.aX rfl rfl) (λw=>Hn d1.gb.2 rfl w)) (St.slot 82 (.agg #[d1.gb.1,iv (words.length:Nat),(.slice none 0 0)]) rfl rfl (St.al (λF=>g5 ?_)))
     have amB:=Y.Fa
     rw[ik]at amB;refine St.ah2 (bX (ew 234 3) (d1.its)) (bX (gP 3) d1.cE) (St.yw (ds:=[aL (λx:cT=>aI x.gr) d1.its]) (L:=[tI F [d1.gb.1,iv (words.length:Nat),(.slice none 0 0)] 170,row d1.gb.1 229 6 d1.its.length (rows eT d1.its)]) (X:=bX (ew 234 3) (d1.its)) (post:=λv L' X'=>∃(p:ah) (d:List cT),d.map dy=ff (d1.its.map dy)∧L'=[tI F [p.1,iv (words.length:Nat),(.slice none 0 0)] 170,aD (sl eT p.1 d),aD (aL dp d)]∧X'=[]) ((Mp F words.length d1.gb d1.its YW.nd zE (VS hQ Y hn1)).mono (λv H' ⟨p,d,I,a2⟩=>⟨[_,_,_],[],a2,p,d,I,rfl,rfl⟩)) abH (.aq rfl) rfl ?_);rintro v83 _ _ ⟨p,d,E,rfl,rfl⟩;refine St.kG (St.wf p.1 (λ_ hl2=>g12 ?_));refine St.e7 3 1 (St.aP (.slice none 0 0) (show _=([]:List Nat).length from rfl) (show _=rows aJ (bV [])from rfl) ?_)
     have hl3:d.length≤300:=by have h:=congrArg List.length E;rw[aO]at h;unfold ff at h;rw[aO]at h;have h2:(jv (d1.its.map dy)).length=_:=(lB _ _).length_eq;rw[kF,aO]at h2;omega
     refine St.lH (ι:=Nat×ah×List Nat) (λ⟨k,B,j⟩ T=>(87,iv k)::T) (λ⟨k,B,j⟩=>(row B.1 3 1 (j).length (rows aJ (bV (j)))::tI F [p.1,iv (words.length:Nat),B.1] 170::aD (sl eT p.1 d)::aD (aL dp d)::aD (iX f)::aD (sl bZ g.rv.1 g.rules)::aD (aL bb g.rules)::aD (sl cy g.xv.1 g.aG)::aD (aL dz g.aG)::aD (sl bP a.1 (da (g.types.map dG)))::aD (sl bP b.1 (dZ (g.types.map dG)))::aD (tz)::aD (sl fK wv words)::aD (aI g.start)::tI Q (kR g) 32::tI G [(.slice none 0 0),iv 0,(.slice none 0 0)] 170::tI H [iv 0,iv 0] 39::tI R [a.1,b.1] 154::[])) (λ⟨k,B,j⟩=>k≤d.length∧j=((List.range (k)).filter λi=>decide ((((d.map dy)).getD i fX).ed.frm=0)&&decide ((((d.map dy)).getD i fX).ed.tqo=words.length)&&(dT (iP (g.types.map dG)) (((d.map dy)).getD i fX).ed.gr 0 (bE g.start)).isSome)) (λ⟨k,B,j⟩=>d.length-k) ⟨0,bx,[]⟩ (aC.k7 2 4 5 8 12 85 86) ⟨aQ _,rfl⟩ ?_;rintro ⟨k,B,j⟩ ⟨hk,o⟩
     dsimp only at hk o⊢
     have apQ:j.length≤k:=by rw[o];exact dH (List.length_filter_le _ _) (Nat.le_of_eq kF)
     refine g6 ?_;refine St.cq (λh88=> ?_) (λh88=> ?_)
     ·obtain⟨x,hx⟩:=aF (show k<d.length by omega)
      have M:(d.map dy).getD k fX=dy x:=by rw[ax,bJ,hx];rfl
      obtain⟨_,_,_,IU,El⟩:=ZN Y.ok (it:=dy x) (by show _∈ff (d1.its.map dy);rw[←E];exact dh (aY hx))
      have El:x.gr.nodes.length≤60:=by rw[←ct];exact El
      have hsx:=fz (g:=x.gr) IU zE
      have hss:=fz D.1 zE
      refine St.bh dp d (x:=x) (aY hx) (St.fF (aI x.gr) [dp x] (λρ h=>h (dp x) (aR ..) (aI x.gr) (aR ..)) (g8 ?_));refine St.ee (Ev.MR (Rr:=eT) (sz:=6) (.mk rfl) hx underlying229 trivial pG (by decide) (by decide)) ?_;refine St.slot 91 (.agg #[iv (x.frm:Nat),iv (x.tqo:Nat),iv (x.cp:Nat),x.gr.nv.1,x.wv.1,x.tv.1]) rfl rfl (St.al (λNc=>g11 ?_));refine St.gt _ rfl rfl (λC=>Ev.cU (.mk rfl) uN) rfl (St.gt _ rfl rfl (λC=>Ev.Y7 (aa.gv rfl C) Dp) rfl (St.gt _ rfl rfl (λC=>Ev.jN (aa.gv rfl C) fA trivial (by rfl)) rfl ?_));refine St.gt _ rfl rfl (λC=>Ev.cU (.mk rfl) Tn) rfl (St.gt _ rfl rfl (λC=>Ev.jN (aa.gv rfl C) fA trivial (by rfl)) rfl ?_);refine St.gt _ rfl rfl (λC=>Ev.eql (aa.gv rfl C) (aa.gv rfl C)) rfl (g3 ?_);refine St.cq (λIM=> ?_) (λIM=> ?_)
      ·have e1:(dy x).ed.frm=0:=(show x.frm=0 by omega)
       have e2:(dy x).ed.tqo=words.length:=(show x.tqo=words.length by omega)
       refine g3 ?_;refine St.slot 105 (kX a b) rfl rfl (g2 ?_);refine St.ee (Ev.jO 1 (.mk rfl) nI trivial jx rfl rfl) (St.slot 108 (bF x.gr) rfl rfl (go ?_));refine St.ee (Ev.jO 1 (.mk rfl) nI trivial jx rfl rfl) (St.slot 110 (bF g.start) rfl rfl (St.ak (rO a b (g.types.map dG) S (g.cJ.map iJ).length zE x.gr g.start IU D.1 El D.2 (λt ht=>by have:=(hsx t ht).2;omega) (λt ht=>by have:=(hss t ht).2;omega) 0 (by have:=IU.pos;rw[show(dy x).ed.gr=bE x.gr from rfl,ct]at this;exact this)) Jv (.gn rfl rfl rfl rfl) rfl ?_));rintro Rt _ ⟨u,rfl,rfl⟩;refine St.bB (St.bS ((dT (iP (g.types.map dG)) (bE x.gr) 0 (bE g.start)).getD []) u (λz hz=>?_));obtain⟨rfl,hzE⟩:=hz;refine g3 ?_;refine St.al (λb15=>g9 ?_);refine St.cond _ rfl (λYF=> ?_) (λYF=> ?_)
       ·skip
        have UB:(dT (iP (g.types.map dG)) (dy x).ed.gr 0 (bE g.start)).isSome=true:=YF
        refine g4 ?_;refine St.iu rfl (.aq rfl) bQ dQ ec rfl rfl (by simp[Value.cells]) rfl rfl (λaaR=> ?_);refine St.bH (.mk rfl) (.mk rfl) bQ dQ ec yt (by simp[Value.oneCell',Value.cells]) zE zE rfl rfl rfl rfl (λN ao7=> ?_);refine St.aP N (show _=(j++ [k]).length by rw[cA];rfl) (show _=rows aJ (bV (j++ [k])) by rw[gz,bN];rfl) ?_;refine St.cH N (λac4 _=>go ?_);refine St.cP (.mk rfl) (.mk rfl) fT ac4 (by rfl) ?_;refine g8 ?_;refine St.aH ⟨k+1,⟨N,ac4⟩,j++ [k]⟩ ⟨by omega,by rw[zU,←o,M,cX e1,cX e2,UB,aB (by decide)]⟩
       ·skip
        have UB:(dT (iP (g.types.map dG)) (dy x).ed.gr 0 (bE g.start)).isSome=false:=YF
        refine g8 ?_;refine St.aH ⟨k+1,B,j⟩ ⟨by omega,by rw[zU,←o,M,UB,Bool.and_false,aA (by decide)];exact(ib _).symm⟩
      ·have SO:(decide ((dy x).ed.frm=0)&&decide ((dy x).ed.tqo=words.length))=false:=by by_cases e1:x.frm=0;rw[df (show ¬(dy x).ed.tqo=words.length from(show ¬x.tqo=words.length by omega)),Bool.and_false];rw[df (show ¬(dy x).ed.frm=0 from e1),Bool.false_and]
       refine g8 ?_;refine St.aH ⟨k+1,B,j⟩ ⟨by omega,by rw[zU,←o,M,SO,Bool.false_and,aA (by decide)];exact(ib _).symm⟩
     ·obtain rfl:k=d.length:=by omega
      obtain⟨⟨O,hfv⟩,MF⟩:∃z,z=B:=⟨B,rfl⟩
      subst MF;refine St.bU O aJ (bV j) rfl (dc _).symm (λz hz=>by obtain⟨q,hq,rfl⟩:=cS.1 hz;rw[o]at hq;have:=dM.1 (List.mem_filter.1 hq).1;show aZ (q:Int);unfold aZ;omega) ?_
      have P:(fO (bK g) words)=((d.map dy,j),(0,0)):=by rw[l];show((ff d1.cs.its,M4 (iP (g.types.map dG)) words.length (bE g.start) (ff d1.cs.its)),((0:Int),(0:Int)))=_;rw[show ff d1.cs.its=d.map dy from E.symm,o];unfold M4;rw[aO]
      refine g8 ?_;refine St.ee (Ev.build (au.nil) (λw=>fP w)) (St.sA (.mk rfl) (.mk rfl) RC ?_ (h1:=(by simp only[List.all_cons,List.all_nil,Bool.and_true,Bool.and_eq_true];exact⟨p.2,rfl,hfv⟩)));refine g4 ?_;refine St.rV [_,_] [aD (sl eT p.1 d),aD (aL dp d),aD (sl aJ O (bV j))] ?_;exact⟨p,⟨O,hfv⟩,words.length,d,by rw[P];rfl,by rw[P],by rw[P]⟩
theorem Qm {α:Type}{l:List α}{i:Nat}{x:α}(h:l[i]?=some x):l.set i x=l:=by
 obtain⟨hi,rfl⟩:=fj.1 h;exact List.set_getElem_self hi
mutual
theorem Qz {g:fD}(hx:g.aG.length≤1000):∀t:dY,tm g t=true→Ek g t=true→HJ t
 | .mk r l ks,h,k=>by
  rw[tm]at h;rw[Ek]at k
  by_cases c:r<0
  ·rw[aB c]at h k
   simp only[Bool.and_eq_true,decide_eq_true_eq]at h k
   obtain⟨h1,a⟩:=h;obtain⟨⟨b,d⟩,k3⟩:=k;obtain rfl:=List.length_eq_zero_iff.1 k3;exact .mk zE (λt ht=>by cases ht)
  ·rw[aA c]at h k
   simp only[Bool.and_eq_true,decide_eq_true_eq]at h k
   obtain⟨h1,a⟩:=h;obtain⟨⟨⟨b,d⟩,k3⟩,e⟩:=k;exact .mk zE (Ko hx ks a e)
theorem Ko {g:fD}(hx:g.aG.length≤1000):∀l:List dY,rD g l=true→xY g l=true→∀t∈l,HJ t
 | [],_,_,t,ht=>by cases ht
 |s::l,h,k,t,ht=>by
  rw[rD,nQ]at h;rw[xY,nQ]at k
  rcases cN.1 ht with e|ht
  ·rw[e];exact Qz hx s h.1 k.1
  ·exact Ko hx l h.2 k.2 t ht
end
abbrev CmT (G:fD)(t:dY):Prop:=tm G t=true∧nV t≤1000∧HJ t∧qI t
theorem Yp (bw:Nat)(c:eU)(uv e f:ah)(hw:SI (bK c)){outs:List bM}(g:∀t∈outs,CmT (bK c) (aN t)):∀a∈outs,∀b∈outs,
 dK prog 79 ([Value.agg (bR.cells a).toArray,Value.agg (bR.cells b).toArray]++ [tW bw]).toArray [iG bw [c.tv.1,c.fv.1,c.rv.1,c.xv.1,c.start.nv.1,uv.1,e.1,f.1],cj c,aL ae outs] (.int .i64 (xy (bK c) (aN a) (aN b))):=λa i b j=>by
 obtain⟨l,a2,a3,a4⟩:=g a i;obtain⟨m,n,o,p⟩:=g b j
 have h:dK prog 79 ([dA a,dA b]++ [tW bw]).toArray [iG bw [c.tv.1,c.fv.1,c.rv.1,c.xv.1,c.start.nv.1,uv.1,e.1,f.1],cj c,ae a,ae b] (iv (xy (bK c) (aN a) (aN b))):=(yf bw c uv e f hw a b l m a2 n a3 o a4 p).mono λv H k=>k.1
 refine h.oY λρ k d hd=> ?_
 simp only[List.mem_cons,List.not_mem_nil,or_false]at hd
 rcases hd with rfl|rfl|rfl|rfl
 ·exact k _ (by simp)
 ·exact k _ (by simp)
 ·exact k (aL ae outs) (by simp) a i
 ·exact k (aL ae outs) (by simp) b j
def allI (its:List cT)(full:List Nat):List dY:=full.flatMap (sY its)
def Gu (G:fD)(its:List cT)(full:List Nat):List dY×(Int×Int):=if 200<(allI its full).length then([],(17,-1))else(Gj (xy G) (allI its full),(0,0))
theorem FB {its:List cT}{full:List Nat}{k q:Nat}(h:full[k]?=some q):allI its (full.take (k+1))=allI its (full.take k)++sY its q:=by unfold allI;rw[ag h,qF];simp
theorem Xd {its:List cT}{full:List Nat}(k:Nat):(allI its (full.take k)).length≤(allI its full).length:=by
 have h:allI its full=allI its (full.take k)++allI its (full.drop k):=by unfold allI;rw[←qF,nR]
 rw[h,cA];omega
theorem JN (b:Nat)(a:eU)(uv d e c:ah)(hw:SI (bK a)){outs:List bM}(g:∀t∈outs,CmT (bK a) (aN t))(h:outs.length≤1000):
 dx prog 78 [c.1,.func (.func 79) #[] [tW b].toArray].toArray ([iG b [a.tv.1,a.fv.1,a.rv.1,a.xv.1,a.start.nv.1,uv.1,d.1,e.1],cj a,aL ae outs].map aD++ [row c.1 51 3 outs.length (rows bR outs)])
  (λu H'=>u= .tuple #[]∧∃f:List bM,f.Perm outs∧f.map aN=Gj (xy (bK a)) (outs.map aN)∧H'=[row c.1 51 3 outs.length (rows bR f)]):=
 BT Tryz.xo bR Tryz.isAgg51 Tryz.sizeOf51 aN (xy (bK a)) (zx _) 79 aj7 [tW b] [iG b [a.tv.1,a.fv.1,a.rv.1,a.xv.1,a.start.nv.1,uv.1,d.1,e.1],cj a,aL ae outs] outs (Yp b a uv d e hw g) c.1 51 zE
theorem Eu (a:eU)(uv f j:ah)(its:List cT)(full C:List Nat)(R X:List Int)(D:qU ⟨its.map dy,R,X⟩)(hw:nh (its.map dy))(P:its.length≤300)(Q:xT its C)(S:∀i,i<its.length→C[i]?=some (pU its i))(u:∀i∈full,i<its.length)(U:SI (bK a))(V:∀e,e<its.length→∀t∈sY its e,CmT (bK a) t):
 dx prog 36 #[.agg #[a.tv.1,a.fv.1,a.rv.1,a.xv.1,a.start.nv.1,uv.1,f.1,j.1]] ([sl eT uv.1 its,aL dp its,sl aJ f.1 (bV full),sl aJ j.1 (bV C),cj a].map aD) (λv H'=>∃(d:ah) (outs:List bM),v= .tuple #[d.1,fv (Gu (bK a) its full).2]∧outs.map aN=(Gu (bK a) its full).1∧H'=[aD (sl bR d.1 outs),aD (aL ae outs)]):=by
 refine dx.body (args:=[.agg #[a.tv.1,a.fv.1,a.rv.1,a.xv.1,a.start.nv.1,uv.1,f.1,j.1]]) 44 func36 rfl ntmps36 rfl (λc=>go ?_);refine St.cast (H':=[aD (sl eT uv.1 its),aD (aL dp its),aD (sl aJ f.1 (bV full)),aD (sl aJ j.1 (bV C)),aD (cj a)]) rfl (St.wf f.1 (λ_ P5=>?_))
 have PG:=dc full
 have W:du=1099511627776:=rfl
 have Y:TW its full=min (allI its full).length du:=TX D hw full u
 refine go ?_;refine St.cC (.mk rfl) rfl (λy=>go ?_);refine St.al (λI=>g6 ?_);refine St.slot 8 (.agg #[a.tv.1,a.fv.1,a.rv.1,a.xv.1,a.start.nv.1,uv.1,f.1,j.1]) rfl rfl (St.ee (Ev.call (HT a uv f j its full C Q S u) aj5 (.aq rfl)) (g3 ?_));refine St.cq (λZ=> ?_) (λZ=> ?_)
 ·have r:(Gu (bK a) its full)=([],(17,-1)):=by unfold Gu;rw[aB zE]
  refine g2 ?_;refine St.ee (Ev.build (au.aX rfl rfl) (λw=>eV rfl rfl w)) (g6 ?_);refine St.gi bR (St.dN ae (St.rV [_,_] [aD (sl bR (.slice none 0 0) []),aD (aL ae [])] ?_));exact⟨bx,[],by rw[r];rfl,by rw[r];rfl,rfl⟩
 ·have hal:(allI its full).length≤200:=by omega
  have r:(Gu (bK a) its full)=(Gj (xy (bK a)) (allI its full),(0,0)):=by unfold Gu;rw[aA zE]
  refine g17 ?_;refine St.e7 51 3 (St.aP (.slice none 0 0) (show _=([]:List bM).length from rfl) (show _=rows bR []from rfl) (St.dN ae (St.lH (ι:=Nat×ah×List bM) (λ⟨k,d,outs⟩ T=>(15,iv k)::(4,d.1)::T) (λ⟨k,d,outs⟩=>[row d.1 51 3 (outs).length (rows bR (outs)),aD (aL ae outs),tI y [a.tv.1,a.fv.1,a.rv.1,a.xv.1,a.start.nv.1,uv.1,f.1,j.1] 109,tI I [iv 0,iv 0] 39,aD (sl eT uv.1 its),aD (aL dp its),aD (sl aJ f.1 (bV full)),aD (sl aJ j.1 (bV C)),aD (cj a)]) (λ⟨k,d,outs⟩=>k≤full.length∧outs.map aN=allI its (full.take k)∧∀t∈outs,bR.wf t) (λ⟨k,d,outs⟩=>full.length-k) ⟨0,bx,[]⟩ (aC.k5 1 2 3 13 14) ⟨aQ _,rfl,λt ht=>by cases ht⟩ ?_)));rintro ⟨k,d,outs⟩ ⟨hk,o,n⟩
  dsimp only at hk o n⊢
  have J:=congrArg List.length o
  rw[aO]at J;refine g6 ?_;refine St.cq (λh16=> ?_) (λh16=> ?_)
  ·obtain⟨q,A⟩:=aF (show k<full.length by omega)
   have K:=u q (aY A)
   have hle:=Xd (its:=its) (full:=full) (k+1)
   rw[FB A,cA]at hle;refine g7 ?_;refine St.ee (Ev.ld1 (.mk rfl) (iw A) fA trivial rfl) (g6 ?_);refine St.slot 20 (.agg #[a.tv.1,a.fv.1,a.rv.1,a.xv.1,a.start.nv.1,uv.1,f.1,j.1]) rfl rfl (go ?_);refine St.ak (MT a uv f j its R X D hw P 60 q K (D.ht q (by show q<(its.map dy).length;rw[aO];exact K)) zE) acK (.aX rfl rfl) rfl ?_;rintro v22 _ ⟨lv,ls,rfl,M,rfl⟩;refine St.dD (St.wf lv.1 (λWL _=>?_))
   have hll:=congrArg List.length M
   rw[aO]at hll;refine St.ym (.mk rfl) (.mk rfl) rE jo Ei Nv (AB _ _) zE zE rfl rfl trivial rfl (λv23 ap7=> ?_);refine St.Wm v23 3 rfl ?_;refine St.aP v23 (show _=(outs++ls).length by rw[cA]) (show _=rows bR (outs++ls) by unfold rows;rw[qF]) ?_;refine St.cH v23 (λh23 _=> ?_);refine St.fF (aL ae (outs++ls)) [aL ae outs,aL ae ls] (λρ h z hz=>(ca.1 hz).elim (h (aL ae outs) (aR ..) z) (h (aL ae ls) (cO _ (aR ..)) z)) ?_;refine g9 ?_;refine St.aH ⟨k+1,⟨v23,h23⟩,outs++ls⟩ ⟨by dsimp only;omega,by dsimp only;rw[cY,o,M,FB A],λt ht=>(ca.1 ht).elim (n t) (WL t)⟩
  ·obtain rfl:k=full.length:=by omega
   rw[iT]at o J
   have N:∀t∈outs,CmT (bK a) (aN t):=λt ht=>by
    have hm:aN t∈allI its full:=by rw[←o];exact dh ht
    obtain⟨e,he,h⟩:=List.mem_flatMap.1 hm;exact V e (u e he) _ h
   refine St.re y (g8 ?_);refine St.ee (Ev.func (.aq rfl)) (St.Hv (ds:=[iG y [a.tv.1,a.fv.1,a.rv.1,a.xv.1,a.start.nv.1,uv.1,f.1,j.1],cj a,aL ae outs]) (L:=[row d.1 51 3 (outs).length (rows bR (outs))]) (JN y a uv f j d U N zE) aj6 (.aX rfl rfl) rfl ?_);rintro v27 _ ⟨rfl,l,B,s,rfl⟩;refine St.bB ?_;rw[o]at s
   have E:=B.length_eq
   refine St.aP d.1 (show _=l.length from E.symm) (show _=rows bR l from rfl) (St.fF (aL ae l) [aL ae outs] (λρ h z hz=>h (aL ae outs) (aR ..) z (B.mem_iff.1 hz)) ?_)
   have hyw:∀t∈l,bR.wf t:=λt ht=>n t (B.mem_iff.1 ht)
   have F:∀t∈l,qI (aN t):=λt ht=>(N t (B.mem_iff.1 ht)).2.2.2
   refine g11 ?_;refine St.lH (ι:=Nat×List bM) (λ⟨i,b⟩ T=>(30,iv i)::T) (λ⟨i,b⟩=>[row d.1 51 3 (b).length (rows bR (b)),aD (aL ae b),tI I [iv 0,iv 0] 39]) (λ⟨i,b⟩=>i≤b.length∧b.map aN=l.map aN∧b.length=l.length∧(∀t∈b,bR.wf t)∧∀t∈b,qI (aN t)) (λ⟨i,b⟩=>l.length-i) ⟨0,l⟩ (aC.k4 2 3 4 29) ⟨aQ _,rfl,rfl,hyw,F⟩ ?_;rintro ⟨i,b⟩ ⟨hi,G,O,g,m⟩
   dsimp only at hi G O g m⊢
   refine g6 ?_;refine St.cq (λh31=> ?_) (λh31=> ?_)
   ·obtain⟨x,hx⟩:=aF (show i<b.length by omega)
    have p:=aY hx
    refine St.bh ae b (x:=x) p (g16 ?_);refine St.ee (Ev.Ig (Rr:=bR) (sz:=3) (.mk rfl) hx po trivial jo zE (by decide) (by decide)) ?_;refine St.slot 38 (dA x) rfl rfl (St.ak (Et x (g x p) (m x p)) acL (.aq rfl) rfl ?_);rintro v39 _ ⟨z,rfl,hz,rfl⟩;refine St.bB (go ?_);refine St.Gk (Rr:=bR) (show bR.size=3 from rfl) z (.mk rfl) (.mk rfl) jo zE zE (St.aP d.1 (show _=(b.set i z).length from ep.symm) (show _=rows bR (b.set i z)from rfl) (St.fF (aL ae (b.set i z)) [aL ae b,ae z] (λρ h t ht=>(lV ht).elim (h (aL ae b) (aR ..) t) (λe=>by rw[e];exact h (ae z) (cO _ (aR ..)))) ?_));refine g8 ?_;refine St.aH ⟨i+1,b.set i z⟩ ⟨by dsimp only;rw[ep];omega,by dsimp only;rw[mJ,hz,←G];exact Qm (by rw[bJ,hx];rfl),by dsimp only;rw[ep];exact O,λt ht=>(lV ht).elim (g t) (λh=>by rw[h];exact⟨by rw[(Aa hz).1];exact(g x p).1,by rw[(Aa hz).2];exact(g x p).2⟩),λt ht=>(lV ht).elim (m t) (λh=>by rw[h,hz];exact m x p)⟩
   ·obtain⟨⟨H,hov⟩,MF⟩:∃z,z=d:=⟨d,rfl⟩
    subst MF;refine St.bU H bR b rfl rfl g (g8 ?_);refine St.ee (Ev.build (au.nil) (λw=>fP w)) (g5 ?_);refine St.rV [_,_] [aD (sl bR H b),aD (aL ae b)] ?_;exact⟨⟨H,hov⟩,b,by rw[r];rfl,by rw[r,G,s],rfl⟩
theorem HW (a b:ah)(m:Int):dK prog 74 #[.agg #[a.1,iv m,b.1]] [] (.tuple #[a.1,b.1]):=by
 refine dK.gx (args:=[.agg #[a.1,iv m,b.1]]) 8 func74 rfl ntmps74 rfl (λc=>g2 ?_);refine St.cC (.mk rfl) rfl (λd=>g5 ?_);refine St.jm [] mixed (λe f=>SW.gd 0 ?_);refine SW.gd 1 ?_;refine SW.gd 2 ?_;refine SW.gd 3 ?_;refine SW.gd 4 ?_;refine SW.gd 5 ?_;refine SW.dn (g2 ?_);refine St.rV [_,_] [] ?_;rfl
theorem acV {g:eU}{words:List cM}{its:List cT}(c:(fO (bK g) words).2.1=0)(d:its.map dy=(fO (bK g) words).1.1):∃R X:List Int,qU ⟨its.map dy,R,X⟩∧nh (its.map dy)∧its.length≤300∧(∀i∈(fO (bK g) words).1.2,i<its.length)∧tq (bK g)∧∀e,e<its.length→∀t∈sY its e,XU (bK g) t:=by
 have a:=(J5 c).1
 rw[←d]at a
 have b:(its.map dy).length=its.length:=aO _
 refine⟨_,_,a.bs,a.cD,by rw[←b];exact a.Fa,λi hi=>by rw[←b];exact(a.ful i hi).1,a.gd,λe he t ht=>OW a 60 (by rw[b];exact he) ht⟩
theorem TZ (its:List cT):xT its (List.replicate its.length 0):=⟨mI,λi c a=> .inl (Ao (aY a))⟩
theorem Ma (m:Nat):bV (List.replicate m 0)=List.replicate m 0:=by rw[bV,rM];rfl
theorem acR {R X:List Int}{its:List cT}{C:List Nat}(b:qU ⟨its.map dy,R,X⟩)(hw:nh (its.map dy))(h:xT its C):∀z∈bV C,aJ.wf z:=λz hz=>by
 obtain⟨c,d,rfl⟩:=cS.1 hz;obtain⟨i,hi⟩:=List.mem_iff_getElem?.1 d
 have a:=bO hi
 rw[h.len]at a
 have f:=De b hw a
 have e:du=1099511627776:=rfl
 show aZ (c:Int)
 unfold aZ
 rcases h.ok i c hi with h1|h1<;>omega
theorem TY {its:List cT}{C C3:List Nat}{k:Nat}(a:∀i,i<k→C[i]?=some (pU its i))(hle:tn C C3)(b:C3[k]?=some (pU its k))(c:∀i,i<k→pU its i≠0):∀i,i<k+1→C3[i]?=some (pU its i):=λi hi=>by
 rcases dI i k with h|h
 ·exact hle i _ (a i h) (c i h)
 ·obtain rfl:i=k:=by omega
  exact b
abbrev foV (a:eU)(uv b c:ah):Value:= .agg #[a.tv.1,a.fv.1,a.rv.1,a.xv.1,a.start.nv.1,uv.1,b.1,c.1]
theorem HR (g:eU)(wv:Value)(words:List cM):Be prog 35 #[eF g,wv] ([cj g,sl fK wv words,tz,u8].map aD) (λv H'=>∃(e:eU) (uv s t:ah),v= .tuple #[foV e uv s t,fv (fO (bK g) words).2]∧((fO (bK g) words).2.1=0→∃(rv xv:ah) (its:List cT) (C:List Nat),e=(E2 g rv xv)∧its.map dy=(fO (bK g) words).1.1∧xT its C∧(∀i,i<its.length→C[i]?=some (pU its i))∧H'=[aD (sl eT uv.1 its),aD (aL dp its),aD (sl aJ s.1 (bV (fO (bK g) words).1.2)),aD (sl aJ t.1 (bV C)),aD (cj (E2 g rv xv))])):=by
 refine Be.body (args:=[eF g,wv]) 47 func35 rfl ntmps35 rfl (λc B=>St.cast (H':=[aD (cj g),aD (sl fK wv words),aD (tz),aD (u8)]) rfl (g2 ?_));refine St.cC (.mk rfl) rfl (λP=>St.al (λu=>St.al (λx=>g5 ?_)));refine St.slot 11 (eF g) rfl rfl (go ?_);refine St.pS B (QP g wv words) aj2 (.aX rfl rfl) rfl ?_;rintro D H2 ⟨a,b,m,its,rfl,y,rfl⟩;refine St.kG (g3 ?_);refine St.al (λQ=>St.al (λS=>g12 ?_));refine St.cq (λz=> ?_) (λz=> ?_)
 ·refine go ?_
  refine St.jm [u,x] mixed (λU V=>SW.dd 0 rfl (λ_=>Ev.build (ps:=[]) (au.nil) (λw=>T0 w)) (SW.gd 1 ?_));refine SW.slot 20 (fv (fO (bK g) words).2) rfl rfl (SW.t1 2 ?_);refine g3 ?_;refine SW.go (SW.t1 3 ?_);refine g3 ?_;refine SW.go (SW.dn (g3 ?_));refine St.rV [_,_] [] ?_;exact⟨⟨bx,[],bx,[],bx,[],bx,[],⟨bx,[]⟩⟩,bx,bx,bx,rfl,λh=>absurd h z⟩
 ·have f:(fO (bK g) words).2.1=0:=by omega
  obtain⟨E,o,F⟩:=J5 f;obtain⟨R,X,l,hw,G,H,A,I⟩:=acV f y
  have J:g.rules.length≤40:=by have h:(g.rules.map iE).length≤40:=A.rn;rwa[aO]at h
  have K:g.aG.length≤100:=by have h:(g.aG.map jg).length≤100:=A.xn;rwa[aO]at h
  refine g5 ?_;refine St.slot 21 (eF g) rfl rfl (St.ak (Ed g J K) aj3 (.aq rfl) rfl ?_);rintro v22 _ ⟨rv,xv,rfl,rfl⟩;refine St.bB (St.slot 22 (.agg #[(.slice none 0 0),(.slice none 0 0),rv.1,xv.1,(.slice none 0 0)]) rfl rfl (St.ee (Ev.build (au.aq rfl) (λw=>Nl w)) (St.al (λn=>g6 ?_))));refine St.slot 25 (.agg #[a.1,iv (m:Nat),b.1]) rfl rfl (St.ee (Ev.call (HW a b m) aj4 (.aq rfl)) (g4 ?_));refine St.cP (.mk rfl) (.mk rfl) Ky a.2 (by rfl) ?_;refine go ?_;refine St.cP (.mk rfl) (.mk rfl) fT b.2 (by rfl) ?_;refine g7 ?_;refine St.nC (m:=its.length) (.mk rfl) (.mk rfl) bQ dQ ec yt rfl rfl zE rfl rfl (λd=> ?_);refine St.aP (tO d its.length its.length) (show _=its.length from rfl) (show _=rows aJ (bV (List.replicate its.length 0)) by rw[Ma,fR,rM]) ?_;refine go ?_;refine St.cP (.mk rfl) (.mk rfl) fT (by rfl) (by rfl) ?_;refine St.re n (g6 ?_);refine St.ee (Ev.pb (.mk rfl) pH trivial rfl) (g5 ?_);refine St.lH (ι:=Nat×List Nat) (λ⟨k,C⟩ T=>(39,iv k)::T) (λ⟨k,C⟩=>[row (tO d its.length its.length) 3 1 its.length (rows aJ (bV C)),aD (iG n [(.slice none 0 0),(.slice none 0 0),rv.1,xv.1,(.slice none 0 0),a.1,b.1,tO d its.length its.length]),aD (sl eT a.1 its),aD (aL dp its),aD (sl aJ b.1 (bV (fO (bK g) words).1.2)),aD (cj (E2 g rv xv)),tI u [(.slice none 0 0),(.slice none 0 0),(.slice none 0 0),(.slice none 0 0),(.slice none 0 0),(.slice none 0 0),(.slice none 0 0),(.slice none 0 0)] 109,tI x [iv 0,iv 0] 39]) (λ⟨k,C⟩=>k≤its.length∧xT its C∧∀i,i<k→C[i]?=some (pU its i)) (λ⟨k,C⟩=>its.length-k) ⟨0,List.replicate its.length 0⟩ (aC.k4 4 5 8 38) ⟨aQ _,TZ its,λi hi=>by omega⟩ ?_;rintro ⟨k,C⟩ ⟨hk,j,p⟩
  dsimp only at hk j p⊢
  refine g6 ?_;refine St.cq (λM=> ?_) (λM=> ?_)
  ·refine g12 ?_
   refine St.Hv (ds:=[iG n [(.slice none 0 0),(.slice none 0 0),rv.1,xv.1,(.slice none 0 0),a.1,b.1,tO d its.length its.length],sl eT a.1 its,aL dp its]) (L:=[row (tO d its.length its.length) 3 1 its.length (rows aJ (bV C))]) (FR n (E2 g rv xv) a b ⟨tO d its.length its.length,rfl⟩ its R X l hw G 60 k C zE (l.ht k (by show k<(its.map dy).length;rw[aO];omega)) j) acJ (.aX rfl rfl) rfl ?_;rintro N _ ⟨C3,rfl,q,r,O,rfl⟩;refine St.bB (g8 ?_);refine St.aH ⟨k+1,C3⟩ ⟨by dsimp only;omega,q,TY p r O (λi hi=>by have:=De l hw (show i<its.length by omega);omega)⟩
  ·obtain rfl:k=its.length:=by omega
   refine St.bU (tO d its.length its.length) aJ (bV C) rfl (by rw[dc,j.len]) (acR l hw j) ?_;refine g7 ?_;refine St.ee (Ev.EB (.mk rfl) underlying109 trivial (by exact RB)) ?_;refine St.slot 45 (foV (E2 g rv xv) a b ⟨tO d its.length its.length,rfl⟩) rfl rfl (St.ee (Ev.build (au.nil) (λw=>fP w)) (g5 ?_));refine St.rV [_,_] [aD (sl eT a.1 its),aD (aL dp its),aD (sl aJ b.1 (bV (fO (bK g) words).1.2)),aD (sl aJ (tO d its.length its.length) (bV C)),aD (cj (E2 g rv xv))] ?_;exact⟨(E2 g rv xv),a,b,⟨tO d its.length its.length,rfl⟩,by rw[o];rfl,λ_=>⟨rv,xv,its,C,rfl,y,j,p,rfl⟩⟩
theorem wg (g:eU)(wv:Value)(words:List cM):Be prog 7 #[eF g,wv] ([cj g,sl fK wv words,tz,u8].map aD) (λv H'=>∃(b:ah) (outs:List bM),v= .tuple #[b.1,fv (e9 (bK g) words).2]∧outs.map aN=(e9 (bK g) words).1∧H'=[aD (sl bR b.1 outs),aD (aL ae outs)]):=by
 refine Be.body (args:=[eF g,wv]) 22 func7 rfl ntmps7 rfl (λc p=>St.cast (H':=[aD (cj g),aD (sl fK wv words),aD (tz),aD (u8)]) rfl (g2 ?_));refine St.cC (.mk rfl) rfl (λE=>go ?_);refine St.al (λq=>g5 ?_);refine St.slot 9 (eF g) rfl rfl (go ?_);refine St.pS p (HR g wv words) ajV (.aX rfl rfl) rfl ?_;rintro v11 H2 ⟨r,uv,k,l,rfl,s⟩;refine St.perm kf (St.NZ (g3 ?_));refine St.al (λF=>St.al (λG=>g12 ?_));refine St.cq (λm=> ?_) (λm=> ?_)
 ·have d:(e9 (bK g) words)=([],(fO (bK g) words).2):=by unfold e9;rw[aB (show(fO (bK g) words).2.1≠0 from m)]
  refine go ?_;refine St.ef (tI q [iv 0,iv 0] 39::H2) mixed (λH I=>SW.gd 0 ?_);refine SW.slot 17 (fv (fO (bK g) words).2) rfl rfl (SW.gd 1 ?_);refine SW.t1 2 ?_;refine g3 ?_;refine SW.go (SW.dn (g3 ?_));refine St.gi bR (St.dN ae (St.rV [_,_] [aD (sl bR (.slice none 0 0) []),aD (aL ae [])] ?_));exact⟨bx,[],by rw[d];rfl,by rw[d];rfl,rfl⟩
 ·have f:(fO (bK g) words).2.1=0:=by omega
  obtain⟨rv,xv,its,C,rfl,n,u,w,rfl⟩:=s f;obtain⟨R,X,x,hw,y,i,o,j⟩:=acV f n
  have a:=ac0 g rv xv
  have z:SI (bK (E2 g rv xv)):=by rw[a];exact Zq o
  have A:∀e,e<its.length→∀t∈sY its e,CmT (bK (E2 g rv xv)) t:=λe he t ht=>by
   have h:=j e he t ht
   exact⟨by rw[a,RR];exact h.tr,dH h.nn (by decide),Qz (dH o.xn (by decide)) t h.tr h.ar,h.thin⟩
  have d:(e9 (bK g) words)=Gu (bK (E2 g rv xv)) its (fO (bK g) words).1.2:=by
   unfold e9 Gu;rw[aA (show ¬(fO (bK g) words).2.1≠0 by omega),a]
   show(if 200<(Lb (fO (bK g) words).1.1 (fO (bK g) words).1.2).length then _ else _)=_
   rw[←n];rfl
  refine g5 ?_;refine St.slot 18 (foV (E2 g rv xv) uv k l) rfl rfl (St.ak (Eu (E2 g rv xv) uv k l its (fO (bK g) words).1.2 C R X x hw y u w i z A) ajW (.aq rfl) rfl ?_);rintro B _ ⟨b,outs,rfl,D,rfl⟩;refine St.dD (g7 ?_);refine St.rV [_,_] [aD (sl bR b.1 outs),aD (aL ae outs)] ?_;exact⟨b,outs,by rw[d];rfl,by rw[d];exact D,rfl⟩
end Go.Proofs.YtiefglecbgdaiaaGreatDoor
