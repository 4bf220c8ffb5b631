/-
  Laws of walks through programs, and facts on grammars, trees and queries.
  Conditions: none.
-/
import Derived.Test.YtiefglecbgdaiaaGreatDoorGF5
set_option maxHeartbeats 1000000
set_option maxRecDepth 20000
set_option linter.unusedVariables false
set_option linter.unusedSimpArgs false
namespace Go.Proofs.YtiefglecbgdaiaaGreatDoor
open Go Go.J Tryz
def VR:dy:=⟨0,cF,[]⟩
theorem RP {N:List dy}{k:Nat}{x:dy}(h:N[k]?=some x)(t:Int):(rows cD N).set (k*2+0) (iv t)=rows cD (N.set k ⟨t,x.lv,x.aW⟩):=by
 induction N generalizing k with
 |nil=>cases h
 |cons a N b=>
  cases k with
  |zero=>obtain rfl:=Option.some.inj h;rfl
  |succ k=>
   have:=b (k:=k) h
   show(cD.cells a++rows cD N).set ((k+1)*2+0) (iv t)=cD.cells a++rows cD (N.set k _)
   rw[←this,mV _ _ (by show 2≤_;omega)]
   congr 2
   show(k+1)*2+0-2=_
   omega
theorem RO {N:List dy}{k:Nat}{x:dy}(h:N[k]?=some x)(v:aY)(L:List dq):(rows cD N).set (k*2+1) v.1=rows cD (N.set k ⟨x.type,v,L⟩):=by
 induction N generalizing k with
 |nil=>cases h
 |cons a N b=>
  cases k with
  |zero=>obtain rfl:=Option.some.inj h;rfl
  |succ k=>
   have:=b (k:=k) h
   show(cD.cells a++rows cD N).set ((k+1)*2+1) v.1=cD.cells a++rows cD (N.set k _)
   rw[←this,mV _ _ (by show 2≤_;omega)]
   congr 2
   show(k+1)*2+1-2=_
   omega
def Qy (g:de)(o:List Nat)(i:Nat):Nw:=((g.getD i gu).1,(g.getD i gu).2.map λx=>(x.1,(o.idxOf x.2.toNat:Int)))
theorem Pc (g:de)(r:Nat):gY g r=(xQ g r).map (Qy g (xQ g r)):=rfl
theorem uz (g:ct)(M:tL (ao g))(hn:g.nodes.length≤120)(hL:∀t∈g.nodes,t.aW.length≤1000000)(r:Nat)(hr:r<g.nodes.length):dR prog 203 #[au g,iv r] ([aJ g].map aD) (λv H'=>H'=[aD (cY (gY (ao g) r) v)]):=by
 refine dR.body (args:=[au g,iv r]) 88 func203 rfl ntmps203 rfl (λc=> ?_);refine St.cast (H':=[aD (aJ g)]) rfl ?_;refine go ?_
 refine St.gG (aJ g) (λ_:Unit=>jV g) (λρ h=>⟨(),h⟩) λ_=> ?_
 refine St.cast (H':=[aD (sl cD g.nv.1 g.nodes),aD (aL cE g.nodes),aD (aJ g)]) rfl ?_
 have hgl:=cj g
 refine go ?_;refine St.cW (.mk rfl) rfl (λH=> ?_);refine St.al (λO=> ?_);refine g7 ?_;refine St.kr (m:=g.nodes.length) (.mk rfl) (.mk rfl) cP eL jF vD rfl rfl zE rfl rfl (λb=> ?_);refine St.aN (tO b g.nodes.length g.nodes.length) rfl (ze _) ?_;refine St.al (λI=> ?_);refine St.bL (.mk rfl) (.mk rfl) jm rfl (by rfl) ?_;refine g11 ?_;refine St.pb (ι:=Nat) (κ:=List Int) (λk U T=>(20,iv k)::T) (λk U=>[row (tO b g.nodes.length g.nodes.length) 3 1 g.nodes.length (rows aI (U)),tI I [(tO b g.nodes.length g.nodes.length)] 35,tI H [g.nv.1] 30,tI O [(.slice none 0 0)] 30,aD (sl cD g.nv.1 g.nodes),aD (aL cE g.nodes),aD (aJ g)]) (λk U=>k≤g.nodes.length∧U.length=g.nodes.length∧∀i,i<k→U[i]?=some (-1)) (λk U=>g.nodes.length-k) 0 (List.replicate g.nodes.length 0) (aC.k5 1 2 4 5 19) ⟨aP _,by simp,λi y=>by omega⟩ ?_;rintro k U ⟨hk,P,hU⟩;refine g6 ?_;refine St.cq (λh21=> ?_) (λh21=> ?_)
 ·refine g14 ?_
  refine St.bz (.mk rfl) (.mk rfl) eL rfl zE (by decide) ?_;refine St.aN (tO b g.nodes.length g.nodes.length) rfl (jJ _ _ _) ?_;refine g8 ?_;refine St.py (k+1) (U.set k (-1)) ⟨by omega,by rw[eC];exact P,λi y=>by by_cases e:i=k;(rw[e,fp zE]);(rw[gV (λh=>e h.symm)];exact hU i zE)⟩
 ·obtain rfl:k=g.nodes.length:=by omega
  have Q:U=qA g.nodes.length []:=by rw[Qk];refine jh λj=> ?_;rw[sM];rcases cJ j g.nodes.length with d|d;(rw[hU j d,aB d]);(rw[fT zE,aA zE])
  subst Q;refine g7 ?_;refine St.al (λR=> ?_);refine g4 ?_;refine St.al (λb8=> ?_);refine g4 ?_;refine St.ee (Ev.func (.pL rfl rfl rfl rfl)) ?_;refine St.bL (.mk rfl) (.mk rfl) Xe rfl (by rfl) ?_;refine g3 ?_;refine St.dH 3 1 ?_;refine St.aN (.slice none 0 0) (show _=([]:List Nat).length from rfl) (show _=rows aI (cQ [])from rfl) ?_;refine St.dup (sl cD g.nv.1 g.nodes) ?_;refine St.dup (aL cE g.nodes) ?_;refine g3 ?_;refine St.fg (K7 I R H b8 (tO b g.nodes.length g.nodes.length) g M hn hgl ((ao g).length+1) [] r (.slice none 0 0) rfl ⟨List.nodup_nil,λj d=>by cases d⟩ hr (by rw[Ly];omega)) Wz (.mk rfl) (.ay rfl) rfl ?_;rintro v30 _ ⟨J,hov,rfl⟩;refine St.YD ?_
  obtain⟨o,Yz⟩:∃o,o=ka (ao g) ((ao g).length+1) [] r:=⟨_,rfl⟩
  rw[←Yz]
  have B:xQ (ao g) r=o:=Yz.symm
  obtain⟨C,D,_⟩:=Qw M (r:=r) zE;rw[B]at C D
  have hol:=kH C.nd (n:=g.nodes.length) (λj d=>by have:=C.lt j d;omega)
  refine g6 ?_;refine St.xq (Rr:=cD) (g:=VR) (m:=o.length) (sz:=2) rfl (.mk rfl) (.mk rfl) qC jb T0 WX rfl rfl zE rfl rfl (λa=> ?_);refine St.ee (Ev.build (bC.ay rfl) (λw=>Tn rfl w)) ?_;refine St.al (λb9=> ?_);refine g12 ?_;refine St.fact (aL cE (List.replicate o.length VR)) (λρ _ _ x hx=>by rw[List.eq_of_mem_replicate hx];exact j1 _ _) ?_;refine St.pb (ι:=Nat) (κ:=List dy) (λk N T=>(37,iv k)::T) (λk N=>[row (tO a o.length o.length) 166 2 o.length (rows cD (N)),tI b9 [(tO a o.length o.length)] 30,tI R [J] 35,row J 3 1 o.length (rows aI (cQ o)),tI H [g.nv.1] 30,tI O [(.slice none 0 0)] 30,tI I [(tO b g.nodes.length g.nodes.length)] 35,row (tO b g.nodes.length g.nodes.length) 3 1 g.nodes.length (rows aI (qA g.nodes.length o)),aD (aL cE N),aD (sl cD g.nv.1 g.nodes),aD (aL cE g.nodes),aD (aJ g)]) (λk N=>k≤o.length∧N.length=o.length∧(N.take k).map lR=(o.take k).map (Qy (ao g) o)∧(∀j,k≤j→j<o.length→N[j]?=some VR)∧∀x∈N,cD.wf x) (λk N=>o.length-k) 0 (List.replicate o.length VR) (aC.k6 2 4 5 9 35 36) ⟨aP _,by simp,rfl,λj _ d=>by rw[List.getElem?_replicate,if_pos d],λx hx=>by rw[List.eq_of_mem_replicate hx];exact⟨by decide,by decide⟩⟩ ?_;rintro k N ⟨hk,E,f,F,G⟩;refine g6 ?_;refine St.cq (λh38=> ?_) (λh38=> ?_)
  ·obtain⟨i,y⟩:=aF (show k<o.length by omega)
   have Uw:=C.lt i (aa y)
   obtain⟨t,ht⟩:=aF (show i<g.nodes.length by omega)
   have S:=aa ht
   have V:(ao g).getD i gu=lR t:=by rw[aZ,kD ht];rfl
   have W:=F k (aQ _) zE
   have hcl:=D i (aa y)
   rw[V]at hcl
   have htL:=hL t S
   refine St.wf g.nv.1 (λX _=> ?_)
   have htw:bR t.type:=X t S
   refine St.cN cE g.nodes (x:=t) S ?_;refine St.gW (sl an t.lv.1 t.aW) [cE t] (λρ h=>h _ (aV ..)) ?_;refine St.wf t.lv.1 (λXB TE=> ?_);refine g8 ?_;refine St.ee (Ev.cx (.mk rfl) eK trivial zE (fm (show(cQ o)[k]?=some (i:Int) by rw[aw,y];rfl))) ?_;refine g5 ?_;refine St.dZ [row (tO a o.length o.length) 166 2 o.length (rows cD (N))] mixed (λnp ns=> ?_);refine SW.gd 0 ?_;refine SW.gd 1 ?_;refine SW.gd 2 ?_;refine SW.gd 3 ?_;refine SW.gd 4 ?_;refine SW.gd 5 ?_;refine SW.gd 6 ?_;refine SW.gd 7 ?_;refine SW.gd 8 ?_;refine SW.dd 9 rfl (λ_=>Ev.kF (k:=k) rfl (.mk rfl) (.mk rfl) qC jb zE zE) ?_;refine SW.dd 10 rfl (λ_=>Ev.pA rfl (.mk rfl) te) ?_;refine SW.t1 11 ?_;refine St.bz (.mk rfl) (.mk rfl) eL rfl zE (by decide) ?_;refine g2 ?_;refine SW.go ?_;refine SW.dn ?_;refine g2 ?_;refine St.aN (tO a o.length o.length) rfl (show _=rows cD (N.set k ⟨t.type,cF,[]⟩)from RP W _) ?_;refine g12 ?_;refine St.dH 168 2 ?_;refine St.aN (.slice none 0 0) (show _=([]:List dq).length from rfl) (show _=rows an []from rfl) ?_;refine St.pb (ι:=Nat) (κ:=aY×List dq) (λq z T=>(60,iv q)::T) (λq z=>[row (tO a o.length o.length) 166 2 o.length (rows cD (N.set k ⟨t.type,z.1,z.2⟩)),row z.1.1 168 2 (z.2).length (rows an (z.2)),tI b9 [(tO a o.length o.length)] 30,tI R [J] 35,row J 3 1 o.length (rows aI (cQ o)),tI H [g.nv.1] 30,tI O [(.slice none 0 0)] 30,tI I [(tO b g.nodes.length g.nodes.length)] 35,row (tO b g.nodes.length g.nodes.length) 3 1 g.nodes.length (rows aI (qA g.nodes.length o)),aD (sl an t.lv.1 t.aW),aD (aL cE N),aD (sl cD g.nv.1 g.nodes),aD (aL cE g.nodes),aD (aJ g)]) (λq z=>q≤t.aW.length∧z.2.length=q∧z.2.map fB=(t.aW.take q).map (λp=>(p.cu,(o.idxOf p.tqo.toNat:Int)))∧∀x∈z.2,an.wf x) (λq z=>t.aW.length-q) 0 (cF,[]) (aC.k10 2 4 5 9 10 35 36 37 58 59) ⟨aP _,rfl,rfl,λx hx=>by cases hx⟩ ?_;rintro q ⟨lv,L⟩ ⟨hq,hLl,K,l⟩
   dsimp only at hLl K l⊢
   have s:(N.set k ⟨t.type,lv,L⟩)[k]?=some ⟨t.type,lv,L⟩:=fp zE
   refine g6 ?_;refine St.cq (λY=> ?_) (λY=> ?_)
   ·obtain⟨p,hp⟩:=aF (show q<t.aW.length by omega)
    have u:p.tqo.toNat∈o:=hcl (fB p) (di (aa hp))
    have hpi:=List.idxOf_lt_length_iff.2 u
    have hpn:=C.lt _ u
    have hp0:0≤p.tqo:=by have h0:=M.at_ (i:=i) (x:=fB p) (by rw[V];exact di (aa hp));exact h0.2.1
    refine g7 ?_;refine St.ee (Ev.j2 (.mk rfl) hp kY trivial da gX.eq) ?_;refine St.al (λYG=> ?_);refine g3 ?_;refine St.dZ [row (tO a o.length o.length) 166 2 o.length (rows cD (N.set k ⟨t.type,lv,L⟩)),row lv.1 168 2 (L).length (rows an (L))] mixed (λnp ns=> ?_);refine SW.gd 0 ?_;refine SW.gd 1 ?_;refine SW.gd 2 ?_;refine SW.gd 3 ?_;refine SW.gd 4 ?_;refine SW.gd 5 ?_;refine SW.dd 6 rfl (λ_=>Ev.kF (k:=k) rfl (.mk rfl) (.mk rfl) qC jb zE zE) ?_;refine SW.dd 7 rfl (λ_=>Ev.pA rfl (.mk rfl) th) ?_;refine SW.gd 9 ?_;refine SW.gd 10 ?_;refine SW.gd 11 ?_;refine SW.gd 12 ?_;refine SW.gd 13 ?_;refine SW.dd 14 rfl (λ_=>Ev.cw (k:=p.tqo.toNat) (.mk rfl) (.mk rfl) cP eL zE zE) ?_;refine SW.dd 15 rfl (λ_=>Ev.cx (.mk rfl) eK trivial zE (fm (xu zE))) ?_;refine SW.slot 79 (iv ((o.idxOf p.tqo.toNat:Nat):Int)) rfl (by rw[aB u]) ?_;refine SW.dd 16 rfl (λ_=>Ev.build (ps:=[(0,(.tmp 74)),(1,(.tmp 79))]) (bC.ah rfl rfl) (λw=>sS rfl rfl w)) ?_;refine SW.slot 80 (.agg #[iv p.cu,iv ((o.idxOf p.tqo.toNat:Nat):Int)]) rfl rfl ?_;refine SW.t2 8 17 ?_ ?_
    focus
     refine St.ee (Ev.cx (.mk rfl) eT trivial zE (eP cD _ k 1 _ s (by decide))) ?_;refine g2 ?_;refine SW.go ?_;refine SW.t1 17 ?_;refine St.hS rfl (.ay rfl) eT da mW rfl rfl (by simp[Value.cells]) rfl rfl (λZ=> ?_);refine g2 ?_;refine SW.go ?_;refine SW.t1 18 ?_;refine St.aq (.mk rfl) (.mk rfl) eT da mW tV (by simp[Value.oneCell',Value.cells]) zE zE rfl rfl rfl rfl (λv82 aeK=> ?_);refine St.aN v82 (show _=(L++ [(⟨p.cu,o.idxOf p.tqo.toNat⟩:dq)]).length from cH) (show _=rows an (L++ [(⟨p.cu,o.idxOf p.tqo.toNat⟩:dq)]) by rw[bB];rfl) ?_;refine St.bQ v82 (λA _=> ?_);refine g2 ?_;refine SW.go ?_;refine SW.dd 19 rfl (λ_=>Ev.kF (k:=k) rfl (.mk rfl) (.mk rfl) qC jb zE zE) ?_;refine SW.dd 20 rfl (λ_=>Ev.pA rfl (.mk rfl) th) ?_;refine SW.t1 21 ?_;refine St.bz (.mk rfl) (.mk rfl) sI A zE (by decide) ?_;refine g2 ?_;refine SW.go ?_;refine SW.dn ?_
    rotate_left
    focus
     refine St.hS rfl (.ay rfl) eT da mW rfl rfl (by simp[Value.cells]) rfl rfl (λZ=> ?_);refine g2 ?_;refine SW.go ?_;refine SW.t1 8 ?_;refine St.ee (Ev.cx (.mk rfl) eT trivial zE (eP cD _ k 1 _ s (by decide))) ?_;refine g2 ?_;refine SW.go ?_;refine SW.t1 18 ?_;refine St.aq (.mk rfl) (.mk rfl) eT da mW tV (by simp[Value.oneCell',Value.cells]) zE zE rfl rfl rfl rfl (λv82 aeK=> ?_);refine St.aN v82 (show _=(L++ [(⟨p.cu,o.idxOf p.tqo.toNat⟩:dq)]).length from cH) (show _=rows an (L++ [(⟨p.cu,o.idxOf p.tqo.toNat⟩:dq)]) by rw[bB];rfl) ?_;refine St.bQ v82 (λA _=> ?_);refine g2 ?_;refine SW.go ?_;refine SW.dd 19 rfl (λ_=>Ev.kF (k:=k) rfl (.mk rfl) (.mk rfl) qC jb zE zE) ?_;refine SW.dd 20 rfl (λ_=>Ev.pA rfl (.mk rfl) th) ?_;refine SW.t1 21 ?_;refine St.bz (.mk rfl) (.mk rfl) sI A zE (by decide) ?_;refine g2 ?_;refine SW.go ?_;refine SW.dn ?_
    all_goals
     refine g2 ?_;refine St.aN (tO a o.length o.length) rfl (show _=rows cD (N.set k ⟨t.type,⟨v82,A⟩,L++ [⟨p.cu,o.idxOf p.tqo.toNat⟩]⟩)from(RO s ⟨v82,A⟩ (L++ [⟨p.cu,o.idxOf p.tqo.toNat⟩])).trans (congrArg (rows cD) (List.set_set ..))) ?_;refine g5 ?_;refine St.py (q+1) (⟨v82,A⟩,L++ [⟨p.cu,o.idxOf p.tqo.toNat⟩]) ⟨by omega,by dsimp only;rw[bJ,hLl];rfl,by dsimp only;rw[cL,K,aO hp,cL];rfl,λx hx=>by rcases cI.1 hx with hx|hx;exact l x hx;rw[bN.1 hx];exact⟨(XB p (aa hp)).1,by show bR ((o.idxOf p.tqo.toNat:Nat):Int);unfold bR;omega⟩⟩
   ·obtain rfl:q=t.aW.length:=by omega
    rw[dV (aQ _)]at K;refine St.bI lv.1 an L rfl rfl l ?_;refine St.gW (aL cE (N.set k ⟨t.type,lv,L⟩)) [aL cE N,sl an lv.1 L] (λρ h x hx=>by rcases nP hx with hx|rfl;exact h _ (aV ..) x hx;exact h _ (bV _ (aV ..))) ?_
    have aiD:((N.set k ⟨t.type,lv,L⟩).take (k+1)).map lR=(o.take (k+1)).map (Qy (ao g) o):=by rw[aO (fp zE),aO y,List.take_set_of_le (aQ _),cL,cL,f];congr 1;show [(t.type,L.map fB)]=[Qy (ao g) o i];rw[K,Qy,V];show _=[(t.type,(t.aW.map fB).map _)];rw[iX];rfl
    refine g11 ?_;refine St.py (k+1) (N.set k ⟨t.type,lv,L⟩) ⟨by omega,by rw[eC];exact E,aiD,λj h1 h2=>by rw[gV zE];exact F j zE h2,λx hx=>by rcases nP hx with hx|rfl;exact G x hx;exact htw⟩
  ·obtain rfl:k=o.length:=by omega
   have Uu:N.map lR=gY (ao g) r:=by rw[Pc,B];rw[dV zE,dV zE]at f;exact f
   refine St.bI (tO a o.length o.length) cD N rfl E.symm G ?_;refine St.gW (aJ ⟨⟨(tO a o.length o.length),rfl⟩,N⟩) [sl cD (tO a o.length o.length) N,aL cE N] (λρ h=>h) ?_;refine St.gW (cY (gY (ao g) r) (.agg #[(tO a o.length o.length)])) [aJ ⟨⟨(tO a o.length o.length),rfl⟩,N⟩] (λρ h=>⟨⟨⟨(tO a o.length o.length),rfl⟩,N⟩,rfl,Uu,h _ (aV ..)⟩) ?_;refine g12 ?_;refine St.rV [_] [aD (cY (gY (ao g) r) (.agg #[(tO a o.length o.length)]))] ?_;exact rfl
theorem VP {T:List eM}{a b:Nat}(h:both T a b=0):ga T a b=none:=by
 unfold ga
 cases e:comm T a b with
 |nil=>rfl
 |cons m r=>
  have:m∈comm T a b:=by rw[e];exact aV ..
  rw[kU,h,Nat.zero_testBit]at this;cases this
theorem ae3 {T:List eM}{a b m:Nat}(h:(both T a b).testBit m=true)(g:∀i,i<m→(both T a b).testBit i=false):ga T a b=if je T a b=true then none else some m:=by
 have hm:=kU.2 h
 unfold ga
 cases e:comm T a b with
 |nil=>rw[e]at hm;cases hm
 |cons c r=>
  have hp:(comm T a b).Pairwise (· < ·):=by unfold comm;exact List.Pairwise.filter _ List.pairwise_lt_range
  rw[e]at hp
  have j:c∈comm T a b:=by rw[e];exact aV ..
  have e2:c=m:=by
   rw[e]at hm
   rcases bT.1 hm with d|d
   ·exact d.symm
   ·have k:=(fw.1 hp).1 m d
    have f:=g c k
    rw[kU.1 j]at f;cases f
  subst e2;rfl
theorem GB (T:List eM):xG T.length (ga T):=λa b m h=>by
 unfold ga at h
 split at h
 ·cases h
 ·rename_i c r e
  split at h
  ·cases h
  ·obtain rfl:=Option.some.inj h
   have:c∈comm T a b:=by rw[e];exact aV ..
   unfold comm at this;exact cU.1 (po.1 this).1
def mtV (o:Option Nat)(wr:Bool):Value:= .tuple #[iv ((o.getD 0:Nat):Int),.bool o.isSome,.bool wr]
theorem yD (f g:aY)(T:List eM)(m:iJ T)(a b:Nat)(o:a<T.length)(p:b<T.length):dR prog 107 #[jc f g,iv a,iv b] ([sl ax f.1 (dN T),sl ax g.1 (dM T),tz].map aD) (λv H'=>v=mtV (ga T a b) (je T a b)∧H'=[]):=by
 refine dR.body (args:=[jc f g,iv a,iv b]) 33 func107 rfl ntmps107 rfl (λc=> ?_);refine St.cast (H':=[aD (sl ax f.1 (dN T)),aD (sl ax g.1 (dM T)),aD (tz)]) rfl ?_;refine go ?_
 have l:=m.len
 have q:=FJ T
 refine go ?_;refine St.cW (.mk rfl) rfl (λu=> ?_);refine g6 ?_;refine St.rq mixed (by kernel_rfl) (Mm.drawn _ _) ?_;refine g4 ?_;refine Sq.ee (Ev.ld1 (.mk rfl) (oG o) jw trivial rfl) ?_;refine g4 ?_;refine Sq.ee (Ev.ld1 (.mk rfl) (oG p) jw trivial rfl) ?_;refine Sq.ee (Ev.aa8 (.mk rfl) (.mk rfl) ⟨mw _ _ l,mw _ _ l⟩) ?_;refine g5 ?_;refine St.slot 9 (uv (both T a b)) rfl rfl ?_
 have e:both T a b<18446744073709551616:=sy Nat.and_le_left (mw _ _ l)
 refine g5 ?_;refine St.cq (λr=> ?_) (λr=> ?_)
 ·have h:both T a b=0:=by omega
  refine g9 ?_;refine St.rV [_,_,_] [] ?_;exact⟨by rw[AF h,VP h];rfl,rfl⟩
 ·have h:both T a b≠0:=by omega
  obtain⟨i,n⟩:=FD h e
  have s:Lib.ctz 64 (both T a b)<T.length:=by rw[oB,pV,eJ]at i;exact i.1
  have d:=HT m i n
  have j:=ae3 i n
  refine g5 ?_;refine St.ee (Ev.call (Lw (both T a b) e) Wm (.ay rfl)) ?_;refine g9 ?_;refine St.ee (Ev.cM (k:=(Lib.ctz 64 (both T a b))) (.mk rfl) (.mk rfl) oZ kW zE zE) ?_;refine St.ee (Ev.ld1 (.mk rfl) (oG s) jw trivial rfl) ?_;refine g4 ?_;refine St.cq (λt=> ?_) (λt=> ?_)
  ·rw[dI zE]at d
   rw[aB d]at j;refine g9 ?_;refine St.rV [_,_,_] [] ?_;exact⟨by rw[d,j];rfl,rfl⟩
  ·rw[e9 zE]at d
   rw[aA (by rw[d];decide)]at j;refine g11 ?_;refine St.rV [_,_,_] [] ?_;exact⟨by rw[d,j];rfl,rfl⟩
theorem find_spec (e:Nat)(g h:aY)(pv tv lv:Value)(rk:Nat→Nat)(B:Nat)(R:List Nat)(I:R.length≤1000000)(P0:List Nat)(y:Tc rk B P0 R)(i0:Nat)(j:i0<R.length):dR prog 210 #[tW e,iv i0] [tI e [g.1,h.1,pv,tv,lv] 288,row pv 3 1 R.length (rows aI (cQ (P0)))] (λv H'=>∃u,v=iv ((R.getD i0 0:Nat):Int)∧Tc rk B u R∧H'=[tI e [g.1,h.1,pv,tv,lv] 288,row pv 3 1 R.length (rows aI (cQ (u)))]):=by
 refine dR.body (args:=[tW e,iv i0]) 41 func210 rfl ntmps210 rfl (λc=> ?_);refine g7 ?_;refine St.pb (ι:=Nat) (κ:=List Nat) (λi Q T=>(1,iv i)::T) (λi Q=>[tI e [g.1,h.1,pv,tv,lv] 288,row pv 3 1 R.length (rows aI (cQ (Q)))]) (λi Q=>i<R.length∧Tc rk B Q R∧R.getD i 0=R.getD i0 0) (λi Q=>B-rk i) i0 P0 (aC.k2 0 4) ⟨j,y,rfl⟩ ?_;rintro i Q ⟨l,f,A⟩
 have C:=f.len
 obtain⟨a,m⟩:=aF (show i<Q.length by omega)
 have d:Q.getD i 0=a:=by rw[aZ,m];rfl
 have D:=f.lt i l
 rw[d]at D;refine St.j6 pv zE (λbs cs n=> ?_);refine g9 ?_;refine St.ee (Ev.cx (.mk rfl) eK trivial zE (fm (show(cQ Q)[i]?=some (a:Int) by rw[aw,m];rfl))) ?_;refine g4 ?_;refine St.cq (λo=> ?_) (λo=> ?_)
 ·have E:Q.getD i 0≠i:=by rw[d];omega
  obtain⟨b,w⟩:=aF (show a<Q.length by omega)
  have p:Q.getD a 0=b:=by rw[aZ,w];rfl
  obtain⟨x,F,q,r⟩:=f.adN l E;rw[d,p]at x F q r;refine g4 ?_;refine St.dZ [row pv 3 1 R.length (rows aI (cQ (Q)))] mixed (λJ K=> ?_);refine SW.gd 0 ?_;refine SW.gd 1 ?_;refine SW.gd 2 ?_;refine SW.gd 3 ?_;refine SW.gd 4 ?_;refine SW.gd 5 ?_;refine SW.gd 6 ?_;refine SW.gd 7 ?_;refine SW.gd 8 ?_;refine SW.gd 9 ?_;refine SW.gd 10 ?_;refine SW.gd 11 ?_;refine SW.gd 12 ?_;refine SW.gd 13 ?_;refine SW.dd 14 rfl (λ_=>Ev.kF (k:=i) n (.mk rfl) (.mk rfl) cP eL zE zE) ?_;refine SW.t1 15 ?_;refine St.ee (Ev.cx (.mk rfl) eK trivial zE (fm (show(cQ Q)[i]?=some (a:Int) by rw[aw,m];rfl))) ?_;refine g2 ?_;refine SW.go ?_;refine SW.dd 16 rfl (λ_=>Ev.kF (k:=a) n (.mk rfl) (.mk rfl) cP eL zE zE) ?_;refine SW.t1 17 ?_;refine St.ee (Ev.cx (.mk rfl) eK trivial zE (fm (show(cQ Q)[a]?=some (b:Int) by rw[aw,w];rfl))) ?_;refine g2 ?_;refine SW.go ?_;refine SW.dd 18 rfl (λ_=>Ev.kF (k:=i) n (.mk rfl) (.mk rfl) cP eL zE zE) ?_;refine SW.t1 19 ?_;refine St.bz (.mk rfl) (.mk rfl) eL rfl zE (by decide) ?_;refine g2 ?_;refine SW.go ?_;refine SW.dn ?_;refine go ?_;refine St.aN pv rfl (show _=rows aI (cQ (Q.set i b)) by rw[jJ,cQ,cQ,k9]) ?_
  have s:(Q.set i b)[i]?=some b:=fp zE
  refine g7 ?_;refine St.ee (Ev.cx (.mk rfl) eK trivial zE (fm (show(cQ (Q.set i b))[i]?=some (b:Int) by rw[aw,s];rfl))) ?_;refine g4 ?_;refine St.lC b (Q.set i b) ⟨by omega,x,by omega⟩ (by have:=f.le b zE;omega) (by repeat(first|exact Sub.nil|refine Sub.cons (by first|rfl|exact congrArg (λz=>some (iv z)) (by first|omega|(dsimp only;omega))|exact congrArg (λz=>some (Value.bool z)) (by first|assumption|exact ke (by assumption))) ?_)) (λ_ hw=>hw.sub)
 ·have t:Q.getD i 0=i:=by rw[d];omega
  have G:=(f.me i l).1 t
  have H:R.getD i0 0=i:=by omega
  refine g12 ?_;refine St.rV [_] [tI e [g.1,h.1,pv,tv,lv] 288,row pv 3 1 R.length (rows aI (cQ (Q)))] ?_;exact⟨Q,by rw[H];rfl,f,rfl⟩
abbrev Cl:=aY×List dq
def q9 (q:Cl):dQ:=sl an q.1.1 q.2
def zK (q:Cl):kM:=q.2.map fB
def shf (n:Nat)(p:dq):dq:=⟨p.cu,(n:Int)+p.tqo⟩
theorem Bu (p:dq):∀(l:List dq) (k:Nat),((rows an l).set (k*2) (iv p.cu)).set (k*2+1) (iv p.tqo)=rows an (l.set k p)
 | [],k=>by simp[rows]
 |a::l,0=>rfl
 |a::l,k+1=>by
  have:=Bu p l k
  show((an.cells a++rows an l).set ((k+1)*2) _).set ((k+1)*2+1) _=an.cells a++rows an (l.set k p)
  rw[←this,show(k+1)*2=2+k*2 by omega,mV _ _ (by show 2≤_;omega),mV _ _ (by show 2≤_;omega)]
  congr 2
  ·congr 1;show 2+k*2-2=_;omega
  ·show 2+k*2+1-2=_;omega
theorem GY (n:Nat):rows aI (cQ (List.range n))++ [iv (n:Nat)]=rows aI (cQ (List.range (n+1))):=by
 rw[mU];exact vd (Int.natCast_nonneg n)
theorem uK (l:Nat)(u y:aY)(g:ct)(X:tL (ao g))(hn:g.nodes.length≤120)(Y:∀t∈g.nodes,t.aW.length≤1000000)(n0:Nat)(Z:n0≤120)(a:List Int)(ht0:a.length=n0)(f:List Cl)(Yu:f.length=n0)(d b e:Value)(ho:d.oneCell'=true∧b.oneCell'=true∧e.oneCell'=true):dR prog 176 #[tW l,au g] [tI l [u.1,y.1,d,b,e] 288,row d 3 1 (List.range n0).length (rows aI (cQ (List.range n0))),row b 3 1 (a).length (rows aI (a)),row e 164 1 (f).length (rows bU ((f).map Prod.fst)),aD (aL q9 (f)),aD (aJ g)] (λv H'=>∃(pv tv lv:Value) (ls:List Cl),v=iv (n0:Nat)∧(pv.oneCell'=true∧tv.oneCell'=true∧lv.oneCell'=true)∧ls.map zK=f.map zK++(ao g).map (λn=>n.2.map λx=>(x.1,(n0:Int)+x.2))∧H'=[tI l [u.1,y.1,pv,tv,lv] 288,row pv 3 1 (List.range (n0+g.nodes.length)).length (rows aI (cQ (List.range (n0+g.nodes.length)))),row tv 3 1 (a++g.nodes.map dy.type).length (rows aI (a++g.nodes.map dy.type)),row lv 164 1 (ls).length (rows bU ((ls).map Prod.fst)),aD (aL q9 (ls))]):=by
 refine dR.body (args:=[tW l,au g]) 82 func176 rfl ntmps176 rfl (λc=> ?_);refine go ?_
 refine St.gG (aJ g) (λ_:Unit=>jV g) (λρ h=>⟨(),h⟩) λ_=> ?_
 refine St.cast (H':=[aD (sl cD g.nv.1 g.nodes),aD (aL cE g.nodes),tI l [u.1,y.1,d,b,e] 288,row d 3 1 (List.range n0).length (rows aI (cQ (List.range n0))),row b 3 1 (a).length (rows aI (a)),row e 164 1 (f).length (rows bU ((f).map Prod.fst)),aD (aL q9 (f)),aD (aJ g)]) rfl ?_
 have hgl:=cj g
 obtain⟨E,F,G⟩:=ho;refine go ?_;refine St.cW (.mk rfl) rfl (λN=> ?_);refine g10 ?_;refine St.slot 15 (iv (n0:Nat)) rfl (congrArg iv zE) ?_;refine g13 ?_;refine St.aN b (show _=(a++(g.nodes.take (0)).map dy.type).length by rw[nR,jz,fV]) (show _=rows aI (a++(g.nodes.take (0)).map dy.type) by rw[nR,jz,fV]) ?_;refine St.pb (ι:=Nat) (κ:=Value×Value×Value×List Cl) (λk z T=>(19,iv k)::T) (λk z=>[tI l [u.1,y.1,z.1,z.2.1,z.2.2.1] 288,row z.1 3 1 (List.range (n0+k)).length (rows aI (cQ (List.range (n0+k)))),row z.2.1 3 1 (a++(g.nodes.take (k)).map dy.type).length (rows aI (a++(g.nodes.take (k)).map dy.type)),row z.2.2.1 164 1 (z.2.2.2).length (rows bU ((z.2.2.2).map Prod.fst)),aD (aL q9 (z.2.2.2)),tI N [g.nv.1] 30,aD (sl cD g.nv.1 g.nodes),aD (aL cE g.nodes)]) (λk z=>k≤g.nodes.length∧(z.1.oneCell'=true∧z.2.1.oneCell'=true∧z.2.2.1.oneCell'=true)∧z.2.2.2.length=n0+k∧z.2.2.2.map zK=f.map zK++((ao g).take k).map (λn=>n.2.map λx=>(x.1,(n0:Int)+x.2))) (λk z=>g.nodes.length-k) 0 (d,b,e,f) (aC.k5 0 4 5 17 18) ⟨aP _,⟨E,F,G⟩,Yu,by rw[nR,jz,fV]⟩ ?_;rintro k ⟨pv,tv,lv,ls⟩ ⟨hk,⟨h1,O,P⟩,Q,o⟩
 dsimp only at h1 O P Q o⊢
 have hTl:(a++(g.nodes.take (k)).map dy.type).length=n0+k:=by rw[bJ,aR,cy];omega
 have hRl:(List.range (n0+k)).length=n0+k:=db
 refine g6 ?_;refine St.cq (λH=> ?_) (λH=> ?_)
 ·obtain⟨t,ht⟩:=aF (show k<g.nodes.length by omega)
  have R:=aa ht
  have htL:=Y t R
  have q8:=kD ht
  refine St.cN cE g.nodes (x:=t) R ?_;refine St.gW (sl an t.lv.1 t.aW) [cE t] (λρ h=>h _ (aV ..)) ?_;refine St.wf t.lv.1 (λXB TE=> ?_);refine g8 ?_;refine St.ee (Ev.j2 (.mk rfl) ht wq trivial jb gX.eq) ?_;refine St.al (λb7=> ?_);refine g9 ?_;refine St.xq (Rr:=an) (g:=(⟨0,0⟩:dq)) (m:=t.aW.length) (sz:=2) rfl (.mk rfl) (.mk rfl) eT da mW tV rfl rfl zE rfl rfl (λj=> ?_);refine g13 ?_;refine St.pb (ι:=Nat) (κ:=List dq) (λq M T=>(31,iv q)::T) (λq M=>[row (tO j t.aW.length t.aW.length) 168 2 t.aW.length (rows an (M)),tI b7 [iv t.type,t.lv.1] 166,tI l [u.1,y.1,pv,tv,lv] 288,row pv 3 1 (List.range (n0+k)).length (rows aI (cQ (List.range (n0+k)))),row tv 3 1 (a++(g.nodes.take (k)).map dy.type).length (rows aI (a++(g.nodes.take (k)).map dy.type)),row lv 164 1 (ls).length (rows bU ((ls).map Prod.fst)),aD (aL q9 (ls)),tI N [g.nv.1] 30,aD (sl cD g.nv.1 g.nodes),aD (aL cE g.nodes),aD (sl an t.lv.1 t.aW)]) (λq M=>q≤t.aW.length∧M.length=t.aW.length∧M.take q=(t.aW.take q).map (shf n0)∧∀x∈M,an.wf x) (λq M=>t.aW.length-q) 0 (List.replicate t.aW.length (⟨0,0⟩:dq)) (aC.k11 0 4 5 6 7 8 17 18 19 29 30) ⟨aP _,by simp,rfl,λx hx=>by rw[List.eq_of_mem_replicate hx];exact⟨by unfold bR;decide,by unfold bR;decide⟩⟩ ?_;rintro q M ⟨hq,B,A,C⟩;refine g6 ?_;refine St.cq (λh32=> ?_) (λh32=> ?_)
  ·obtain⟨p,hp⟩:=aF (show q<t.aW.length by omega)
   have S:=aa hp
   obtain⟨_,U,V⟩:=X.at_ (i:=k) (x:=fB p) (by rw[aZ,q8];exact di S)
   replace U:0≤p.tqo:=U
   replace V:p.tqo.toNat<(ao g).length:=V
   have I:an.wf (shf n0 p):=⟨(XB p S).1,by show bR ((n0:Int)+p.tqo);unfold bR;omega⟩
   refine g8 ?_;refine St.ee (Ev.j2 (.mk rfl) hp kY trivial da gX.eq) ?_;refine St.al (λb10=> ?_);refine g13 ?_;refine St.ee (Ev.build (bC.ah rfl rfl) (λw=>sS rfl rfl w)) ?_;refine St.slot 44 (.agg #[iv p.cu,iv ((n0:Int)+p.tqo)]) rfl rfl ?_;refine go ?_;refine St.NY (k:=q) (.mk rfl) (.mk rfl) da rfl rfl zE ?_;refine St.aN (tO j t.aW.length t.aW.length) rfl (Bu (shf n0 p) M q) ?_;refine g8 ?_;refine St.py (q+1) (M.set q (shf n0 p)) ⟨by omega,by rw[eC];exact B,by rw[aO (fp zE),List.take_set_of_le (aQ _),A,aO hp,cL];rfl,λx hx=>by rcases nP hx with hx|rfl;exact C x hx;exact I⟩
  ·obtain rfl:q=t.aW.length:=by omega
   rw[dV zE,dV (aQ _)]at A;refine St.bI (tO j t.aW.length t.aW.length) an M rfl B.symm C ?_;refine St.gW (aL q9 (ls++ [(⟨(tO j t.aW.length t.aW.length),rfl⟩,M)])) [aL q9 ls,sl an (tO j t.aW.length t.aW.length) M] (λρ h x hx=>by rcases cI.1 hx with hx|hx;exact h _ (aV ..) x hx;rw[bN.1 hx];exact h _ (bV _ (aV ..))) ?_
   have J:(ls++ [((⟨(tO j t.aW.length t.aW.length),rfl⟩:aY),M)]).map zK=f.map zK++((ao g).take (k+1)).map (λn=>n.2.map λx=>(x.1,(n0:Int)+x.2)):=by rw[cL,o,aO q8,cL,cr];congr 2;show [M.map fB]=[(t.aW.map fB).map _];rw[A,iX,iX];rfl
   refine g15 ?_;refine St.slot 54 (iv ((n0+k:Nat):Int)) rfl (congrArg iv zE) ?_;refine St.hS rfl (.ay rfl) cP eL jF rfl rfl (by simp[Value.cells]) rfl rfl (λb55=> ?_);refine St.aq (.mk rfl) (.mk rfl) cP eL jF vD (by simp[Value.oneCell',Value.cells]) zE zE rfl rfl rfl rfl (λr alD=> ?_);refine St.aN r (show _=(List.range (n0+(k+1))).length by rw[db,db];omega) (show _=rows aI (cQ (List.range (n0+(k+1))))from GY (n0+k)) ?_;refine St.bQ r (λD _=> ?_);refine g2 ?_;refine St.bL (.mk rfl) (.mk rfl) jm D (by rfl) ?_;refine g3 ?_;refine St.dZ [row tv 3 1 (a++(g.nodes.take (k)).map dy.type).length (rows aI (a++(g.nodes.take (k)).map dy.type)),tI l [u.1,y.1,r,tv,lv] 288] mixed (λnp ns=> ?_);refine SW.gd 0 ?_;refine SW.gd 1 ?_;refine SW.gd 2 ?_;refine SW.gd 3 ?_;refine SW.gd 5 ?_;refine SW.gd 6 ?_;refine SW.t2 4 7 ?_ ?_
   focus
    refine g3 ?_;refine SW.go ?_;refine SW.t1 7 ?_;refine St.hS rfl (.ay rfl) cP eL jF rfl rfl (by simp[Value.cells]) rfl rfl (λK=> ?_);refine g2 ?_;refine SW.go ?_;refine SW.t1 8 ?_;refine St.aq (.mk rfl) (.mk rfl) cP eL jF vD (by simp[Value.oneCell',Value.cells]) zE zE rfl rfl rfl rfl (λv67 L=> ?_);refine St.aN v67 (show _=(a++(g.nodes.take (k+1)).map dy.type).length by rw[aO ht,cL,←cr];exact cH) (show _=rows aI (a++(g.nodes.take (k+1)).map dy.type) by rw[aO ht,cL,←cr];exact(bB aI _ t.type).symm) ?_;refine St.bQ v67 (λs _=> ?_);refine g2 ?_;refine SW.go ?_;refine SW.gd 9 ?_;refine SW.gd 10 ?_;refine SW.t1 11 ?_;refine St.bL (.mk rfl) (.mk rfl) jm s (by rfl) ?_;refine g2 ?_;refine SW.go ?_;refine SW.dn ?_
   rotate_left
   focus
    refine St.hS rfl (.ay rfl) cP eL jF rfl rfl (by simp[Value.cells]) rfl rfl (λK=> ?_);refine g2 ?_;refine SW.go ?_;refine SW.t1 4 ?_;refine g3 ?_;refine SW.go ?_;refine SW.t1 8 ?_;refine St.aq (.mk rfl) (.mk rfl) cP eL jF vD (by simp[Value.oneCell',Value.cells]) zE zE rfl rfl rfl rfl (λv67 L=> ?_);refine St.aN v67 (show _=(a++(g.nodes.take (k+1)).map dy.type).length by rw[aO ht,cL,←cr];exact cH) (show _=rows aI (a++(g.nodes.take (k+1)).map dy.type) by rw[aO ht,cL,←cr];exact(bB aI _ t.type).symm) ?_;refine St.bQ v67 (λs _=> ?_);refine g2 ?_;refine SW.go ?_;refine SW.gd 9 ?_;refine SW.gd 10 ?_;refine SW.t1 11 ?_;refine St.bL (.mk rfl) (.mk rfl) jm s (by rfl) ?_;refine g2 ?_;refine SW.go ?_;refine SW.dn ?_
   all_goals
    refine g8 ?_;refine St.hS rfl (.ay rfl) CN sI Sz rfl rfl (by simp[Value.cells]) rfl rfl (λb76=> ?_);refine St.aq (.mk rfl) (.mk rfl) CN sI Sz abK (by simp[Value.oneCell',Value.cells]) zE zE rfl rfl rfl rfl (λv77 alJ=> ?_);refine St.aN v77 (show _=(ls++ [((⟨(tO j t.aW.length t.aW.length),rfl⟩:aY),M)]).length from cH) (show _=rows bU ((ls++ [((⟨(tO j t.aW.length t.aW.length),rfl⟩:aY),M)]).map Prod.fst) by rw[cL];exact(bB bU _ (⟨(tO j t.aW.length t.aW.length),rfl⟩:aY)).symm) ?_;refine St.bQ v77 (λW _=> ?_);refine g2 ?_;refine St.bL (.mk rfl) (.mk rfl) af6 W (by rfl) ?_;refine g8 ?_;refine St.py (k+1) (r,v67,v77,ls++ [(⟨(tO j t.aW.length t.aW.length),rfl⟩,M)]) ⟨by omega,⟨D,s,W⟩,by dsimp only;rw[bJ,Q];rfl,J⟩
 ·obtain rfl:k=g.nodes.length:=by omega
  have vO:(ao g).take g.nodes.length=ao g:=dV zE
  rw[vO]at o;rw[dV (aQ _)];refine g12 ?_;refine St.rV [_] [tI l [u.1,y.1,pv,tv,lv] 288,row pv 3 1 (List.range (n0+g.nodes.length)).length (rows aI (cQ (List.range (n0+g.nodes.length)))),row tv 3 1 (a++g.nodes.map dy.type).length (rows aI (a++g.nodes.map dy.type)),row lv 164 1 (ls).length (rows bU ((ls).map Prod.fst)),aD (aL q9 (ls))] ?_;exact⟨pv,tv,lv,ls,rfl,⟨h1,O,P⟩,o,rfl⟩
theorem JY {α:Type}(R:Rp α)(a b:List α):rows R (a++b)=rows R a++rows R b:=pk
theorem Mg (n:Nat)(q:n≤100000000):dR prog 243 #[.slice none 0 0,iv n] [] (λv H'=>v.oneCell'=true∧H'=[row v 168 2 0 []]):=by
 intro w ρ m
 have c:fN ⟨w,ρ,j0 [],True⟩ [] ρ w:=m
 by_cases hz:n=0
 ·subst hz
  refine(Any8.slices_Grow_room Tryz.QF none 0 0 0 w (aQ _) (by decide) (by decide) (aQ _)).mono ?_;rintro e w' ⟨rfl,rfl⟩;refine⟨_,_,rfl,⟨rfl,rfl⟩,Mm.mk (ρ:=ρ) ?_⟩;refine⟨c.os,c.tape,c.output,c.size,c.AO,c.fits,c.le,c.new,λE j=> ?_,λE j b d=> ?_,Cc _ _⟩
  ·rw[bN.1 j];exact dP.2 ⟨rfl,.inl ⟨rfl,rfl⟩⟩
  ·rw[bN.1 j,dF]at d;cases d
 ·obtain⟨i0,f,r⟩:=dX.1 da
  obtain⟨i1,g,l⟩:=dX.1 tV;obtain⟨i2,i,o⟩:=o6.1 mW;rw[f]at g i;obtain rfl:=Option.some.inj g;obtain rfl:=Option.some.inj i;refine(Any8.slices_Grow_grow Tryz.QF i0 _ f o zE none 0 0 n [] w (aQ _) zE (by rw[l];omega) zE (by simp) (λ_=>rfl) (λa h=>by cases h)).mono ?_;rintro e w' ⟨rfl,rfl⟩;rw[iW,Nat.sub_zero]
  have p:=grownCap_ge w n 0 168
  have hle:=grownCap_le_maxLen w n 0 168 (by unfold maxLen;omega)
  refine⟨_,_,rfl,⟨rfl,rfl⟩,Mm.mk (ρ:=ρ) ?_⟩;refine c.drawn.GG rfl ⟨rfl,aQ _⟩ rfl (by show w.heap.size≤(w.heap.push _).size;simp) (λk hk=>RowKit.Below.heap_alloc w.drew _ k hk) (dP.2 ⟨rfl,.inr ⟨w.heap.size,_,_,rfl,aP _,heap_alloc_new w.drew _,aP _,hle,?_,by simp⟩⟩) ?_
  ·simp only[Array.size_append,List.size_toArray,List.length_nil,size_zeroCells]
   show 0+n*2+(grownCap w n 0 168-n)*2=grownCap w n 0 168*2
   omega
  ·intro b d;rw[dF]at d;simp[Value.ownBlock]at d;show w.heap.size≤b;omega
theorem FA (vv:Value)(vs:List Cl)(m:vs.length≤10)(i:∀q∈vs,q.2.length≤2000000):dR prog 211 #[vv] ([sl bU vv (vs.map Prod.fst),aL q9 vs].map aD) (λv H'=>v.oneCell'=true∧H'=[row v 168 2 ((vs.map Prod.snd).flatten).length (rows an (vs.map Prod.snd).flatten)]):=by
 refine dR.body (args:=[vv]) 36 func211 rfl ntmps211 rfl (λc=> ?_);refine St.cast (H':=[aD (sl bU vv (vs.map Prod.fst)),aD (aL q9 vs)]) rfl ?_;refine go ?_
 have n:(vs.map Prod.fst).length=vs.length:=aR _
 refine g18 ?_;refine St.lH (ι:=Nat) (λk T=>(11,iv k)::(3,iv ((((vs.take k).map Prod.snd).flatten).length:Nat))::T) (λk=>[aD (sl bU vv (vs.map Prod.fst)),aD (aL q9 vs)]) (λk=>k≤vs.length∧(((vs.take k).map Prod.snd).flatten).length≤2000000*k) (λk=>vs.length-k) 0 (aC.k4 0 2 9 10) ⟨aP _,aP _⟩ ?_;rintro k ⟨hk,j⟩;refine g6 ?_;refine St.cq (λo=> ?_) (λo=> ?_)
 ·obtain⟨q,b⟩:=aF (show k<vs.length by omega)
  have a:=aa b
  have p:=i q a
  have e:(((vs.take (k+1)).map Prod.snd).flatten).length=(((vs.take k).map Prod.snd).flatten).length+q.2.length:=by rw[aO b,cL,List.flatten_append,bJ];simp
  refine St.cN q9 vs (x:=q) a ?_;refine St.gW (sl an q.1.1 q.2) [q9 q] (λρ h=>h _ (aV ..)) ?_;refine g7 ?_;refine St.ee (Ev.ld1 (.mk rfl) (show(vs.map Prod.fst)[k]?=some q.1 by rw[aw,b];rfl) eT trivial rfl) ?_;refine g9 ?_;refine St.slot 18 (iv ((((vs.take (k+1)).map Prod.snd).flatten).length:Nat)) rfl (congrArg iv zE) ?_;refine g9 ?_;refine St.BS _ rfl (e9 zE) ?_;refine g8 ?_;refine St.aH (k+1) ⟨by omega,by omega⟩
 ·obtain rfl:k=vs.length:=by omega
  rw[dV (aQ _)]at j⊢
  obtain⟨f,l⟩:∃f,f=(vs.map Prod.snd).flatten:=⟨_,rfl⟩
  rw[←l]at j⊢;refine g8 ?_;refine St.call (Mg f.length zE) acW (.ah rfl rfl) rfl ?_;rintro v24 _ ⟨g,rfl⟩;refine St.eZ ?_;refine St.aN v24 (show _=([]:List dq).length from rfl) (show _=rows an []from rfl) ?_;refine g12 ?_;refine St.aN v24 (show _=(((vs.take 0).map Prod.snd).flatten).length from rfl) (show _=rows an (((vs.take 0).map Prod.snd).flatten)from rfl) ?_;refine St.pb (ι:=Nat) (κ:=Value) (λk z T=>(27,iv k)::(6,z)::T) (λk z=>[row z 168 2 (((vs.take k).map Prod.snd).flatten).length (rows an (((vs.take k).map Prod.snd).flatten)),aD (sl bU vv (vs.map Prod.fst)),aD (aL q9 vs)]) (λk z=>k≤vs.length∧z.oneCell'=true∧(((vs.take k).map Prod.snd).flatten).length≤2000000*k) (λk z=>vs.length-k) 0 v24 (aC.k3 2 25 26) ⟨aP _,g,aP _⟩ ?_;rintro k z ⟨hk,hz,u⟩;refine g6 ?_;refine St.cq (λr=> ?_) (λr=> ?_)
  ·obtain⟨q,b⟩:=aF (show k<vs.length by omega)
   have a:=aa b
   have p:=i q a
   have d:((vs.take (k+1)).map Prod.snd).flatten=((vs.take k).map Prod.snd).flatten++q.2:=by rw[aO b,cL,List.flatten_append];simp
   have e:=congrArg List.length d
   rw[bJ]at e;refine St.cN q9 vs (x:=q) a ?_;refine St.gW (sl an q.1.1 q.2) [q9 q] (λρ h=>h _ (aV ..)) ?_;refine g7 ?_;refine St.ee (Ev.ld1 (.mk rfl) (show(vs.map Prod.fst)[k]?=some q.1 by rw[aw,b];rfl) eT trivial rfl) ?_;refine g6 ?_;refine St.oA (.mk rfl) (.mk rfl) eT da mW tV (mJ an _) zE zE rfl rfl trivial rfl (λv33 s=> ?_);refine St.aN v33 (show _=(((vs.take (k+1)).map Prod.snd).flatten).length by rw[d,bJ]) (show _=rows an (((vs.take (k+1)).map Prod.snd).flatten) by rw[d,JY]) ?_;rw[show an.size=2 from rfl];refine St.bQ v33 (λt _=> ?_);refine g9 ?_;refine St.py (k+1) v33 ⟨by omega,t,by omega⟩
  ·obtain rfl:k=vs.length:=by omega
   rw[dV (aQ _)];refine g12 ?_;refine St.rV [_] [row z 168 2 ((vs.map Prod.snd).flatten).length (rows an (vs.map Prod.snd).flatten)] ?_;exact⟨hz,by rw[l];rfl⟩
theorem NQ {α:Type}(R:Rp α){l:List α}{x:α}{j:Nat}(h:j<R.size):(rows R (l++ [x]))[l.length*R.size+j]?=(R.cells x)[j]?:=
 eP R (l++ [x]) l.length j x (by rw[jM (aQ _),eX];rfl) h
theorem zf {α:Type}(R:Rp α){l:List α}{x:α}{j k:Nat}(hk:l.length=k)(h:j<R.size):(rows R (l++ [x]))[k*R.size+j]?=(R.cells x)[j]?:=by subst hk;exact NQ R h
theorem SO {p:Pl}{i:Nat}(h:i<p.ty.length):p.ty[i]?=some (p.tt i):=by
 unfold Pl.tt;rw[aZ,aj h];rfl
theorem zg (l:List aY)(k:Nat)(v:aY):(rows bU l).set (k*1+0) v.1=rows bU (l.set k v):=by
 rw[e8,fU,vf,vf,k9]
theorem rB {l:List aY}{k:Nat}{v:aY}(h:l[k]?=some v):(rows bU l)[k*1+0]?=some v.1:=by
 rw[e8,fU,vf,aw,h];rfl
theorem UG {a b:Int}(h:oE a b<0):a<b:=by unfold oE at h;split at h<;>first|assumption|(split at h<;>omega)
theorem UE {a b:Int}(h:0<oE a b):b<a:=by unfold oE at h;split at h<;>first|omega|(split at h<;>first|assumption|omega)
theorem UD {a b:Int}(h1:¬oE a b<0)(c:¬0<oE a b):a=b:=by unfold oE at h1 c;split at h1<;>first|omega|(split at c<;>omega)
theorem J8 {ls:List Cl}{lk:List kM}(h:ls.map zK=lk){i:Nat}{q:Cl}(a:ls[i]?=some q):lk.getD i []=zK q:=by
 subst h;rw[aZ,aw,a];rfl
structure aa1 (T:List eM)(nf n ZU:Nat)(R:Option Pl)(W:List (Int×Int))(P0:List Nat)(p:Pl)(ls:List Cl):Prop where
 pl:lg T.length nf n p
 wk:Co n W
 uf:UF P0 p.ro
 lse:ls.map zK=p.lk
 lw:∀q∈ls,∀x∈q.2,an.wf x
 eq:ik (ga T) (p.mu W) p W=R
 mu:p.mu W≤ZU
theorem N0 (K:Nat)(F G:aY)(pv tv lv:Value)(ho:pv.oneCell'=true∧tv.oneCell'=true∧lv.oneCell'=true)(T:List eM)(hT:iJ T)(nf n ZU:Nat)(hn:n≤240)(hm0:ZU≤1000000)(P0:List Nat)(C:Pl)(ls0:List Cl)(a0 D:Int)(ha0:0≤a0∧a0<n)(hb0:0≤D∧D<n)(hpl:lg T.length nf n C)(huf:UF P0 C.ro)(XC:ls0.map zK=C.lk)(hlw:∀q∈ls0,∀x∈q.2,an.wf x)(hmu:C.mu [(a0,D)]≤ZU):dR prog 177 #[tW K,iv a0,iv D] [tI K [F.1,G.1,pv,tv,lv] 288,row pv 3 1 C.ro.length (rows aI (cQ (P0))),row tv 3 1 C.ty.length (rows aI C.ty),row lv 164 1 (ls0).length (rows bU ((ls0).map Prod.fst)),aD (aL q9 (ls0)),aD (sl ax F.1 (dN T)),aD (sl ax G.1 (dM T)),aD tz] (λv H'=>∃(r:Bool) (P1:List Nat) (p:Pl) (ls:List Cl),v= .bool r∧(r=false→ik (ga T) (C.mu [(a0,D)]) C [(a0,D)]=none)∧(r=true→ik (ga T) (C.mu [(a0,D)]) C [(a0,D)]=some p∧lg T.length nf n p∧UF P1 p.ro∧ls.map zK=p.lk∧∀q∈ls,∀x∈q.2,an.wf x)∧H'=[tI K [F.1,G.1,pv,tv,lv] 288,row pv 3 1 p.ro.length (rows aI (cQ (P1))),row tv 3 1 p.ty.length (rows aI p.ty),row lv 164 1 (ls).length (rows bU ((ls).map Prod.fst)),aD (aL q9 (ls))]):=by
 refine dR.body (args:=[tW K,iv a0,iv D]) 175 func177 rfl ntmps177 rfl (λc=> ?_);refine g10 ?_;refine St.ee (Ev.build (bC.ah rfl rfl) (λw=>yU rfl rfl w)) ?_;refine St.hS rfl (.ay rfl) wu CE T1 rfl rfl (by simp[Value.cells]) rfl rfl (λb20=> ?_);refine St.aN (tO b20 1 1) (show _=([(a0,D)]:List (Int×Int)).reverse.length from rfl) (show _=rows O3 ([(a0,D)]:List (Int×Int)).reverse from rfl) ?_;refine g4 ?_;refine St.pb (ι:=Unit) (κ:=Value×List (Int×Int)×List Nat×Pl×List Cl) (λu z T=>(7,z.1)::T) (λu z=>[row z.1 318 2 (z.2.1.reverse).length (rows O3 (z.2.1.reverse)),tI K [F.1,G.1,pv,tv,lv] 288,row pv 3 1 z.2.2.2.1.ro.length (rows aI (cQ (z.2.2.1))),row tv 3 1 z.2.2.2.1.ty.length (rows aI z.2.2.2.1.ty),row lv 164 1 (z.2.2.2.2).length (rows bU ((z.2.2.2.2).map Prod.fst)),aD (aL q9 (z.2.2.2.2)),aD (sl ax F.1 (dN T)),aD (sl ax G.1 (dM T)),aD tz]) (λu z=>z.1.oneCell'=true∧aa1 T nf n ZU (ik (ga T) (C.mu [(a0,D)]) C [(a0,D)]) z.2.1 z.2.2.1 z.2.2.2.1 z.2.2.2.2) (λu z=>z.2.2.2.1.mu z.2.1) () ((tO b20 1 1),[(a0,D)],P0,C,ls0) (aC.k1 0) ⟨rfl,hpl,λx hx=>by rw[bN.1 hx];exact⟨ha0,hb0⟩,huf,XC,hlw,rfl,hmu⟩ ?_;rintro u ⟨wz,W,P1,p,ls⟩ ⟨hwz,e⟩
 dsimp only at hwz e⊢
 have hWl:=e.mu
 unfold Pl.mu at hWl
 have hRl:=e.pl.lr
 have hTl:=e.pl.lt
 have hLl:=e.pl.ll
 have hll:ls.length=n:=by rw[←hLl,←e.lse,aR]
 have ak0:W.reverse.length=W.length:=Cb
 refine g8 ?_;refine St.cq (λh23=> ?_) (λh23=> ?_)
 ·obtain⟨x,w,rfl⟩:∃x w,W=x::w:=by cases W with|nil=>(rw[List.reverse_nil]at h23;exact absurd h23 (by simp))|cons x w=>exact⟨x,w,rfl⟩
  rw[List.reverse_cons]
  have hrv:(w.reverse++ [x]).length=w.length+1:=by rw[bJ,Cb];rfl
  have Mq:w.reverse.length=w.length:=Cb
  have alO:(x::w).length=w.length+1:=rfl
  have hx:=e.wk.rt
  obtain⟨⟨hx1,hx2⟩,hx3,hx4⟩:=e.wk x (by simp);refine St.j6 wz zE (λbs cs aeB=> ?_);obtain⟨rk,B,hUF⟩:=e.uf
  obtain⟨xa,XG⟩:∃xa,xa=x.1.toNat:=⟨_,rfl⟩
  obtain⟨xb,hxb⟩:∃xb,xb=x.2.toNat:=⟨_,rfl⟩
  rw[←XG,←hxb]at hx
  have hea:x.1=(xa:Int):=by omega
  have heb:x.2=(xb:Int):=by omega
  refine g4 ?_;refine St.dZ [tI K [F.1,G.1,pv,tv,lv] 288,row pv 3 1 p.ro.length (rows aI (cQ P1))] mixed (λnp ns=> ?_);refine SW.gd 0 ?_;refine SW.gd 1 ?_;refine SW.gd 2 ?_;refine SW.gd 3 ?_;refine SW.gd 4 ?_;refine SW.dd 5 rfl (λ_=>Ev.cw (k:=w.length) (.mk rfl) (.mk rfl) wu CE zE zE) ?_;refine SW.dd 6 rfl (λ_=>Ev.xo (j:=0) aeB (.mk rfl) (.mk rfl) underlying318 eL rfl (by decide)) ?_;refine SW.dd 7 rfl (λ_=>Ev.cx (.mk rfl) eK trivial zE (zf O3 (j:=0) Mq (by decide))) ?_;refine SW.slot 31 (iv (xa:Nat)) rfl (congrArg iv hea) ?_;refine SW.gd 9 ?_;refine SW.gd 10 ?_;refine SW.gd 11 ?_;refine SW.gd 12 ?_;refine SW.gd 13 ?_;refine SW.dd 14 rfl (λ_=>Ev.cw (k:=w.length) (.mk rfl) (.mk rfl) wu CE zE zE) ?_;refine SW.dd 15 rfl (λ_=>Ev.xo (j:=1) aeB (.mk rfl) (.mk rfl) underlying318 eL rfl (by decide)) ?_;refine SW.dd 16 rfl (λ_=>Ev.cx (.mk rfl) eK trivial zE (zf O3 (j:=1) Mq (by decide))) ?_;refine SW.slot 40 (iv (xb:Nat)) rfl (congrArg iv heb) ?_;refine SW.t1 8 ?_;refine St.call (find_spec K F G pv tv lv rk B p.ro zE P1 hUF xa zE) Er (.ah rfl rfl) rfl ?_;rintro v32 _ ⟨P2,rfl,hP2,rfl⟩;refine St.mZ ?_;refine g2 ?_;refine SW.go ?_;refine SW.t1 17 ?_;refine St.call (find_spec K F G pv tv lv rk B p.ro zE P2 hP2 xb zE) Er (.ah rfl rfl) rfl ?_;rintro v41 _ ⟨P3,rfl,hP3,rfl⟩;refine St.mZ ?_;refine g2 ?_;refine SW.go ?_;refine SW.gd 18 ?_;refine SW.gd 19 ?_;refine SW.dn ?_;refine g2 ?_
  obtain⟨a,hA⟩:∃a,a=p.ro.getD xa 0:=⟨_,rfl⟩
  obtain⟨b,hB⟩:∃b,b=p.ro.getD xb 0:=⟨_,rfl⟩
  rw[←hA,←hB]
  have M:p.rt x.1.toNat=a:=by rw[←XG];exact hA.symm
  have N:p.rt x.2.toNat=b:=by rw[←hxb];exact hB.symm
  have ha:a<n:=by rw[←M];exact e.pl.AP _ zE
  have hb:b<n:=by rw[←N];exact e.pl.AP _ zE
  have Uy:p.rt a=a:=by rw[←M];exact e.pl.XY _ zE
  have hrb:p.rt b=b:=by rw[←N];exact e.pl.XY _ zE
  have Z4:Co n w:=λz hz=>e.wk z (by simp[hz])
  refine g5 ?_;refine St.ee (Ev.mN (h:=w.length) (.mk rfl) (.mk rfl) wu CE zE zE) ?_;refine St.zd wz w.length zE ?_;refine St.aN (mX wz 2 0 w.length) Mq.symm (show(rows O3 (w.reverse++ [x])).take (w.length*2)=rows O3 w.reverse by rw[←Mq];exact uS O3 _ _) ?_;refine St.bQ (mX wz 2 0 w.length) (λadR _=> ?_);refine g11 ?_;refine St.cq (λh49=> ?_) (λh49=> ?_)
  ·have aeA:p.rt x.1.toNat=p.rt x.2.toNat:=by omega
   refine g4 ?_;refine St.lC () (mX wz 2 0 w.length,w,P3,p,ls) ⟨adR,e.pl,Z4,⟨rk,B,hP3⟩,e.lse,e.lw,by rw[←e.eq,Mz aeA],cz (show p.mu w≤p.mu (x::w) by unfold Pl.mu;rw[eU];omega) e.mu⟩ (by dsimp only;unfold Pl.mu;rw[eU];omega) (by repeat(first|exact Sub.nil|refine Sub.cons (by first|rfl|exact congrArg (λz=>some (iv z)) (by first|omega|(dsimp only;omega))|exact congrArg (λz=>some (Value.bool z)) (by first|assumption|exact ke (by assumption))) ?_)) (λ_ hw=>hw.sub)
  ·have hne:p.rt x.1.toNat≠p.rt x.2.toNat:=by omega
   have hab:a≠b:=by omega
   obtain⟨ta,hta⟩:∃ta:Nat,p.tt a=(ta:Int):=⟨(p.tt a).toNat,by have:=(e.pl.tt ha).1;omega⟩
   obtain⟨tb,htb⟩:∃tb:Nat,p.tt b=(tb:Int):=⟨(p.tt b).toNat,by have:=(e.pl.tt hb).1;omega⟩
   have ak5:=(e.pl.tt ha).2
   have ak6:=(e.pl.tt hb).2
   refine g3 ?_;refine St.dZ [] mixed (λnp ns=> ?_);refine SW.gd 0 ?_;refine SW.gd 1 ?_;refine SW.gd 2 ?_;refine SW.dd 3 rfl (λ_=>Ev.iz 2 (.mk rfl) wm trivial wg rfl rfl) ?_;refine SW.slot 54 (jc F G) rfl rfl ?_;refine SW.gd 4 ?_;refine SW.gd 5 ?_;refine SW.gd 6 ?_;refine SW.gd 7 ?_;refine SW.gd 8 ?_;refine SW.gd 9 ?_;refine SW.dd 10 rfl (λ_=>Ev.cx (.mk rfl) eK trivial zE (fm (SO zE))) ?_;refine SW.slot 61 (iv (ta:Nat)) rfl (congrArg iv hta) ?_;refine SW.gd 11 ?_;refine SW.gd 12 ?_;refine SW.gd 13 ?_;refine SW.gd 14 ?_;refine SW.gd 15 ?_;refine SW.gd 16 ?_;refine SW.dd 17 rfl (λ_=>Ev.cx (.mk rfl) eK trivial zE (fm (SO zE))) ?_;refine SW.slot 68 (iv (tb:Nat)) rfl (congrArg iv htb) ?_;refine SW.dd 18 rfl (λ_=>Ev.call ((yD F G T hT ta tb zE zE).mono λ_ _ h=>h.1) Ow (.fk rfl rfl rfl)) ?_;refine SW.gd 19 ?_;refine SW.gd 20 ?_;refine SW.gd 21 ?_;refine SW.gd 22 ?_;refine SW.gd 23 ?_;refine SW.gd 24 ?_;refine SW.gd 25 ?_;refine SW.dn ?_;refine g8 ?_;refine St.cq (λT9=> ?_) (λT9=> ?_)
   ·have hm:ga T (p.tt (p.rt x.1.toNat)).toNat (p.tt (p.rt x.2.toNat)).toNat=none:=by rw[M,N,hta,htb];simpa using T9
    have Yx:=L6 (w:=w) hne hm
    rw[e.eq]at Yx;refine g11 ?_;refine St.rV [_] [tI K [F.1,G.1,pv,tv,lv] 288,row pv 3 1 p.ro.length (rows aI (cQ (P3))),row tv 3 1 p.ty.length (rows aI p.ty),row lv 164 1 (ls).length (rows bU ((ls).map Prod.fst)),aD (aL q9 (ls))] ?_;exact⟨false,P3,p,ls,rfl,λ_=>Yx,λh=>(by cases h),rfl⟩
   ·obtain⟨m,hm0⟩:=Option.isSome_iff_exists.1 (show(ga T ta tb).isSome=true from by simpa using T9)
    have hm:ga T (p.tt (p.rt x.1.toNat)).toNat (p.tt (p.rt x.2.toNat)).toNat=some m:=by rw[M,N,hta,htb];exact hm0
    have hmT:=GB T _ _ _ hm0
    have ad6:=Q5 (nt:=T.length) (nf:=nf) (n:=n) e.pl (w:=w) ⟨by omega,by omega⟩ hne hm
    rw[M,N]at ad6;refine St.slot 10 (iv (m:Nat)) rfl (by rw[hm0];rfl) ?_;refine g11 ?_;refine St.bz (.mk rfl) (.mk rfl) eL rfl zE (by decide) ?_;refine St.aN pv rfl (show _=rows aI (cQ (P3.set b a)) by rw[jJ,cQ,cQ,k9]) ?_;refine g11 ?_;refine St.bz (.mk rfl) (.mk rfl) eL rfl zE (by decide) ?_;refine St.aN tv rfl (jJ p.ty a (m:Int)) ?_;refine g3 ?_;obtain⟨P,Q⟩:=aF (show a<ls.length by omega);obtain⟨R,S⟩:=aF (show b<ls.length by omega);refine St.cN q9 ls (x:=P) (aa Q) ?_;refine St.gW (sl an P.1.1 P.2) [q9 P] (λρ h=>h _ (aV ..)) ?_;refine St.cN q9 ls (x:=R) (aa S) ?_;refine St.gW (sl an R.1.1 R.2) [q9 R] (λρ h=>h _ (aV ..)) ?_
    have hla:p.ll a=P.2.map fB:=J8 e.lse Q
    have hlb:p.ll b=R.2.map fB:=J8 e.lse S
    have hsa:(p.ll a).length≤p.left:=by have h1:=oS (f:=λi=>if p.rt i=i then(p.ll i).length else 0) (show a<p.ro.length by omega);rw[aB Uy]at h1;exact h1
    have hsb:(p.ll b).length≤p.left:=by have h1:=oS (f:=λi=>if p.rt i=i then(p.ll i).length else 0) (show b<p.ro.length by omega);rw[aB hrb]at h1;exact h1
    rw[hla,aR]at hsa;rw[hlb,aR]at hsb;refine g5 ?_;refine St.dZ [] mixed (λnp ns=> ?_);refine SW.gd 0 ?_;refine SW.gd 1 ?_;refine SW.gd 2 ?_;refine SW.gd 3 ?_;refine SW.gd 4 ?_;refine SW.gd 5 ?_;refine SW.dd 6 rfl (λ_=>Ev.cx (.mk rfl) eT trivial zE (rB (show(ls.map Prod.fst)[a]?=some P.1 by rw[aw,Q];rfl))) ?_;refine SW.gd 7 ?_;refine SW.gd 8 ?_;refine SW.gd 9 ?_;refine SW.gd 10 ?_;refine SW.gd 11 ?_;refine SW.gd 12 ?_;refine SW.dd 13 rfl (λ_=>Ev.cx (.mk rfl) eT trivial zE (rB (show(ls.map Prod.fst)[b]?=some R.1 by rw[aw,S];rfl))) ?_;refine SW.gd 14 ?_;refine SW.gd 15 ?_;refine SW.dn ?_;refine g3 ?_;refine St.dH 168 2 ?_;refine St.aN (.slice none 0 0) (show _=([]:List dq).length from rfl) (show _=rows an []from rfl) ?_;refine St.aN (mX wz 2 0 w.length) (show _=(w.reverse++([]:List (Int×Int))).length by rw[fV]) (show _=rows O3 (w.reverse++ []) by rw[fV]) ?_;refine St.pb (ι:=Unit) (κ:=Value×List dq×Value×List dq×Value×List dq×Value×List (Int×Int)) (λu2 z T=>(13,z.1)::(14,z.2.2.1)::(15,z.2.2.2.2.1)::(7,z.2.2.2.2.2.2.1)::T) (λu2 z=>[row z.1 168 2 (z.2.1).length (rows an (z.2.1)),row z.2.2.2.2.2.2.1 318 2 (w.reverse++z.2.2.2.2.2.2.2).length (rows O3 (w.reverse++z.2.2.2.2.2.2.2)),tI K [F.1,G.1,pv,tv,lv] 288,row pv 3 1 p.ro.length (rows aI (cQ (P3.set b a))),row tv 3 1 p.ty.length (rows aI (p.ty.set a (m:Int))),row lv 164 1 ls.length (rows bU (ls.map Prod.fst)),aD (aL q9 ls),aD (sl an z.2.2.1 z.2.2.2.1),aD (sl an z.2.2.2.2.1 z.2.2.2.2.2.1),aD (sl ax F.1 (dN T)),aD (sl ax G.1 (dM T)),aD tz]) (λu2 z=>(z.1.oneCell'=true∧z.2.2.2.2.2.2.1.oneCell'=true)∧ER (p.ll a) (p.ll b) (z.2.1.map fB) (z.2.2.2.1.map fB) (z.2.2.2.2.2.1.map fB) z.2.2.2.2.2.2.2∧((∀x∈z.2.1,an.wf x)∧(∀x∈z.2.2.2.1,an.wf x)∧∀x∈z.2.2.2.2.2.1,an.wf x)∧z.2.1.length+z.2.2.2.1.length+z.2.2.2.2.2.1.length≤2000000∧z.2.2.2.2.2.2.2.length+z.2.2.2.1.length≤1000000) (λu2 z=>z.2.2.2.1.length+z.2.2.2.2.2.1.length) () ((.slice none 0 0),[],P.1.1,P.2,R.1.1,R.2,mX wz 2 0 w.length,[]) (aC.k2 0 8) ⟨⟨rfl,adR⟩,by rw[hla,hlb];exact ER.start _ _,⟨λx hx=>(by cases hx),e.lw _ (aa Q),e.lw _ (aa S)⟩,by show 0+P.2.length+R.2.length≤_;omega,by show 0+P.2.length≤_;omega⟩ ?_;rintro u2 ⟨U,L,xv,X,A,Y,vz,V⟩ ⟨⟨hz,Z⟩,hM,⟨H,E,I⟩,Yr,Kz⟩
    dsimp only at hz Z hM H E I Yr Kz⊢
    have alN:(w.reverse++V).length=w.length+V.length:=by rw[bJ,Cb]
    refine g7 ?_;refine St.gt _ rfl rfl (λhg=>Ev.move (.mk rfl)) rfl ?_;refine St.gt _ rfl rfl (λhg=>Ev.eu (aX.gv rfl hg) eT) rfl ?_;refine St.gt _ rfl rfl (λhg=>Ev.gtr (aX.gv rfl hg) (.mk rfl)) rfl ?_;refine g3 ?_;refine St.cq (λUq=> ?_) (λUq=> ?_)
    ·obtain⟨d,o,rfl⟩:∃d o,X=d::o:=by cases X with|nil=>exact absurd Uq.1 (by simp)|cons a b=>exact⟨a,b,rfl⟩
     obtain⟨g,s,rfl⟩:∃g s,Y=g::s:=by cases Y with|nil=>exact absurd Uq.2 (by simp)|cons a b=>exact⟨a,b,rfl⟩
     rw[eU]at Yr Kz;rw[eU]at Yr;refine g4 ?_;refine St.dZ [] mixed (λnp ns=> ?_);refine SW.gd 0 ?_;refine SW.dd 1 rfl (λ_=>Ev.cM (k:=0) (.mk rfl) (.mk rfl) eT da zE (by simp)) ?_;refine SW.gd 2 ?_;refine SW.dd 3 rfl (λ_=>Ev.ld1 (.mk rfl) (show(d::o)[0]?=some d from rfl) eK trivial rfl) ?_;refine SW.gd 4 ?_;refine SW.dd 5 rfl (λ_=>Ev.cM (k:=0) (.mk rfl) (.mk rfl) eT da zE (by simp)) ?_;refine SW.gd 6 ?_;refine SW.dd 7 rfl (λ_=>Ev.ld1 (.mk rfl) (show(g::s)[0]?=some g from rfl) eK trivial rfl) ?_;refine SW.dd 8 rfl (λ_=>Ev.call (eA d.cu g.cu) mr (.ah rfl rfl)) ?_;refine SW.gd 9 ?_;refine SW.dn ?_;refine g9 ?_;refine St.cq (λadI=> ?_) (λadI=> ?_)
     ·have hlt:=UG adI
      have O:=ER.lt (a:=fB d) (b:=fB g) hM hlt
      refine g4 ?_;refine St.ee (Ev.cM (k:=0) (.mk rfl) (.mk rfl) eT da zE (by simp)) ?_;refine St.ee (Ev.j2 (.mk rfl) (show(d::o)[0]?=some d from rfl) kY trivial da gX.eq) ?_;refine St.slot 148 (.agg #[iv d.cu,iv d.tqo]) rfl rfl ?_;refine St.hS rfl (.ay rfl) eT da mW rfl rfl (by simp[Value.cells]) rfl rfl (λakG=> ?_);refine St.aq (.mk rfl) (.mk rfl) eT da mW tV (by simp[Value.oneCell',Value.cells]) zE zE rfl rfl rfl rfl (λaaJ aj6=> ?_);refine St.aN aaJ (show _=(L++ [d]).length from cH) (show _=rows an (L++ [d]) by rw[bB];rfl) ?_;refine St.bQ aaJ (λah5 _=> ?_);refine g5 ?_;refine St.ee (Ev.rE (l:=1) (.mk rfl) (.mk rfl) eT da rfl (by simp)) ?_;refine St.part (Rr:=an) (xs:=(d::o)) xv 1 ((d::o)).length (by simp) (aQ _) ?_;refine St.gW (sl an (mX xv an.size 1 ((d::o)).length) o) [sl an (mX xv an.size 1 ((d::o)).length) ((((d::o)).drop 1).take (((d::o)).length-1))] (λρ h=>by have:=h _ (aV ..);rwa[show(((d::o)).drop 1).take (((d::o)).length-1)=o from dV (aQ _)]at this) ?_;refine g5 ?_;refine St.lC () (aaJ,L++ [d],mX xv an.size 1 (d::o).length,o,A,g::s,vz,V) ⟨⟨ah5,Z⟩,by rw[cL];exact O,⟨λu hu=>by rcases cI.1 hu with h|h;exact H u h;rw[bN.1 h];exact E d (by simp),λu hu=>E u (by simp[hu]),I⟩,by dsimp only;rw[bJ,eU];simp only[List.length_cons,List.length_nil];omega,by dsimp only;omega⟩ (by dsimp only;simp only[List.length_cons];omega) (by repeat(first|exact Sub.nil|refine Sub.cons (by first|rfl|exact congrArg (λz=>some (iv z)) (by first|omega|(dsimp only;omega))|exact congrArg (λz=>some (Value.bool z)) (by first|assumption|exact ke (by assumption))) ?_)) (λ_ hw=>hw.sub)
     ·refine g7 ?_
      refine St.cq (λadK=> ?_) (λadK=> ?_)
      ·have q8:=UE adK
       have O:=ER.gt (a:=fB d) (b:=fB g) hM q8
       refine g4 ?_;refine St.ee (Ev.cM (k:=0) (.mk rfl) (.mk rfl) eT da zE (by simp)) ?_;refine St.ee (Ev.j2 (.mk rfl) (show(g::s)[0]?=some g from rfl) kY trivial da gX.eq) ?_;refine St.slot 159 (.agg #[iv g.cu,iv g.tqo]) rfl rfl ?_;refine St.hS rfl (.ay rfl) eT da mW rfl rfl (by simp[Value.cells]) rfl rfl (λakH=> ?_);refine St.aq (.mk rfl) (.mk rfl) eT da mW tV (by simp[Value.oneCell',Value.cells]) zE zE rfl rfl rfl rfl (λaaK aj7=> ?_);refine St.aN aaK (show _=(L++ [g]).length from cH) (show _=rows an (L++ [g]) by rw[bB];rfl) ?_;refine St.bQ aaK (λah7 _=> ?_);refine g5 ?_;refine St.ee (Ev.rE (l:=1) (.mk rfl) (.mk rfl) eT da rfl (by simp)) ?_;refine St.part (Rr:=an) (xs:=(g::s)) A 1 ((g::s)).length (by simp) (aQ _) ?_;refine St.gW (sl an (mX A an.size 1 ((g::s)).length) s) [sl an (mX A an.size 1 ((g::s)).length) ((((g::s)).drop 1).take (((g::s)).length-1))] (λρ h=>by have:=h _ (aV ..);rwa[show(((g::s)).drop 1).take (((g::s)).length-1)=s from dV (aQ _)]at this) ?_;refine g5 ?_;refine St.lC () (aaK,L++ [g],xv,d::o,mX A an.size 1 (g::s).length,s,vz,V) ⟨⟨ah7,Z⟩,by rw[cL];exact O,⟨λu hu=>by rcases cI.1 hu with h|h;exact H u h;rw[bN.1 h];exact I g (by simp),E,λu hu=>I u (by simp[hu])⟩,by dsimp only;rw[bJ,eU];simp only[List.length_cons,List.length_nil];omega,by dsimp only;rw[eU];omega⟩ (by dsimp only;simp only[List.length_cons];omega) (by repeat(first|exact Sub.nil|refine Sub.cons (by first|rfl|exact congrArg (λz=>some (iv z)) (by first|omega|(dsimp only;omega))|exact congrArg (λz=>some (Value.bool z)) (by first|assumption|exact ke (by assumption))) ?_)) (λ_ hw=>hw.sub)
      ·have heq:=UD zE (by omega:¬0<oE d.cu g.cu)
       have O:=ER.eq (a:=fB d) (b:=fB g) hM heq
       refine g4 ?_;refine St.ee (Ev.cM (k:=0) (.mk rfl) (.mk rfl) eT da zE (by simp)) ?_;refine St.ee (Ev.j2 (.mk rfl) (show(d::o)[0]?=some d from rfl) kY trivial da gX.eq) ?_;refine St.slot 123 (.agg #[iv d.cu,iv d.tqo]) rfl rfl ?_;refine St.hS rfl (.ay rfl) eT da mW rfl rfl (by simp[Value.cells]) rfl rfl (λakE=> ?_);refine St.aq (.mk rfl) (.mk rfl) eT da mW tV (by simp[Value.oneCell',Value.cells]) zE zE rfl rfl rfl rfl (λaaH aj4=> ?_);refine St.aN aaH (show _=(L++ [d]).length from cH) (show _=rows an (L++ [d]) by rw[bB];rfl) ?_;refine St.bQ aaH (λah2 _=> ?_);refine g4 ?_;refine St.dZ [row vz 318 2 (w.reverse++V).length (rows O3 (w.reverse++V))] mixed (λnp ns=> ?_);refine SW.gd 0 ?_;refine SW.gd 1 ?_;refine SW.dd 2 rfl (λ_=>Ev.cM (k:=0) (.mk rfl) (.mk rfl) eT da zE (by simp)) ?_;refine SW.gd 3 ?_;refine SW.dd 4 rfl (λ_=>Ev.ld1 (.mk rfl) (show(d::o)[0]?=some d from rfl) eK trivial rfl) ?_;refine SW.gd 5 ?_;refine SW.dd 6 rfl (λ_=>Ev.cM (k:=0) (.mk rfl) (.mk rfl) eT da zE (by simp)) ?_;refine SW.gd 7 ?_;refine SW.dd 8 rfl (λ_=>Ev.ld1 (.mk rfl) (show(g::s)[0]?=some g from rfl) eK trivial rfl) ?_;refine SW.dd 9 rfl (λ_=>Ev.build (ps:=[(0,(.tmp 130)),(1,(.tmp 134))]) (bC.ah rfl rfl) (λw=>yU rfl rfl w)) ?_;refine SW.t1 10 ?_;refine St.hS rfl (.ay rfl) wu CE T1 rfl rfl (by simp[Value.cells]) rfl rfl (λakF=> ?_);refine g2 ?_;refine SW.go ?_;refine SW.t1 11 ?_;refine St.aq (.mk rfl) (.mk rfl) wu CE T1 abO (by simp[Value.oneCell',Value.cells]) zE zE rfl rfl rfl rfl (λaaI aj5=> ?_);refine St.aN aaI (show _=(w.reverse++(V++ [(d.tqo,g.tqo)])).length by rw[←cr];exact cH) (show _=rows O3 (w.reverse++(V++ [(d.tqo,g.tqo)])) by rw[←cr,bB];rfl) ?_;refine St.bQ aaI (λah4 _=> ?_);refine g2 ?_;refine SW.go ?_;refine SW.gd 12 ?_;refine SW.dn ?_;refine go ?_;refine St.dZ [] mixed (λnp ns=> ?_);refine SW.gd 0 ?_;refine SW.dd 1 rfl (λ_=>Ev.rE (l:=1) (.mk rfl) (.mk rfl) eT da rfl (by simp)) ?_;refine SW.gd 2 ?_;refine SW.dd 3 rfl (λ_=>Ev.rE (l:=1) (.mk rfl) (.mk rfl) eT da rfl (by simp)) ?_;refine SW.gd 4 ?_;refine SW.gd 5 ?_;refine SW.dn ?_;refine g3 ?_;refine St.part (Rr:=an) (xs:=(d::o)) xv 1 ((d::o)).length (by simp) (aQ _) ?_;refine St.gW (sl an (mX xv an.size 1 ((d::o)).length) o) [sl an (mX xv an.size 1 ((d::o)).length) ((((d::o)).drop 1).take (((d::o)).length-1))] (λρ h=>by have:=h _ (aV ..);rwa[show(((d::o)).drop 1).take (((d::o)).length-1)=o from dV (aQ _)]at this) ?_;refine St.part (Rr:=an) (xs:=(g::s)) A 1 ((g::s)).length (by simp) (aQ _) ?_;refine St.gW (sl an (mX A an.size 1 ((g::s)).length) s) [sl an (mX A an.size 1 ((g::s)).length) ((((g::s)).drop 1).take (((g::s)).length-1))] (λρ h=>by have:=h _ (aV ..);rwa[show(((g::s)).drop 1).take (((g::s)).length-1)=s from dV (aQ _)]at this) ?_;refine St.lC () (aaH,L++ [d],mX xv an.size 1 (d::o).length,o,mX A an.size 1 (g::s).length,s,aaI,V++ [(d.tqo,g.tqo)]) ⟨⟨ah2,ah4⟩,by rw[cL];exact O,⟨λu hu=>by rcases cI.1 hu with h|h;exact H u h;rw[bN.1 h];exact E d (by simp),λu hu=>E u (by simp[hu]),λu hu=>I u (by simp[hu])⟩,by dsimp only;rw[bJ];simp only[List.length_cons,List.length_nil];omega,by dsimp only;rw[bJ];simp only[List.length_cons,List.length_nil];omega⟩ (by dsimp only;simp only[List.length_cons];omega) (by repeat(first|exact Sub.nil|refine Sub.cons (by first|rfl|exact congrArg (λz=>some (iv z)) (by first|omega|(dsimp only;omega))|exact congrArg (λz=>some (Value.bool z)) (by first|assumption|exact ke (by assumption))) ?_)) (λ_ hw=>hw.sub)
    ·have hem:X=[]∨Y=[]:=by rcases Uq with h|h;exact .inl (gg zE);exact .inr (gg zE)
     obtain⟨hf1,hf2⟩:=hM.fin (by rcases hem with rfl|rfl;exact .inl rfl;exact .inr rfl);refine St.bI U an L rfl rfl H ?_;refine St.Xa xv (λt=> ?_);refine St.Xa A (λy=> ?_)
     obtain⟨J,TD⟩:∃J,J=L++(X++Y):=⟨_,rfl⟩
     have aiM:J.map fB=Ao (p.ll a) (p.ll b):=by rw[TD,cL,cL];exact hf1
     have adU:∀x∈J,an.wf x:=λx hx=>by rw[TD]at hx;rcases cI.1 hx with hx|hx;exact H x hx;rcases cI.1 hx with hx|hx;exact E x hx;exact I x hx
     have aiN:(([((⟨U,hz⟩:aY),L),((⟨xv,t⟩:aY),X),((⟨A,y⟩:aY),Y)]).map Prod.snd).flatten=J:=by rw[TD];simp
     refine St.gW (aL q9 [((⟨U,hz⟩:aY),L),((⟨xv,t⟩:aY),X),((⟨A,y⟩:aY),Y)]) [sl an U L,sl an xv X,sl an A Y] (λρ h x hx=>by simp only[List.mem_cons,List.not_mem_nil,or_false]at hx;rcases hx with rfl|rfl|rfl;exact h _ (aV ..);exact h _ (bV _ (aV ..));exact h _ (bV _ (bV _ (aV ..)))) ?_;refine St.j6 lv zE (λbs2 cs2 aiX=> ?_);refine g5 ?_;refine St.dZ [row lv 164 1 ls.length (rows bU (ls.map Prod.fst)),aD (aL q9 [((⟨U,hz⟩:aY),L),((⟨xv,t⟩:aY),X),((⟨A,y⟩:aY),Y)])] mixed (λnp ns=> ?_);refine SW.gd 0 ?_;refine SW.gd 1 ?_;refine SW.gd 2 ?_;refine SW.gd 3 ?_;refine SW.gd 4 ?_;refine SW.gd 5 ?_;refine SW.gd 6 ?_;refine SW.gd 7 ?_;refine SW.t1 8 ?_;refine St.hS rfl (.fk rfl rfl rfl) CN sI Sz rfl rfl (λu hu=>by simp only[List.mem_cons,List.not_mem_nil,or_false]at hu;rcases hu with rfl|rfl|rfl;rw[cells_one hz];rfl;rw[cells_one t];rfl;rw[cells_one y];rfl) rfl rfl (λYH=> ?_);refine St.aN (tO YH 3 3) (show _=([((⟨U,hz⟩:aY),L),((⟨xv,t⟩:aY),X),((⟨A,y⟩:aY),Y)].map Prod.fst).length from rfl) (show _=rows bU ([((⟨U,hz⟩:aY),L),((⟨xv,t⟩:aY),X),((⟨A,y⟩:aY),Y)].map Prod.fst) by simp only[List.flatMap_cons,List.flatMap_nil,cells_one hz,cells_one t,cells_one y];rfl) ?_;refine St.bI (tO YH 3 3) bU ([((⟨U,hz⟩:aY),L),((⟨xv,t⟩:aY),X),((⟨A,y⟩:aY),Y)].map Prod.fst) rfl rfl (λ_ _=>trivial) ?_;refine g2 ?_;refine SW.go ?_;refine SW.t1 9 ?_;refine St.dt (FA (tO YH 3 3) [((⟨U,hz⟩:aY),L),((⟨xv,t⟩:aY),X),((⟨A,y⟩:aY),Y)] (by simp) (λq hq=>by simp only[List.mem_cons,List.not_mem_nil,or_false]at hq;rcases hq with rfl|rfl|rfl<;>dsimp only<;>omega)) acQ (.ay rfl) rfl ?_;rintro v173 _ ⟨Ip,rfl⟩;refine St.eZ ?_;rw[aiN];refine St.bI v173 an J rfl rfl adU ?_;refine g2 ?_;refine SW.go ?_;refine SW.dd 10 rfl (λ_=>Ev.kF (k:=a) aiX (.mk rfl) (.mk rfl) CN sI zE zE) ?_;refine SW.t1 11 ?_;refine St.bz (.mk rfl) (.mk rfl) sI Ip zE (by decide) ?_;refine g2 ?_;refine SW.go ?_;refine SW.dn ?_;refine g2 ?_
     have aj0:=e.pl.left (m:=m) ha hb Uy hrb hab
     have hJ2:aa1 T nf n ZU (ik (ga T) (C.mu [(a0,D)]) C [(a0,D)]) (V.reverse++w) (P3.set b a) (p.put a b m) (ls.set a (⟨v173,Ip⟩,J)):=⟨e.pl.put ha hb Uy hmT hab,by rw[hf2];exact Z4.put e.pl ha hb,hP3.put zE zE Uy hrb hab,by rw[k9,e.lse];show p.lk.set a (J.map fB)=_;rw[aiM];rfl,λq hq=>by rcases nP hq with hq|rfl;exact e.lw q hq;exact adU,by rw[hf2,←ad6,e.eq],by have h0:=e.mu;have h1:p.mu (x::w)=p.left+(w.length+1)+1:=rfl;show(p.put a b m).left+(V.reverse++w).length+1≤ZU;rw[bJ,Cb,hf2];omega⟩
     refine St.aN vz (show _=((V.reverse++w).reverse).length by rw[List.reverse_append,List.reverse_reverse]) (show _=rows O3 ((V.reverse++w).reverse) by rw[List.reverse_append,List.reverse_reverse]) ?_;refine St.aN pv (show _=(p.put a b m).ro.length by simp[Pl.put]) rfl ?_;refine St.aN tv (show _=(p.put a b m).ty.length by simp[Pl.put]) (show _=rows aI (p.put a b m).ty from rfl) ?_;refine St.aN lv (show _=(ls.set a (⟨v173,Ip⟩,J)).length by rw[eC]) (show _=rows bU ((ls.set a (⟨v173,Ip⟩,J)).map Prod.fst) by rw[k9];exact zg _ _ ⟨v173,Ip⟩) ?_;refine St.gW (aL q9 (ls.set a (⟨v173,Ip⟩,J))) [aL q9 ls,sl an v173 J] (λρ h x hx=>by rcases nP hx with hx|rfl;exact h _ (aV ..) x hx;exact h _ (bV _ (aV ..))) ?_;refine St.lC () (vz,V.reverse++w,P3.set b a,p.put a b m,ls.set a (⟨v173,Ip⟩,J)) ⟨Z,hJ2⟩ (by dsimp only;unfold Pl.mu;rw[bJ,Cb,eU,hf2];omega) (by repeat(first|exact Sub.nil|refine Sub.cons (by first|rfl|exact congrArg (λz=>some (iv z)) (by first|omega|(dsimp only;omega))|exact congrArg (λz=>some (Value.bool z)) (by first|assumption|exact ke (by assumption))) ?_)) (λ_ hw=>hw.sub)
 ·obtain rfl:W=[]:=gg zE
  have Uu:=e.eq
  rw[My]at Uu;refine g11 ?_;refine St.rV [_] [tI K [F.1,G.1,pv,tv,lv] 288,row pv 3 1 p.ro.length (rows aI (cQ (P1))),row tv 3 1 p.ty.length (rows aI p.ty),row lv 164 1 (ls).length (rows bU ((ls).map Prod.fst)),aD (aL q9 (ls))] ?_;exact⟨true,P1,p,ls,rfl,λh=>(by cases h),λ_=>⟨Uu.symm,e.pl,e.uf,e.lse,e.lw⟩,rfl⟩
theorem Um {p:Pl}{i:Nat}(h:i<p.ro.length):(q7 p)[i]?=some (p.tt i,if p.rt i=i then(p.ll i).map (λl=>(l.1,(p.rt l.2.toNat:Int)))else []):=by
 unfold q7;rw[aw,jy h];rfl
def tlk (p:Pl)(l:kM):kM:=l.map λl=>(l.1,(p.rt l.2.toNat:Int))
theorem Ik (f:Nat)(l m:aY)(pv tv lv:Value)(nt nf n:Nat)(hn:n≤120)(hn0:0<n)(P0:List Nat)(p:Pl)(ls:List Cl)(o:lg nt nf n p)(Y:UF P0 p.ro)(XC:ls.map zK=p.lk)(Z:∀q∈ls,∀x∈q.2,an.wf x)(hlen:∀q∈ls,q.2.length≤1000000)(hnt:nt≤1000000)(r:Nat)(hr:r<n):dR prog 178 #[tW f,iv r] [tI f [l.1,m.1,pv,tv,lv] 288,row pv 3 1 p.ro.length (rows aI (cQ (P0))),row tv 3 1 p.ty.length (rows aI p.ty),row lv 164 1 ls.length (rows bU (ls.map Prod.fst)),aD (aL q9 ls)] (λv H'=>H'=[aD (cY (gY (q7 p) (p.rt r)) v)]):=by
 refine dR.body (args:=[tW f,iv r]) 68 func178 rfl ntmps178 rfl (λc=> ?_);refine go ?_
 have hRl:=o.lr
 have hTl:=o.lt
 have W:=o.ll
 have hll:ls.length=n:=by rw[←W,←XC,aR]
 refine go ?_;refine St.al (λX=> ?_);refine g4 ?_;refine St.al (λb5=> ?_);refine g14 ?_;refine St.dH 166 2 ?_;refine St.aN (.slice none 0 0) (show _=([]:List dy).length from rfl) (show _=rows cD []from rfl) ?_;refine St.ea cE ?_;refine St.pb (ι:=Nat) (κ:=Value×List dy×List Nat) (λk z T=>(15,iv k)::T) (λk z=>[tI b5 [z.1] 30,row z.1 166 2 (z.2.1).length (rows cD (z.2.1)),tI X [(.slice none 0 0)] 30,tI f [l.1,m.1,pv,tv,lv] 288,row pv 3 1 p.ro.length (rows aI (cQ (z.2.2))),row tv 3 1 p.ty.length (rows aI p.ty),row lv 164 1 ls.length (rows bU (ls.map Prod.fst)),aD (aL q9 ls),aD (aL cE z.2.1)]) (λk z=>k≤n∧z.1.oneCell'=true∧z.2.1.map lR=(q7 p).take k∧z.2.1.length=k∧UF z.2.2 p.ro∧(∀x∈z.2.1,cD.wf x)∧∀x∈z.2.1,x.aW.length≤1000000) (λk z=>n-k) 0 ((.slice none 0 0),[],P0) (aC.k5 0 1 4 5 14) ⟨aP _,rfl,rfl,rfl,Y,λx hx=>(by cases hx),λx hx=>(by cases hx)⟩ ?_;rintro k ⟨gv,N,P1⟩ ⟨hk,a,s,I,J,A,C⟩
 dsimp only at a s I J A C⊢
 obtain⟨rk,B,K⟩:=J;refine g6 ?_;refine St.cq (λh16=> ?_) (λh16=> ?_)
 ·have Ny:k<n:=by omega
  have hkt:=o.tt Ny
  have XB:bR (p.tt k):=by unfold bR;omega
  refine g18 ?_;refine St.ee (Ev.cx (.mk rfl) eK trivial zE (fm (SO zE))) ?_;refine St.ee (Ev.build (bC.ay rfl) (λw=>Og rfl w)) ?_;refine St.al (λb7=> ?_);refine g3 ?_;refine St.join (ι:=aY×List dq×List Nat) (λ⟨b,L,g⟩ T=>T) (λ⟨b,L,g⟩=>[tI b7 [iv (p.tt k),b.1] 166,tI b5 [gv] 30,row gv 166 2 (N).length (rows cD (N)),tI X [(.slice none 0 0)] 30,tI f [l.1,m.1,pv,tv,lv] 288,row pv 3 1 p.ro.length (rows aI (cQ (g))),row tv 3 1 p.ty.length (rows aI p.ty),row lv 164 1 ls.length (rows bU (ls.map Prod.fst)),aD (aL q9 ls),aD (aL cE N),aD (sl an b.1 L)]) (λ⟨b,L,g⟩=>UF g p.ro∧L.map fB=(if p.rt k=k then tlk p (p.ll k)else [])∧L.length≤1000000) (aC.k7 0 1 4 5 7 14 15) ?_ ?_
  ·refine g4 ?_
   refine St.call (find_spec f l m pv tv lv rk B p.ro zE P1 K k zE) Er (.ah rfl rfl) rfl ?_;rintro v28 _ ⟨P3,rfl,M,rfl⟩;refine St.mZ ?_;refine g4 ?_;refine St.cq (λh30=> ?_) (λh30=> ?_)
   ·have Hc:p.rt k=k:=(show p.ro.getD k 0=k by omega)
    obtain⟨q,D⟩:=aF (show k<ls.length by omega)
    have E:=aa D
    have O:p.ll k=q.2.map fB:=J8 XC D
    have hqL:=hlen q E
    refine St.cN q9 ls (x:=q) E ?_;refine St.gW (sl an q.1.1 q.2) [q9 q] (λρ h=>h _ (aV ..)) ?_;refine g8 ?_;refine St.ee (Ev.cx (.mk rfl) eT trivial zE (rB (show(ls.map Prod.fst)[k]?=some q.1 by rw[aw,D];rfl))) ?_;refine g5 ?_;refine St.dH 168 2 ?_;refine St.aN (.slice none 0 0) (show _=([]:List dq).length from rfl) (show _=rows an []from rfl) ?_;refine St.pb (ι:=Nat) (κ:=Value×List dq×List Nat) (λj z T=>(39,iv j)::T) (λj z=>[tI b7 [iv (p.tt k),z.1] 166,row z.1 168 2 (z.2.1).length (rows an (z.2.1)),tI b5 [gv] 30,row gv 166 2 (N).length (rows cD (N)),tI X [(.slice none 0 0)] 30,tI f [l.1,m.1,pv,tv,lv] 288,row pv 3 1 p.ro.length (rows aI (cQ (z.2.2))),row tv 3 1 p.ty.length (rows aI p.ty),row lv 164 1 ls.length (rows bU (ls.map Prod.fst)),aD (aL q9 ls),aD (aL cE N),aD (sl an q.1.1 q.2)]) (λj z=>j≤q.2.length∧z.1.oneCell'=true∧UF z.2.2 p.ro∧z.2.1.map fB=tlk p ((q.2.take j).map fB)∧z.2.1.length=j∧∀x∈z.2.1,an.wf x) (λj z=>q.2.length-j) 0 ((.slice none 0 0),[],P3) (aC.k9 0 1 4 5 7 14 15 37 38) ⟨aP _,rfl,⟨rk,B,M⟩,rfl,rfl,λx hx=>(by cases hx)⟩ ?_;rintro j ⟨lw,L,g⟩ ⟨hj,P,t,H,W,F⟩
    dsimp only at P t H W F⊢
    obtain⟨G,B2,Q⟩:=t;refine g6 ?_;refine St.cq (λh40=> ?_) (λh40=> ?_)
    ·obtain⟨x,hx⟩:=aF (show j<q.2.length by omega)
     obtain⟨_,V1,R⟩:=o.TK _ (o.lm Ny) (fB x) (by rw[O];exact di (aa hx))
     replace V1:0≤x.tqo:=V1
     replace R:x.tqo<n:=R
     obtain⟨d,hxd⟩:∃d,d=x.tqo.toNat:=⟨_,rfl⟩
     have hxt:x.tqo=(d:Int):=by omega
     have hrx:p.ro.getD d 0<n:=o.AP d zE
     refine g7 ?_;refine St.ee (Ev.j2 (.mk rfl) hx kY trivial da gX.eq) ?_;refine St.al (λb9=> ?_);refine g3 ?_;refine St.dZ [tI b7 [iv (p.tt k),lw] 166,row lw 168 2 (L).length (rows an (L)),tI f [l.1,m.1,pv,tv,lv] 288,row pv 3 1 p.ro.length (rows aI (cQ (g)))] mixed (λnp ns=> ?_)
     repeat' first
      |with_reducible refine SW.me ?_
       first
        |refine SW.gd 0 ?_
        |refine SW.gd 2 ?_
        |refine SW.gd 3 ?_
        |refine SW.gd 4 ?_
        |refine SW.gd 5 ?_
        |refine SW.gd 6 ?_
         refine SW.slot 49 (iv (d:Nat)) rfl (congrArg iv hxt) ?_
        |refine SW.dd 8 rfl (λ_=>Ev.build (ps:=[(0,(.tmp 46)),(1,(.tmp 50))]) (bC.ah rfl rfl) (λw=>sS rfl rfl w)) ?_
        |refine SW.gd 11 ?_
        |refine SW.t2 1 7 ?_ ?_
        |refine SW.t1 7 ?_
        |refine SW.t1 9 ?_
        |refine SW.t1 10 ?_
        |refine SW.t1 12 ?_
        |refine SW.t2 1 9 ?_ ?_
        |refine SW.t1 1 ?_
      |with_reducible refine SW.tg 1 ?_
       refine g3 ?_;refine SW.go ?_
      |with_reducible refine SW.tg 7 ?_
       refine St.call (find_spec f l m pv tv lv G B2 p.ro zE g Q d zE) Er (.ah rfl rfl) rfl ?_;rintro v50 _ ⟨P4,rfl,S,rfl⟩;refine St.mZ ?_;refine g2 ?_;refine SW.go ?_
      |with_reducible refine SW.tg 9 ?_
       refine St.hS rfl (.ay rfl) eT da mW rfl rfl (by simp[Value.cells]) rfl rfl (λb52=> ?_);refine g2 ?_;refine SW.go ?_
      |with_reducible refine SW.tg 10 ?_
       refine St.aq (.mk rfl) (.mk rfl) eT da mW tV (by simp[Value.oneCell',Value.cells]) zE zE rfl rfl rfl rfl (λv53 alC=> ?_);refine St.aN v53 (show _=(L++ [(⟨x.cu,(p.ro.getD d 0:Nat)⟩:dq)]).length from cH) (show _=rows an (L++ [(⟨x.cu,(p.ro.getD d 0:Nat)⟩:dq)]) by rw[bB];rfl) ?_;refine St.bQ v53 (λU _=> ?_);refine g2 ?_;refine SW.go ?_
      |with_reducible refine SW.tg 12 ?_
       refine St.bL (.mk rfl) (.mk rfl) sI U (by rfl) ?_;refine g2 ?_;refine SW.go ?_
     all_goals refine SW.dn ?_
     all_goals
      refine g7 ?_;refine St.py (j+1) (v53,L++ [⟨x.cu,(p.ro.getD d 0:Nat)⟩],P4) ⟨by omega,U,⟨G,B2,S⟩,by dsimp only;rw[cL,H,aO hx,cL];unfold tlk;rw[cL];congr 1;show [(x.cu,((p.ro.getD d 0:Nat):Int))]=[(x.cu,((p.rt x.tqo.toNat:Nat):Int))];rw[←hxd];rfl,by dsimp only;rw[bJ,W];rfl,λy hy=>by rcases cI.1 hy with h|h;exact F y h;rw[bN.1 h];exact⟨(Z q E x (aa hx)).1,by show bR ((p.ro.getD d 0:Nat):Int);unfold bR;omega⟩⟩
    ·obtain rfl:j=q.2.length:=by omega
     rw[dV (aQ _)]at H;refine St.bI lw an L rfl rfl F ?_;refine g5 ?_;refine St.mE ⟨⟨lw,P⟩,L,g⟩ ⟨⟨G,B2,Q⟩,by rw[aB Hc,O];exact H,by dsimp only;omega⟩
   ·have Hc:p.rt k≠k:=λe=>by have e2:p.ro.getD k 0=k:=e;omega
    refine g2 ?_;refine St.gb an ?_;refine St.mE ⟨cF,[],P3⟩ ⟨⟨rk,B,M⟩,by rw[aA Hc];rfl,aP _⟩
  ·rintro ⟨b,L,g⟩ ⟨t,H,aiC⟩
   refine g4 ?_;refine St.slot 58 (.agg #[iv (p.tt k),b.1]) rfl rfl ?_;refine St.hS rfl (.ay rfl) qC jb T0 rfl rfl (by simp[Value.cells]) rfl rfl (λb59=> ?_);refine St.aq (.mk rfl) (.mk rfl) qC jb T0 WX (by intro u hu;have V0:u∈[iv (p.tt k),b.1]:=hu;simp only[List.mem_cons,List.not_mem_nil,or_false]at V0;rcases V0 with rfl|rfl;rfl;exact b.2) zE zE rfl rfl rfl rfl (λv60 alF=> ?_);refine St.aN v60 (show _=(N++ [(⟨p.tt k,b,L⟩:dy)]).length from cH) (show _=rows cD (N++ [(⟨p.tt k,b,L⟩:dy)]) by rw[bB];rfl) ?_;refine St.bQ v60 (λh60 _=> ?_);refine St.gW (aL cE (N++ [(⟨p.tt k,b,L⟩:dy)])) [aL cE N,sl an b.1 L] (λρ h x hx=>by rcases cI.1 hx with hx|hx;exact h _ (aV ..) x hx;rw[bN.1 hx];exact h _ (bV _ (aV ..))) ?_;refine go ?_;refine St.bL (.mk rfl) (.mk rfl) ajO h60 (by rfl) ?_;refine g8 ?_;refine St.py (k+1) (v60,N++ [⟨p.tt k,b,L⟩],g) ⟨by omega,h60,by dsimp only;rw[cL,s,aO (Um (p:=p) (i:=k) zE)];congr 1;show [(p.tt k,L.map fB)]=_;rw[H];rfl,by dsimp only;rw[bJ,I];rfl,t,λx hx=>by rcases cI.1 hx with h|h;exact A x h;rw[bN.1 h];exact XB,λx hx=>by rcases cI.1 hx with h|h;exact C x h;rw[bN.1 h];exact aiC⟩
 ·obtain rfl:k=n:=by omega
  have hgl:(q7 p).length=k:=by rw[tx];exact hRl
  rw[dV zE]at s
  have aiP:=Pe o zE
  have hrr:=o.AP r hr
  refine St.bI gv cD N rfl rfl A ?_;refine St.gW (aJ ⟨⟨gv,a⟩,N⟩) [sl cD gv N,aL cE N] (λρ h=>h) ?_
  have V:ao ⟨⟨gv,a⟩,N⟩=q7 p:=s
  refine g6 ?_;refine St.dZ [tI f [l.1,m.1,pv,tv,lv] 288,row pv 3 1 p.ro.length (rows aI (cQ (P1))),tI X [(.slice none 0 0)] 30,aD (aJ ⟨⟨gv,a⟩,N⟩)] mixed (λnp ns=> ?_);refine SW.gd 0 ?_;refine SW.slot 63 (au ⟨⟨gv,a⟩,N⟩) rfl rfl ?_;refine SW.gd 1 ?_;refine SW.gd 2 ?_;refine SW.t1 3 ?_;refine St.call (find_spec f l m pv tv lv rk B p.ro zE P1 K r zE) Er (.ah rfl rfl) rfl ?_;rintro v66 _ ⟨P4,rfl,S,rfl⟩;refine St.mZ ?_;refine g2 ?_;refine SW.go ?_;refine SW.t1 4 ?_;refine St.dt (uz ⟨⟨gv,a⟩,N⟩ (by rw[V];exact aiP.lk) (by show N.length≤120;omega) C (p.ro.getD r 0) (show p.rt r<N.length by omega)) P7 (.ah rfl rfl) rfl ?_;rintro v67 _ rfl;refine St.eZ ?_;rw[V];refine St.cY (gY (q7 p) (p.ro.getD r 0)) v67 (λy hy=> ?_);obtain⟨rfl,L1⟩:=hy;refine g2 ?_;refine SW.go ?_;refine SW.t1 5 ?_;refine g3 ?_;refine SW.go ?_;refine SW.dn ?_;refine g2 ?_;refine St.rV [_] [aD (cY (gY (q7 p) (p.ro.getD r 0)) (au y))] ?_;exact rfl
theorem lg.short {nt nf n:Nat}{p:Pl}(hp:lg nt nf n p){l:kM}(c:l∈p.lk):l.length≤nf:=by
 have d:=hp.asc l c
 have hk:=hp.TK l c
 have e:(l.map λz=>z.1.toNat).Nodup:=by
  unfold List.Nodup;rw[oq];exact uo (λ{a b} h1 f h=>by have:=(hk a h1).1;have:=(hk b f).1;omega) d
 have:=kH e (n:=nf) (λj g=>by obtain⟨z,hz,rfl⟩:=cA.1 g;have:=(hk z hz).1;omega)
 rwa[aR]at this
theorem ae6 {x y:de}{a b:List Cl}{m:Nat}(hm:x.length=m)(h1:a.map zK=([]:List Cl).map zK++x.map (λn=>n.2.map λx=>(x.1,((0:Nat):Int)+x.2)))(c:b.map zK=a.map zK++y.map (λn=>n.2.map λx=>(x.1,(m:Int)+x.2))):b.map zK=(Pl.of x y).lk:=by
 rw[c,h1,←hm]
 show([]++x.map _)++_=x.map (·.2)++_
 rw[nQ]
 congr 1
 refine qw λn _=> ?_
 conv=>rhs;rw[←List.map_id n.2]
 exact qw λz _=>by simp
theorem ae1 {nt nf n:Nat}{p:Pl}(hp:lg nt nf n p)(e:nf≤100)(f:n≤240){ls:List Cl}(h:ls.map zK=p.lk):∀q∈ls,∀x∈q.2,an.wf x:=λq d x hx=>by
 have hm:zK q∈p.lk:=by rw[←h];exact di d
 obtain⟨⟨h1,a⟩,b,c⟩:=hp.TK _ hm (fB x) (di hx)
 have h1:0≤x.cu:=h1
 have a:x.cu<nf:=a
 have b:0≤x.tqo:=b
 have c:x.tqo<n:=c
 exact⟨by unfold bR;omega,by unfold bR;omega⟩
theorem Re {nt nf n:Nat}{p:Pl}(hp:lg nt nf n p)(b:nf≤100){ls:List Cl}(h:ls.map zK=p.lk):∀q∈ls,q.2.length≤1000000:=λq a=>by
 have hm:zK q∈p.lk:=by rw[←h];exact di a
 have:=hp.short hm
 have e:(zK q).length=q.2.length:=aR _
 omega
theorem ae8 (x y:de):(Pl.of x y).ro=List.range (x.length+y.length):=rfl
theorem ae7 {nt nf:Nat}{x y:de}(hx:dp nt nf x)(hy:dp nt nf y)(h1:x.length≤60)(c:y.length≤60)(o:nf≤100)(w:List (Int×Int))(hw:w.length≤10):(Pl.of x y).mu w≤1000000:=by
 have hp:=Pl.Qn hx hy
 have e:∀i,i<x.length+y.length→((Pl.of x y).ll i).length≤100:=λi d=>by
  have f:=hp.asc _ (hp.lm d)
  have hk:=hp.TK _ (hp.lm d)
  have:((Pl.of x y).ll i).length≤nf:=by
   have g:(((Pl.of x y).ll i).map λz=>z.1.toNat).Nodup:=by
    unfold List.Nodup;rw[oq];exact uo (λ{a b} h1 c h=>by have:=(hk a h1).1;have:=(hk b c).1;omega) f
   have:=kH g (n:=nf) (λj k=>by obtain⟨z,hz,rfl⟩:=cA.1 k;have:=(hk z hz).1;omega)
   rwa[aR]at this
  omega
 have l:∀n,n≤x.length+y.length→fb (λi=>if(Pl.of x y).rt i=i then((Pl.of x y).ll i).length else 0) n≤n*100:=by
  intro n
  induction n with
  |zero=>intro _;exact aP _
  |succ n m=>
   intro h
   have:=m zE
   have:=e n zE
   rw[fb]
   split<;>omega
 have:=l _ (aQ _)
 unfold Pl.mu Pl.left;rw[hp.lr];omega
theorem qy (d e:aY)(T:List eM)(P:iJ T)(nf:Nat)(A:nf≤100)(a b:ct)(B:dp T.length nf (ao a))(x:dp T.length nf (ao b))(V:a.nodes.length≤60)(W:b.nodes.length≤60)(C:∀t∈a.nodes,t.aW.length≤1000000)(D:∀t∈b.nodes,t.aW.length≤1000000)(node:Nat)(hnd:node<a.nodes.length):dR prog 119 #[jc d e,au a,iv node,au b] ([sl ax d.1 (dN T),sl ax e.1 (dM T),tz,aJ a,aJ b].map aD) (λv H'=>∃u,v= .tuple #[u,.bool (dE (ga T) (ao a) node (ao b)).isSome]∧H'=[aD (cY ((dE (ga T) (ao a) node (ao b)).getD []) u)]):=by
 refine dR.body (args:=[jc d e,au a,iv node,au b]) 27 func119 rfl ntmps119 rfl (λc=> ?_);refine St.cast (H':=[aD (sl ax d.1 (dN T)),aD (sl ax e.1 (dM T)),aD (tz),aD (aJ a),aD (aJ b)]) rfl ?_;refine go ?_
 have f:=cj a
 have j:=cj b
 have hTl:=P.len
 have k:=Pl.Qn B x
 have E:=ae7 B x zE zE A [((node:Int),((ao a).length:Int))] (by simp)
 refine go ?_;refine St.cW (.mk rfl) rfl (λb4=> ?_);refine St.cW (.mk rfl) rfl (λb5=> ?_);refine St.cW (.mk rfl) rfl (λb7=> ?_);refine St.al (λb8=> ?_);refine g6 ?_;refine St.slot 11 (jc d e) rfl rfl ?_;refine St.ee (Ev.build (bC.ay rfl) (λw=>Oi w)) ?_;refine St.cW (.mk rfl) rfl (λz=> ?_);refine g4 ?_;refine St.dH 3 1 ?_;refine St.aN (.slice none 0 0) (show _=(List.range 0).length from rfl) (show _=rows aI (cQ (List.range 0))from rfl) ?_;refine St.dH 164 1 ?_;refine St.aN (.slice none 0 0) (show _=([]:List Cl).length from rfl) (show _=rows bU (([]:List Cl).map Prod.fst)from rfl) ?_;refine St.dH 3 1 ?_;refine St.aN (.slice none 0 0) (show _=([]:List Int).length from rfl) (show _=rows aI []from rfl) ?_;refine St.ea q9 ?_;refine g3 ?_;refine St.slot 15 (au a) rfl rfl ?_;refine St.call (uK z d e a B.lk zE C 0 zE [] rfl [] rfl (.slice none 0 0) (.slice none 0 0) (.slice none 0 0) ⟨rfl,rfl,rfl⟩) Wt (.ah rfl rfl) rfl ?_;rintro X _ ⟨pv,tv,lv,l,rfl,⟨h1,Y,Z⟩,m,rfl⟩;refine St.yP ?_;refine g9 ?_;refine St.slot 20 (au b) rfl rfl ?_
 have TG:l.length=a.nodes.length:=by have:=congrArg List.length m;simpa[f]using this
 refine St.aN pv (show _=(List.range a.nodes.length).length by rw[iW]) (show _=rows aI (cQ (List.range a.nodes.length)) by rw[iW]) ?_;refine St.aN tv (show _=(a.nodes.map dy.type).length from rfl) (show _=rows aI (a.nodes.map dy.type)from rfl) ?_;refine St.call (uK z d e b x.lk zE D a.nodes.length zE (a.nodes.map dy.type) (aR _) l TG pv tv lv ⟨h1,Y,Z⟩) Wt (.ah rfl rfl) rfl ?_;rintro v21 _ ⟨g,i,n,o,rfl,F,G,rfl⟩;refine St.yP ?_
 have q:(Pl.of (ao a) (ao b)).ro=List.range (a.nodes.length+b.nodes.length):=by rw[ae8,f,j]
 have Q:(Pl.of (ao a) (ao b)).ty=a.nodes.map dy.type++b.nodes.map dy.type:=by show(ao a).map Prod.fst++(ao b).map Prod.fst=_;show(a.nodes.map lR).map Prod.fst++(b.nodes.map lR).map Prod.fst=_;rw[iX,iX];rfl
 have R:o.map zK=(Pl.of (ao a) (ao b)).lk:=ae6 f m G
 have H:=ae1 k A zE R
 refine St.aN g (show _=(Pl.of (ao a) (ao b)).ro.length by rw[q]) (show _=rows aI (cQ (List.range (a.nodes.length+b.nodes.length)))from rfl) ?_;refine St.aN i (show _=(Pl.of (ao a) (ao b)).ty.length by rw[Q]) (show _=rows aI (Pl.of (ao a) (ao b)).ty by rw[Q]) ?_;refine St.call (N0 z d e g i n F T P nf (a.nodes.length+b.nodes.length) 1000000 zE (aQ _) (List.range (a.nodes.length+b.nodes.length)) (Pl.of (ao a) (ao b)) o node (a.nodes.length:Nat) ⟨by omega,by omega⟩ ⟨by omega,by have:=x.pos;omega⟩ (by rw[←f,←j];exact k) (by rw[q];exact UF.range _) R H (by rw[←f];exact E)) acH (.fk rfl rfl rfl) rfl ?_;rintro v22 _ ⟨S,P1,p,I,rfl,Yx,J,rfl⟩;refine St.yP ?_;refine g3 ?_;refine St.cond _ rfl (λK=> ?_) (λK=> ?_)
 ·skip
  have L:S=false:=by simpa using K
  have M:=Yx L
  have r:dE (ga T) (ao a) node (ao b)=none:=by unfold dE;rw[f];rw[M];rfl
  refine g2 ?_;refine St.ee (Ev.build (bC.nil) (λw=>YL w)) ?_;refine g6 ?_;refine St.gb cD ?_;refine St.ea cE ?_;refine St.gW (cY ((dE (ga T) (ao a) node (ao b)).getD []) (.agg #[(.slice none 0 0)])) [sl cD (.slice none 0 0) [],aL cE []] (λρ h=>⟨⟨cF,[]⟩,rfl,by rw[r];rfl,h⟩) ?_;refine St.rV [_,_] [aD (cY ((dE (ga T) (ao a) node (ao b)).getD []) (.agg #[(.slice none 0 0)]))] ?_;exact⟨_,by rw[r];rfl,rfl⟩
 ·skip
  have Hc:S=true:=by simpa using K
  obtain⟨M,U,N,s,O⟩:=J Hc
  have r:dE (ga T) (ao a) node (ao b)=some (gY (q7 p) (p.rt 0)):=by unfold dE;rw[f,M];rfl
  refine g5 ?_;refine St.call (Ik z d e g i n T.length nf (a.nodes.length+b.nodes.length) zE zE P1 p I U N s O (Re U A s) zE 0 zE) acI (.ah rfl rfl) rfl ?_;rintro v26 _ rfl;refine St.eZ ?_;refine St.cY (gY (q7 p) (p.rt 0)) v26 (λy hy=> ?_);obtain⟨rfl,L1⟩:=hy;refine g5 ?_;refine St.gW (cY ((dE (ga T) (ao a) node (ao b)).getD []) (au y)) [cY (gY (q7 p) (p.rt 0)) (au y)] (λρ h=>by rw[r];exact h _ (aV ..)) ?_;refine St.rV [_,_] [aD (cY ((dE (ga T) (ao a) node (ao b)).getD []) (au y))] ?_;exact⟨_,by rw[r];rfl,rfl⟩
theorem fi {nt nf:Nat}{g:ct}(h:dp nt nf (ao g))(m:nf≤100):∀t∈g.nodes,Asc t.aW∧t.aW.length≤100:=λt ht=>by
 obtain⟨_,c,hk⟩:=h.nd (lR t) (di ht)
 have c:sO (t.aW.map fB):=c
 have hk:∀x∈t.aW.map fB,(0≤x.1∧x.1<nf)∧0≤x.2∧x.2<(ao g).length:=hk
 refine⟨λi j x y f hx hy=> ?_,?_⟩
 ·have d:=ag hy
  have e:=ag hx
  have:=List.pairwise_iff_getElem.1 c i j (by simpa using e) (by simpa using d) f
  rw[List.getElem_map,List.getElem_map]at this;rw[aj e]at hx;rw[aj d]at hy;obtain rfl:=Option.some.inj hx;obtain rfl:=Option.some.inj hy;exact this
 ·have k:((t.aW.map fB).map λz=>z.1.toNat).Nodup:=by
   unfold List.Nodup;rw[oq];exact uo (λ{a b} h1 l h=>by have:=(hk a h1).1;have:=(hk b l).1;omega) c
  have:=kH k (n:=nf) (λj d=>by obtain⟨z,hz,rfl⟩:=cA.1 d;have:=(hk z hz).1;omega)
  rw[aR,aR]at this;omega
theorem A1 (G:de)(k:Int):H6 G 0 k=rZ G k:=rfl
theorem Zt {mt:Nat→Nat→Option Nat}{x y:de}{a:Int}{n:Nat}(b:(rZ x a).toNat=n){z:de}(hz:z=(dE mt x n y).getD []):((dE mt x n y).isSome&&decide ((z.length:Int)≤60))=(mg mt x a y).isSome∧∀w,mg mt x a y=some w→z=w:=by
 subst b;unfold mg
 cases h:dE mt x (rZ x a).toNat y with
 |none=>rw[h]at hz;exact⟨rfl,λw hw=>by cases hw⟩
 |some u=>
  rw[h]at hz;obtain rfl:z=u:=hz
  dsimp only
  by_cases c:z.length≤60
  ·rw[aB c];exact⟨by simp;omega,λw hw=>Option.some.inj hw⟩
  ·rw[aA c];exact⟨by simp;omega,λw hw=>by cases hw⟩
theorem qJ (x:ct)(nt nf:Nat)(d:nf≤100)(hx:dp nt nf (ao x))(e:x.nodes.length≤120)(i:0≤rZ (ao x) 0):dR prog 165 #[au x] ([aJ x].map aD) (λv H'=>H'=[aD (cY (lJ (ao x)) v)]):=by
 refine dR.body (args:=[au x]) 7 func165 rfl ntmps165 rfl (λc=> ?_);refine St.cast (H':=[aD (aJ x)]) rfl ?_;refine go ?_
 have j:=cj x
 have a:=fi hx d
 have k:=hx.pos
 have f:=A0 hx 0
 obtain⟨r,g⟩:∃r,r=(rZ (ao x) 0).toNat:=⟨_,rfl⟩
 refine go ?_;refine St.cW (.mk rfl) rfl (λl=> ?_);refine St.al (λh=> ?_);refine g3 ?_;refine St.dup (aJ x) ?_;refine St.dZ [tI h [(.slice none 0 0)] 30,aD (aJ x)] mixed (λm o=> ?_);refine SW.gd 0 ?_;refine SW.slot 3 (au x) rfl rfl ?_;refine SW.gd 1 ?_;refine SW.slot 4 (au x) rfl rfl ?_;refine SW.dd 2 rfl (λ_=>Ev.call (mo x 0 0 zE (λn b=>⟨(a n b).1,by have:=(a n b).2;omega⟩)) Tw (.fk rfl rfl rfl)) ?_;refine SW.slot 5 (iv (r:Nat)) rfl (congrArg iv (by rw[A1];omega)) ?_;refine SW.t1 3 ?_;refine St.dt (uz x hx.lk e (λt ht=>by have:=(a t ht).2;omega) r zE) P7 (.ah rfl rfl) rfl ?_;rintro v6 _ rfl;refine St.eZ ?_;rw[show gY (ao x) r=lJ (ao x) by unfold lJ;rw[←g]];refine St.cY (lJ (ao x)) v6 (λy hy=> ?_);obtain⟨rfl,p⟩:=hy;refine g2 ?_;refine SW.go ?_;refine SW.t1 4 ?_;refine g3 ?_;refine SW.go ?_;refine SW.dn ?_;refine g2 ?_;refine St.rV [_] [aD (cY (lJ (ao x)) (au y))] ?_;exact rfl
theorem qz (b d:aY)(T:List eM)(o:iJ T)(nf:Nat)(l:nf≤100)(x y:ct)(e:Int)(hx:dp T.length nf (ao x))(hy:dp T.length nf (ao y))(p:x.nodes.length≤60)(q:y.nodes.length≤60)(H:0≤rZ (ao x) e):dR prog 172 #[jc b d,au x,iv e,au y] ([sl ax b.1 (dN T),sl ax d.1 (dM T),tz,aJ x,aJ y].map aD) (λv H'=>∃u z,v= .tuple #[u,.bool (mg (ga T) (ao x) e (ao y)).isSome]∧(∀w,mg (ga T) (ao x) e (ao y)=some w→z=w)∧H'=[aD (cY z u)]):=by
 refine dR.body (args:=[jc b d,au x,iv e,au y]) 30 func172 rfl ntmps172 rfl (λc=> ?_);refine St.cast (H':=[aD (sl ax b.1 (dN T)),aD (sl ax d.1 (dM T)),aD (tz),aD (aJ x),aD (aJ y)]) rfl ?_;refine go ?_
 have I:=cj x
 have a:=fi hx l
 have g:=fi hy l
 have J:=hx.pos
 have A:=A0 hx e
 obtain⟨r,B⟩:∃r,r=(rZ (ao x) e).toNat:=⟨_,rfl⟩
 refine go ?_;refine St.cW (.mk rfl) rfl (λK=> ?_);refine St.cW (.mk rfl) rfl (λL=> ?_);refine St.cW (.mk rfl) rfl (λM=> ?_);refine St.al (λC=> ?_);refine g4 ?_;refine St.dup (aJ x) ?_;refine St.dZ [aD (sl ax b.1 (dN T)),aD (sl ax d.1 (dM T)),aD tz,aD (aJ x),aD (aJ y)] mixed (λi j=> ?_);refine SW.gd 0 ?_;refine SW.slot 13 (jc b d) rfl rfl ?_;refine SW.gd 1 ?_;refine SW.slot 14 (au x) rfl rfl ?_;refine SW.gd 2 ?_;refine SW.slot 15 (au x) rfl rfl ?_;refine SW.gd 3 ?_;refine SW.dd 4 rfl (λ_=>Ev.call (mo x 0 e zE (λn s=>⟨(a n s).1,by have:=(a n s).2;omega⟩)) Tw (.fk rfl rfl rfl)) ?_;refine SW.slot 17 (iv (r:Nat)) rfl (congrArg iv (by rw[A1];omega)) ?_;refine SW.gd 5 ?_;refine SW.slot 18 (au y) rfl rfl ?_;refine SW.t2 6 10 ?_ ?_
 focus
  refine St.dt (qy b d T o nf l x y hx hy p q (λt ht=>by have:=(a t ht).2;omega) (λt ht=>by have:=(g t ht).2;omega) r zE) KU (.pL rfl rfl rfl rfl) rfl ?_;rintro m _ ⟨u,rfl,rfl⟩;refine St.eZ ?_;refine St.cY ((dE (ga T) (ao x) r (ao y)).getD []) u (λz hz=> ?_);obtain⟨rfl,k⟩:=hz;refine g2 ?_;refine SW.go ?_;refine SW.gd 7 ?_;refine SW.gd 8 ?_;refine SW.gd 9 ?_;refine SW.t1 10 ?_;refine St.al (λD=> ?_);refine g2 ?_;refine SW.go ?_;refine SW.t1 11 ?_;refine g3 ?_;refine SW.go ?_;refine SW.gd 12 ?_;refine SW.dn ?_
 rotate_left
 focus
  refine St.al (λD=> ?_);refine g2 ?_;refine SW.go ?_;refine SW.t1 6 ?_;refine St.dt (qy b d T o nf l x y hx hy p q (λt ht=>by have:=(a t ht).2;omega) (λt ht=>by have:=(g t ht).2;omega) r zE) KU (.pL rfl rfl rfl rfl) rfl ?_;rintro m _ ⟨u,rfl,rfl⟩;refine St.eZ ?_;refine St.cY ((dE (ga T) (ao x) r (ao y)).getD []) u (λz hz=> ?_);obtain⟨rfl,k⟩:=hz;refine g2 ?_;refine SW.go ?_;refine SW.gd 7 ?_;refine SW.gd 8 ?_;refine SW.gd 9 ?_;refine SW.t1 11 ?_;refine g3 ?_;refine SW.go ?_;refine SW.gd 12 ?_;refine SW.dn ?_
 all_goals
  refine g2 ?_;refine St.gW (sl cD z.nv.1 z.nodes) [aJ z] (λρ h=>h (aJ z) (aV ..) _ (aV ..)) ?_;obtain⟨E,F⟩:=Zt (mt:=ga T) (y:=ao y) B.symm k
  have G:=cj z
  refine St.dZ [tI C [(.slice none 0 0)] 30] mixed (λi j=> ?_);refine SW.gd 0 ?_;refine SW.slot 22 (au z) rfl rfl ?_;refine SW.gd 1 ?_;refine SW.gd 2 ?_;refine SW.gt 3 _ i j rfl rfl rfl (λR f=>Ev.cB (.mk rfl) vK) (by kernel_rfl) rfl ?_;refine SW.gt 4 _ i j rfl rfl rfl (λR f=>Ev.gh (aX.gv rfl f) qC trivial (by rfl)) (by kernel_rfl) rfl ?_;refine SW.gt 5 _ i j rfl rfl rfl (λR f=>Ev.eu (aX.gv rfl f) qC) (by kernel_rfl) rfl ?_;refine SW.gt 6 _ i j rfl rfl rfl (λR f=>Ev.leq (aX.gv rfl f) (.mk rfl)) (by kernel_rfl) rfl ?_;refine SW.gd 7 ?_;refine SW.t1 8 ?_;refine g3 ?_;refine SW.go ?_;refine SW.gd 9 ?_;refine SW.dn ?_;refine g2 ?_;refine St.gW (cY (ao z) (au z)) [aJ z] (λρ h=>⟨z,rfl,rfl,h _ (aV ..)⟩) ?_;refine St.rV [_,_] [aD (cY (ao z) (au z))] ?_;refine⟨au z,ao z,?_,F,rfl⟩;rw[←E,G]
  first|rfl|(cases N:(dE (ga T) (ao x) r (ao y)).isSome<;>simp)
end Go.Proofs.YtiefglecbgdaiaaGreatDoor
namespace Go.J
open Go
def bK {α:Type}(f:α→List ai)(l:List α):List ai:=l.flatMap f
theorem mD {α:Type}(f:α→List ai)(a:α)(l:List α):bK f (a::l)=f a++bK f l:=rfl
theorem Up {α:Type}(f:α→List ai)(l m:List α):bK f (l++m)=bK f l++bK f m:=pk
theorem r6 {α:Type}(f:α→List ai):∀{l:List α} {i:Nat} {a:α},l[i]?=some a→(bK f l).Perm (f a++bK f (l.eraseIdx i))
 | [],_,_,h=>by cases h
 |b::l,0,a,h=>by
  obtain rfl:=Option.some.inj h;exact .refl _
 |b::l,i+1,a,h=>by
  rw[List.eraseIdx_cons_succ,mD,mD];refine((r6 f (l:=l) h).append_left (f b)).trans ?_;rw[←cr,←cr];exact kB.append_right _
theorem vN {α:Type}(f:α→List ai):∀{l:List α} {i:Nat} (a:α),i<l.length→(f a++bK f (l.eraseIdx i)).Perm (bK f (l.set i a))
 | [],_,_,h=>by cases h
 |b::l,0,a,_=> .refl _
 |b::l,i+1,a,h=>by
  rw[List.eraseIdx_cons_succ,HV,mD,mD];refine List.Perm.trans ?_ ((vN f (l:=l) a (Nat.lt_of_succ_lt_succ h)).append_left (f b));rw[←cr,←cr];exact kB.append_right _
class lh (X X' H:List ai)(H':outParam (List ai)):Prop where
 eq:∃L,H=L++X∧H'=L++X'
instance (priority:=high) lh.here (X X':List ai):lh X X' X X':=⟨⟨[],rfl,rfl⟩⟩
instance lh.there (X X' H H':List ai)(E:ai)[h:lh X X' H H']:lh X X' (E::H) (E::H'):=⟨let⟨L,a,b⟩:=h.eq;⟨E::L,by rw[a];rfl,by rw[b];rfl⟩⟩
section
variable {n:Nat}{F:Fr}{c:Ctx}{H H' R:List ai}{T:Act→World→Prop}
theorem St.perm (hp:H.Perm H')(h:St n F (Mm c H') T):St n F (Mm c H) T:=h.ny λ_ hw=>let⟨_,k⟩:=hw.out;Mm.mk (k.perm hp)
theorem St.tail (X X':List ai)(hp:X.Perm X')[t:lh X X' H H'](h:St n F (Mm c H') T):St n F (Mm c H) T:=by
 obtain⟨L,a,b⟩:=t.eq;refine St.perm ?_ h;rw[a,b];exact hp.append_left L
theorem St.pQ (r X X':List ai)(hp:(r++X).Perm X')[d:eS r H R][t:lh X X' R H'](h:St n F (Mm c H') T):St n F (Mm c H) T:=by
 obtain⟨L,a,b⟩:=t.eq;refine St.perm (d.perm.trans ?_) h;rw[a,b,←cr];refine(kB.append_right X).trans ?_;rw[cr];exact hp.append_left L
end
theorem dz.bK {α:Type}(f:α→List ai)(b:∀a,dz (f a))(l:List α):dz (J.bK f l):=λE c ρ mY w k=>by
 obtain⟨a,_,h⟩:=List.mem_flatMap.1 c;exact b a E h ρ mY w k
class yG (X H:List ai)(R:outParam (List ai→List ai)):Prop where
 eq:∃L,H=L++X∧∀Y,R Y=L++Y
instance (priority:=high) yG.here (X:List ai):yG X X (λY=>Y):=⟨⟨[],rfl,λ_=>rfl⟩⟩
instance yG.there (X H:List ai)(R:List ai→List ai)(E:ai)[h:yG X H R]:yG X (E::H) (λY=>E::R Y):=⟨let⟨L,a,b⟩:=h.eq;⟨E::L,by rw[a];rfl,λY=>by rw[b];rfl⟩⟩
instance (priority:=high) eS.tail {α β:Type}(f:α→List ai)(g:β→List ai)(l:List α)(m:List β):eS (bK f l++bK g m) (bK f l++bK g m) []:=⟨by rw[fV]⟩
instance eS.aaY {α β:Type}(f:α→List ai)(g:β→List ai)(l:List α)(m:List β)(E:ai)(H R:List ai)[h:eS (bK f l++bK g m) H R]:eS (bK f l++bK g m) (E::H) (E::R):=
 ⟨(h.perm.cons E).trans sN.symm⟩
section
variable {P:Program}{n:Nat}{F:Fr}{c:Ctx}{H H1:List ai}{Q:Exit→Act→World→Prop}{ops:Array Oper}{rest:List Oper}{d:Nat}{ty:TypeId}{pos:String}{after:Array Edge}
theorem St.wR {dr:Prop}{f:FuncId}{xs:List Operand}{g:Array TypeId}{vs:List Value}{ds:List dQ}{L X:List ai}{R:List ai→List ai}{post:Value→List ai→List ai→Prop}(i:c.dr→dr)
 (j:EP dr P f vs.toArray (ds.map aD++(L++X)) (λv H'=>∃L' X',H'=L'++X'∧post v L' X')) (l:aG P f) (hx:bC F xs vs) (hd:Nat.ble (d+1) n=true) [m:kh ds H] [o:eS L H H1] [p:yG X H1 R]
 (h:∀v L' X',post v L' X'→St n ((d,v)::F) (Mm c (L'++R X')) (wpList P ops Q rest)):
 St n F (Mm c H) (wpList P ops Q ({dst:=some d,op:= .call {callee:= .value (.func f),args:=xs.toArray,argTypes:=g},type:=ty,pos:=pos,after:=after,guard:=none}::rest)):=by
 intro a w b hw;obtain⟨K,q,e2⟩:=p.eq;refine gT rfl (fh (caps:=[]) l (bC.cons (aX.mk rfl) hx) b w ?_)
 simp only[List.append_nil]
 have hp:(ds.map aD++H).Perm ((ds.map aD++(L++X))++K):=by
  rw[cr];refine List.Perm.append_left _ (o.perm.trans ?_);rw[q,cr];exact List.Perm.append_left L kB
 obtain⟨_,k⟩:=(hw.mS (ds:=ds)).out;refine(Mm.wR j i (Mm.mk (k.perm hp))).mono ?_;rintro e w' ⟨u,H',rfl,⟨L',X',rfl,r⟩,hm⟩;refine⟨u,rfl,h u L' X' r _ w' (b.put (eI hd) u) ?_⟩;obtain⟨_,s⟩:=hm.out;refine Mm.mk (s.perm ?_);rw[e2,cr];exact List.Perm.append_left L' kB
theorem St.yW {f:FuncId}{xs:List Operand}{a:Array TypeId}{vs:List Value}{ds:List dQ}{L X:List ai}{R:List ai→List ai}{post:Value→List ai→List ai→Prop}
 (b:dR P f vs.toArray (ds.map aD++(L++X)) (λv H'=>∃L' X',H'=L'++X'∧post v L' X')) (e:aG P f) (hx:bC F xs vs) (hd:Nat.ble (d+1) n=true) [g:kh ds H] [i:eS L H H1] [j:yG X H1 R]
 (h:∀v L' X',post v L' X'→St n ((d,v)::F) (Mm c (L'++R X')) (wpList P ops Q rest)):
 St n F (Mm c H) (wpList P ops Q ({dst:=some d,op:= .call {callee:= .value (.func f),args:=xs.toArray,argTypes:=a},type:=ty,pos:=pos,after:=after,guard:=none}::rest)):=
 St.wR (λ_=>trivial) b e hx hd h
end
end Go.J
namespace Go.Proofs.YtiefglecbgdaiaaGreatDoor
open Go Go.J Tryz
structure nW where
 rule:Int
 lex:Int
 kv:aY
 kids:List Nat
structure cK where
 frm:Nat
 tqo:Nat
 cV:Nat
 gr:ct
 wv:aY
 bb:List nW
 tv:aY
 bW:List Int
def lY:Rp nW:=⟨3,by decide,λw=>[iv w.rule,iv w.lex,w.kv.1],λw=>bR w.rule∧bR w.lex,λ_=>rfl,λw u h=>dv rfl (dv rfl (dv w.kv.2 λ_ h=>by cases h)) u h⟩
def eE:Rp cK:=⟨6,by decide,λx=>[iv (x.frm:Nat),iv (x.tqo:Nat),iv (x.cV:Nat),x.gr.nv.1,x.wv.1,x.tv.1],λ_=>True,λ_=>rfl,λx u h=>dv rfl (dv rfl (dv rfl (dv x.gr.nv.2 (dv x.wv.2 (dv x.tv.2 λ_ h=>by cases h))))) u h⟩
abbrev bx (l:List Nat):List Int:=l.map λi:Nat=>(i:Int)
theorem du (l:List Nat):(bx l).length=l.length:=aR _
theorem kG (l:List Nat)(i:Nat):bx (l++ [i])=bx l++ [(i:Int)]:=by rw[bx,cL];rfl
theorem iZ {l:List Nat}{k i:Nat}(h:l[k]?=some i):(bx l)[k]?=some (i:Int):=by rw[aw,h];rfl
def iy (a:TypeId)(w:nW):List ai:=[row w.kv.1 a 1 w.kids.length (rows aI (bx w.kids))]
def eR (b a:TypeId)(x:cK):List ai:=row x.wv.1 b 3 x.bb.length (rows lY x.bb)::row x.tv.1 a 1 x.bW.length (rows aI x.bW)::bK (iy a) x.bb
def fa (a:TypeId)(p:aY×List Nat):List ai:=[row p.1.1 a 1 p.2.length (rows aI (bx p.2))]
def uy (w:nW):o9:=⟨w.rule,w.lex,w.kids⟩
def dW (x:cK):iq:=⟨⟨x.frm,x.tqo,x.cV,ao x.gr⟩,x.bb.map uy,x.bW⟩
def xF (m:List (ab×Value))(its:List iq):Prop:=∀k,nc m k=(xN its k).map λi:Nat=>iv (i:Int)
theorem V6 {its:List iq}{i:Nat}(w:o9)(k:ab):xN (its.modify i λit=>it.put w) k=xN its k:=by
 unfold xN
 induction its generalizing i with
 |nil=>simp
 |cons a its b=>
  cases i with
  |zero=>rw[List.modify_zero_cons,List.findIdx?_cons,List.findIdx?_cons];rfl
  |succ i=>rw[List.modify_succ_cons,List.findIdx?_cons,List.findIdx?_cons,b]
theorem QA (its:List iq)(it:iq)(k:ab):xN (its++ [it]) k=match xN its k with
 |some i=>some i
 |none=>if fD it.ed=k then some its.length else none:=by
 unfold xN;rw[List.findIdx?_append]
 cases h:its.findIdx? λit=>decide (fD it.ed=k)with
 |some i=>rfl
 |none=>
  rw[Option.none_or,List.findIdx?_cons]
  by_cases e:fD it.ed=k
  ·rw[dI e,aB rfl,aB e];simp
  ·rw[e9 e,aA (by decide),aA e];rfl
theorem xF.nil:xF [] []:=λ_=>rfl
theorem xF.put {m:List (ab×Value)}{its:List iq}(h:xF m its)(i:Nat)(w:o9):xF m (its.modify i λit=>it.put w):=λk=>by rw[V6];exact h k
theorem xF.new {m:List (ab×Value)}{its:List iq}(h:xF m its){it:iq}(a:xN its (fD it.ed)=none):xF (jP m (fD it.ed) (iv its.length)) (its++ [it]):=λk=>by
 rw[QA,zN]
 by_cases e:k=fD it.ed
 ·subst e;rw[aB rfl,a];dsimp only;rw[aB rfl];rfl
 ·rw[aA e,h k]
  cases xN its k with
  |some i=>rfl
  |none=>dsimp only;rw[aA (λx=>e x.symm)]
structure mm where
 fj:aY
 its:List cK
 nG:aY
 bf:List (aY×List Nat)
 m:List (ab×Value)
def mm.cs (d:mm):Cs:=⟨d.its.map dW,d.bf.map Prod.snd⟩
def mm.tail (b a:TypeId)(d:mm):List ai:=bK (eR b a) d.its++bK (fa a) d.bf
theorem wr8 (i:Int):IntKind.u8.wrap i=((jR i).toNat:Int):=by
 have h:∀k:Nat,k<256→(UInt8.ofNat k).toNat=k:=λk hk=>by
  show k%256=k
  omega
 unfold jR;rw[h _ zE];unfold IntKind.wrap
 simp[IntKind.bits,IntKind.signed]
 omega
abbrev IQ (frm tqo cV:Nat)(u:Value):Value:= .agg #[iv (frm:Nat),iv (tqo:Nat),iv (cV:Nat),u]
theorem N3 (l:de)(n:Nw):zA (l++ [n])=zA l++(jR n.1::jR (n.2.length:Nat)::vR n.2):=by
 unfold zA;rw[pk];simp
theorem N4 (l:kM)(n:Int×Int):vR (l++ [n])=vR l++ [jR n.1,jR n.2]:=by
 unfold vR;rw[pk];simp
theorem Q8 (frm tqo cV:Nat)(g:ct)(l:g.nodes.length≤100)(m:∀t∈g.nodes,t.aW.length≤1000):dR prog 204 #[IQ frm tqo cV g.nv.1] ([aJ g].map aD) (λv H'=>v=sv (fD ⟨frm,tqo,cV,ao g⟩)∧H'=[]):=by
 refine dR.body (args:=[IQ frm tqo cV g.nv.1]) 56 func204 rfl ntmps204 rfl (λc=> ?_);refine St.cast (H':=[aD (aJ g)]) rfl ?_;refine go ?_
 refine St.gG (aJ g) (λ_:Unit=>jV g) (λρ h=>⟨(),h⟩) λ_=> ?_
 refine St.cast (H':=[aD (sl cD g.nv.1 g.nodes),aD (aL cE g.nodes),aD (aJ g)]) rfl ?_
 have X9:=cj g
 refine go ?_;refine St.cW (.mk rfl) rfl (λf=> ?_);refine g7 ?_;refine St.ee (Ev.tZ (.mk rfl) (by rw[eK];rfl) HI) ?_;refine St.slot 10 (.int .u8 ((jR (frm:Nat)).toNat:Int)) rfl (congrArg (Value.int .u8) (wr8 _)) ?_;refine g2 ?_;refine St.ee (Ev.tZ (.mk rfl) (by rw[eK];rfl) HI) ?_;refine St.slot 13 (.int .u8 ((jR (tqo:Nat)).toNat:Int)) rfl (congrArg (Value.int .u8) (wr8 _)) ?_;refine g2 ?_;refine St.ee (Ev.tZ (.mk rfl) (by rw[eK];rfl) HI) ?_;refine St.slot 16 (.int .u8 ((jR (cV:Nat)).toNat:Int)) rfl (congrArg (Value.int .u8) (wr8 _)) ?_;refine St.hS rfl (.fk rfl rfl rfl) CO sz5 zv5 rfl rfl (by simp[Value.cells]) rfl rfl (λi=> ?_);refine St.aN (tO i 3 3) (show _=([jR (frm:Nat),jR (tqo:Nat),jR (cV:Nat)]).length from rfl) (show _=rows u8R [jR (frm:Nat),jR (tqo:Nat),jR (cV:Nat)]from rfl) ?_;refine g14 ?_;refine St.pb (ι:=Nat) (κ:=Value×ab) (λk z T=>(22,iv k)::(3,z.1)::T) (λk z=>[row z.1 5 1 (z.2).length (rows u8R (z.2)),tI f [iv (frm:Nat),iv (tqo:Nat),iv (cV:Nat),g.nv.1] 226,aD (sl cD g.nv.1 g.nodes),aD (aL cE g.nodes),aD (aJ g)]) (λk z=>k≤g.nodes.length∧z.1.oneCell'=true∧z.2=[jR (frm:Nat),jR (tqo:Nat),jR (cV:Nat)]++zA ((ao g).take k)∧z.2.length≤3+k*2002) (λk z=>g.nodes.length-k) 0 ((tO i 3 3),[jR (frm:Nat),jR (tqo:Nat),jR (cV:Nat)]) (aC.k3 2 20 21) ⟨aP _,rfl,rfl,aQ 3⟩ ?_;rintro k ⟨v,L⟩ ⟨hk,n,a,o⟩
 dsimp only at n a o⊢
 refine g6 ?_;refine St.cq (λr=> ?_) (λr=> ?_)
 ·obtain⟨t,ht⟩:=aF (show k<g.nodes.length by omega)
  have j:=aa ht
  have s:=m t j
  have q8:=kD ht
  refine St.cN cE g.nodes (x:=t) j ?_;refine St.gW (sl an t.lv.1 t.aW) [cE t] (λρ h=>h _ (aV ..)) ?_;refine g7 ?_;refine St.ee (Ev.j2 (.mk rfl) ht wq trivial jb gX.eq) ?_;refine St.al (λu=> ?_);refine g8 ?_;refine St.ee (Ev.tZ (.mk rfl) (by rw[eK];rfl) HI) ?_;refine St.slot 29 (.int .u8 ((jR (t.type)).toNat:Int)) rfl (congrArg (Value.int .u8) (wr8 _)) ?_;refine g3 ?_;refine St.ee (Ev.tZ (.mk rfl) (by rw[eK];rfl) HI) ?_;refine St.slot 33 (.int .u8 ((jR ((t.aW.length:Nat))).toNat:Int)) rfl (congrArg (Value.int .u8) (wr8 _)) ?_;refine St.hS rfl (.ah rfl rfl) CO sz5 zv5 rfl rfl (by simp[Value.cells]) rfl rfl (λE=> ?_);refine St.aq (.mk rfl) (.mk rfl) CO sz5 zv5 by5 (by simp[Value.oneCell',Value.cells]) zE zE rfl rfl rfl rfl (λv35 y=> ?_);refine St.aN v35 (show _=(L++ [jR t.type,jR (t.aW.length:Nat)]).length by rw[bJ];rfl) (show _=rows u8R (L++ [jR t.type,jR (t.aW.length:Nat)]) by rw[uT,uT,cL];rfl) ?_;refine St.bQ v35 (λd _=> ?_);refine g12 ?_;refine St.pb (ι:=Nat) (κ:=Value×ab) (λq z T=>(39,iv q)::(3,z.1)::T) (λq z=>[row z.1 5 1 (z.2).length (rows u8R (z.2)),tI f [iv (frm:Nat),iv (tqo:Nat),iv (cV:Nat),g.nv.1] 226,tI u [iv t.type,t.lv.1] 166,aD (sl cD g.nv.1 g.nodes),aD (aL cE g.nodes),aD (aJ g),aD (sl an t.lv.1 t.aW)]) (λq z=>q≤t.aW.length∧z.1.oneCell'=true∧z.2=L++(jR t.type::jR (t.aW.length:Nat)::vR ((t.aW.map fB).take q))∧z.2.length≤5+k*2002+2*q) (λq z=>t.aW.length-q) 0 (v35,L++ [jR t.type,jR (t.aW.length:Nat)]) (aC.k6 2 20 21 22 37 38) ⟨aP _,d,rfl,by dsimp only;rw[bJ];simp only[List.length_cons,List.length_nil];omega⟩ ?_;rintro q ⟨w,M⟩ ⟨F,hw,b,e⟩
  dsimp only at hw b e⊢
  refine g6 ?_;refine St.cq (λA=> ?_) (λA=> ?_)
  ·obtain⟨p,hp⟩:=aF (show q<t.aW.length by omega)
   refine g7 ?_;refine St.ee (Ev.j2 (.mk rfl) hp kY trivial da gX.eq) ?_;refine St.al (λG=> ?_);refine g7 ?_;refine St.ee (Ev.tZ (.mk rfl) (by rw[eK];rfl) HI) ?_;refine St.slot 46 (.int .u8 ((jR (p.cu)).toNat:Int)) rfl (congrArg (Value.int .u8) (wr8 _)) ?_;refine g2 ?_;refine St.ee (Ev.tZ (.mk rfl) (by rw[eK];rfl) HI) ?_;refine St.slot 49 (.int .u8 ((jR (p.tqo)).toNat:Int)) rfl (congrArg (Value.int .u8) (wr8 _)) ?_;refine St.hS rfl (.ah rfl rfl) CO sz5 zv5 rfl rfl (by simp[Value.cells]) rfl rfl (λH=> ?_);refine St.aq (.mk rfl) (.mk rfl) CO sz5 zv5 by5 (by simp[Value.oneCell',Value.cells]) zE zE rfl rfl rfl rfl (λv51 B=> ?_);refine St.aN v51 (show _=(M++ [jR p.cu,jR p.tqo]).length by rw[bJ];rfl) (show _=rows u8R (M++ [jR p.cu,jR p.tqo]) by rw[uT,uT,cL];rfl) ?_;refine St.bQ v51 (λC _=> ?_);refine g9 ?_;refine St.py (q+1) (v51,M++ [jR p.cu,jR p.tqo]) ⟨by omega,C,by dsimp only;rw[b,aO (show(t.aW.map fB)[q]?=some (fB p) by rw[aw,hp];rfl),N4,cr];rfl,by dsimp only;rw[bJ];simp only[List.length_cons,List.length_nil];omega⟩
  ·obtain rfl:q=t.aW.length:=by omega
   rw[dV (by rw[aR];exact aQ _)]at b;refine g11 ?_;refine St.py (k+1) (w,M) ⟨by omega,hw,by dsimp only;rw[b,a,aO q8,N3,cr];show _=_++(_++(jR t.type::jR ((t.aW.map fB).length:Nat)::vR (t.aW.map fB)));rw[aR],by dsimp only;omega⟩
 ·obtain rfl:k=g.nodes.length:=by omega
  have D:(ao g).take g.nodes.length=ao g:=dV zE
  rw[D]at a;refine g8 ?_;refine St.ee (Ev.Zv (fD ⟨frm,tqo,cV,ao g⟩) (.mk rfl) (show _=(fD ⟨frm,tqo,cV,ao g⟩).length by rw[a];rfl) (by rw[a,uT];rfl) (by unfold fD;simp) CO HI oc) ?_;refine g4 ?_;refine St.rV [_] [] ?_;exact⟨rfl,rfl⟩
theorem Cw (n i j k:Nat)(d:n≤12)(e:i≤n)(f:j≤n)(hk:k=slt n i j)(sv:aY)(bf:List (aY×List Nat))(q:aY×List Nat)(b:bf[k]?=some q):dR prog 170 #[.agg #[iv (n:Nat),sv.1],iv (i:Nat),iv (j:Nat)] [row sv.1 35 1 (bf).length (rows bU ((bf).map Prod.fst))] (λv H'=>v=q.1.1∧H'=[row sv.1 35 1 (bf).length (rows bU ((bf).map Prod.fst))]):=by
 refine dR.body (args:=[.agg #[iv (n:Nat),sv.1],iv (i:Nat),iv (j:Nat)]) 18 func170 rfl ntmps170 rfl (λc=> ?_);refine go ?_
 obtain⟨m,hm⟩:∃m,m=i*(n+1):=⟨_,rfl⟩
 have a:((i:Nat):Int)*(((n:Nat):Int)+1)=(m:Nat):=by rw[hm];push_cast;rfl
 have g:m≤156:=by rw[hm];exact cz (Nat.mul_le_mul (show i≤12 by omega) (show n+1≤13 by omega)) (by decide)
 have h:k=m+j:=by rw[hk,hm];rfl
 have l:=ag b
 refine go ?_;refine St.cW (.mk rfl) rfl (λo=> ?_);refine g11 ?_;refine St.ee (Ev.mul (.mk rfl) (.mk rfl) (by rw[a];omega)) ?_;refine St.slot 13 (iv (m:Nat)) rfl (congrArg iv a) ?_;refine g2 ?_;refine St.ee (Ev.cw (k:=k) (.mk rfl) (.mk rfl) B9 jm zE zE) ?_;refine St.ee (Ev.cx (.mk rfl) cP trivial zE (rB (show(bf.map Prod.fst)[k]?=some q.1 by rw[aw,b];rfl))) ?_;refine g4 ?_;refine St.rV [_] [row sv.1 35 1 (bf).length (rows bU ((bf).map Prod.fst))] ?_;exact⟨rfl,rfl⟩
theorem Jm (n i j k:Nat)(l:n≤12)(o:i≤n)(p:j≤n)(hk:k=slt n i j)(sv:aY)(bf:List (aY×List Nat))(q:aY×List Nat)(d:bf[k]?=some q)(e:Nat)(he:e≤1400000000000)(r:q.2.length≤1400000000000):dR prog 205 #[.agg #[iv (n:Nat),sv.1],iv (i:Nat),iv (j:Nat),iv (e:Nat)] [row sv.1 35 1 (bf).length (rows bU ((bf).map Prod.fst)),row q.1.1 3 1 (q.2).length (rows aI (bx (q.2)))] (λv H'=>∃u:aY,H'=[row sv.1 35 1 (bf.set k (u,q.2++ [e])).length (rows bU ((bf.set k (u,q.2++ [e])).map Prod.fst)),row u.1 3 1 (q.2++ [e]).length (rows aI (bx (q.2++ [e])))]):=by
 refine dR.body (args:=[.agg #[iv (n:Nat),sv.1],iv (i:Nat),iv (j:Nat),iv (e:Nat)]) 28 func205 rfl ntmps205 rfl (λc=> ?_);refine go ?_
 obtain⟨m,hm⟩:∃m,m=i*(n+1):=⟨_,rfl⟩
 have b:((i:Nat):Int)*(((n:Nat):Int)+1)=(m:Nat):=by rw[hm];push_cast;rfl
 have s:m≤156:=by rw[hm];exact cz (Nat.mul_le_mul (show i≤12 by omega) (show n+1≤13 by omega)) (by decide)
 have t:k=m+j:=by rw[hk,hm];rfl
 have w:=ag d
 refine St.j6 sv.1 zE (λbs cs f=> ?_);refine go ?_;refine St.cW (.mk rfl) rfl (λx=> ?_);refine g8 ?_;refine St.ee (Ev.mul (.mk rfl) (.mk rfl) (by rw[b];omega)) ?_;refine St.slot 13 (iv (m:Nat)) rfl (congrArg iv b) ?_;refine g5 ?_;refine St.dZ [row sv.1 35 1 (bf).length (rows bU ((bf).map Prod.fst)),row q.1.1 3 1 (q.2).length (rows aI (bx (q.2)))] mixed (λy z=> ?_);refine SW.gd 0 ?_;refine SW.gd 1 ?_;refine SW.gd 2 ?_;refine SW.gd 3 ?_;refine SW.gd 4 ?_;refine SW.gd 5 ?_;refine SW.dd 6 rfl (λ_=>Ev.kF (k:=k) f (.mk rfl) (.mk rfl) B9 jm zE zE) ?_;refine SW.gd 8 ?_;refine SW.t2 7 9 ?_ ?_
 focus
  refine St.ee (Ev.cx (.mk rfl) cP trivial zE (rB (show(bf.map Prod.fst)[k]?=some q.1 by rw[aw,d];rfl))) ?_;refine g2 ?_;refine SW.go ?_;refine SW.t1 9 ?_;refine St.hS rfl (.ay rfl) cP eL jF rfl rfl (by simp[Value.cells]) rfl rfl (λg=> ?_);refine g2 ?_;refine SW.go ?_;refine SW.t1 10 ?_;refine St.aq (.mk rfl) (.mk rfl) cP eL jF vD (by simp[Value.oneCell',Value.cells]) zE zE rfl rfl rfl rfl (λv26 h=> ?_);refine St.aN v26 (show _=(q.2++ [e]).length by rw[bJ];rfl) (show _=rows aI (bx (q.2++ [e])) by rw[kG,bB];rfl) ?_;refine St.bQ v26 (λa _=> ?_);refine g2 ?_;refine SW.go ?_;refine SW.dd 11 rfl (λ_=>Ev.kF (k:=k) f (.mk rfl) (.mk rfl) B9 jm zE zE) ?_;refine SW.t1 12 ?_;refine St.bz (.mk rfl) (.mk rfl) jm a zE (by decide) ?_;refine St.aN sv.1 (show _=(bf.set k (⟨v26,a⟩,q.2++ [e])).length by rw[eC]) (show _=rows bU ((bf.set k (⟨v26,a⟩,q.2++ [e])).map Prod.fst) by rw[k9];exact zg _ _ ⟨v26,a⟩) ?_;refine g2 ?_;refine SW.go ?_;refine SW.dn ?_
 rotate_left
 focus
  refine St.hS rfl (.ay rfl) cP eL jF rfl rfl (by simp[Value.cells]) rfl rfl (λg=> ?_);refine g2 ?_;refine SW.go ?_;refine SW.t1 7 ?_;refine St.ee (Ev.cx (.mk rfl) cP trivial zE (rB (show(bf.map Prod.fst)[k]?=some q.1 by rw[aw,d];rfl))) ?_;refine g2 ?_;refine SW.go ?_;refine SW.t1 10 ?_;refine St.aq (.mk rfl) (.mk rfl) cP eL jF vD (by simp[Value.oneCell',Value.cells]) zE zE rfl rfl rfl rfl (λv26 h=> ?_);refine St.aN v26 (show _=(q.2++ [e]).length by rw[bJ];rfl) (show _=rows aI (bx (q.2++ [e])) by rw[kG,bB];rfl) ?_;refine St.bQ v26 (λa _=> ?_);refine g2 ?_;refine SW.go ?_;refine SW.dd 11 rfl (λ_=>Ev.kF (k:=k) f (.mk rfl) (.mk rfl) B9 jm zE zE) ?_;refine SW.t1 12 ?_;refine St.bz (.mk rfl) (.mk rfl) jm a zE (by decide) ?_;refine St.aN sv.1 (show _=(bf.set k (⟨v26,a⟩,q.2++ [e])).length by rw[eC]) (show _=rows bU ((bf.set k (⟨v26,a⟩,q.2++ [e])).map Prod.fst) by rw[k9];exact zg _ _ ⟨v26,a⟩) ?_;refine g2 ?_;refine SW.go ?_;refine SW.dn ?_
 all_goals
  refine St.fL ?_;refine St.rV [] [row sv.1 35 1 (bf.set k (⟨v26,a⟩,q.2++ [e])).length (rows bU ((bf.set k (⟨v26,a⟩,q.2++ [e])).map Prod.fst)),row v26 3 1 (q.2++ [e]).length (rows aI (bx (q.2++ [e])))] ?_;exact⟨⟨v26,a⟩,rfl⟩
end Go.Proofs.YtiefglecbgdaiaaGreatDoor
namespace Go.J
open Go Go.RowKit
def ir (b:Nat)(L:List Value):dQ where
 f ρ:=∃e fr,ρ b=some (.cells L.toArray e fr)
 mono ρ mY h:=by
  rintro ⟨e,fr,h1⟩;exact⟨e,fr,h _ _ h1⟩
class lZ (b:Nat)(H:List ai)(L:outParam (List Value)):Prop where
 mem:aD (ir b L)∈H
instance (priority:=high) lZ.here (b:Nat)(L:List Value)(H:List ai):lZ b (aD (ir b L)::H) L:=⟨aV ..⟩
instance lZ.there (b:Nat)(L:List Value)(E:ai)(H:List ai)[h:lZ b H L]:lZ b (E::H) L:=⟨bV _ h.mem⟩
instance (priority:=low) lZ.app (b:Nat)(v:List Value)(L R:List ai)[h:lZ b L v]:lZ b (L++R) v:=⟨kA _ h.mem⟩
section
variable {P:Program}{n:Nat}{F:Fr}{A:World→Prop}{c:Ctx}{H R:List ai}{ty t e:TypeId}{x y:Operand}{v:Value}{T:Act→World→Prop}
theorem Ev.J6 {b:Nat}{d:TypeDesc}{L:List Value}[f:lZ b H L](hx:aX F x (tW b))(ht:P.underlying t=some d)(g:(match d with| .struct _| .array _ _=>True|_=>False))
 (h:(P.info? t).map (·.size)=some L.length):Ev P n F (Mm c H) (.load t x) ty (.agg L.toArray):= .of_run λa w i hw=>by
 obtain⟨ρ,hm⟩:=hw.out;obtain⟨e,fr,h1⟩:=dK.1 (hm.dC _ f.mem)
 have h1:=hm.fits _ _ h1
 have k:=eB (P:=P) (w:=w) (b:=b) (off:=0) (L:=L) ht g h (λj u l=>by rw[cG h1];simpa using l)
 simp[execOp,hx.eval i,Instr.loadAt,Instr.sureAddr,k]
theorem Ev.LB {b off:Nat}{d:TypeDesc}{L L':List Value}[g:lZ b H L](m:Nat)(hx:aX F x (.pointer (some ⟨b,off,none⟩)))(ht:P.underlying t=some d)(h:(match d with| .struct _| .array _ _=>True|_=>False))
 (i:(P.info? t).map (·.size)=some m) (k:(L.drop off).take m=L') (l:L'.length=m):Ev P n F (Mm c H) (.load t x) ty (.agg L'.toArray):= .of_run λa w o hw=>by
 obtain⟨ρ,hm⟩:=hw.out;obtain⟨e,fr,h1⟩:=dK.1 (hm.dC _ g.mem)
 have h1:=hm.fits _ _ h1
 have p:=eB (P:=P) (w:=w) (b:=b) (off:=off) (L:=L') ht h (by rw[l];exact i) (λj u f=>by
  rw[cG h1];rw[←k,om]at f
  split at f
  ·rw[x9]at f;simpa using f
  ·cases f)
 simp[execOp,hx.eval o,Instr.loadAt,Instr.sureAddr,p]
theorem cm.agS {ds:List dQ}{b:Nat}{e:TypeId}{fr:Nat×Nat}{L:List Value}(h:cm c H ds)[f:BE b H (.cells L.toArray e fr)]:cm c H (ir b L::ds):=λρ w d g a=>by
 rcases bT.1 a with rfl|a
 ·exact⟨e,fr,fz.1 (d.dC _ f.mem)⟩
 ·exact h ρ w d g a
theorem St.vb (b:Nat){L:List Value}[q:mn b H (.cells L.toArray e (0,0)) R](h:St n F (Mm c (aD (ir b L)::R)) T):St n F (Mm c H) T:=by
 refine h.ny λw hw=> ?_
 obtain⟨ρ,hm⟩:=hw.out
 have hm:=hm.perm q.perm
 have f:=fz.1 (hm.dC _ (aV ..))
 have g:=hm.own _ (aV ..) b (hP _ _)
 have r:b<w.heap.size:=(wI.1 f).1
 have i:=fw.1 hm.Hb
 refine Mm.mk (ρ:=λk=>if k=b then some (.cells L.toArray e (0,0))else ρ k) ?_
 have hle:Ro.le ρ (λk=>if k=b then some (.cells L.toArray e (0,0))else ρ k):=by
  intro k o hk
  by_cases a:k=b
  ·subst a;rw[g.1]at hk;cases hk
  ·simp only[a,if_false];exact hk
 refine fN.fact ⟨hm.os,hm.tape,hm.output,hm.size,hm.AO,?_,Ro.le_trans hm.le hle,?_,?_,?_,i.2⟩ _ ?_
 ·intro k o hk
  by_cases a:k=b
  ·subst a;simp only[if_true,Option.some.injEq]at hk;subst hk;exact f
  ·simp only[a,if_false]at hk;exact hm.fits k o hk
 ·intro k hk j
  by_cases a:k=b
  ·subst a
   rcases g.2 with l|l
   ·omega
   ·exact absurd l j
  ·simp only[a,if_false];exact hm.new k hk j
 ·intro E d
  exact E.loc hle (λ_ _=>rfl) (hm.dC E (bV _ d))
 ·intro E d m p
  have h1:=hm.own E (bV _ d) m p
  refine⟨?_,h1.2⟩
  by_cases a:m=b
  ·subst a;exact absurd p (i.1 E d _ (hP _ _))
  ·simp only[a,if_false];exact h1.1
 ·exact⟨e,(0,0),by simp⟩
end
end Go.J
namespace Go.Proofs.YtiefglecbgdaiaaGreatDoor
open Go Go.J Tryz
theorem XP {x y:de}{i:Nat}(h:i<x.length+y.length):(Pl.of x y).rt i=i:=by unfold Pl.rt Pl.of;exact Vd h
theorem ZW {x y:de}{i:Nat}(h:i<x.length):(Pl.of x y).tt i=(x.getD i gu).1:=by
 unfold Pl.tt Pl.of
 simp only[List.getD_eq_getElem?_getD]
 rw[oh (by rw[aR];exact h),aw,aj h];rfl
theorem ZX {x y:de}(h:0<y.length):(Pl.of x y).tt x.length=(y.getD 0 gu).1:=by
 unfold Pl.tt Pl.of
 simp only[List.getD_eq_getElem?_getD]
 rw[jM (by rw[aR];exact aQ _),aR,eX,aw,aj h];rfl
theorem V3 {mt:Nat→Nat→Option Nat}{x y:de}{node:Nat}(b:node<x.length)(hy:0<y.length)(hm:mt (x.getD node gu).1.toNat (y.getD 0 gu).1.toNat=none):dE mt x node y=none:=by
 unfold dE
 have a:(Pl.of x y).rt ((node:Int),(x.length:Int)).1.toNat=node:=XP (by show node<_;omega)
 have e2:(Pl.of x y).rt ((node:Int),(x.length:Int)).2.toNat=x.length:=XP (by show x.length<_;omega)
 rw[L6 (by rw[a,e2];omega) (by rw[a,e2,ZW b,ZX hy];exact hm)];rfl
theorem FU (g:Nat)(a b:aY)(T:List eM)(B:iJ T)(nf:Nat)(o:nf≤100)(x y:ct)(hx:dp T.length nf (ao x))(hy:dp T.length nf (ao y))(F:x.nodes.length≤60)(G:y.nodes.length≤60)(node:Nat)(H:node<x.nodes.length):dR prog 166 #[au x,iv (node:Nat),au y,tW g] ([ir g [a.1,b.1],sl ax a.1 (dN T),sl ax b.1 (dM T),tz,aJ x,aJ y].map aD) (λv H'=>v= .bool (dE (ga T) (ao x) node (ao y)).isSome∧H'=[]):=by
 refine dR.body (args:=[au x,iv (node:Nat),au y,tW g]) 41 func166 rfl ntmps166 rfl (λc=> ?_);refine St.cast (H':=[aD (ir g [a.1,b.1]),aD (sl ax a.1 (dN T)),aD (sl ax b.1 (dM T)),aD (tz),aD (aJ x),aD (aJ y)]) rfl ?_;refine go ?_
 have r:=fi hx o
 have s:=fi hy o
 have j:=hy.pos
 have M:=cj x
 have I:=cj y
 obtain⟨p,hp⟩:=aF H;obtain⟨q,J⟩:=aF (show 0<y.nodes.length by omega)
 have l:(ao x).getD node gu=lR p:=by rw[aZ,kD hp];rfl
 have m:(ao y).getD 0 gu=lR q:=by rw[aZ,kD J];rfl
 have e:=(hx.at_ (i:=node) zE).1
 have f:=(hy.at_ (i:=0) j).1
 rw[l]at e;rw[m]at f
 obtain⟨n,C⟩:∃n:Nat,p.type=(n:Int):=⟨p.type.toNat,by have:=e.1;show p.type=_;have h:0≤p.type:=this;omega⟩
 obtain⟨d,D⟩:∃d:Nat,q.type=(d:Int):=⟨q.type.toNat,by have h:0≤q.type:=f.1;omega⟩
 have w:n<T.length:=by have h:p.type<T.length:=e.2;omega
 have A:d<T.length:=by have h:q.type<T.length:=f.2;omega
 refine St.gG (aJ x) (λ_:Unit=>jV x) (λρ h=>⟨(),h⟩) λ_=> ?_
 refine St.cast (H':=[aD (sl cD x.nv.1 x.nodes),aD (aL cE x.nodes),aD (ir g [a.1,b.1]),aD (sl ax a.1 (dN T)),aD (sl ax b.1 (dM T)),aD (tz),aD (aJ x),aD (aJ y)]) rfl ?_
 refine St.gG (aJ y) (λ_:Unit=>jV y) (λρ h=>⟨(),h⟩) λ_=> ?_
 refine St.cast (H':=[aD (sl cD y.nv.1 y.nodes),aD (aL cE y.nodes),aD (sl cD x.nv.1 x.nodes),aD (aL cE x.nodes),aD (ir g [a.1,b.1]),aD (sl ax a.1 (dN T)),aD (sl ax b.1 (dM T)),aD (tz),aD (aJ x),aD (aJ y)]) rfl ?_;refine go ?_;refine St.cW (.mk rfl) rfl (λN=> ?_);refine St.cW (.mk rfl) rfl (λO=> ?_);refine g5 ?_;refine St.dZ [] mixed (λP Q=> ?_);refine SW.dd 0 rfl (λ_=>Ev.J6 (.mk rfl) wm trivial (by exact wg)) ?_;refine SW.slot 14 (jc a b) rfl rfl ?_;refine SW.gd 1 ?_;refine SW.gd 2 ?_;refine SW.gd 3 ?_;refine SW.gd 4 ?_;refine SW.gd 5 ?_;refine SW.gd 6 ?_;refine SW.slot 20 (iv (n:Nat)) rfl (congrArg iv C) ?_;refine SW.gd 7 ?_;refine SW.gd 8 ?_;refine SW.dd 9 rfl (λ_=>Ev.cM (k:=0) (.mk rfl) (.mk rfl) qC jb zE zE) ?_;refine SW.gd 10 ?_;refine SW.gd 11 ?_;refine SW.slot 25 (iv (d:Nat)) rfl (congrArg iv D) ?_;refine SW.dd 12 rfl (λ_=>Ev.call ((yD a b T B n d w A).mono λ_ _ h=>h.1) Ow (.fk rfl rfl rfl)) ?_;refine SW.gd 13 ?_;refine SW.gd 14 ?_;refine SW.gd 15 ?_;refine SW.gd 16 ?_;refine SW.gd 17 ?_;refine SW.gd 18 ?_;refine SW.gd 19 ?_;refine SW.dn ?_;refine g7 ?_;refine St.cq (λE=> ?_) (λE=> ?_)
 ·have hm:ga T ((ao x).getD node gu).1.toNat ((ao y).getD 0 gu).1.toNat=none:=by rw[l,m];show ga T p.type.toNat q.type.toNat=none;rw[C,D];simpa using E
  have K:=V3 (mt:=ga T) zE j hm
  refine g7 ?_;refine St.rV [_] [] ?_;exact⟨by rw[K];rfl,rfl⟩
 ·refine g4 ?_
  refine St.ee (Ev.J6 (.mk rfl) wm trivial (by exact wg)) ?_;refine St.slot 33 (jc a b) rfl rfl ?_;refine go ?_;refine St.slot 34 (au x) rfl rfl ?_;refine g2 ?_;refine St.slot 36 (au y) rfl rfl ?_;refine St.dt (qy a b T B nf o x y hx hy F G (λt ht=>by have:=(r t ht).2;omega) (λt ht=>by have:=(s t ht).2;omega) node zE) KU (.pL rfl rfl rfl rfl) rfl ?_;rintro v37 _ ⟨u,rfl,rfl⟩;refine St.eZ ?_;refine St.cY ((dE (ga T) (ao x) node (ao y)).getD []) u (λz hz=> ?_);obtain⟨rfl,L⟩:=hz;refine g3 ?_;refine St.al (λR=> ?_);refine g11 ?_;refine St.rV [_] [] ?_;exact⟨rfl,rfl⟩
structure rJ where
 a:aY
 b:aY
 c:aY
 la:List Bool
 lb:List Bool
 lc:List Bool
def rJ.at_ (x:rJ)(j:Nat):aY×List Bool:=if j=0 then(x.a,x.la)else if j=1 then(x.b,x.lb)else(x.c,x.lc)
def sR:Rp rJ:=⟨3,by decide,λx=>[x.a.1,x.b.1,x.c.1],λ_=>True,λ_=>rfl,λx u h=>by
 simp only[List.mem_cons,List.not_mem_nil,or_false]at h
 rcases h with rfl|rfl|rfl
 ·exact x.a.2
 ·exact x.b.2
 ·exact x.c.2⟩
theorem rJ.cell (x:rJ){j:Nat}(h:j<3):(sR.cells x)[0+j]?=some (x.at_ j).1.1:=by
 rcases j with _|_|_|j
 ·rfl
 ·rfl
 ·rfl
 ·omega
def nX (x:rJ):dQ:=eY [sl e7 x.a.1 x.la,sl e7 x.b.1 x.lb,sl e7 x.c.1 x.lc]
theorem KO (x:rJ)(j:Nat)(ρ:Ro)(h:(nX x).f ρ):(sl e7 (x.at_ j).1.1 (x.at_ j).2).f ρ:=by
 have h1:=h (sl e7 x.a.1 x.la) (by simp)
 have d:=h (sl e7 x.b.1 x.lb) (by simp)
 have e:=h (sl e7 x.c.1 x.lc) (by simp)
 unfold rJ.at_
 split
 ·exact h1
 ·split
  ·exact d
  ·exact e
structure kQ where
 nr:Nat
 nl:Nat
 kv:aY
 av:aY
 nG:aY
 fv:aY
 kids:List Int
 rN:List rJ
def Ua (f:kQ):List Value:=[iv (f.nr:Nat),iv (f.nl:Nat),f.kv.1,f.av.1,f.nG.1,f.fv.1]
def MZ (f:kQ):Value:= .agg (Ua f).toArray
def gm (f:kQ):dQ:=eY [sl aI f.kv.1 f.kids,sl sR f.av.1 f.rN,aL nX f.rN]
def qB (nr nl:Nat)(top:Int):Int:=if 0≤top∧top<nr then top else if 1000≤top∧top<1000+(nl:Int)then nr+top-1000 else-1
def YF:rJ:=⟨cF,cF,cF,[],[],[]⟩
def qO (f:kQ)(rule a:Nat)(top:Int):Bool:=decide (0≤qB f.nr f.nl top)&&decide (1≤a)&&decide ((a:Int)≤f.kids.getD rule 0)&&(((f.rN.getD rule YF).at_ (a-1)).2.getD (qB f.nr f.nl top).toNat false)
structure yB (f:kQ):Prop where
 nr:f.nr≤1000
 nl:f.nl≤1000
 kl:f.kids.length=f.nr
 al:f.rN.length=f.nr
 k3:∀k∈f.kids,k≤3
 ln:∀(r:Nat) (x:rJ) (k:Int) (j:Nat),f.rN[r]?=some x→f.kids[r]?=some k→(j:Int)<k→(x.at_ j).2.length=f.nr+f.nl
theorem LR {nr nl:Nat}{top:Int}(h:0≤qB nr nl top):(qB nr nl top).toNat<nr+nl:=by
 unfold qB at h⊢
 split
 ·omega
 ·split
  ·omega
  ·rename_i h1 a;rw[aA h1,aA a]at h;omega
theorem JL (f:kQ)(b:yB f)(top:Int)(ht:bR top):cX prog 230 #[MZ f,iv top] [] (iv (qB f.nr f.nl top)):=by
 refine cX.l5 (args:=[MZ f,iv top]) 28 func230 rfl ntmps230 rfl (λc=> ?_);refine go ?_
 have d:=b.nr
 have h:=b.nl
 unfold bR at ht;refine go ?_;refine St.cW (.mk rfl) rfl (λi=> ?_);refine g9 ?_;refine St.gt _ rfl rfl (λa=>Ev.move (.mk rfl)) rfl ?_;refine St.gt _ rfl rfl (λa=>Ev.cB (.mk rfl) DQ) rfl ?_;refine St.gt _ rfl rfl (λa=>Ev.gh (aX.gv rfl a) eK trivial (by rfl)) rfl ?_;refine St.gt _ rfl rfl (λa=>Ev.lss (aX.gv rfl a) (aX.gv rfl a)) rfl ?_;refine g3 ?_;refine St.cq (λe=> ?_) (λe=> ?_)
 ·refine g8 ?_
  refine St.rV [_] [] ?_;exact ie (show top=qB f.nr f.nl top by unfold qB;rw[aB zE])
 ·refine g8 ?_
  refine St.gt _ rfl rfl (λa=>Ev.move (.mk rfl)) rfl ?_;refine St.gt _ rfl rfl (λa=>Ev.cB (.mk rfl) Uf) rfl ?_;refine St.gt _ rfl rfl (λa=>Ev.gh (aX.gv rfl a) eK trivial (by rfl)) rfl ?_;refine St.gt _ rfl rfl (λa=>Ev.add (.mk rfl) (aX.gv rfl a) (by first|omega|(simp only[bj]at a;omega))) rfl ?_;refine St.gt _ rfl rfl (λa=>Ev.lss (aX.gv rfl a) (aX.gv rfl a)) rfl ?_;refine g3 ?_;refine St.cq (λg=> ?_) (λg=> ?_)
  ·refine g12 ?_
   refine St.rV [_] [] ?_;exact ie (show(f.nr:Int)+top-1000=qB f.nr f.nl top by unfold qB;rw[aA zE,aB zE])
  ·refine g8 ?_
   refine St.rV [_] [] ?_;exact ie (show(-1:Int)=qB f.nr f.nl top by unfold qB;rw[aA zE,aA zE])
theorem EW (f:kQ)(e:yB f)(rule a:Nat)(s:rule<f.nr)(hk:1≤a)(t:a≤1000)(top:Int)(ht:bR top):dR prog 207 #[MZ f,iv (rule:Nat),iv (a:Nat),iv top] ([gm f].map aD) (λv H'=>v= .bool (qO f rule a top)∧H'=[]):=by
 refine dR.body (args:=[MZ f,iv (rule:Nat),iv (a:Nat),iv top]) 51 func207 rfl ntmps207 rfl (λc=> ?_);refine St.cast (H':=[aD (gm f)]) rfl ?_;refine go ?_
 refine St.gG (gm f) (λ_:Unit=>[sl aI f.kv.1 f.kids,sl sR f.av.1 f.rN,aL nX f.rN]) (λρ h=>⟨(),h⟩) λ_=> ?_
 refine St.cast (H':=[aD (sl aI f.kv.1 f.kids),aD (sl sR f.av.1 f.rN),aD (aL nX f.rN),aD (gm f)]) rfl ?_
 have u:=e.kl
 have w:=e.al
 obtain⟨k,l⟩:=aF (show rule<f.kids.length by omega);obtain⟨x,hx⟩:=aF (show rule<f.rN.length by omega)
 have y:=e.k3 k (aa l)
 have g:f.kids.getD rule 0=k:=by rw[aZ,l];rfl
 have m:f.rN.getD rule YF=x:=by rw[aZ,hx];rfl
 obtain⟨j,rfl⟩:∃j,a=j+1:=⟨a-1,by omega⟩
 have q:=e.ln rule x k j hx l
 have n:=LR (nr:=f.nr) (nl:=f.nl) (top:=top)
 refine St.cN nX f.rN (x:=x) (aa hx) ?_;refine St.gW (sl e7 (x.at_ j).1.1 (x.at_ j).2) [nX x] (λρ h=>KO x j ρ (h _ (aV ..))) ?_;refine St.LZ f.av.1 zE (λbs os cs r=> ?_);refine go ?_;refine St.cW (.mk rfl) rfl (λz=> ?_);refine g7 ?_;refine St.ee (Ev.call (JL f e top ht) acR (.ah rfl rfl)) ?_;refine g8 ?_;refine St.split 15 _ rfl (λhp=> ?_) (λhp=> ?_)
 ·have o:0≤qB f.nr f.nl top:=gU hp
  have A:=n o
  obtain⟨pl,i⟩:∃pl:Nat,qB f.nr f.nl top=(pl:Int):=⟨(qB f.nr f.nl top).toNat,by omega⟩
  rw[i];refine St.cZ rfl rfl ?_;refine go ?_;refine St.cZ rfl rfl ?_;refine go ?_;refine St.ee (Ev.jt (.mk rfl) rfl (.mk rfl)) ?_;refine go ?_;refine St.known 19 _ true rfl (dI zE) ?_;refine St.cZ rfl rfl ?_;refine go ?_;refine St.cZ rfl rfl ?_;refine go ?_;refine St.cZ rfl rfl ?_;refine go ?_;refine St.cZ rfl rfl ?_;refine go ?_;refine St.ee (Ev.jt (.mk rfl) rfl (.mk rfl)) ?_;refine go ?_;refine St.known 25 _ true rfl (dI zE) ?_;refine St.cZ rfl rfl ?_;refine go ?_;refine St.cZ rfl rfl ?_;refine go ?_;refine St.ee (Ev.jt (.mk rfl) rfl (.mk rfl)) ?_;refine go ?_;refine St.known 29 _ true rfl (dI zE) ?_;refine St.cZ rfl rfl ?_;refine go ?_;refine St.cZ rfl rfl ?_;refine go ?_;refine St.cZ rfl rfl ?_;refine go ?_;refine St.cZ rfl rfl ?_;refine go ?_;refine St.cZ rfl rfl ?_;refine go ?_;refine St.cZ rfl rfl ?_;refine go ?_;refine St.cZ rfl rfl ?_;refine go ?_;refine St.ee (Ev.jt (.mk rfl) rfl (.mk rfl)) ?_;refine go ?_;refine St.split 38 _ rfl (λb=> ?_) (λb=> ?_)
  ·have d:((j+1:Nat):Int)≤k:=gU b
   have B:=q zE
   obtain⟨bv,p⟩:=aF (show pl<(x.at_ j).2.length by omega);refine St.cZ rfl rfl ?_;refine go ?_;refine St.cZ rfl rfl ?_;refine go ?_;refine St.cZ rfl rfl ?_;refine go ?_;refine St.cZ rfl rfl ?_;refine go ?_;refine St.cZ rfl rfl ?_;refine go ?_;refine St.cZ rfl rfl ?_;refine go ?_;refine St.cZ rfl rfl ?_;refine St.ee (Ev.xo (j:=j) r (.mk rfl) (.mk rfl) A8 qn zE zE) ?_;refine St.cZ rfl rfl ?_;refine St.ee (Ev.ld1 (.mk rfl) hx jL trivial (x.cell zE)) ?_;refine St.cZ rfl rfl ?_;refine go ?_;refine St.cZ rfl rfl ?_;refine go ?_;refine St.cZ rfl rfl ?_;refine go ?_;refine St.ee (Ev.jt (.mk rfl) rfl (.mk rfl)) ?_;refine g4 ?_;refine St.rV [_] [] ?_;exact⟨by unfold qO;rw[i,dI (show(0:Int)≤(pl:Nat) by omega),dI (show 1≤j+1 by omega),g,dI d,m];show _=Value.bool (true&&true&&true&&((x.at_ j).2.getD pl false));rw[aZ,p];rfl,rfl⟩
  ·have d:¬((j+1:Nat):Int)≤k:=l3 b
   refine St.cS rfl rfl rfl ?_;refine St.cS rfl rfl rfl ?_;refine St.cS rfl rfl rfl ?_;refine St.cS rfl rfl rfl ?_;refine St.cS rfl rfl rfl ?_;refine St.cS rfl rfl rfl ?_;refine St.cS rfl rfl rfl ?_;refine St.cS rfl rfl rfl ?_;refine St.cS rfl rfl rfl ?_;refine St.cS rfl rfl rfl ?_;refine St.cS rfl rfl rfl ?_;refine St.ee (Ev.mI (.mk rfl) rfl (.mk rfl)) ?_;refine g4 ?_;refine St.rV [_] [] ?_;exact⟨by unfold qO;rw[g,e9 d,Bool.and_false,Bool.false_and];rfl,rfl⟩
 ·have o:¬0≤qB f.nr f.nl top:=l3 hp
  refine St.cS rfl rfl rfl ?_;refine St.cS rfl rfl rfl ?_;refine St.ee (Ev.mI (.mk rfl) rfl (.mk rfl)) ?_;refine go ?_;refine St.cS rfl rfl rfl ?_;refine St.cS rfl rfl rfl ?_;refine St.cS rfl rfl rfl ?_;refine St.cS rfl rfl rfl ?_;refine St.ee (Ev.mI (.mk rfl) rfl (.mk rfl)) ?_;refine go ?_;refine St.cS rfl rfl rfl ?_;refine St.cS rfl rfl rfl ?_;refine St.ee (Ev.mI (.mk rfl) rfl (.mk rfl)) ?_;refine go ?_;refine St.cS rfl rfl rfl ?_;refine St.cS rfl rfl rfl ?_;refine St.cS rfl rfl rfl ?_;refine St.cS rfl rfl rfl ?_;refine St.cS rfl rfl rfl ?_;refine St.cS rfl rfl rfl ?_;refine St.cS rfl rfl rfl ?_;refine St.ee (Ev.mI (.mk rfl) rfl (.mk rfl)) ?_;refine go ?_;refine St.cS rfl rfl rfl ?_;refine St.cS rfl rfl rfl ?_;refine St.cS rfl rfl rfl ?_;refine St.cS rfl rfl rfl ?_;refine St.cS rfl rfl rfl ?_;refine St.cS rfl rfl rfl ?_;refine St.cS rfl rfl rfl ?_;refine St.cS rfl rfl rfl ?_;refine St.cS rfl rfl rfl ?_;refine St.cS rfl rfl rfl ?_;refine St.cS rfl rfl rfl ?_;refine St.ee (Ev.mI (.mk rfl) rfl (.mk rfl)) ?_;refine g4 ?_;refine St.rV [_] [] ?_;exact⟨by unfold qO;rw[e9 o];rfl,rfl⟩
end Go.Proofs.YtiefglecbgdaiaaGreatDoor
