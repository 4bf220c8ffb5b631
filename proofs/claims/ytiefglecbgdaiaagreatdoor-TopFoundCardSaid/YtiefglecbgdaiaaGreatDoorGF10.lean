/-
  Laws of walks through programs, and facts on grammars, trees and queries.
  Conditions: none.
-/
import Derived.Test.YtiefglecbgdaiaaGreatDoorGF9
set_option maxHeartbeats 4000000
set_option maxRecDepth 20000
set_option linter.unusedVariables false
set_option linter.unusedSimpArgs false
namespace Go.Proofs.YtiefglecbgdaiaaGreatDoor
open Go Go.J Tryz
def iw:Rp ct:=⟨1,by decide,λx=>[x.nv.1],λ_=>True,λ_=>rfl,λx u h=>by simp at h;subst h;exact x.nv.2⟩
instance (x:ct):gX iw x [x.nv.1]:=⟨rfl⟩
def An (mt:Nat→Nat→Option Nat)(r:ry)(M:List de)(j:Nat):List Bool:=if(j:Int)<r.kids then M.map λy=>(dE mt r.graph (rZ r.graph ((j:Int)+1)).toNat y).isSome else []
structure wM (f:kQ)(g:ep)(mt:Nat→Nat→Option Nat):Prop where
 nr:f.nr=g.rules.length
 nl:f.nl=g.aK.length
 kids:f.kids=g.rules.map (·.kids)
 al:f.rN.length=g.rules.length
 at_:∀(r:Nat) (x:rJ) (rr:ry),f.rN[r]?=some x→g.rules[r]?=some rr→∀j,j<3→(x.at_ j).2=An mt rr (JG g) j
theorem GC (g:ep):(JG g).length=g.rules.length+g.aK.length:=by unfold JG;rw[bJ,aR,aR]
theorem wM.ln {f:kQ}{g:ep}{mt:Nat→Nat→Option Nat}(h:wM f g mt)(e:g.rules.length≤1000)(i:g.aK.length≤1000)(hk:∀r∈g.rules,r.kids≤3):yB f:=by
 refine⟨by rw[h.nr];exact e,by rw[h.nl];exact i,by rw[h.kids,aR,h.nr],by rw[h.al,h.nr],λk hm=> ?_,λr x k j hx a d=> ?_⟩
 ·rw[h.kids]at hm
  obtain⟨rr,c,rfl⟩:=cA.1 hm;exact hk rr c
 ·rw[h.kids,aw]at a
  cases b:g.rules[r]? with
  |none=>rw[b]at a;cases a
  |some rr=>
   rw[b]at a;obtain rfl:=Option.some.inj a
   have m:=hk rr (aa b)
   have l:(j:Int)<rr.kids:=d
   rw[h.at_ r x rr hx b j zE];unfold An;rw[aB d,aR,GC,h.nr,h.nl]
theorem zX {f:kQ}{g:ep}{mt:Nat→Nat→Option Nat}(h:wM f g mt)(top:Int):qB f.nr f.nl top=JP g top:=by unfold qB JP;rw[h.nr,h.nl]
theorem OO {f:kQ}{g:ep}{mt:Nat→Nat→Option Nat}(h:wM f g mt)(hk:∀r∈g.rules,r.kids≤3):qO f=YA g mt:=by
 funext rule a top
 unfold qO YA;rw[zX h]
 rcases Decidable.em (0≤JP g top)with h1|h1
 case inr=>rw[e9 h1];simp only[Bool.false_and]
 rcases Decidable.em (1≤a)with d|d
 case inr=>rw[e9 d];simp only[Bool.false_and,Bool.and_false]
 rw[dI h1,dI d]
 rcases cJ rule g.rules.length with b|b
 case inr=>
  have e:f.kids.getD rule 0=0:=by rw[aZ,fT (by rw[h.kids,aR];exact b)];rfl
  rw[e,e9 (show ¬((a:Int)≤0) by omega),e9 (show ¬rule<g.rules.length by omega)]
  simp only[Bool.false_and,Bool.and_false]
 obtain⟨rr,c⟩:=aF b;obtain⟨x,hx⟩:=aF (show rule<f.rN.length by rw[h.al];exact b)
 have k:f.kids.getD rule 0=rr.kids:=by rw[h.kids,aZ,aw,c];rfl
 have e2:g.rules.getD rule mc=rr:=by rw[aZ,c];rfl
 have l:f.rN.getD rule YF=x:=by rw[aZ,hx];rfl
 rw[k,e2,l,dI b]
 rcases Decidable.em ((a:Int)≤rr.kids)with i|i
 case inr=>rw[e9 i];simp only[Bool.false_and,Bool.and_false]
 rw[dI i]
 have n:=hk rr (aa c)
 obtain⟨j,rfl⟩:∃j,a=j+1:=⟨a-1,by omega⟩
 have m:=h.at_ rule x rr hx c j zE
 have hp:=LR (nr:=f.nr) (nl:=f.nl) (top:=top) (by rw[zX h];exact h1)
 rw[zX h]at hp
 show(true&&true&&true&&((x.at_ j).2.getD (JP g top).toNat false))=(true&&true&&true&&true&&_)
 rw[m];unfold An;rw[aB (show(j:Int)<rr.kids by omega)]
 simp only[Bool.true_and]
 rw[aZ,aZ,aw];obtain⟨y,hy⟩:=aF (show(JP g top).toNat<(JG g).length by rw[GC,←h.nr,←h.nl];exact hp);rw[hy]
 show(dE mt rr.graph (rZ rr.graph ((j:Int)+1)).toNat y).isSome=(dE mt rr.graph (rZ rr.graph ((j+1:Nat):Int)).toNat y).isSome
 rw[show((j+1:Nat):Int)=(j:Int)+1 by push_cast;rfl]
def EJ (s:List Bool):Nat:=s.countP λb=> !b
theorem SX {s:List Bool}{o:Nat}(h:s[o]?=some false):EJ (s.set o true)+1=EJ s:=by
 unfold EJ
 induction s generalizing o with
 |nil=>cases h
 |cons b s a=>
  cases o with
  |zero=>obtain rfl:=Option.some.inj h;rw[xB,sL,sL];simp
  |succ o=>
   rw[HV,sL,sL]
   have:=a (o:=o) h
   omega
theorem SV (n:Nat):EJ (List.replicate n false)=n:=by
 unfold EJ
 induction n with
 |zero=>rfl
 |succ n a=>rw[List.replicate_succ,sL,a];rfl
abbrev D3:aY×List Bool:=(cF,[])
def bG (a:TypeId)(p:aY×List Bool):List ai:=[row p.1.1 a 1 p.2.length (rows e7 p.2)]
def bD (p:aY×List Bool):dQ:=sl e7 p.1.1 p.2
theorem YI {c:Ctx}(b:TypeId)(a:aY×List Bool)(H:List ai)(w:World)(h:Mm c (bG b a++H) w):Mm c (aD (bD a)::H) w:=by
 obtain⟨ρ,k⟩:=h.out;exact k.bI e7 a.2 rfl rfl (λ_ _=>trivial)
def yQ (P:List (aY×List Bool)):rJ:=⟨(P.getD 0 D3).1,(P.getD 1 D3).1,(P.getD 2 D3).1,(P.getD 0 D3).2,(P.getD 1 D3).2,(P.getD 2 D3).2⟩
theorem OU (P:List (aY×List Bool)){j:Nat}(h:j<3):(yQ P).at_ j=P.getD j D3:=by
 rcases j with _|_|_|j
 ·rfl
 ·rfl
 ·rfl
 ·omega
theorem RF {l:List Bool}{k:Nat}{x:Bool}(h:l[k]?=some x):(rows e7 l)[k*1+0]?=some (.bool x):=by
 have:=eP e7 l k 0 x h (by decide)
 exact this
theorem NM (l:List Bool)(k:Nat)(x:Bool):(rows e7 l).set (k*1+0) (.bool x)=rows e7 (l.set k x):=by
 rw[e8,fU];exact ve (Rr:=e7) rfl rfl l k
theorem yo (a:Nat)(b c:aY)(T:List eM)(d:iJ T)(nf:Nat)(e:nf≤100)(x y:ct)(hx:dp T.length nf (ao x))(hy:dp T.length nf (ao y))(f:x.nodes.length≤60)(g:y.nodes.length≤60)(node:Nat)(i:node<x.nodes.length):
 cX prog 166 ([au x,iv (node:Nat),au y]++ [tW a]).toArray [ir a [b.1,c.1],sl ax b.1 (dN T),sl ax c.1 (dM T),tz,aJ x,aJ y] (.bool (dE (ga T) (ao x) node (ao y)).isSome):=(FU a b c T d nf e x y hx hy f g node i).mono λ_ _ h=>h.1
theorem TV (g:ei)(s t:aY)(T:List eM)(hT:iJ T)(nf:Nat)(Pu:nf≤100)(hrn:g.rules.length≤40)(hxn:g.aK.length≤100)(Uz:∀r∈g.rules,(1≤r.kids∧r.kids≤3)∧dp T.length nf (ao r.graph)∧r.graph.nodes.length≤60)(Yw:∀x∈g.aK,dp T.length nf (ao x.graph)∧x.graph.nodes.length≤60)(O0:dp T.length nf (ao g.start)∧g.start.nodes.length≤60)
 (Hc:∀r∈g.rules,∀k:Int,0≤k→k≤r.kids→0≤rZ (ao r.graph) k):dR prog 115 #[gK g,jc s t] ([sl bX g.rv.1 g.rules,aL cR g.rules,sl dT g.xv.1 g.aK,aL eO g.aK,aJ g.start,sl ax s.1 (dN T),sl ax t.1 (dM T),tz].map aD) (λv H'=>∃f:kQ,v=MZ f∧wM f (dG g) (ga T)∧H'=[aD (gm f)]):=by
 refine dR.body (args:=[gK g,jc s t]) 196 func115 rfl ntmps115 rfl (λc=> ?_);refine St.cast (H':=[aD (sl bX g.rv.1 g.rules),aD (aL cR g.rules),aD (sl dT g.xv.1 g.aK),aD (aL eO g.aK),aD (aJ g.start),aD (sl ax s.1 (dN T)),aD (sl ax t.1 (dM T)),aD (tz)]) rfl ?_
 have hrn:g.rules.length≤40:=hrn
 have hmt:=GB T
 have Mo:∀(i:Nat) (r:dL),g.rules[i]?=some r→(1≤r.kids∧r.kids≤3)∧dp T.length nf (ao r.graph)∧r.graph.nodes.length≤60:=λi r h=>by have h1:=Uz r (aa h);exact h1
 have Yv:∀(i:Nat) (x:km),g.aK[i]?=some x→dp T.length nf (ao x.graph)∧x.graph.nodes.length≤60:=λi x h=>Yw x (aa h)
 refine g2 ?_;refine St.cW (.mk rfl) rfl (λb2=> ?_);refine St.cW (.mk rfl) rfl (λR=> ?_);refine St.al (λb4=> ?_);refine g10 ?_;refine St.ee (Ev.build (bC.ah rfl rfl) (λw=>IC rfl rfl w)) ?_;refine St.slot 33 (.agg #[iv (g.rules.length:Nat),iv (g.aK.length:Nat),(.slice none 0 0),(.slice none 0 0),(.slice none 0 0),(.slice none 0 0)]) rfl rfl ?_;refine St.al (λb5=> ?_);refine g18 ?_;refine St.dH 30 1 ?_;refine St.aN (.slice none 0 0) (show _=([]:List ct).length from rfl) (show _=rows iw []from rfl) ?_;refine St.ea aJ ?_;refine St.lH (ι:=Nat×aY×List ct) (λ⟨i,v,M⟩ T=>(37,iv i)::(6,v.1)::T) (λ⟨i,v,M⟩=>(row v.1 30 1 (M).length (rows iw (M))::aD (aL aJ (M))::tI b2 (jj g) 32::tI R [s.1,t.1] 154::tI b4 [iv 0,iv 0,(.slice none 0 0),(.slice none 0 0),(.slice none 0 0),(.slice none 0 0)] 217::tI b5 [iv (g.rules.length:Nat),iv (g.aK.length:Nat),cF.1,cF.1,cF.1,cF.1] 217::aD (sl bX g.rv.1 g.rules)::aD (aL cR g.rules)::aD (sl dT g.xv.1 g.aK)::aD (aL eO g.aK)::aD (aJ g.start)::aD (sl ax s.1 (dN T))::aD (sl ax t.1 (dM T))::aD tz::[])) (λ⟨i,v,M⟩=>i≤g.rules.length∧M.map ao=(g.rules.take i).map (λr=>lJ (ao r.graph))∧(∀y∈M,dp T.length nf (ao y)∧y.nodes.length≤60)) (λ⟨i,v,M⟩=>g.rules.length-i) ⟨0,cF,[]⟩ (aC.k6 2 3 4 5 35 36) ⟨aP _,rfl,λ_ h=>by cases h⟩ ?_;rintro ⟨i,v,M⟩ ⟨hi,U,C⟩
 dsimp only at hi U C⊢
 have hMl:M.length=i:=by have:=congrArg List.length U;rw[aR,aR,cy]at this;omega
 refine g6 ?_;refine St.cq (λh38=> ?_) (λh38=> ?_)
 ·obtain⟨r,D⟩:=aF (show i<g.rules.length by omega)
  obtain⟨hk,Ir,Bd⟩:=Mo i r D
  have Z3:=fi Ir Pu
  refine St.cN cR g.rules (x:=r) (aa D) ?_;refine St.gW (aJ r.graph) [cR r] (λρ h=>h (cR r) (aV ..) (aJ r.graph) (aV ..)) ?_;refine g7 ?_;refine St.ee (Ev.j2 (.mk rfl) D EH trivial oW gX.eq) ?_;refine St.al (λb8=> ?_);refine St.sA (.mk rfl) (.mk rfl) oW ?_ (h1:=(j8.2 λu hu=>bX.one r u hu));refine g5 ?_;refine St.ee (Ev.iz 1 (.mk rfl) mh trivial jk rfl rfl) ?_;refine St.slot 43 (au r.graph) rfl rfl ?_;refine St.dt (qJ r.graph T.length nf Pu Ir zE (Hc r (aa D) 0 zE zE)) Oz (.ay rfl) rfl ?_;rintro v44 _ rfl;refine St.eZ ?_;refine St.cY (lJ (ao r.graph)) v44 (λmy hm=> ?_);obtain⟨rfl,XD⟩:=hm;obtain⟨m1,m2⟩:=qc Ir (by rw[cj];exact Bd);rw[←XD]at m1 m2;rw[cj]at m2;refine St.hS rfl (.ay rfl) CM jk WL rfl rfl (by intro u hu;simp only[List.mem_cons,List.not_mem_nil,or_false]at hu;subst hu;rfl) rfl rfl (λb45=> ?_);refine St.aq (.mk rfl) (.mk rfl) CM jk WL abN (by intro u hu;have V0:u∈[my.nv.1]:=hu;rw[bN.1 V0];exact my.nv.2) zE zE rfl rfl rfl rfl (λv46 ai2=> ?_);refine St.aN v46 (show _=(M++ [my]).length from cH) (show _=rows iw (M++ [my]) by rw[bB];rfl) ?_;refine St.bQ v46 (λh46 _=> ?_);refine St.gW (aL aJ (M++ [my])) [aL aJ M,aJ my] (λρ h x hx=>by rcases cI.1 hx with hx|hx;exact h _ (aV ..) x hx;rw[bN.1 hx];exact h _ (bV _ (aV ..))) ?_;refine g9 ?_;refine St.aH ⟨i+1,⟨v46,h46⟩,M++ [my]⟩ ⟨by omega,by rw[cL,U,aO D,cL];show _++ [ao my]=_++ [lJ (ao r.graph)];rw[XD],λy hy=>by rcases cI.1 hy with hy|hy;exact C y hy;rw[bN.1 hy];exact⟨m1,m2⟩⟩
 ·obtain rfl:i=g.rules.length:=by omega
  rw[fW]at U;refine g15 ?_;refine St.lH (ι:=Nat×aY×List ct) (λ⟨i,v,M⟩ T=>(51,iv i)::(6,v.1)::T) (λ⟨i,v,M⟩=>(row v.1 30 1 (M).length (rows iw (M))::aD (aL aJ (M))::tI b2 (jj g) 32::tI R [s.1,t.1] 154::tI b4 [iv 0,iv 0,(.slice none 0 0),(.slice none 0 0),(.slice none 0 0),(.slice none 0 0)] 217::tI b5 [iv (g.rules.length:Nat),iv (g.aK.length:Nat),cF.1,cF.1,cF.1,cF.1] 217::aD (sl bX g.rv.1 g.rules)::aD (aL cR g.rules)::aD (sl dT g.xv.1 g.aK)::aD (aL eO g.aK)::aD (aJ g.start)::aD (sl ax s.1 (dN T))::aD (sl ax t.1 (dM T))::aD tz::[])) (λ⟨i,v,M⟩=>i≤g.aK.length∧M.map ao=g.rules.map (λr=>lJ (ao r.graph))++(g.aK.take i).map (λx=>ao x.graph)∧(∀y∈M,dp T.length nf (ao y)∧y.nodes.length≤60)) (λ⟨i,v,M⟩=>g.aK.length-i) ⟨0,v,M⟩ (aC.k6 2 3 4 5 49 50) ⟨aP _,by rw[U,nR,jz,fV],C⟩ ?_;rintro ⟨i,v,M⟩ ⟨hi,U,C⟩
  dsimp only at hi U C⊢
  have hMl:M.length=g.rules.length+i:=by have:=congrArg List.length U;rw[aR,bJ,aR,aR,cy]at this;omega
  refine g6 ?_;refine St.cq (λh52=> ?_) (λh52=> ?_)
  ·obtain⟨x,hx⟩:=aF (show i<g.aK.length by omega)
   obtain⟨Ir,Bd⟩:=Yv i x hx;refine St.cN eO g.aK (x:=x) (aa hx) ?_;refine St.gW (aJ x.graph) [eO x] (λρ h=>h (eO x) (aV ..) (aJ x.graph) (aV ..)) ?_;refine g7 ?_;refine St.ee (Ev.j2 (.mk rfl) hx A6 trivial nH gX.eq) ?_;refine St.al (λb10=> ?_);refine St.sA (.mk rfl) (.mk rfl) nH ?_ (h1:=(j8.2 λu hu=>dT.one x u hu));refine g5 ?_;refine St.ee (Ev.iz 1 (.mk rfl) mh trivial jk rfl rfl) ?_;refine St.slot 57 (au x.graph) rfl rfl ?_;refine St.hS rfl (.ay rfl) CM jk WL rfl rfl (by intro u hu;simp only[List.mem_cons,List.not_mem_nil,or_false]at hu;subst hu;rfl) rfl rfl (λb58=> ?_);refine St.aq (.mk rfl) (.mk rfl) CM jk WL abN (by intro u hu;have V0:u∈[x.graph.nv.1]:=hu;rw[bN.1 V0];exact x.graph.nv.2) zE zE rfl rfl rfl rfl (λv59 alE=> ?_);refine St.aN v59 (show _=(M++ [x.graph]).length from cH) (show _=rows iw (M++ [x.graph]) by rw[bB];rfl) ?_;refine St.bQ v59 (λh59 _=> ?_);refine St.gW (aL aJ (M++ [x.graph])) [aL aJ M,aJ x.graph] (λρ h x hx=>by rcases cI.1 hx with hx|hx;exact h _ (aV ..) x hx;rw[bN.1 hx];exact h _ (bV _ (aV ..))) ?_;refine g9 ?_;refine St.aH ⟨i+1,⟨v59,h59⟩,M++ [x.graph]⟩ ⟨by omega,by rw[cL,U,aO hx,cL,cr];rfl,λy hy=>by rcases cI.1 hy with hy|hy;exact C y hy;rw[bN.1 hy];exact⟨Ir,Bd⟩⟩
  ·obtain rfl:i=g.aK.length:=by omega
   rw[fW]at U
   have hMg:M.map ao=JG (dG g):=by rw[U];unfold JG dG;simp only[List.map_map];rfl
   obtain⟨⟨mv,hmv⟩,Pz⟩:∃z,z=v:=⟨v,rfl⟩
   subst Pz;refine St.bI mv iw M rfl rfl (λ_ _=>trivial) ?_;refine St.vb R ?_;refine g7 ?_;refine St.ee (Ev.func (.ay rfl)) ?_;refine g13 ?_;refine St.dH 3 1 ?_;refine St.aN (.slice none 0 0) (show _=([]:List Int).length from rfl) (show _=rows aI []from rfl) ?_;refine St.dH 277 3 ?_;refine St.aN (.slice none 0 0) (show _=([]:List rJ).length from rfl) (show _=rows sR []from rfl) ?_;refine St.ea nX ?_;refine St.lH (ι:=Nat×aY×List Int×aY×List rJ) (λ⟨i,kv,l,av,d⟩ T=>(65,iv i)::T) (λ⟨i,kv,l,av,d⟩=>(row kv.1 3 1 (l).length (rows aI (l))::row av.1 277 3 (d).length (rows sR (d))::aD (aL nX d)::tI b5 [iv (g.rules.length:Nat),iv (g.aK.length:Nat),kv.1,av.1,cF.1,cF.1] 217::aD (sl bX g.rv.1 g.rules)::aD (aL cR g.rules)::aD (sl dT g.xv.1 g.aK)::aD (aL eO g.aK)::aD (aJ g.start)::aD (sl ax s.1 (dN T))::aD (sl ax t.1 (dM T))::aD tz::tI b2 (jj g) 32::tI b4 [iv 0,iv 0,(.slice none 0 0),(.slice none 0 0),(.slice none 0 0),(.slice none 0 0)] 217::aD (ir R [s.1,t.1])::aD (sl iw mv M)::aD (aL aJ M)::[])) (λ⟨i,kv,l,av,d⟩=>i≤g.rules.length∧l=(g.rules.take i).map (·.kids)∧d.length=i∧∀(k:Nat) (x:rJ) (r:dL),d[k]?=some x→g.rules[k]?=some r→∀j,j<3→(x.at_ j).2=An (ga T) (l8 r) (M.map ao) (j)) (λ⟨i,kv,l,av,d⟩=>g.rules.length-i) ⟨0,cF,[],cF,[]⟩ (aC.k7 2 4 5 6 11 63 64) ⟨aP _,rfl,rfl,λ_ _ _ h=>by cases h⟩ ?_;rintro ⟨i,kv,l,av,d⟩ ⟨hi,P,V,hAL⟩
   dsimp only at hi P V hAL⊢
   have hKl:l.length=i:=by rw[P,aR,cy];omega
   refine g6 ?_;refine St.cq (λh66=> ?_) (λh66=> ?_)
   ·obtain⟨r,D⟩:=aF (show i<g.rules.length by omega)
    obtain⟨hk,Ir,Bd⟩:=Mo i r D
    have Z3:=fi Ir Pu
    refine St.cN cR g.rules (x:=r) (aa D) ?_;refine St.gW (aJ r.graph) [cR r] (λρ h=>h (cR r) (aV ..) (aJ r.graph) (aV ..)) ?_;refine g7 ?_;refine St.ee (Ev.j2 (.mk rfl) D EH trivial oW gX.eq) ?_;refine St.al (λYG=> ?_);refine St.sA (.mk rfl) (.mk rfl) oW ?_ (h1:=(j8.2 λu hu=>bX.one r u hu));refine g4 ?_;refine St.al (λT7=> ?_);refine St.jq T7 ([D3,D3,D3].map λp:aY×List Bool=>p.1.1) rfl ?_;refine St.dH 4 1 ?_;refine St.dH 4 1 ?_;refine St.dH 4 1 ?_;refine St.pQ [row (.slice none 0 0) 4 1 0 [],row (.slice none 0 0) 4 1 0 [],row (.slice none 0 0) 4 1 0 []] [] (bK (bG 4) ([D3,D3,D3])) (List.Perm.refl _) ?_;refine g11 ?_;refine St.lH (ι:=Nat×List (aY×List Bool)) (λ⟨k,Q⟩ T=>(71,iv k)::T) (λ⟨k,Q⟩=>(tI T7 ((Q).map λp=>p.1.1) 277::tI YG (zj r) 98::row kv.1 3 1 (l).length (rows aI (l))::row av.1 277 3 (d).length (rows sR (d))::aD (aL nX d)::tI b5 [iv (g.rules.length:Nat),iv (g.aK.length:Nat),kv.1,av.1,cF.1,cF.1] 217::aD (aJ r.graph)::aD (sl bX g.rv.1 g.rules)::aD (aL cR g.rules)::aD (sl dT g.xv.1 g.aK)::aD (aL eO g.aK)::aD (aJ g.start)::aD (sl ax s.1 (dN T))::aD (sl ax t.1 (dM T))::aD tz::tI b2 (jj g) 32::tI b4 [iv 0,iv 0,(.slice none 0 0),(.slice none 0 0),(.slice none 0 0),(.slice none 0 0)] 217::aD (ir R [s.1,t.1])::aD (sl iw mv M)::aD (aL aJ M)::bK (bG 4) (Q))) (λ⟨k,Q⟩=>(k:Int)≤r.kids∧Q.length=3∧∀j,j<3→(Q.getD j D3).2=if j<k then An (ga T) (l8 r) (M.map ao) (j)else []) (λ⟨k,Q⟩=>3-k) ⟨0,[D3,D3,D3]⟩ (aC.k11 2 4 5 6 11 13 14 63 64 65 70) ⟨by omega,rfl,λj S=>by rw[aA (Nat.not_lt_zero _)];rcases j with _|_|_|j;rfl;rfl;rfl;omega⟩ ?_;rintro ⟨k,Q⟩ ⟨hk3,F,hQ⟩
    dsimp only at hk3 F hQ⊢
    refine g6 ?_;refine St.cq (λh72=> ?_) (λh72=> ?_)
    ·obtain⟨nd,hnd⟩:∃nd:Nat,nd=(rZ (ao r.graph) ((k:Int)+1)).toNat:=⟨_,rfl⟩
     have akX:=Hc r (aa D) ((k:Int)+1) zE zE
     have aiS:=A0 Ir ((k:Int)+1)
     rw[←hnd,cj]at aiS
     have hLk:An (ga T) (l8 r) (M.map ao) (k)=M.map (λy:ct=>(dE (ga T) (ao r.graph) nd (ao y)).isSome):=by unfold An;rw[aB (show(k:Int)<(l8 r).kids from h72),iX,show(l8 r).graph=ao r.graph from rfl,←hnd];rfl
     refine g13 ?_;refine St.ee (Ev.iz 1 (.mk rfl) mh trivial jk rfl rfl) ?_;refine St.slot 75 (au r.graph) rfl rfl ?_;refine g2 ?_;refine St.slot 77 (iv ((k:Int)+1)) rfl rfl ?_;refine St.ee (Ev.call (mo r.graph 0 ((k:Int)+1) (by have:=Ir.pos;rw[cj]at this;omega) (λn hn=>⟨(Z3 n hn).1,by have:=(Z3 n hn).2;omega⟩)) Tw (.fk rfl rfl rfl)) ?_;refine St.slot 78 (iv (nd:Nat)) rfl (congrArg iv (by rw[A1];omega)) ?_;refine g11 ?_;refine St.lH (ι:=Nat×List (aY×List Bool)) (λ⟨m,Q⟩ T=>(81,iv m)::T) (λ⟨m,Q⟩=>(tI T7 ((Q).map λp=>p.1.1) 277::tI YG (zj r) 98::row kv.1 3 1 (l).length (rows aI (l))::row av.1 277 3 (d).length (rows sR (d))::aD (aL nX d)::tI b5 [iv (g.rules.length:Nat),iv (g.aK.length:Nat),kv.1,av.1,cF.1,cF.1] 217::aD (aJ r.graph)::aD (sl bX g.rv.1 g.rules)::aD (aL cR g.rules)::aD (sl dT g.xv.1 g.aK)::aD (aL eO g.aK)::aD (aJ g.start)::aD (sl ax s.1 (dN T))::aD (sl ax t.1 (dM T))::aD tz::tI b2 (jj g) 32::tI b4 [iv 0,iv 0,(.slice none 0 0),(.slice none 0 0),(.slice none 0 0),(.slice none 0 0)] 217::aD (ir R [s.1,t.1])::aD (sl iw mv M)::aD (aL aJ M)::bK (bG 4) (Q))) (λ⟨m,Q⟩=>m≤M.length∧Q.length=3∧∀j,j<3→(Q.getD j D3).2=if j<k then An (ga T) (l8 r) (M.map ao) (j)else if j=k then(M.take m).map (λy:ct=>(dE (ga T) (ao r.graph) nd (ao y)).isSome)else []) (λ⟨m,Q⟩=>M.length-m) ⟨0,Q⟩ (aC.k16 2 4 5 6 11 13 14 15 16 63 64 65 70 71 79 80) ⟨aP _,F,λj S=>by rw[hQ j S];split;rfl;split;rfl;rfl⟩ ?_;rintro ⟨m,Q⟩ ⟨hm,F,hQ⟩
     dsimp only at hm F hQ⊢
     refine g6 ?_;refine St.cq (λh82=> ?_) (λh82=> ?_)
     ·obtain⟨y,hy⟩:=aF (show m<M.length by omega)
      obtain⟨hgy,hly⟩:=C y (aa hy);obtain⟨q,hq⟩:=aF (show k<Q.length by omega)
      have hqd:Q.getD k D3=q:=by rw[aZ,hq];rfl
      have XE:q.2=(M.take m).map (λy:ct=>(dE (ga T) (ao r.graph) nd (ao y)).isSome):=by rw[←hqd,hQ k zE,aA (Nat.lt_irrefl _),aB rfl]
      have ad8:q.2.length=m:=by rw[XE,aR,cy];omega
      refine St.gW (aJ y) [aL aJ M] (λρ h=>h _ (aV ..) y (aa hy)) ?_;refine g7 ?_;refine St.ee (Ev.j2 (.mk rfl) hy mh trivial jk gX.eq) ?_;refine St.al (λb18=> ?_);refine St.sA (.mk rfl) (.mk rfl) jk ?_ (h1:=(by simp only[iw,List.all_cons,List.all_nil,Bool.and_true];exact y.nv.2));refine g2 ?_;refine St.tail (bK (bG 4) (Q)) (row q.1.1 4 1 (q.2).length (rows e7 (q.2))::bK (bG 4) (Q.eraseIdx k)) (r6 _ hq) ?_;refine St.dZ (tI T7 ((Q).map λp=>p.1.1) 277::row q.1.1 4 1 (q.2).length (rows e7 (q.2))::bK (bG 4) (Q.eraseIdx k)) mixed (λnp ns=> ?_);refine SW.gd 0 ?_;refine SW.gd 1 ?_;refine SW.dd 2 rfl (λ_=>Ev.Iz (k:=k) (.mk rfl) (.mk rfl) A8 qn rfl zE) ?_;refine SW.gd 4 ?_;refine SW.gd 5 ?_;refine SW.dd 6 rfl (λ_=>Ev.iz 1 (.mk rfl) mh trivial jk rfl rfl) ?_;refine SW.slot 91 (au r.graph) rfl rfl ?_;refine SW.gd 7 ?_;refine SW.gd 8 ?_;refine SW.slot 93 (au y) rfl rfl ?_;refine SW.dd 9 rfl (λ_=>Ev.fg (yo R s t T hT nf Pu r.graph y Ir hgy Bd hly nd zE) Wp (.mk rfl) (.fk rfl rfl rfl)) ?_;refine SW.t2 3 10 ?_ ?_
      focus
       refine St.ee (Ev.gh (.mk rfl) jL trivial (show(Q.map λp=>p.1.1)[k]?=some q.1.1 by rw[aw,hq];rfl)) ?_;refine g2 ?_;refine SW.go ?_;refine SW.t1 10 ?_;refine St.hS rfl (.ay rfl) jL CG TM rfl rfl (by simp[Value.cells]) rfl rfl (λb95=> ?_);refine g2 ?_;refine SW.go ?_;refine SW.t1 11 ?_;refine St.aq (.mk rfl) (.mk rfl) jL CG TM by4 (by simp[Value.oneCell',Value.cells]) zE zE rfl rfl rfl rfl (λX aeL=> ?_);refine St.aN X (show _=(q.2++ [(dE (ga T) (ao r.graph) nd (ao y)).isSome]).length from cH) (show _=rows e7 (q.2++ [(dE (ga T) (ao r.graph) nd (ao y)).isSome]) by rw[bB];rfl) ?_;refine St.bQ X (λPg _=> ?_);refine g2 ?_;refine SW.go ?_;refine SW.dd 12 rfl (λ_=>Ev.Iz (k:=k) (.mk rfl) (.mk rfl) A8 qn rfl zE) ?_;refine SW.t1 13 ?_;refine St.Le ((Q.set k (⟨X,Pg⟩,q.2++ [(dE (ga T) (ao r.graph) nd (ao y)).isSome])).map λp=>p.1.1) (.mk rfl) (.mk rfl) (by rw[k9]) qn Pg (by rw[aR];omega) ?_;refine g2 ?_;refine SW.go ?_;refine SW.dn ?_
      rotate_left
      focus
       refine St.hS rfl (.ay rfl) jL CG TM rfl rfl (by simp[Value.cells]) rfl rfl (λb95=> ?_);refine g2 ?_;refine SW.go ?_;refine SW.t1 3 ?_;refine St.ee (Ev.gh (.mk rfl) jL trivial (show(Q.map λp=>p.1.1)[k]?=some q.1.1 by rw[aw,hq];rfl)) ?_;refine g2 ?_;refine SW.go ?_;refine SW.t1 11 ?_;refine St.aq (.mk rfl) (.mk rfl) jL CG TM by4 (by simp[Value.oneCell',Value.cells]) zE zE rfl rfl rfl rfl (λX aeL=> ?_);refine St.aN X (show _=(q.2++ [(dE (ga T) (ao r.graph) nd (ao y)).isSome]).length from cH) (show _=rows e7 (q.2++ [(dE (ga T) (ao r.graph) nd (ao y)).isSome]) by rw[bB];rfl) ?_;refine St.bQ X (λPg _=> ?_);refine g2 ?_;refine SW.go ?_;refine SW.dd 12 rfl (λ_=>Ev.Iz (k:=k) (.mk rfl) (.mk rfl) A8 qn rfl zE) ?_;refine SW.t1 13 ?_;refine St.Le ((Q.set k (⟨X,Pg⟩,q.2++ [(dE (ga T) (ao r.graph) nd (ao y)).isSome])).map λp=>p.1.1) (.mk rfl) (.mk rfl) (by rw[k9]) qn Pg (by rw[aR];omega) ?_;refine g2 ?_;refine SW.go ?_;refine SW.dn ?_
      all_goals
       refine g7 ?_;refine St.pQ [row (⟨X,Pg⟩:aY).1 4 1 (q.2++ [(dE (ga T) (ao r.graph) nd (ao y)).isSome]).length (rows e7 (q.2++ [(dE (ga T) (ao r.graph) nd (ao y)).isSome]))] (bK (bG 4) (Q.eraseIdx k)) (bK (bG 4) (Q.set k (⟨X,Pg⟩,q.2++ [(dE (ga T) (ao r.graph) nd (ao y)).isSome]))) (vN (bG 4) (⟨X,Pg⟩,q.2++ [(dE (ga T) (ao r.graph) nd (ao y)).isSome]) zE) ?_;refine St.aH ⟨m+1,Q.set k (⟨X,Pg⟩,q.2++ [(dE (ga T) (ao r.graph) nd (ao y)).isSome])⟩ ⟨by omega,by rw[eC];exact F,λj S=>by rw[aZ];by_cases h2:j=k;subst h2;rw[fp zE,aA (Nat.lt_irrefl _),aB rfl,aO hy,cL];show q.2++_=_;rw[XE];rfl;rw[gV (λh=>h2 h.symm),←aZ,hQ j S,aA h2,aA h2]⟩
     ·obtain rfl:m=M.length:=by omega
      rw[fW]at hQ;refine g11 ?_;refine St.aH ⟨k+1,Q⟩ ⟨by push_cast;omega,F,λj S=>by rw[hQ j S];by_cases h1:j<k;rw[aB h1,aB zE];rw[aA h1];by_cases h2:j=k;subst h2;rw[aB rfl,aB zE,hLk];rw[aA h2,aA zE]⟩
    ·have hkr:r.kids=(k:Int):=by omega
     refine g11 ?_;refine St.hS rfl (.ay rfl) cP eL jF rfl rfl (by simp[Value.cells]) rfl rfl (λagQ=> ?_);refine St.aq (.mk rfl) (.mk rfl) cP eL jF vD (by simp[Value.oneCell',Value.cells]) zE zE rfl rfl rfl rfl (λv105 aeI=> ?_);refine St.aN v105 (show _=(l++ [r.kids]).length from cH) (show _=rows aI (l++ [r.kids]) by rw[bB];rfl) ?_;refine St.bQ v105 (λIm _=> ?_);refine go ?_;refine St.bL (.mk rfl) (.mk rfl) jm Im (by rfl) ?_;refine g2 ?_
     obtain⟨J,K,L,rfl⟩:∃J K L,Q=[J,K,L]:=by match Q,F with| [a,b,c2],_=>exact⟨a,b,c2,rfl⟩
     refine g4 ?_;refine St.slot 109 (.agg #[J.1.1,K.1.1,L.1.1]) rfl rfl ?_;refine St.hS rfl (.ay rfl) underlying213 Lo Xo rfl rfl (by intro u hu;simp only[List.mem_cons,List.not_mem_nil,or_false]at hu;subst hu;rfl) rfl rfl (λakC=> ?_);refine St.aq (.mk rfl) (.mk rfl) underlying213 Lo Xo abM (by intro u hu;have V0:u∈[J.1.1,K.1.1,L.1.1]:=hu;simp only[List.mem_cons,List.not_mem_nil,or_false]at V0;rcases V0 with rfl|rfl|rfl;exact J.1.2;exact K.1.2;exact L.1.2) zE zE rfl rfl rfl rfl (λNi aj2=> ?_);refine St.aN Ni (show _=(d++ [yQ [J,K,L]]).length from cH) (show _=rows sR (d++ [yQ [J,K,L]]) by rw[bB];rfl) ?_;refine St.bQ Ni (λadG _=> ?_);refine St.VX (f:=bG 4) bD [J,K,L] (λa H w h=>YI 4 a H w h) ?_;refine St.gW (nX (yQ [J,K,L])) [aL bD [J,K,L]] (λρ h=>by have h0:=h _ (aV ..);intro e he;rcases bT.1 he with rfl|he;exact h0 J (by simp);rcases bT.1 he with rfl|he;exact h0 K (by simp);rcases bT.1 he with rfl|he;exact h0 L (by simp);cases he) ?_;refine St.gW (aL nX (d++ [yQ [J,K,L]])) [aL nX d,nX (yQ [J,K,L])] (λρ h x hx=>by rcases cI.1 hx with hx|hx;exact h _ (aV ..) x hx;rw[bN.1 hx];exact h _ (bV _ (aV ..))) ?_;refine go ?_;refine St.bL (.mk rfl) (.mk rfl) af2 adG (by rfl) ?_;refine g8 ?_;refine St.aH ⟨i+1,⟨v105,Im⟩,l++ [r.kids],⟨Ni,adG⟩,d++ [yQ [J,K,L]]⟩ ⟨by omega,by rw[P,aO D,cL];rfl,by rw[bJ,V];rfl,λk2 x r2 hx Ux j S=>by rcases Nat.lt_trichotomy k2 i with h1|h1|h1;exact hAL k2 x r2 (by rw[oh zE]at hx;exact hx) Ux j S;subst h1;rw[jM zE,V,eX]at hx;obtain rfl:=Option.some.inj hx;rw[D]at Ux;obtain rfl:=Option.some.inj Ux;rw[OU _ S,hQ j S];split;rfl;(unfold An;rw[aA (show ¬(j:Int)<(l8 r).kids from by show ¬(j:Int)<r.kids;omega)]);rw[fT (by rw[bJ,V];simp only[List.length_cons,List.length_nil];omega)]at hx;cases hx⟩
   ·obtain rfl:i=g.rules.length:=by omega
    rw[fW]at P
    obtain⟨⟨G,TF⟩,Pz⟩:∃z,z=kv:=⟨kv,rfl⟩
    subst Pz
    obtain⟨⟨E,TB⟩,hv3⟩:∃z,z=av:=⟨av,rfl⟩
    subst hv3;refine St.bI G aI l rfl rfl (λz hz=>by rw[P]at hz;obtain⟨r,D,rfl⟩:=cA.1 hz;have:=(Uz r D).1;show bR r.kids;unfold bR;omega) ?_;refine St.bI E sR d rfl rfl (λ_ _=>trivial) ?_
    have hFO:∀s2 f2:aY,wM ⟨g.rules.length,g.aK.length,⟨G,TF⟩,⟨E,TB⟩,s2,f2,l,d⟩ (dG g) (ga T):=λs2 f2=>⟨(aR _).symm,(aR _).symm,by show l=(g.rules.map l8).map _;rw[P,iX];rfl,by show d.length=(g.rules.map l8).length;rw[V,aR],λk x rr hx hrr j S=>by have hrr:(g.rules.map l8)[k]?=some rr:=hrr;rw[aw]at hrr;obtain⟨r,D,rfl⟩:=dX.1 hrr;rw[hAL k x r hx D j S,hMg]⟩
    refine g14 ?_;refine St.dH 4 1 ?_;refine St.aN (.slice none 0 0) (show _=([]:List Bool).length from rfl) (show _=rows e7 []from rfl) ?_;refine St.lH (ι:=Nat×aY×List Bool) (λ⟨m,sv,N⟩ T=>(116,iv m)::T) (λ⟨m,sv,N⟩=>(row sv.1 4 1 (N).length (rows e7 (N))::tI b5 [iv (g.rules.length:Nat),iv (g.aK.length:Nat),(⟨G,TF⟩:aY).1,(⟨E,TB⟩:aY).1,sv.1,cF.1] 217::aD (sl aI G l)::aD (sl sR E d)::aD (aL nX d)::aD (sl bX g.rv.1 g.rules)::aD (aL cR g.rules)::aD (sl dT g.xv.1 g.aK)::aD (aL eO g.aK)::aD (aJ g.start)::aD (sl ax s.1 (dN T))::aD (sl ax t.1 (dM T))::aD tz::tI b2 (jj g) 32::tI b4 [iv 0,iv 0,(.slice none 0 0),(.slice none 0 0),(.slice none 0 0),(.slice none 0 0)] 217::aD (ir R [s.1,t.1])::aD (sl iw mv M)::aD (aL aJ M)::[])) (λ⟨m,sv,N⟩=>m≤M.length∧N.length=m) (λ⟨m,sv,N⟩=>M.length-m) ⟨0,cF,[]⟩ (aC.k7 2 4 5 6 11 114 115) ⟨aP _,rfl⟩ ?_;rintro ⟨m,sv,N⟩ ⟨hm,hSl⟩
    dsimp only at hm hSl⊢
    refine g6 ?_;refine St.cq (λah0=> ?_) (λah0=> ?_)
    ·obtain⟨y,hy⟩:=aF (show m<M.length by omega)
     obtain⟨hgy,hly⟩:=C y (aa hy);refine St.gW (aJ y) [aL aJ M] (λρ h=>h _ (aV ..) y (aa hy)) ?_;refine g7 ?_;refine St.ee (Ev.j2 (.mk rfl) hy mh trivial jk gX.eq) ?_;refine St.al (λb20=> ?_);refine St.sA (.mk rfl) (.mk rfl) jk ?_ (h1:=(by simp only[iw,List.all_cons,List.all_nil,Bool.and_true];exact y.nv.2));refine g2 ?_;refine St.dZ [row sv.1 4 1 (N).length (rows e7 (N)),tI b5 [iv (g.rules.length:Nat),iv (g.aK.length:Nat),(⟨G,TF⟩:aY).1,(⟨E,TB⟩:aY).1,sv.1,cF.1] 217] mixed (λnp ns=> ?_);refine SW.gd 0 ?_;refine SW.gd 2 ?_;refine SW.gd 3 ?_;refine SW.dd 4 rfl (λ_=>Ev.iz 1 (.mk rfl) mh trivial jk rfl rfl) ?_;refine SW.slot 124 (au g.start) rfl rfl ?_;refine SW.gd 5 ?_;refine SW.slot 125 (au y) rfl rfl ?_;refine SW.dd 6 rfl (λ_=>Ev.fg (yo R s t T hT nf Pu g.start y O0.1 hgy O0.2 hly 0 (by have:=O0.1.pos;rw[cj]at this;exact this)) Wp (.mk rfl) (.fk rfl rfl rfl)) ?_;refine SW.t2 1 7 ?_ ?_
     focus
      refine g3 ?_;refine SW.go ?_;refine SW.t1 7 ?_;refine St.hS rfl (.ay rfl) jL CG TM rfl rfl (by simp[Value.cells]) rfl rfl (λagR=> ?_);refine g2 ?_;refine SW.go ?_;refine SW.t1 8 ?_;refine St.aq (.mk rfl) (.mk rfl) jL CG TM by4 (by simp[Value.oneCell',Value.cells]) zE zE rfl rfl rfl rfl (λNj aeJ=> ?_);refine St.aN Nj (show _=(N++ [(dE (ga T) (ao g.start) 0 (ao y)).isSome]).length from cH) (show _=rows e7 (N++ [(dE (ga T) (ao g.start) 0 (ao y)).isSome]) by rw[bB];rfl) ?_;refine St.bQ Nj (λUr _=> ?_);refine g2 ?_;refine SW.go ?_;refine SW.gd 9 ?_;refine SW.t1 10 ?_;refine St.bL (.mk rfl) (.mk rfl) qn Ur (by rfl) ?_;refine g2 ?_;refine SW.go ?_;refine SW.dn ?_
     rotate_left
     focus
      refine St.hS rfl (.ay rfl) jL CG TM rfl rfl (by simp[Value.cells]) rfl rfl (λagR=> ?_);refine g2 ?_;refine SW.go ?_;refine SW.t1 1 ?_;refine g3 ?_;refine SW.go ?_;refine SW.t1 8 ?_;refine St.aq (.mk rfl) (.mk rfl) jL CG TM by4 (by simp[Value.oneCell',Value.cells]) zE zE rfl rfl rfl rfl (λNj aeJ=> ?_);refine St.aN Nj (show _=(N++ [(dE (ga T) (ao g.start) 0 (ao y)).isSome]).length from cH) (show _=rows e7 (N++ [(dE (ga T) (ao g.start) 0 (ao y)).isSome]) by rw[bB];rfl) ?_;refine St.bQ Nj (λUr _=> ?_);refine g2 ?_;refine SW.go ?_;refine SW.gd 9 ?_;refine SW.t1 10 ?_;refine St.bL (.mk rfl) (.mk rfl) qn Ur (by rfl) ?_;refine g2 ?_;refine SW.go ?_;refine SW.dn ?_
     all_goals
      refine g7 ?_;refine St.aH ⟨m+1,⟨Nj,Ur⟩,N++ [(dE (ga T) (ao g.start) 0 (ao y)).isSome]⟩ ⟨by omega,by rw[bJ,hSl];rfl⟩
    ·obtain rfl:m=M.length:=by omega
     refine g15 ?_;refine St.dH 214 1 ?_;refine St.aN (.slice none 0 0) (show _=([]:List aY).length from rfl) (show _=rows bU []from rfl) ?_;refine St.lH (ι:=Nat×aY×List aY) (λ⟨i,fv,O⟩ T=>(134,iv i)::T) (λ⟨i,fv,O⟩=>(row fv.1 214 1 O.length (rows bU O)::tI b5 [iv (g.rules.length:Nat),iv (g.aK.length:Nat),(⟨G,TF⟩:aY).1,(⟨E,TB⟩:aY).1,sv.1,fv.1] 217::aD (sl aI G l)::aD (sl sR E d)::aD (aL nX d)::aD (sl bX g.rv.1 g.rules)::aD (aL cR g.rules)::aD (sl dT g.xv.1 g.aK)::aD (aL eO g.aK)::aD (aJ g.start)::aD (sl ax s.1 (dN T))::aD (sl ax t.1 (dM T))::aD tz::tI b2 (jj g) 32::tI b4 [iv 0,iv 0,(.slice none 0 0),(.slice none 0 0),(.slice none 0 0),(.slice none 0 0)] 217::aD (ir R [s.1,t.1])::aD (sl iw mv M)::aD (aL aJ M)::[])) (λ⟨i,fv,O⟩=>i≤g.rules.length∧O.length=i) (λ⟨i,fv,O⟩=>g.rules.length-i) ⟨0,cF,[]⟩ (aC.k4 4 5 6 133) ⟨aP _,rfl⟩ ?_;rintro ⟨i,fv,O⟩ ⟨hi,hFl⟩
     dsimp only at hi hFl⊢
     refine g6 ?_;refine St.cq (λah3=> ?_) (λah3=> ?_)
     ·refine g14 ?_
      refine St.kr (m:=M.length) (.mk rfl) (.mk rfl) jL CG TM by4 rfl rfl zE rfl rfl (λI8=> ?_);refine St.aN (tO I8 M.length M.length) (show _=(List.replicate M.length false).length by rw[nO]) (show _=rows e7 (List.replicate M.length false)from(mK (Rr:=e7) rfl _).symm) ?_;refine g7 ?_;refine St.hS rfl (.ay rfl) cP eL jF rfl rfl (by simp[Value.cells]) rfl rfl (λabD=> ?_);refine St.aN (tO abD 1 1) (show _=[i].length from rfl) (show _=rows aI (bx [i])from rfl) ?_;refine g4 ?_;refine St.lH (ι:=List Bool×aY×List Nat) (λ⟨B,wv,W⟩ T=>(23,wv.1)::T) (λ⟨B,wv,W⟩=>(row (tO I8 M.length M.length) 4 1 B.length (rows e7 B)::row wv.1 3 1 W.length (rows aI (bx W))::row fv.1 214 1 O.length (rows bU O)::tI b5 [iv (g.rules.length:Nat),iv (g.aK.length:Nat),(⟨G,TF⟩:aY).1,(⟨E,TB⟩:aY).1,sv.1,fv.1] 217::aD (sl aI G l)::aD (sl sR E d)::aD (aL nX d)::aD (sl bX g.rv.1 g.rules)::aD (aL cR g.rules)::aD (sl dT g.xv.1 g.aK)::aD (aL eO g.aK)::aD (aJ g.start)::aD (sl ax s.1 (dN T))::aD (sl ax t.1 (dM T))::aD tz::tI b2 (jj g) 32::tI b4 [iv 0,iv 0,(.slice none 0 0),(.slice none 0 0),(.slice none 0 0),(.slice none 0 0)] 217::aD (ir R [s.1,t.1])::aD (sl iw mv M)::aD (aL aJ M)::[])) (λ⟨B,wv,W⟩=>B.length=M.length∧(∀z∈W,z<g.rules.length)∧EJ B+W.length≤M.length+1) (λ⟨B,wv,W⟩=>EJ B+W.length) ⟨List.replicate M.length false,⟨tO abD 1 1,rfl⟩,[i]⟩ (aC.k6 4 5 6 22 133 134) ⟨nO ..,λz hz=>by rw[bN.1 hz];omega,by rw[SV];exact aQ _⟩ ?_;rintro ⟨B,wv,W⟩ ⟨ET,hW,hb⟩
      dsimp only at ET hW hb⊢
      refine g8 ?_;refine St.cq (λadJ=> ?_) (λadJ=> ?_)
      ·obtain⟨A,at_,rfl⟩:∃A at_,W=A++ [at_]:=⟨W.dropLast,W.getLast (by intro h;subst h;simp at adJ),(List.dropLast_concat_getLast _).symm⟩
       have aiF:=hW at_ (by simp)
       have hWl:(A++ [at_]).length=A.length+1:=cH.symm
       obtain⟨Y,XG⟩:=aF (show at_<d.length by omega);obtain⟨ra,Uy⟩:=aF aiF;obtain⟨hka,_,_⟩:=Mo at_ ra Uy
       have TI:(Y.at_ 0).2.length=M.length:=by rw[hAL at_ Y ra XG Uy 0 zE];unfold An;rw[aB (show((0:Nat):Int)<(l8 ra).kids from by show((0:Nat):Int)<ra.kids;omega),aR,aR]
       refine St.cN nX d (x:=Y) (aa XG) ?_;refine St.gW (sl e7 (Y.at_ 0).1.1 (Y.at_ 0).2) [nX Y] (λρ h=>KO Y 0 ρ (h _ (aV ..))) ?_;refine g8 ?_;refine St.slot 147 (iv ((A.length+1:Nat):Int)) rfl (congrArg iv (by rw[hWl])) ?_;refine go ?_;refine St.slot 148 (iv (A.length:Nat)) rfl (congrArg iv (by push_cast;omega)) ?_;refine St.ee (Ev.cw (k:=A.length) (.mk rfl) (.mk rfl) cP eL zE zE) ?_;refine St.ee (Ev.cx (.mk rfl) eK trivial zE (fm (iZ (show(A++ [at_])[A.length]?=some at_ by simp)))) ?_;refine g8 ?_;refine St.slot 153 (iv ((A.length+1:Nat):Int)) rfl (congrArg iv (by rw[hWl])) ?_;refine go ?_;refine St.slot 154 (iv (A.length:Nat)) rfl (congrArg iv (by push_cast;omega)) ?_;refine St.ee (Ev.mN (h:=A.length) (.mk rfl) (.mk rfl) cP eL zE zE) ?_;refine St.zd wv.1 A.length zE ?_;refine St.bQ (mX wv.1 1 0 A.length) (λah6 _=> ?_);refine St.aN (mX wv.1 1 0 A.length) rfl (show _=rows aI (bx A) by rw[kG,←du A];exact uS aI _ _) ?_;refine g8 ?_;refine St.LZ E zE (λbs os cs Px=> ?_);refine go ?_;refine St.ee (Ev.xo (j:=0) Px (.mk rfl) (.mk rfl) A8 qn zE zE) ?_;refine St.ee (Ev.ld1 (.mk rfl) XG jL trivial (Y.cell zE)) ?_;refine g5 ?_
       obtain⟨B0,hB0⟩:∃B0,B0=EJ B+A.length:=⟨_,rfl⟩
       have hB1:B0≤M.length:=by omega
       refine St.lH (ι:=Nat×List Bool×aY×List Nat) (λ⟨o,B,wv,W⟩ T=>(163,iv o)::(23,wv.1)::T) (λ⟨o,B,wv,W⟩=>(row (tO I8 M.length M.length) 4 1 B.length (rows e7 B)::row wv.1 3 1 W.length (rows aI (bx W))::row fv.1 214 1 O.length (rows bU O)::tI b5 [iv (g.rules.length:Nat),iv (g.aK.length:Nat),(⟨G,TF⟩:aY).1,(⟨E,TB⟩:aY).1,sv.1,fv.1] 217::aD (sl aI G l)::aD (sl sR E d)::aD (aL nX d)::aD (sl e7 (Y.at_ 0).1.1 (Y.at_ 0).2)::aD (sl bX g.rv.1 g.rules)::aD (aL cR g.rules)::aD (sl dT g.xv.1 g.aK)::aD (aL eO g.aK)::aD (aJ g.start)::aD (sl ax s.1 (dN T))::aD (sl ax t.1 (dM T))::aD tz::tI b2 (jj g) 32::tI b4 [iv 0,iv 0,(.slice none 0 0),(.slice none 0 0),(.slice none 0 0),(.slice none 0 0)] 217::aD (ir R [s.1,t.1])::aD (sl iw mv M)::aD (aL aJ M)::[])) (λ⟨o,B,wv,W⟩=>o≤M.length∧B.length=M.length∧(∀z∈W,z<g.rules.length)∧EJ B+W.length≤B0) (λ⟨o,B,wv,W⟩=>M.length-o) ⟨0,B,⟨mX wv.1 1 0 A.length,ah6⟩,A⟩ (aC.k8 4 5 6 22 133 134 161 162) ⟨aP _,ET,λz hz=>hW z (by simp[hz]),Nat.le_of_eq hB0.symm⟩ ?_;rintro ⟨o,I,wv2,W2⟩ ⟨ho,Py,Z,Kz⟩
       dsimp only at ho Py Z Kz⊢
       refine g6 ?_;refine St.cq (λah8=> ?_) (λah8=> ?_)
       ·obtain⟨bo,hbo⟩:=aF (show o<(Y.at_ 0).2.length by omega)
        obtain⟨so,hso⟩:=aF (show o<I.length by omega);refine g17 ?_;refine St.gt _ rfl rfl (λhg=>Ev.move (.mk rfl)) rfl ?_;refine St.gt _ rfl rfl (λhg=>Ev.move (.mk rfl)) rfl ?_;refine St.gt _ rfl rfl (λhg=>Ev.cw (k:=o) (aX.gv rfl hg) (aX.gv rfl hg) jL CG (by first|omega|(simp only[bj]at hg;omega)) zE) rfl ?_;refine St.gt _ rfl rfl (λhg=>Ev.cx (aX.gv rfl hg) K3 trivial zE (RF hso)) rfl ?_;refine St.gt _ rfl rfl (λhg=>Ev.not (aX.gv rfl hg)) rfl ?_;refine g3 ?_;refine St.cond _ rfl (λadL=> ?_) (λadL=> ?_)
        ·skip
         obtain rfl:so=false:=by cases so;rfl;simp at adL
         have hu:=SX hso
         refine g5 ?_;refine St.bz (.mk rfl) (.mk rfl) CG rfl zE (by decide) ?_;refine St.aN (tO I8 M.length M.length) (show _=(I.set o true).length by rw[eC]) (show _=rows e7 (I.set o true)from NM _ _ _) ?_;refine g10 ?_;refine St.cq (λah9=> ?_) (λah9=> ?_)
         ·refine g3 ?_
          refine St.hS rfl (.ay rfl) cP eL jF rfl rfl (by simp[Value.cells]) rfl rfl (λakI=> ?_);refine St.aq (.mk rfl) (.mk rfl) cP eL jF vD (by simp[Value.oneCell',Value.cells]) zE zE rfl rfl rfl rfl (λaaL aj8=> ?_);refine St.aN aaL (show _=(W2++ [o]).length by rw[bJ];rfl) (show _=rows aI (bx (W2++ [o])) by rw[kG,bB];rfl) ?_;refine St.bQ aaL (λaiA _=> ?_);refine g9 ?_;refine St.aH ⟨o+1,I.set o true,⟨aaL,aiA⟩,W2++ [o]⟩ ⟨by omega,by rw[eC];exact Py,λz hz=>by rcases cI.1 hz with hz|hz;exact Z z hz;rw[bN.1 hz];omega,by dsimp only;rw[bJ];simp only[List.length_cons,List.length_nil];omega⟩
         ·refine g8 ?_
          refine St.aH ⟨o+1,I.set o true,wv2,W2⟩ ⟨by omega,by rw[eC];exact Py,Z,by first|omega|(dsimp only;omega)⟩
        ·skip
         skip
         refine g8 ?_;refine St.aH ⟨o+1,I,wv2,W2⟩ ⟨by omega,Py,Z,Kz⟩
       ·skip
        refine g6 ?_;refine St.p5 ⟨I,wv2,W2⟩ ⟨Py,Z,by first|omega|(dsimp only;omega)⟩ (by dsimp only;omega) (by repeat(first|exact Sub.nil|refine Sub.cons (by first|rfl|exact congrArg (λz=>some (iv z)) (by first|omega|(dsimp only;omega))|exact congrArg (λz=>some (Value.bool z)) (by first|assumption|exact ke (by assumption))) ?_)) (λ_ hw=>hw.sub)
      ·skip
       refine g9 ?_;refine St.hS rfl (.ay rfl) underlying215 qn Xn rfl rfl (by simp[Value.cells]) rfl rfl (λakJ=> ?_);refine St.aq (.mk rfl) (.mk rfl) underlying215 qn Xn abL (by simp[Value.oneCell',Value.cells]) zE zE rfl rfl rfl rfl (λaaM aj9=> ?_);refine St.aN aaM (show _=(O++ [(⟨tO I8 M.length M.length,rfl⟩:aY)]).length from cH) (show _=rows bU (O++ [(⟨tO I8 M.length M.length,rfl⟩:aY)]) by rw[bB];rfl) ?_;refine St.bQ aaM (λadM _=> ?_);refine go ?_;refine St.bL (.mk rfl) (.mk rfl) af3 adM (by rfl) ?_;refine g8 ?_;refine St.aH ⟨i+1,⟨aaM,adM⟩,O++ [(⟨tO I8 M.length M.length,rfl⟩:aY)]⟩ ⟨by omega,by rw[bJ,hFl];rfl⟩
     ·skip
      refine g8 ?_;refine St.sA (.mk rfl) (.mk rfl) Lm ?_ (h1:=(by simp only[List.all_cons,List.all_nil,Bool.and_true,Bool.and_eq_true];exact⟨rfl,rfl,TF,TB,sv.2,fv.2⟩));refine g3 ?_;refine St.gW (gm ⟨g.rules.length,g.aK.length,⟨G,TF⟩,⟨E,TB⟩,sv,fv,l,d⟩) [sl aI G l,sl sR E d,aL nX d] (λρ h=>h) ?_;refine St.rV [_] [aD (gm ⟨g.rules.length,g.aK.length,⟨G,TF⟩,⟨E,TB⟩,sv,fv,l,d⟩)] ?_;exact⟨⟨g.rules.length,g.aK.length,⟨G,TF⟩,⟨E,TB⟩,sv,fv,l,d⟩,rfl,hFO sv fv,rfl⟩
def xM:cK:=⟨0,0,0,⟨cF,[]⟩,cF,[],cF,[]⟩
def XN (o:List Nat)(w:nW):nW:=⟨w.rule,w.lex,w.kv,w.kids.map (ku o)⟩
def AN (o:List Nat)(x:cK):cK:=⟨x.frm,x.tqo,x.cV,x.gr,x.wv,x.bb.map (XN o),x.tv,x.bW⟩
def mG (w:nW):dQ:=sl aI w.kv.1 (bx w.kids)
def dS (x:cK):dQ:=eY [aJ x.gr,sl lY x.wv.1 x.bb,aL mG x.bb]
theorem Vu (its:List cK):((jB (its.map dW)).map λi=>AN (jB (its.map dW)) (its.getD i xM)).map dW=fH (its.map dW):=by
 unfold fH;rw[iX]
 refine qw λi _=> ?_
 have e:(its.map dW).getD i er=dW (its.getD i xM):=by
  simp only[List.getD_eq_getElem?_getD,List.getElem?_map]
  cases its[i]? with
  |none=>rfl
  |some x=>rfl
 rw[e]
 show dW (AN _ _)=_
 unfold AN dW
 simp only[List.map_map]
 congr 1
theorem Dg {o:List Nat}(hd:o.Nodup){k i:Nat}(hk:o[k]?=some i):o.idxOf i=k:=by
 have a:=ag hk
 have b:o[k]=i:=by rw[aj a]at hk;exact Option.some.inj hk
 rw[←b];exact hd.idxOf_getElem k a
def OL (n k:Nat):List Int:=bx (List.range k)++List.replicate (n-k) 0
theorem Xw {n k:Nat}(h:k<n):(OL n k).set k (k:Int)=OL n (k+1):=by
 unfold OL;rw[mV _ _ (by rw[du,db];exact aQ _),du,db,eX,mU,kG,cr,show n-k=(n-(k+1))+1 by omega,List.replicate_succ,xB];rfl
theorem Xv (n:Nat):OL n n=bx (List.range n):=by unfold OL;rw[eX];simp
def MJ (o:List Nat)(k:Nat):List Int:=(List.range o.length).map λi=>if o.idxOf i<k then(o.idxOf i:Int)else 0
theorem TX (o:List Nat):MJ o 0=List.replicate o.length 0:=by
 unfold MJ
 refine jh λj=> ?_
 rw[aw,sM]
 rcases cJ j o.length with a|a
 ·rw[jy a,aB a];rfl
 ·rw[fT (by simpa using a),aA zE];rfl
theorem TY {o:List Nat}(hd:o.Nodup){k i:Nat}(hk:o[k]?=some i)(f:i<o.length):(MJ o k).set i (k:Int)=MJ o (k+1):=by
 have a:=ag hk
 have b:o.idxOf i=k:=by
  have m:o[k]=i:=by rw[aj a]at hk;exact Option.some.inj hk
  rw[←m];exact hd.idxOf_getElem k a
 refine jh λj=> ?_
 unfold MJ
 by_cases e:j=i
 ·subst e
  rw[fp (by rw[aR,db];exact f),aw,jy f]
  show some _=some _
  dsimp only
  rw[b,aB zE]
 ·rw[gV (λh=>e h.symm),aw,aw]
  rcases cJ j o.length with d|d
  ·rw[jy d]
   show some _=some _
   dsimp only
   have p:o.idxOf j≠k:=λg=>by
    have:o.idxOf j<o.length:=by rw[g];exact a
    have n:=List.getElem_idxOf this
    have l:o[k]?=some j:=by rw[←g,aj this,n]
    rw[hk]at l;exact e (Option.some.inj l).symm
   congr 1
   try dsimp only
   by_cases c:o.idxOf j<k
   ·rw[aB c,aB zE]
   ·rw[aA c,aA zE]
  ·rw[fT (by simpa using d)];rfl
theorem Xx {o:List Nat}{i:Nat}(a:i<o.length)(hm:i∈o):(MJ o o.length)[i]?=some ((ku o i:Nat):Int):=by
 unfold MJ ku;rw[aw,jy a]
 show some _=some _
 dsimp only
 rw[aB (List.idxOf_lt_length_iff.2 hm)]
def I2 (o:List Nat)(its:List cK)(k:Nat):List cK:=((o.take k).map λi=>AN o (its.getD i xM))++List.replicate (o.length-k) xM
theorem Xq {o:List Nat}{its:List cK}{k:Nat}(h:k≤o.length):(I2 o its k).length=o.length:=by unfold I2;rw[bJ,aR,cy,nO];omega
theorem O9 {o:List Nat}{its:List cK}{k i:Nat}{x:cK}(hk:o[k]?=some i)(hx:its[i]?=some x):(I2 o its k).set k (AN o x)=I2 o its (k+1):=by
 have a:=ag hk
 unfold I2;rw[mV _ _ (by rw[aR,cy];omega),aR,cy,gB zE,eX,aO hk,cL,cr,show o.length-k=(o.length-(k+1))+1 by omega,List.replicate_succ,xB]
 have e:its.getD i xM=x:=by rw[aZ,hx];rfl
 rw[eV,jz,e];rfl
def T2 (o:List Nat)(its:List cK)(k:Nat):List cK:=its.zipIdx.map λp=>if o.idxOf p.2<k then AN o p.1 else p.1
theorem OI (o:List Nat)(its:List cK)(k:Nat):(T2 o its k).length=its.length:=by unfold T2;rw[aR,List.length_zipIdx]
theorem BH (o:List Nat)(its:List cK)(k i:Nat):(T2 o its k)[i]?=(its[i]?).map λx=>if o.idxOf i<k then AN o x else x:=by
 unfold T2;rw[aw,List.getElem?_zipIdx]
 cases its[i]? with
 |none=>rfl
 |some x=>simp
theorem Ta (o:List Nat)(its:List cK):T2 o its 0=its:=jh λi=>by
 rw[BH]
 cases its[i]? with
 |none=>rfl
 |some x=>simp
theorem Y0 {o:List Nat}(hd:o.Nodup){its:List cK}{k i:Nat}{x:cK}(hk:o[k]?=some i)(hx:its[i]?=some x):(T2 o its k).set i (AN o x)=T2 o its (k+1):=by
 have a:=ag hk
 have f:o.idxOf i=k:=by
  have g:o[k]=i:=by rw[aj a]at hk;exact Option.some.inj hk
  rw[←g];exact hd.idxOf_getElem k a
 refine jh λj=> ?_
 by_cases e:j=i
 ·subst e
  rw[fp (by rw[OI];exact ag hx),BH,hx]
  show some _=some _
  dsimp only
  rw[aB zE]
 ·rw[gV (λh=>e h.symm),BH,BH]
  cases m:its[j]? with
  |none=>rfl
  |some y=>
   show some _=some _
   dsimp only
   congr 1
   have n:o.idxOf j≠k:=λb=>by
    have:o.idxOf j<o.length:=by rw[b];exact a
    have l:=List.getElem_idxOf this
    have d:o[k]?=some j:=by rw[←b,aj this,l]
    rw[hk]at d;exact e (Option.some.inj d).symm
   by_cases c:o.idxOf j<k
   ·rw[aB c,aB zE]
   ·rw[aA c,aA zE]
theorem Xz {o:List Nat}{its:List cK}(h:∀i,i<its.length→i∈o):T2 o its o.length=its.map (AN o):=jh λi=>by
 rw[BH,aw]
 cases a:its[i]? with
 |none=>rfl
 |some x=>
  show some _=some _
  dsimp only
  rw[aB (List.idxOf_lt_length_iff.2 (h i (ag a)))]
theorem RR (o:List Nat)(l:List nW):rows lY (l.map (XN o))=rows lY l:=by
 unfold rows
 rw[List.flatMap_map];rfl
theorem Yn {α:Type}(f:α→List ai)(X:List ai){l:List α}{i:Nat}{x:α}(h:l[i]?=some x):(bK f l++X).Perm (f x++(bK f (l.eraseIdx i)++X)):=by
 rw[←cr];exact(r6 f h).append_right X
theorem adF {α:Type}(f:α→List ai)(X:List ai){l:List α}{i:Nat}(x:α)(h:i<l.length):(f x++(bK f (l.eraseIdx i)++X)).Perm (bK f (l.set i x)++X):=by
 rw[←cr];exact(vN f x h).append_right X
def W2 (o:List Nat)(l:List nW)(m:Nat):List nW:=(l.take m).map (XN o)++l.drop m
theorem Td (o:List Nat)(l:List nW):W2 o l 0=l:=rfl
theorem aa5 {o:List Nat}{l:List nW}{m:Nat}{w:nW}(h:l[m]?=some w):(W2 o l m)[m]?=some w:=by
 have:=ag h
 unfold W2
 rw[jM (by rw[aR,cy];omega),aR,cy,gB zE,eX,x9];simpa using h
theorem Y6 {o:List Nat}{l:List nW}{m:Nat}(h:m≤l.length):(W2 o l m).length=l.length:=by unfold W2;rw[bJ,aR,cy,ur];omega
theorem Y7 {o:List Nat}{l:List nW}{m:Nat}{w:nW}(h:l[m]?=some w):(W2 o l m).set m (XN o w)=W2 o l (m+1):=by
 have a:=ag h
 unfold W2
 rw[mV _ _ (by rw[aR,cy];omega),aR,cy,gB zE,eX,aO h,bA h,xB,cL,cr];rfl
theorem Y5 (o:List Nat)(l:List nW):W2 o l l.length=l.map (XN o):=by unfold W2;simp
def K2 (o l:List Nat)(d:Nat):List Nat:=(l.take d).map (ku o)++l.drop d
theorem TR (o l:List Nat):K2 o l 0=l:=rfl
theorem aa2 {o l:List Nat}{d k:Nat}(h:l[d]?=some k):(K2 o l d)[d]?=some k:=by
 have:=ag h
 unfold K2
 rw[jM (by rw[aR,cy];omega),aR,cy,gB zE,eX,x9];simpa using h
theorem Xt {o l:List Nat}{d k:Nat}(h:l[d]?=some k):(K2 o l d).set d (ku o k)=K2 o l (d+1):=by
 have a:=ag h
 unfold K2
 rw[mV _ _ (by rw[aR,cy];omega),aR,cy,gB zE,eX,aO h,bA h,xB,cL,cr];rfl
theorem Xs (o l:List Nat):K2 o l l.length=l.map (ku o):=by unfold K2;simp
theorem Qe (l:List Nat)(d k:Nat):(bx l).set d (k:Int)=bx (l.set d k):=by unfold bx;rw[k9]
theorem Z9 {c:Ctx}(p b:TypeId){x:cK}(hw:∀w∈x.bb,lY.wf w∧∀k∈w.kids,bR (k:Int))(H:List ai)(w:World)(h:Mm c (eR p b x++H) w):Mm c (aD (eY [sl lY x.wv.1 x.bb,aL mG x.bb])::H) w:=by
 obtain⟨ρ,k⟩:=h.out
 have h1:=k.bI lY x.bb rfl rfl (λy hy=>(hw y hy).1)
 obtain⟨n,e⟩:=h1.out
 have f:=(e.perm (List.Perm.swap _ _ _)).drop
 have g:Mm c (bK (iy b) x.bb++(aD (sl lY x.wv.1 x.bb)::H)) w:=Mm.mk (f.perm sN.symm)
 have gen:∀(l:List nW) (H:List ai),(∀y∈l,∀k∈y.kids,bR (k:Int))→Mm c (bK (iy b) l++H) w→Mm c (aD (aL mG l)::H) w:=by
  intro l
  induction l with
  |nil=>exact λH _ h=>h.fact (aL mG []) λρ _ x hx=>by cases hx
  |cons a l q=>
   intro H o h;rw[mD,cr]at h;obtain⟨ρ,k⟩:=h.out
   have h1:=k.bI aI (bx a.kids) rfl (du _).symm (λz hz=>by obtain⟨z2,i,rfl⟩:=cA.1 hz;exact o a (by simp) z2 i)
   obtain⟨n,e⟩:=h1.out
   have e:fN c (aD (mG a)::(bK (iy b) l++H)) n w:=e
   have r:Mm c (bK (iy b) l++(aD (mG a)::H)) w:=Mm.mk (e.perm sN.symm)
   have g:=q _ (λy hy=>o y (by simp[hy])) r
   have j:Mm c (aD (aL mG (a::l))::aD (aL mG l)::aD (mG a)::H) w:=g.fact _ (λρ hm x hx=>by
    rcases bT.1 hx with rfl|hx
    ·exact dK.1 (hm.dC (aD (mG x)) (by simp))
    ·exact dK.1 (hm.dC (aD (aL mG l)) (by simp)) x hx)
   obtain⟨m,k⟩:=j.out
   have f:fN c (aD (aL mG l)::aD (mG a)::aD (aL mG (a::l))::H) m w:=k.perm ((List.Perm.swap _ _ _).trans ((List.Perm.swap _ _ _).cons _))
   exact Mm.mk f.drop.drop
 have j:=gen x.bb _ (λy hy=>(hw y hy).2) g
 have s:Mm c (aD (eY [sl lY x.wv.1 x.bb,aL mG x.bb])::aD (aL mG x.bb)::aD (sl lY x.wv.1 x.bb)::H) w:=j.fact _ (λρ hm d hd=>by
  rcases bT.1 hd with rfl|hd
  ·exact dK.1 (hm.dC (aD (sl lY x.wv.1 x.bb)) (by simp))
  ·rw[bN.1 hd];exact dK.1 (hm.dC (aD (aL mG x.bb)) (by simp)))
 obtain⟨m,k⟩:=s.out
 have f:fN c (aD (aL mG x.bb)::aD (sl lY x.wv.1 x.bb)::aD (eY [sl lY x.wv.1 x.bb,aL mG x.bb])::H) m w:=k.perm ((List.Perm.swap _ _ _).trans ((List.Perm.swap _ _ _).cons _))
 exact Mm.mk f.drop.drop
theorem Mm.afR {c:Ctx}{α:Type}{f:α→List ai}{g:α→dQ}{w:World}:∀(l:List α) (H:List ai),(∀a∈l,∀H,Mm c (f a++H) w→Mm c (aD (g a)::H) w)→Mm c (bK f l++H) w→Mm c (aD (aL g l)::H) w
 | [],H,_,h=>h.fact (aL g []) λρ _ x hx=>by cases hx
 |a::l,H,d,h=>by
  rw[mD,cr]at h
  have h1:=d a (by simp) _ h
  obtain⟨p,e⟩:=h1.out
  have i:Mm c (bK f l++(aD (g a)::H)) w:=Mm.mk (e.perm sN.symm)
  have j:=Mm.afR l _ (λb m=>d b (by simp[m])) i
  have n:Mm c (aD (aL g (a::l))::aD (aL g l)::aD (g a)::H) w:=j.fact _ (λρ hm x hx=>by
   rcases bT.1 hx with rfl|hx
   ·exact dK.1 (hm.dC (aD (g x)) (by simp))
   ·exact dK.1 (hm.dC (aD (aL g l)) (by simp)) x hx)
  obtain⟨ρ,k⟩:=n.out
  have o:fN c (aD (aL g l)::aD (g a)::aD (aL g (a::l))::H) ρ w:=k.perm ((List.Perm.swap _ _ _).trans ((List.Perm.swap _ _ _).cons _))
  exact Mm.mk o.drop.drop
theorem St.Zg {n:Nat}{F:Fr}{c:Ctx}{H H':List ai}{T:Act→World→Prop}(d e:TypeId)(l:List cK)(hw:∀x∈l,∀w∈x.bb,lY.wf w∧∀k∈w.kids,bR (k:Int))[f:lh (bK (eR d e) l) [] H H'](h:St n F (Mm c (aD (aL (λx:cK=>eY [sl lY x.wv.1 x.bb,aL mG x.bb]) l)::H')) T):St n F (Mm c H) T:=by
 obtain⟨L,a,b⟩:=f.eq
 refine h.ny λw g=> ?_
 rw[b,fV];refine Mm.afR l L (λx hx H h=>Z9 d e (hw x hx) H w h) ?_;obtain⟨ρ,k⟩:=g.out;refine Mm.mk (k.perm ?_);rw[a];exact kB
theorem Ji (a b:Nat)(u:aY)(its:List cK)(hd:((its.map dW).map λx=>fD x.ed).Nodup)(v:Value)(o:its.length≤1000):
 dR prog 173 #[v,.func (.func 174) #[] [tW a].toArray] ([eY [fx a (tW b),fx b u.1,sl eE u.1 its,aL (λx:cK=>aJ x.gr) its]].map aD++ [row v 3 1 its.length (rows aI (bx (List.range its.length)))]) (λr H'=>r= .tuple #[]∧H'=[row v 3 1 its.length (rows aI (bx (jB (its.map dW))))]):=by
 have d:∀i,i<its.length→∃x,its[i]?=some x∧(its.map dW).getD i er=dW x:=λi c=>by
  obtain⟨x,hx⟩:=aF c;exact⟨x,hx,by rw[aZ,aw,hx];rfl⟩
 have e:∀l:List Nat,rows aI (bx l)=l.map λi=>iv (i:Nat):=λl=>by rw[ez,bx,iX];rfl
 have main:=EA Tryz.qX (m:=its.length) (λi=>iv (i:Nat)) (λ_ _=>rfl) (λi j=>xZ ((its.map dW).getD i er).ed ((its.map dW).getD j er).ed) (λ_ _=>Kd _) (λ_ _ _ _ _ _=>BP) (λ_ _ _ _ _ _=>yZ) 174 acF [tW a] (eY [fx a (tW b),fx b u.1,sl eE u.1 its,aL (λx:cK=>aJ x.gr) its]) (λi j c f=>by
  obtain⟨x,hx,ex⟩:=d i c;obtain⟨y,hy,g⟩:=d j f;rw[ex,g]
  exact(Jh a b u its i j x y hx hy).all) v 3 zE
 rw[e];refine main.mono ?_;rintro r H' ⟨h1,l,hp,h,k⟩;refine⟨h1,?_⟩
 have n:l=jB (its.map dW):=Qv hd (by rw[aR];exact hp) h
 rw[k,n,e]
theorem NV (a n:Nat)(u:aY)(its:List cK)(hd:((its.map dW).map λx=>fD x.ed).Nodup)(V:its.length≤1000)(hw:∀x∈its,x.bb.length≤3000000000000∧∀w∈x.bb,lY.wf w∧w.kids.length≤1000∧∀k∈w.kids,k<its.length):
 dR prog 118 #[tW a] ([aL (λx:cK=>aJ x.gr) its].map aD++([tI a [u.1,iv (n:Nat),(.slice none 0 0)] 170,row u.1 229 6 its.length (rows eE its)]++bK (eR 234 3) (its))) (λv H'=>∃(Q:aY) (E:List cK),E.map dW=fH (its.map dW)∧H'=[tI a [Q.1,iv (n:Nat),(.slice none 0 0)] 170,aD (sl eE Q.1 E),aD (aL dS E)]):=by
 refine dR.body (args:=[tW a]) 101 func118 rfl ntmps118 rfl (λc=> ?_);refine St.cast (H':=(aD (aL (λx:cK=>aJ x.gr) its)::tI a [u.1,iv (n:Nat),(.slice none 0 0)] 170::row u.1 229 6 its.length (rows eE its)::bK (eR 234 3) (its))) rfl ?_;refine go ?_;refine St.bI u.1 eE its rfl rfl (λ_ _=>trivial) ?_
 obtain⟨o,F⟩:∃o,o=(jB (its.map dW)):=⟨_,rfl⟩
 have f:o.Perm (List.range its.length):=by rw[F,show its.length=(its.map dW).length from(aR _).symm];exact kK _ _
 have A:o.length=its.length:=by rw[f.length_eq,db]
 have s:o.Nodup:=f.nodup_iff.2 List.nodup_range
 have B:∀i,i<its.length→i∈o:=λi b=>f.mem_iff.2 (cU.2 b)
 refine go ?_;refine St.Ej (.mk rfl) rfl rfl (λt=> ?_);refine g9 ?_;refine St.kr (m:=its.length) (.mk rfl) (.mk rfl) cP eL jF vD rfl rfl zE rfl rfl (λp=> ?_);refine St.aN (tO p its.length its.length) rfl (show _=rows aI (OL its.length 0) by rw[ze];rfl) ?_;refine g12 ?_;refine St.lH (ι:=Nat) (λk T=>(22,iv k)::T) (λk=>(tI a [u.1,iv (n:Nat),(.slice none 0 0)] 170::tI t [tW a] 282::aD (sl eE u.1 its)::aD (aL (λx:cK=>aJ x.gr) its)::row (tO p its.length its.length) 3 1 its.length (rows aI (OL its.length k))::bK (eR 234 3) (its))) (λk=>k≤its.length) (λk=>its.length-k) 0 (aC.k3 1 2 21) (aP _) ?_;intro k hk;refine g6 ?_;refine St.cq (λW=> ?_) (λW=> ?_)
 ·skip
  refine g15 ?_;refine St.bz (.mk rfl) (.mk rfl) eL rfl zE (by decide) ?_;refine St.aN (tO p its.length its.length) rfl (show _=rows aI (OL its.length (k+1)) by rw[jJ,Xw zE]) ?_;refine g8 ?_;refine St.aH (k+1) zE
 ·obtain rfl:k=its.length:=by omega
  rw[Xv];refine g8 ?_;refine St.ee (Ev.func (.ay rfl)) ?_;refine St.Eo (ds:=[eY [fx t (tW a),fx a u.1,sl eE u.1 its,aL (λx:cK=>aJ x.gr) its]]) (L:=[row (tO p its.length its.length) 3 1 its.length (rows aI (bx (List.range its.length)))]) (R:=_) (Ji t a u its hd (tO p its.length its.length) V) Ws (.ah rfl rfl) (eF.eY (eF.aU (eF.aU (eF.aD (eF.aD eF.nil))))) (dz.row dz.nil) (λv H' h=>h.2▸dz.row dz.nil) rfl ?_;rintro v32 _ ⟨rfl,rfl⟩;rw[←F];refine St.eZ ?_;refine g6 ?_;refine St.kr (m:=its.length) (.mk rfl) (.mk rfl) cP eL jF vD rfl rfl zE rfl rfl (λj=> ?_);refine St.aN (tO j its.length its.length) rfl (show _=rows aI (MJ o 0) by rw[ze,TX,A]) ?_;refine g12 ?_;refine St.lH (ι:=Nat) (λk T=>(38,iv k)::T) (λk=>(tI a [u.1,iv (n:Nat),(.slice none 0 0)] 170::tI t [tW a] 282::aD (sl eE u.1 its)::aD (aL (λx:cK=>aJ x.gr) its)::row (tO p its.length its.length) 3 1 its.length (rows aI (bx o))::row (tO j its.length its.length) 3 1 its.length (rows aI (MJ o k))::bK (eR 234 3) (its))) (λk=>k≤its.length) (λk=>its.length-k) 0 (aC.k5 1 2 4 36 37) (aP _) ?_;intro k hk;refine g6 ?_;refine St.cq (λX=> ?_) (λX=> ?_)
  ·obtain⟨i,b⟩:=aF (show k<o.length by omega)
   have C:i<its.length:=cU.1 (f.mem_iff.1 (aa b))
   refine g8 ?_;refine St.ee (Ev.cx (.mk rfl) eK trivial zE (fm (iZ b))) ?_;refine g9 ?_;refine St.bz (.mk rfl) (.mk rfl) eL rfl zE (by decide) ?_;refine St.aN (tO j its.length its.length) rfl (show _=rows aI (MJ o (k+1)) by rw[jJ,TY s b zE]) ?_;refine g8 ?_;refine St.aH (k+1) zE
  ·obtain rfl:k=its.length:=by omega
   refine g9 ?_;refine St.xq (Rr:=eE) (g:=xM) (m:=its.length) (sz:=6) rfl (.mk rfl) (.mk rfl) oX oV HX Ot rfl rfl zE rfl rfl (λr=> ?_);refine St.aN (tO r its.length its.length) rfl (show _=rows eE (I2 o its 0) by unfold I2;rw[nR,jz,nQ,Nat.sub_zero,A]) ?_;refine g12 ?_;refine St.Fy (ι:=Nat) (λk T=>(53,iv k)::T) (λk=>(tI a [u.1,iv (n:Nat),(.slice none 0 0)] 170::tI t [tW a] 282::aD (sl eE u.1 its)::aD (aL (λx:cK=>aJ x.gr) its)::row (tO p its.length its.length) 3 1 its.length (rows aI (bx o))::row (tO j its.length its.length) 3 1 its.length (rows aI (MJ o its.length))::row (tO r its.length its.length) 229 6 its.length (rows eE (I2 o its (k)))::bK (eR 234 3) (T2 o its k))) (λk=>k≤its.length) (λk=>its.length-k) 0 (aC.k5 1 4 7 51 52) (aP _) (by repeat(first|exact Sub.nil|refine Sub.cons (by first|rfl|exact congrArg (λz=>some (iv z)) (by first|omega|(dsimp only;omega))|exact congrArg (λz=>some (Value.bool z)) (by first|assumption|exact ke (by assumption))) ?_)) (λ_ hw=>by rw[Ta];exact hw.sub) ?_;intro k hk;refine g6 ?_;refine St.cq (λY=> ?_) (λY=> ?_)
   ·obtain⟨i,b⟩:=aF (show k<o.length by omega)
    have C:i<its.length:=cU.1 (f.mem_iff.1 (aa b))
    obtain⟨x,hx⟩:=aF C;obtain⟨Mq,Z⟩:=hw x (aa hx)
    have hix:=Dg s b
    have hT:(T2 o its k)[i]?=some x:=by rw[BH,hx];show some _=some _;dsimp only;rw[aA zE]
    have hI:=Xq (o:=o) (its:=its) (k:=k) zE
    refine g8 ?_;refine St.ee (Ev.cx (.mk rfl) eK trivial zE (fm (iZ b))) ?_;refine g14 ?_;refine St.ee (Ev.N7 (Rr:=eE) (sz:=6) (.mk rfl) hx underlying229 trivial oV (by decide) (by decide)) ?_;refine go ?_;refine St.Gx (Rr:=eE) (show eE.size=6 from rfl) (AN o x) (.mk rfl) (.mk rfl) oV zE zE ?_;rw[O9 b hx];refine g6 ?_
    have G:(I2 o its (k+1))[k]?=some (AN o x):=by rw[←O9 b hx,fp zE]
    refine St.aN (tO r its.length its.length) rfl (show _=rows eE (I2 o its (k+1))from rfl) ?_;refine g2 ?_;refine St.ee (Ev.cx (.mk rfl) ue trivial zE (eP eE _ k 4 _ G (by decide))) ?_;refine St.slot 72 x.wv.1 rfl rfl ?_;refine St.tail (bK (eR 234 3) (T2 o its k)) (row x.wv.1 234 3 x.bb.length (rows lY x.bb)::row x.tv.1 3 1 x.bW.length (rows aI x.bW)::(bK (iy 3) x.bb++bK (eR 234 3) ((T2 o its k).eraseIdx i))) (r6 (eR 234 3) hT) ?_;refine g5 ?_;refine St.Fy (ι:=Nat) (λm T=>(74,iv m)::T) (λm=>(tI a [u.1,iv (n:Nat),(.slice none 0 0)] 170::tI t [tW a] 282::aD (sl eE u.1 its)::aD (aL (λx:cK=>aJ x.gr) its)::row (tO p its.length its.length) 3 1 its.length (rows aI (bx o))::row (tO j its.length its.length) 3 1 its.length (rows aI (MJ o its.length))::row (tO r its.length its.length) 229 6 its.length (rows eE (I2 o its (k+1)))::row x.wv.1 234 3 x.bb.length (rows lY x.bb)::row x.tv.1 3 1 x.bW.length (rows aI x.bW)::(bK (iy 3) (W2 o x.bb m)++bK (eR 234 3) ((T2 o its k).eraseIdx i)))) (λm=>m≤x.bb.length) (λm=>x.bb.length-m) 0 (aC.k8 1 4 7 51 52 53 72 73) (aP _) (by repeat(first|exact Sub.nil|refine Sub.cons (by first|rfl|exact congrArg (λz=>some (iv z)) (by first|omega|(dsimp only;omega))|exact congrArg (λz=>some (Value.bool z)) (by first|assumption|exact ke (by assumption))) ?_)) (λ_ hw=>by rw[Td];exact hw.sub) ?_;intro m hm;refine g6 ?_;refine St.cq (λH=> ?_) (λH=> ?_)
    ·obtain⟨w,D⟩:=aF (show m<x.bb.length by omega)
     obtain⟨S,U,I⟩:=Z w (aa D)
     have J:=aa5 (o:=o) D
     have hWl:=Y6 (o:=o) (l:=x.bb) (m:=m) zE
     refine g7 ?_;refine St.ee (Ev.ZE (R:=lY) (.mk rfl) D HH trivial uZ zE) ?_;refine St.slot 77 (.agg #[iv w.rule,iv w.lex,w.kv.1]) rfl rfl ?_;refine St.al (λb11=> ?_);refine g7 ?_;refine St.tail (bK (iy 3) (W2 o x.bb m)++bK (eR 234 3) ((T2 o its k).eraseIdx i)) (row w.kv.1 3 1 w.kids.length (rows aI (bx w.kids))::(bK (iy 3) ((W2 o x.bb m).eraseIdx m)++bK (eR 234 3) ((T2 o its k).eraseIdx i))) (Yn (iy 3) (bK (eR 234 3) ((T2 o its k).eraseIdx i)) J) ?_;refine g5 ?_;refine St.Fy (ι:=Nat) (λd T=>(81,iv d)::T) (λd=>(tI a [u.1,iv (n:Nat),(.slice none 0 0)] 170::tI t [tW a] 282::aD (sl eE u.1 its)::aD (aL (λx:cK=>aJ x.gr) its)::row (tO p its.length its.length) 3 1 its.length (rows aI (bx o))::row (tO j its.length its.length) 3 1 its.length (rows aI (MJ o its.length))::row (tO r its.length its.length) 229 6 its.length (rows eE (I2 o its (k+1)))::row x.wv.1 234 3 x.bb.length (rows lY x.bb)::row x.tv.1 3 1 x.bW.length (rows aI x.bW)::tI b11 [iv w.rule,iv w.lex,w.kv.1] 234::row w.kv.1 3 1 w.kids.length (rows aI (bx (K2 o w.kids d)))::(bK (iy 3) ((W2 o x.bb m).eraseIdx m)++bK (eR 234 3) ((T2 o its k).eraseIdx i)))) (λd=>d≤w.kids.length) (λd=>w.kids.length-d) 0 (aC.k12 1 4 7 11 51 52 53 72 73 74 79 80) (aP _) (by repeat(first|exact Sub.nil|refine Sub.cons (by first|rfl|exact congrArg (λz=>some (iv z)) (by first|omega|(dsimp only;omega))|exact congrArg (λz=>some (Value.bool z)) (by first|assumption|exact ke (by assumption))) ?_)) (λ_ hw=>by rw[TR];exact hw.sub) ?_;intro d hdd;refine g6 ?_;refine St.cq (λh82=> ?_) (λh82=> ?_)
     ·obtain⟨q,K⟩:=aF (show d<w.kids.length by omega)
      have hql:=I q (aa K)
      have M:=aa2 (o:=o) K
      refine g8 ?_;refine St.ee (Ev.cx (.mk rfl) eK trivial zE (fm (iZ M))) ?_;refine g4 ?_;refine St.j6 w.kv.1 zE (λbs cs Px=> ?_);refine St.dZ (row w.kv.1 3 1 w.kids.length (rows aI (bx (K2 o w.kids d)))::(bK (iy 3) ((W2 o x.bb m).eraseIdx m)++bK (eR 234 3) ((T2 o its k).eraseIdx i))) mixed (λnp ns=> ?_);refine SW.gd 0 ?_;refine SW.gd 1 ?_;refine SW.gd 2 ?_;refine SW.gd 3 ?_;refine SW.gd 4 ?_;refine SW.gd 5 ?_;refine SW.dd 6 rfl (λ_=>Ev.cx (.mk rfl) eK trivial zE (fm (by rw[←A];exact Xx zE (B q hql)))) ?_;refine SW.dd 7 rfl (λ_=>Ev.kF (k:=d) Px (.mk rfl) (.mk rfl) cP eL zE zE) ?_;refine SW.t1 8 ?_;refine St.bz (.mk rfl) (.mk rfl) eL rfl zE (by decide) ?_;refine St.aN w.kv.1 rfl (show _=rows aI (bx (K2 o w.kids (d+1))) by rw[jJ,Qe,Xt K]) ?_;refine g2 ?_;refine SW.go ?_;refine SW.dn ?_;refine g7 ?_;refine St.aH (d+1) zE
     ·obtain rfl:d=w.kids.length:=by omega
      rw[Xs];refine St.pQ [row w.kv.1 3 1 w.kids.length (rows aI (bx (w.kids.map (ku o))))] (bK (iy 3) ((W2 o x.bb m).eraseIdx m)++bK (eR 234 3) ((T2 o its k).eraseIdx i)) (bK (iy 3) (W2 o x.bb (m+1))++bK (eR 234 3) ((T2 o its k).eraseIdx i)) (by have:=adF (iy 3) (bK (eR 234 3) ((T2 o its k).eraseIdx i)) (XN o w) (show m<(W2 o x.bb m).length by omega);rw[Y7 D]at this;unfold iy XN at this;dsimp only at this;rw[aR]at this;exact this) ?_;refine g11 ?_;refine St.aH (m+1) zE
    ·obtain rfl:m=x.bb.length:=by omega
     rw[Y5];refine St.pQ [row x.wv.1 234 3 x.bb.length (rows lY x.bb),row x.tv.1 3 1 x.bW.length (rows aI x.bW)] (bK (iy 3) (x.bb.map (XN o))++bK (eR 234 3) ((T2 o its k).eraseIdx i)) (bK (eR 234 3) (T2 o its (k+1))) (by have:=vN (eR 234 3) (AN o x) (show i<(T2 o its k).length by rw[OI];exact C);rw[Y0 s b hx]at this;unfold eR AN at this;dsimp only at this;rw[aR,RR]at this;exact this) ?_;refine g11 ?_;refine St.aH (k+1) zE
   ·obtain rfl:k=its.length:=by omega
    have N:T2 o its its.length=its.map (AN o):=by rw[←A];exact Xz B
    rw[N];refine St.Zg 234 3 (its.map (AN o)) (λy hy w U=>by obtain⟨x,hx,rfl⟩:=cA.1 hy;obtain⟨w1,S,rfl⟩:=cA.1 U;have:=(hw x hx).2 w1 S;exact⟨this.1,λk hk=>by obtain⟨k1,hk1,rfl⟩:=cA.1 hk;have h9:ku o k1≤o.length:=List.idxOf_le_length;unfold bR;omega⟩) ?_
    have O:I2 o its its.length=o.map λi=>AN o (its.getD i xM):=by unfold I2;rw[←A,eX,fW];exact fV _
    rw[O];refine St.bI (tO r its.length its.length) eE (o.map λi=>AN o (its.getD i xM)) rfl (by rw[aR,A]) (λ_ _=>trivial) ?_
    refine St.gW (aL dS (o.map λi=>AN o (its.getD i xM))) [aL (λx:cK=>aJ x.gr) its,aL (λx:cK=>eY [sl lY x.wv.1 x.bb,aL mG x.bb]) (its.map (AN o))] (λρ h y hy=>by
     have h1:=h _ (aV ..)
     have h2:=h _ (bV _ (aV ..))
     obtain⟨i,b,rfl⟩:=cA.1 hy
     have C:i<its.length:=cU.1 (f.mem_iff.1 b)
     obtain⟨x,hx⟩:=aF C
     have P:its.getD i xM=x:=by rw[aZ,hx];rfl
     rw[P]
     have h3:=h2 (AN o x) (di (aa hx))
     intro e he
     rcases bT.1 he with rfl|he
     ·exact h1 x (aa hx)
     ·exact h3 e he) ?_
    refine g10 ?_;refine St.bL (.mk rfl) (.mk rfl) Lj rfl (by rfl) ?_;refine go ?_;refine St.fL ?_;refine St.rV [] [tI a [(tO r its.length its.length),iv (n:Nat),(.slice none 0 0)] 170,aD (sl eE (tO r its.length its.length) (o.map λi=>AN o (its.getD i xM))),aD (aL dS (o.map λi=>AN o (its.getD i xM)))] ?_;exact⟨⟨(tO r its.length its.length),rfl⟩,_,by rw[F];exact Vu its,rfl⟩
theorem Gb {l:List Int}{k:Nat}{x:Int}(h:l[k]?=some x):(rows aI l)[k*1+0]?=some (iv x):=by
 rw[ez,e8,fU,aw,h];rfl
theorem RH (l:List Int)(k:Nat)(x:Int):(rows aI l).set (k*1+0) (iv x)=rows aI (l.set k x):=by rw[ez,ez,e8,fU,k9]
theorem ND (l:List Nat)(k x:Nat):(bx l).set k (x:Int)=bx (l.set k x):=by rw[bx,bx,k9]
theorem FW {its:List cK}{e:Nat}{y:cK}(h:its[e]?=some y):(its.map dW).getD e er=dW y:=by rw[aZ,aw,h];rfl
theorem Vb {m:Nat}:IntKind.i64.wrap ((1099511627776:Int).tdiv (m:Int))=((dU/m:Nat):Int):=by
 have h:(1099511627776:Int).tdiv (m:Int)=((dU/m:Nat):Int):=rfl
 have a:=Nat.div_le_self dU m
 have b:dU=1099511627776:=rfl
 rw[h]
 generalize dU/m=z at a⊢
 rw[uj zE]
theorem VQ {n m:Nat}:mulC n m≤dU:=by
 unfold mulC
 split
 ·exact aQ _
 ·rename_i h
  have h1:n≤dU/m:=by omega
  exact cz (fJ m h1) (Nat.div_mul_le_self _ _)
theorem Dq {cnt:Nat→Nat}:∀(ks:List Nat) (a:Nat),a≤dU→ks.foldl (λn k=>mulC n (cnt k)) a≤dU
 | [],_,h=>h
 |k::ks,a,h=>by rw[im];exact Dq ks _ VQ
theorem Lf {cnt:Nat→Nat}(ws:List o9)(a:Nat)(h:a≤dU):ws.foldl (λs x=>min (s+yd cnt x) dU) a≤dU:=by
 induction ws generalizing a with
 |nil=>exact h
 |cons x ws b=>rw[im];exact b _ (Nat.min_le_right _ _)
abbrev p8 (its:List cK)(e:Nat):Nat:=cntF (its.map dW) 60 e
def O2 (its:List cK)(w:nW)(j:Nat):Nat:=(w.kids.take j).foldl (λn k=>mulC n (p8 its k)) 1
def Xb (its:List cK)(y:cK)(k:Nat):Nat:=((y.bb.map uy).take k).foldl (λs x=>min (s+yd (p8 its) x) dU) 0
theorem R3 {its:List cK}{w:nW}{j q:Nat}(h:w.kids[j]?=some q):O2 its w (j+1)=mulC (O2 its w j) (p8 its q):=by unfold O2;rw[aO h,qv];rfl
theorem VV (its:List cK)(w:nW):O2 its w w.kids.length=yd (p8 its) (uy w):=by unfold O2;rw[fW];rfl
theorem Rh {its:List cK}{y:cK}{k:Nat}{w:nW}(h:y.bb[k]?=some w):Xb its y (k+1)=min (Xb its y k+yd (p8 its) (uy w)) dU:=by
 have a:(y.bb.map uy)[k]?=some (uy w):=by rw[aw,h];rfl
 unfold Xb;rw[aO a,qv];rfl
theorem Vq {R X:List Int}{its:List cK}(a:qG ⟨its.map dW,R,X⟩){e:Nat}{y:cK}(h:its[e]?=some y)(he:q8 ⟨its.map dW,R,X⟩ e<60):Xb its y y.bb.length=p8 its e:=by
 have b:e<(⟨its.map dW,R,X⟩:kg).its.length:=by show e<(its.map dW).length;rw[aR];exact(eh.1 h).1
 have h1:=Ez a 60 61 e b he zE
 unfold p8;rw[show cntF (its.map dW) 60 e=cntF (its.map dW) 61 e from h1,cntF,FW h];unfold Xb;rw[show(y.bb.map uy).take y.bb.length=y.bb.map uy from dV (by rw[aR];exact aQ _)];rfl
theorem DB {R X:List Int}{its:List cK}(a:qG ⟨its.map dW,R,X⟩)(hw:mq (its.map dW)){e:Nat}(he:e<its.length):1≤p8 its e∧p8 its e≤dU:=by
 have b:e<(⟨its.map dW,R,X⟩:kg).its.length:=by show e<(its.map dW).length;rw[aR];exact he
 have h1:=a.ht e b
 have c:=DD a hw 60 e b h1
 have d:=xp a hw 60 e b h1
 have c:p8 its e=min (jO (its.map dW) 60 e).length dU:=c
 have d:1≤(jO (its.map dW) 60 e).length:=d
 have f:dU=1099511627776:=rfl
 omega
structure xD (its:List cK)(C:List Nat):Prop where
 len:C.length=its.length
 ok:∀i c,C[i]?=some c→c=0∨c=p8 its i
def tG (C C':List Nat):Prop:=∀i c:Nat,C[i]?=some c→c≠0→C'[i]?=some c
theorem tG.refl (C:List Nat):tG C C:=λ_ _ h _=>h
theorem tG.trans {a b c:List Nat}(h:tG a b)(k:tG b c):tG a c:=λi x hx d=>k i x (h i x hx d) d
theorem YW {its:List cK}{C:List Nat}{e:Nat}(h:xD its C)(he:e<its.length):xD its (C.set e (p8 its e))∧tG C (C.set e (p8 its e))∧(C.set e (p8 its e))[e]?=some (p8 its e):=by
 have b:=h.len
 refine⟨⟨by rw[eC];exact b,λi c a=> ?_⟩,λi c a d=> ?_,?_⟩
 ·rw[List.getElem?_set]at a
  by_cases q:e=i
  ·subst q
   rw[aB rfl,aB zE]at a;exact .inr (Option.some.inj a).symm
  ·rw[aA q]at a;exact h.ok i c a
 ·rw[List.getElem?_set]
  by_cases q:e=i
  ·subst q
   rw[aB rfl,aB zE]
   rcases h.ok e c a with h1|h1
   ·exact absurd h1 d
   ·rw[h1]
  ·rw[aA q];exact a
 ·rw[List.getElem?_set,aB rfl,aB zE]
theorem FB (i:Nat)(a:ei)(uv p b:aY)(its:List cK)(R X:List Int)(o:qG ⟨its.map dW,R,X⟩)(hw:mq (its.map dW))(L0:its.length≤300):∀(f e:Nat) (C:List Nat),e<its.length→q8 ⟨its.map dW,R,X⟩ e<f→xD its C→
 dR prog 75 #[tW i,iv (e:Nat)] ([ir i [a.tv.1,a.fv.1,a.rv.1,a.xv.1,a.start.nv.1,uv.1,p.1,b.1],sl eE uv.1 its,aL dS its].map aD++ [row b.1 3 1 its.length (rows aI (bx C))]) (λv H'=>∃C':List Nat,v=iv (p8 its e:Nat)∧xD its C'∧tG C C'∧C'[e]?=some (p8 its e)∧H'=[row b.1 3 1 its.length (rows aI (bx C'))]):=by
 intro f
 induction f with
 |zero=>(intro e C _ h;omega)
 |succ f I=> ?_
 intro e C he J u;refine dR.body (args:=[tW i,iv (e:Nat)]) 71 func75 rfl ntmps75 rfl (λc=> ?_);refine go ?_;refine St.cast (H':=[aD (ir i [a.tv.1,a.fv.1,a.rv.1,a.xv.1,a.start.nv.1,uv.1,p.1,b.1]),aD (sl eE uv.1 its),aD (aL dS its),row b.1 3 1 its.length (rows aI (bx C))]) rfl ?_;obtain⟨y,hy⟩:=aF he
 have K:=u.len
 obtain⟨G,w⟩:=aF (show e<C.length by omega)
 have B:e<(⟨its.map dW,R,X⟩:kg).its.length:=by show e<(its.map dW).length;rw[aR];exact he
 have M:=o.ht e B
 have hnw:=o.nw e B
 have N:O1 ⟨its.map dW,R,X⟩ e=y.bb.length:=by unfold O1;rw[show(⟨its.map dW,R,X⟩:kg).its.getD e er=dW y from FW hy];exact aR _
 have O:=DB o hw he
 have P:dU=1099511627776:=rfl
 refine St.cN dS its (x:=y) (aa hy) ?_;refine St.gW (sl lY y.wv.1 y.bb) [dS y] (λρ h=>h (dS y) (aV ..) _ (bV _ (aV ..))) ?_;refine g10 ?_;refine St.ee (Ev.u9 (.mk rfl) cP trivial rfl) ?_;refine g2 ?_;refine St.ee (Ev.cx (.mk rfl) eK trivial zE (Gb (iZ w))) ?_;refine g3 ?_;refine St.cq (λQ=> ?_) (λQ=> ?_)
 ·obtain rfl:G=p8 its e:=by rcases u.ok e G w with h|h;omega;exact h
  refine g5 ?_;refine St.ee (Ev.u9 (.mk rfl) cP trivial rfl) ?_;refine g2 ?_;refine St.ee (Ev.cx (.mk rfl) eK trivial zE (Gb (iZ w))) ?_;refine g5 ?_;refine St.rV [_] [row b.1 3 1 its.length (rows aI (bx C))] ?_;exact⟨C,rfl,u,tG.refl C,w,rfl⟩
 ·refine g13 ?_
  refine St.ee (Ev.u9 (.mk rfl) oX trivial rfl) ?_;refine g9 ?_;refine St.lH (ι:=Nat×List Nat) (λ⟨k,d⟩ T=>(36,iv k)::(5,iv (Xb its y k:Nat))::T) (λ⟨k,d⟩=>[row b.1 3 1 its.length (rows aI (bx d)),aD (ir i [a.tv.1,a.fv.1,a.rv.1,a.xv.1,a.start.nv.1,uv.1,p.1,b.1]),aD (sl eE uv.1 its),aD (aL dS its),aD (sl lY y.wv.1 y.bb),aD (dS y)]) (λ⟨k,d⟩=>k≤y.bb.length∧xD its d∧tG C d) (λ⟨k,d⟩=>y.bb.length-k) ⟨0,C⟩ (aC.k5 0 1 4 34 35) ⟨aP _,u,tG.refl C⟩ ?_;rintro ⟨k,d⟩ ⟨hk,l,m⟩
  dsimp only at hk l m⊢
  have S:Xb its y k≤dU:=Lf _ _ (aP _)
  refine g6 ?_;refine St.cq (λU=> ?_) (λU=> ?_)
  ·obtain⟨wy,z⟩:=aF (show k<y.bb.length by omega)
   have V:=vS o B (x:=uy wy) (by rw[show(⟨its.map dW,R,X⟩:kg).its.getD e er=dW y from FW hy];exact di (aa z))
   have W:=Rh (its:=its) z
   have Y:(bx wy.kids).length=wy.kids.length:=du _
   refine St.gW (sl aI wy.kv.1 (bx wy.kids)) [dS y] (λρ h=>h (dS y) (aV ..) (aL mG y.bb) (bV _ (bV _ (aV ..))) wy (aa z)) ?_;refine St.wf wy.kv.1 (λ_ Z=> ?_);refine g7 ?_;refine St.ee (Ev.N7 (Rr:=lY) (sz:=3) (.mk rfl) z HH trivial uZ (by decide) (by decide)) ?_;refine St.slot 39 (.agg #[iv wy.rule,iv wy.lex,wy.kv.1]) rfl rfl ?_;refine St.al (λb7=> ?_);refine g18 ?_;refine St.lH (ι:=Nat×List Nat) (λ⟨j,C2⟩ T=>(43,iv j)::(8,iv (O2 its wy j:Nat))::T) (λ⟨j,C2⟩=>[row b.1 3 1 its.length (rows aI (bx C2)),aD (ir i [a.tv.1,a.fv.1,a.rv.1,a.xv.1,a.start.nv.1,uv.1,p.1,b.1]),aD (sl eE uv.1 its),aD (aL dS its),aD (sl lY y.wv.1 y.bb),aD (dS y),aD (sl aI wy.kv.1 (bx wy.kids))]) (λ⟨j,C2⟩=>j≤wy.kids.length∧xD its C2∧tG d C2) (λ⟨j,C2⟩=>wy.kids.length-j) ⟨0,d⟩ (aC.k9 0 1 4 5 34 35 36 41 42) ⟨aP _,l,tG.refl d⟩ ?_;rintro ⟨j,C2⟩ ⟨hj,n,g⟩
   dsimp only at hj n g⊢
   have hpj:O2 its wy j≤dU:=Dq _ _ (by decide)
   refine g6 ?_;refine St.cq (λh44=> ?_) (λh44=> ?_)
   ·obtain⟨q,D⟩:=aF (show j<wy.kids.length by omega)
    obtain⟨A,XE⟩:=V q (aa D)
    have A:q<its.length:=by have h:q<(its.map dW).length:=A;rwa[aR]at h
    have hqb:=DB o hw A
    have r:=R3 (its:=its) D
    refine g7 ?_;refine St.ee (Ev.ld1 (.mk rfl) (iZ D) eK trivial rfl) ?_;refine g7 ?_;refine St.IH (ds:=[ir i [a.tv.1,a.fv.1,a.rv.1,a.xv.1,a.start.nv.1,uv.1,p.1,b.1],sl eE uv.1 its,aL dS its]) (L:=[row b.1 3 1 its.length (rows aI (bx C2))]) (I q C2 A zE n) ac1 (.ah rfl rfl) rfl ?_;rintro v49 _ ⟨C3,rfl,s,t,_,rfl⟩;refine St.eZ ?_;refine g7 ?_;refine St.ee (Ev.ajI (.mk rfl) (.mk rfl) zE) ?_;refine St.slot 52 (iv ((dU/p8 its q:Nat):Int)) rfl (congrArg iv Vb) ?_;refine g3 ?_;refine St.cq (λE=> ?_) (λE=> ?_)
    ·have H:O2 its wy (j+1)=dU:=by rw[r];unfold mulC;rw[aB zE]
     refine g10 ?_;refine St.aH ⟨j+1,C3⟩ ⟨by dsimp only;omega,s,g.trans t⟩
    ·have H:O2 its wy (j+1)=O2 its wy j*p8 its q:=by rw[r];unfold mulC;rw[aA zE]
     refine g3 ?_;refine St.ee (Ev.mul (.mk rfl) (.mk rfl) (by have h:=cz (fJ (p8 its q) (show O2 its wy j≤dU/p8 its q by omega)) (Nat.div_mul_le_self _ _);omega)) ?_;refine St.slot 56 (iv (O2 its wy (j+1):Nat)) rfl (congrArg iv (by rw[H];push_cast;rfl)) ?_;refine g9 ?_;refine St.aH ⟨j+1,C3⟩ ⟨by dsimp only;omega,s,g.trans t⟩
   ·obtain rfl:j=wy.kids.length:=by omega
    rw[VV]
    have hcw:yd (p8 its) (uy wy)≤dU:=Dq _ _ (by decide)
    refine g9 ?_;refine St.ee (Ev.ZS (.mk rfl) (.mk rfl)) ?_;refine St.slot 61 (iv (Xb its y (k+1):Nat)) rfl (congrArg iv (by rw[W];split<;>omega)) ?_;refine g9 ?_;refine St.aH ⟨k+1,C2⟩ ⟨by dsimp only;omega,n,m.trans g⟩
  ·obtain rfl:k=y.bb.length:=by omega
   have F:=Vq o hy M
   rw[F];refine g10 ?_;refine St.ee (Ev.u9 (.mk rfl) cP trivial rfl) ?_;refine g3 ?_;refine St.bz (.mk rfl) (.mk rfl) eL rfl zE (by decide) ?_;refine St.aN b.1 rfl (show _=rows aI (bx (d.set e (p8 its e))) by rw[RH,ND]) ?_;refine g9 ?_;obtain⟨z1,z2,z3⟩:=YW l he;refine St.rV [_] [row b.1 3 1 its.length (rows aI (bx (d.set e (p8 its e))))] ?_;exact⟨_,rfl,z1,m.trans z2,z3,rfl⟩
theorem gP (x:bH):aM x= .mk x.rule x.lex (x.kids.map aM):=by cases x;exact SK _ _ _ _
theorem px.kids {x:bH}(h:px (aM x)):x.kids.length≤1000∧∀y∈x.kids,px (aM y):=by
 rw[gP]at h
 cases h with
 |mk h k=>exact⟨by rwa[aR]at h,λy hy=>k _ (di hy)⟩
theorem A4 {x y:bH}(h:aM y=aM x):y.rule=x.rule∧y.lex=x.lex:=by
 rw[gP,gP x]at h;exact⟨(dA.mk.injEq ..▸h).1,(dA.mk.injEq ..▸h).2.1⟩
theorem rH {α β:Type}{f:α→β}{l:List α}{k:Nat}{a:α}(h:l[k]?=some a):(l.take (k+1)).map f=(l.take k).map f++ [f a]:=by
 rw[List.take_add_one,h,cL];rfl
theorem EX:∀x:bH,bP.wf x→px (aM x)→dR prog 81 #[eG x] ([ae x].map aD) (λv H'=>∃y:bH,v=eG y∧aM y=aM x∧H'=[aD (ae y)]):=by
 intro x
 induction x using bH.ind
 rename_i x n
 intro hw g;refine dR.body (args:=[eG x]) 27 func81 rfl ntmps81 rfl (λc=> ?_);refine go ?_;refine St.cast (H':=[aD (ae x)]) rfl ?_;obtain⟨C,i⟩:=g.kids;refine St.oL x ?_;refine St.wf x.kv.1 (λj D=> ?_);refine go ?_;refine St.cW (.mk rfl) rfl (λo=> ?_);refine St.al (λp=> ?_);refine g8 ?_;refine St.ee (Ev.build (bC.ah rfl rfl) (λw=>BM rfl rfl w)) ?_;refine St.al (λl=> ?_);refine g13 ?_;refine St.dH 51 3 ?_;refine St.aN (.slice none 0 0) (show _=([]:List bH).length from rfl) (show _=rows bP []from rfl) ?_;refine St.ea ae ?_;refine St.lH (ι:=Nat×aY×List bH) (λ⟨k,kv,a⟩ T=>(14,iv k)::T) (λ⟨k,kv,a⟩=>[row kv.1 51 3 (a).length (rows bP (a)),tI l [iv x.rule,iv x.lex,kv.1] 51,aD (aL ae a),aD (sl bP x.kv.1 x.kids),aD (aL ae x.kids),tI o (sK x) 51,tI p [iv 0,iv 0,(.slice none 0 0)] 51]) (λ⟨k,kv,a⟩=>k≤x.kids.length∧a.map aM=(x.kids.take k).map aM) (λ⟨k,kv,a⟩=>x.kids.length-k) ⟨0,cF,[]⟩ (aC.k4 2 3 12 13) ⟨aP _,rfl⟩ ?_;rintro ⟨k,kv,a⟩ ⟨hk,b⟩
 dsimp only at hk b⊢
 have q:a.length≤1000:=by have h:=congrArg List.length b;rw[aR,aR,cy]at h;omega
 refine g6 ?_;refine St.cq (λr=> ?_) (λr=> ?_)
 ·obtain⟨y,hy⟩:=aF (show k<x.kids.length by omega)
  have f:=aa hy
  refine St.cN ae x.kids (x:=y) f ?_;refine g7 ?_;refine St.ee (Ev.j2 (.mk rfl) hy A9 trivial mP gX.eq) ?_;refine St.al (λE=> ?_);refine g3 ?_;refine St.dZ [tI l [iv x.rule,iv x.lex,kv.1] 51,row kv.1 51 3 (a).length (rows bP (a))] mixed (λF G=> ?_)
  repeat' first
   |with_reducible refine SW.me ?_
    first
     |refine SW.gd 0 ?_
     |refine SW.gd 2 ?_
     |refine SW.gd 6 ?_
     |refine SW.t2 1 3 ?_ ?_
     |refine SW.t1 3 ?_
     |refine SW.t1 4 ?_
     |refine SW.t1 5 ?_
     |refine SW.t1 7 ?_
     |refine SW.t2 1 4 ?_ ?_
     |refine SW.t1 1 ?_
   |with_reducible refine SW.tg 1 ?_
    refine g3 ?_;refine SW.go ?_
   |with_reducible refine SW.tg 3 ?_
    refine St.dt (n y f (j y f) (i y f)) ac3 (.ay rfl) rfl ?_;rintro v21 _ ⟨z,rfl,hz,rfl⟩;refine St.eZ ?_;refine g2 ?_;refine SW.go ?_
   |with_reducible refine SW.tg 4 ?_
    refine St.hS rfl (.ay rfl) ug mP EO rfl rfl (by simp[Value.cells]) rfl rfl (λs=> ?_);refine g2 ?_;refine SW.go ?_
   |with_reducible refine SW.tg 5 ?_
    refine St.aq (.mk rfl) (.mk rfl) ug mP EO Ou (by intro u hu;exact bP.one z u hu) zE zE rfl rfl rfl rfl (λv23 t=> ?_);refine St.aN v23 (show _=(a++ [z]).length by rw[bJ];rfl) (show _=rows bP (a++ [z]) by rw[bB];rfl) ?_;refine St.bQ v23 (λm _=> ?_);refine St.gW (aL ae (a++ [z])) [aL ae a,ae z] (λρ h u hu=>by rcases cI.1 hu with hu|hu;exact h (aL ae a) (aV ..) u hu;rw[bN]at hu;subst hu;exact h (ae u) (bV _ (aV ..))) ?_;refine g2 ?_;refine SW.go ?_
   |with_reducible refine SW.tg 7 ?_
    refine St.bL (.mk rfl) (.mk rfl) ajP m (by rfl) ?_;refine g2 ?_;refine SW.go ?_
  all_goals refine SW.dn ?_
  all_goals
   refine g7 ?_;refine St.aH ⟨k+1,⟨v23,m⟩,a++ [z]⟩ ⟨by omega,by rw[cL,b,rH hy,←hz];rfl⟩
 ·obtain rfl:k=x.kids.length:=by omega
  rw[fW]at b
  obtain⟨⟨d,e⟩,A⟩:∃z,z=kv:=⟨kv,rfl⟩
  subst A;refine St.bI d bP a rfl rfl (λy hy=> ?_) ?_
  ·have hm:aM y∈x.kids.map aM:=by rw[←b];exact di hy
   obtain⟨u,hu,he⟩:=cA.1 hm;obtain⟨B,e2⟩:=A4 he.symm
   have hw:=j u hu
   exact⟨by rw[B];exact hw.1,by rw[e2];exact hw.2⟩
  refine St.gW (ae (.mk x.rule x.lex ⟨d,e⟩ a)) [sl bP d a,aL ae a] (λρ h=>oz.mk (x:= .mk x.rule x.lex ⟨d,e⟩ a) (h _ (aV ..)) (λy hy=>h (aL ae a) (bV _ (aV ..)) y hy)) ?_;refine g8 ?_;refine St.sA (.mk rfl) (.mk rfl) mP ?_ (h1:=(by simp only[List.all_cons,List.all_nil,Bool.and_true,Bool.and_eq_true];exact⟨rfl,rfl,e⟩));refine g3 ?_;refine St.rV [_] [aD (ae (.mk x.rule x.lex ⟨d,e⟩ a))] ?_;exact⟨.mk x.rule x.lex ⟨d,e⟩ a,rfl,by rw[gP,gP x,←b];rfl,rfl⟩
def UK (its:List cK)(l:List Nat):Nat:=l.foldl (λn i=>min (n+p8 its i) dU) 0
theorem PQ {its:List cK}{l:List Nat}{k q:Nat}(h:l[k]?=some q):UK its (l.take (k+1))=min (UK its (l.take k)+p8 its q) dU:=by unfold UK;rw[aO h,qv];rfl
theorem YV (its:List cK)(l:List Nat):UK its l≤dU:=by
 have key:∀(l:List Nat) (a:Nat),a≤dU→l.foldl (λn i=>min (n+p8 its i) dU) a≤dU:=by
  intro l
  induction l with
  |nil=>intro a h;exact h
  |cons x l b=>intro a _;rw[im];exact b _ (Nat.min_le_right _ _)
 exact key l 0 (aP _)
theorem UL {R X:List Int}{its:List cK}(b:qG ⟨its.map dW,R,X⟩)(hw:mq (its.map dW)):∀(l:List Nat),(∀i∈l,i<its.length)→UK its l=min (l.flatMap (jO (its.map dW) 60)).length dU:=by
 have key:∀(l:List Nat) (a:Nat),(∀i∈l,i<its.length)→l.foldl (λn i=>min (n+p8 its i) dU) (min a dU)=min (a+(l.flatMap (jO (its.map dW) 60)).length) dU:=by
  intro l
  induction l with
  |nil=>intro a _;rfl
  |cons x l c=>
   intro a h
   have hx:x<(⟨its.map dW,R,X⟩:kg).its.length:=by show x<(its.map dW).length;rw[aR];exact h x (aV ..)
   have d:p8 its x=min (jO (its.map dW) 60 x).length dU:=DD b hw 60 x hx (b.ht x hx)
   have e:min (min a dU+min (jO (its.map dW) 60 x).length dU) dU=min (a+(jO (its.map dW) 60 x).length) dU:=by omega
   rw[im,d,e,c _ λi f=>h i (bV _ f),iE,bJ,pt]
 intro l h
 have:=key l 0 h
 rw[iW]at this;exact this
theorem Hk (a:ei)(uv b d:aY)(its:List cK)(full C:List Nat)(g:xD its C)(h:∀i,i<its.length→C[i]?=some (p8 its i))(j:∀i∈full,i<its.length):cX prog 76 #[.agg #[a.tv.1,a.fv.1,a.rv.1,a.xv.1,a.start.nv.1,uv.1,b.1,d.1]] [sl aI b.1 (bx full),sl aI d.1 (bx C)] (iv (UK its full:Nat)):=by
 refine cX.lj (args:=[.agg #[a.tv.1,a.fv.1,a.rv.1,a.xv.1,a.start.nv.1,uv.1,b.1,d.1]]) 23 func76 rfl ntmps76 rfl (λc=> ?_);refine go ?_;refine St.wf b.1 (λ_ u=> ?_)
 have v:=du full
 have l:=du C
 have m:=g.len
 have n:dU=1099511627776:=rfl
 refine go ?_;refine St.cW (.mk rfl) rfl (λw=> ?_);refine g18 ?_;refine St.lS (ι:=Nat) (λk T=>(9,iv k)::(3,iv (UK its (full.take k):Nat))::T) (λk=>k≤full.length) (λk=>full.length-k) 0 (aC.k4 1 2 7 8) (aP _) ?_;intro k hk
 have o:=YV its (full.take k)
 refine g6 ?_;refine St.cq (λp=> ?_) (λp=> ?_)
 ·obtain⟨q,e⟩:=aF (show k<full.length by omega)
  have r:=j q (aa e)
  have f:=h q r
  have s:=PQ (its:=its) e
  have t:p8 its q≤dU:=Lf _ _ (aP _)
  refine g7 ?_;refine St.ee (Ev.ld1 (.mk rfl) (iZ e) eK trivial rfl) ?_;refine g9 ?_;refine St.ee (Ev.ld1 (.mk rfl) (iZ f) eK trivial rfl) ?_;refine go ?_;refine St.ee (Ev.ZS (.mk rfl) (.mk rfl)) ?_;refine St.slot 20 (iv (UK its (full.take (k+1)):Nat)) rfl (congrArg iv (by rw[s];split<;>omega)) ?_;refine g9 ?_;refine St.aS (k+1) zE
 ·obtain rfl:k=full.length:=by omega
  rw[fW];refine g12 ?_;refine St.rV [_] [] ?_;rfl
inductive HY:dA→Prop
 |mk {r l:Int} {ks:List dA} (h: -1≤r∧r≤1000∧0≤l∧l≤1000) (k:∀t∈ks,HY t):HY (.mk r l ks)
theorem HY.kids {x:bH}(h:HY (aM x)):(-1≤x.rule∧x.rule≤1000∧0≤x.lex∧x.lex≤1000)∧∀y∈x.kids,HY (aM y):=by
 rw[gP]at h
 cases h with
 |mk h k=>exact⟨h,λy hy=>k _ (di hy)⟩
mutual
theorem Kg:∀t:dA,(iu t).length=qE t
 | .mk r l ks=>by rw[iu,qE,eU,ye ks];omega
theorem ye:∀l:List dA,(jr l).length=iH l
 | []=>rfl
 |t::l=>by rw[jr,iH,bJ,Kg t,ye l]
end
theorem BR:∀a b:List dA,jr (a++b)=jr a++jr b
 | [],_=>rfl
 |t::a,b=>by rw[jg,jr,jr,BR a b,cr]
theorem YU (x:bH):iu (aM x)=Us x.rule x.lex::jr (x.kids.map aM):=by rw[gP,iu]
def xY (x:bH)(l:List Int)(k:Nat):List Int:=l++(Us x.rule x.lex::jr ((x.kids.take k).map aM))
theorem P8 {x y:bH}{l:List Int}{k:Nat}(h:x.kids[k]?=some y):xY x l (k+1)=xY x l k++iu (aM y):=by
 unfold xY;rw[rH h,BR,show jr [aM y]=iu (aM y) by rw[jr,jr,fV]]
 simp
theorem Tx (x:bH)(l:List Int):xY x l x.kids.length=l++iu (aM x):=by unfold xY;rw[fW,YU]
theorem KZ (x:bH)(l:List Int)(k:Nat):(xY x l k).length≤l.length+qE (aM x):=by
 have h1:=Bk (l:=x.kids.map aM) k
 rw[←List.map_take]at h1;unfold xY
 rw[bJ,eU,ye,gP,qE];omega
mutual
theorem PN:∀t:dA,HY t→∀z∈iu t,aI.wf z
 | .mk r l ks,h,z,hz=>by
  cases h with
  |mk h k=>
   rw[iu]at hz
   rcases bT.1 hz with rfl|hz
   ·show bR (Us r l)
    unfold Us bR
    split<;>omega
   ·exact Kf ks k z hz
theorem Kf:∀l:List dA,(∀t∈l,HY t)→∀z∈jr l,aI.wf z
 | [],_,z,hz=>by cases hz
 |t::l,h,z,hz=>by
  rw[jr]at hz
  rcases cI.1 hz with hz|hz
  ·exact PN t (h t (aV ..)) z hz
  ·exact Kf l (λs a=>h s (bV _ a)) z hz
end
theorem Hj (b d:Nat):∀(x:bH),HY (aM x)→px (aM x)→∀(h:aY) (l:List Int),l.length+qE (aM x)≤2000→
 dR prog 188 ([eG x]++ [tW b,tW d]).toArray ([ae x,fx d (.func (.func 188) #[] #[tW b,tW d])].map aD++ [tI b [h.1] 35,row h.1 3 1 (l).length (rows aI (l))]) (λv H'=>∃i:aY,v= .tuple #[]∧H'=[tI b [i.1] 35,row i.1 3 1 (l++iu (aM x)).length (rows aI (l++iu (aM x)))]):=by
 intro x
 induction x using bH.ind
 rename_i x t
 intro u ht h l F;refine dR.body (args:=[eG x]++ [tW b,tW d]) 31 func188 rfl ntmps188 rfl (λc=> ?_);refine go ?_;refine St.cast (H':=[aD (ae x),aD (fx d (.func (.func 188) #[] #[tW b,tW d])),tI b [h.1] 35,row h.1 3 1 (l).length (rows aI (l))]) rfl ?_;obtain⟨w,m⟩:=u.kids;obtain⟨G,n⟩:=ht.kids;refine St.oL x ?_;refine St.wf x.kv.1 (λH I=> ?_);refine go ?_;refine St.cW (.mk rfl) rfl (λq=> ?_);refine g2 ?_;refine St.join (ι:=aY) (λa T=>T) (λa=>[tI b [a.1] 35,row a.1 3 1 (xY x l 0).length (rows aI (xY x l 0)),aD (fx d (.func (.func 188) #[] #[tW b,tW d])),aD (sl bP x.kv.1 x.kids),aD (aL ae x.kids),tI q (sK x) 51]) (λa=>True) (aC.k2 2 3) ?_ ?_
 ·refine g7 ?_
  refine St.cq (λz=> ?_) (λz=> ?_)
  ·have e:Us x.rule x.lex=1000+x.lex:=by unfold Us;rw[aB zE]
   refine g5 ?_;refine St.hS rfl (.ay rfl) cP eL jF rfl rfl (by simp[Value.cells]) rfl rfl (λJ=> ?_);refine St.aq (.mk rfl) (.mk rfl) cP eL jF vD (by simp[Value.oneCell',Value.cells]) zE zE rfl rfl rfl rfl (λf A=> ?_);refine St.aN f (show _=(xY x l 0).length by unfold xY;rw[bJ];rfl) (show _=rows aI (xY x l 0) by unfold xY;rw[nR,jz,jr,bB,e];rfl) ?_;refine St.bQ f (λr _=> ?_);refine St.bL (.mk rfl) (.mk rfl) jm r (by rfl) ?_;refine g2 ?_;refine St.mE ⟨f,r⟩ trivial
  ·have e:Us x.rule x.lex=x.rule:=by unfold Us;rw[aA zE]
   refine g4 ?_;refine St.hS rfl (.ay rfl) cP eL jF rfl rfl (by simp[Value.cells]) rfl rfl (λB=> ?_);refine St.aq (.mk rfl) (.mk rfl) cP eL jF vD (by simp[Value.oneCell',Value.cells]) zE zE rfl rfl rfl rfl (λg C=> ?_);refine St.aN g (show _=(xY x l 0).length by unfold xY;rw[bJ];rfl) (show _=rows aI (xY x l 0) by unfold xY;rw[nR,jz,jr,bB,e];rfl) ?_;refine St.bQ g (λs _=> ?_);refine St.bL (.mk rfl) (.mk rfl) jm s (by rfl) ?_;refine g2 ?_;refine St.mE ⟨g,s⟩ trivial
 ·intro a _
  refine g9 ?_;refine St.lH (ι:=Nat×aY) (λ⟨k,a⟩ T=>(23,iv k)::T) (λ⟨k,a⟩=>[tI b [a.1] 35,row a.1 3 1 (xY x l k).length (rows aI (xY x l k)),aD (fx d (.func (.func 188) #[] #[tW b,tW d])),aD (sl bP x.kv.1 x.kids),aD (aL ae x.kids),tI q (sK x) 51]) (λ⟨k,a⟩=>k≤x.kids.length) (λ⟨k,a⟩=>x.kids.length-k) ⟨0,a⟩ (aC.k3 2 21 22) (aP _) ?_;rintro ⟨k,a⟩ hk
  dsimp only at hk⊢
  have K:=KZ x l k
  refine g6 ?_;refine St.cq (λD=> ?_) (λD=> ?_)
  ·obtain⟨y,hy⟩:=aF (show k<x.kids.length by omega)
   have j:=aa hy
   refine St.cN ae x.kids (x:=y) j ?_
   have o:=P8 (l:=l) hy
   have E:=KZ x l (k+1)
   have p:=congrArg List.length o
   rw[bJ,Kg]at p;refine g7 ?_;refine St.ee (Ev.j2 (.mk rfl) hy A9 trivial mP gX.eq) ?_;refine St.al (λM=> ?_);refine g6 ?_;refine St.slot 28 (eG y) rfl rfl ?_;refine St.KT (dr:=True) (ds:=[ae y,fx d (.func (.func 188) #[] #[tW b,tW d])]) (L:=[tI b [a.1] 35,row a.1 3 1 (xY x l k).length (rows aI (xY x l k))]) (caps:=[tW b,tW d]) (λ_=>trivial) (t y j (m y j) (n y j) a (xY x l k) zE) Wv (.mk rfl) (.ay rfl) rfl ?_;rintro v29 _ ⟨i,rfl,rfl⟩;refine St.mZ ?_;refine St.aN i.1 (show _=(xY x l (k+1)).length by rw[o]) (show _=rows aI (xY x l (k+1)) by rw[o]) ?_;refine g8 ?_;refine St.aH ⟨k+1,i⟩ (by dsimp only;omega)
  ·obtain rfl:k=x.kids.length:=by omega
   rw[Tx];refine g4 ?_;refine St.fL ?_;refine St.rV [] [tI b [a.1] 35,row a.1 3 1 (l++iu (aM x)).length (rows aI (l++iu (aM x)))] ?_;exact⟨a,rfl,rfl⟩
theorem BD (x:bH)(e:HY (aM x))(ht:px (aM x))(g:qE (aM x)≤1000):dR prog 125 #[eG x] ([ae x].map aD) (λv H'=>∃f:aY,v=f.1∧H'=[aD (sl aI f.1 (iu (aM x)))]):=by
 refine dR.body (args:=[eG x]) 10 func125 rfl ntmps125 rfl (λc=> ?_);refine go ?_;refine St.cast (H':=[aD (ae x)]) rfl ?_;refine go ?_;refine St.cW (.mk rfl) rfl (λh=> ?_);refine g5 ?_;refine St.al (λa=> ?_);refine g4 ?_;refine St.al (λb=> ?_);refine g4 ?_;refine St.ee (Ev.func (.ah rfl rfl)) ?_;refine St.bL (.mk rfl) (.mk rfl) ajS rfl (by rfl) ?_;refine St.GU b ?_;refine g6 ?_;refine St.slot 7 (eG x) rfl rfl ?_;refine St.dH 3 1 ?_;refine St.aN (.slice none 0 0) (show _=([]:List Int).length from rfl) (show _=rows aI []from rfl) ?_;refine St.KT (dr:=True) (ds:=[ae x,fx b (.func (.func 188) #[] #[tW a,tW b])]) (L:=[tI a [(Value.slice none 0 0)] 35,row (Value.slice none 0 0) 3 1 (([]:List Int)).length (rows aI (([]:List Int)))]) (caps:=[tW a,tW b]) (λ_=>trivial) (show dR prog 188 ([eG x]++ [tW a,tW b]).toArray ([ae x,fx b (.func (.func 188) #[] #[tW a,tW b])].map aD++ [tI a [(Value.slice none 0 0)] 35,row (Value.slice none 0 0) 3 1 (([]:List Int)).length (rows aI (([]:List Int)))]) (λv H2=>∃d:aY,v= .tuple #[]∧H2=[tI a [d.1] 35,row d.1 3 1 (([]:List Int)++iu (aM x)).length (rows aI (([]:List Int)++iu (aM x)))])from Hj a b x e ht cF [] (by rw[List.length_nil];omega)) Wv (.mk rfl) (.ay rfl) rfl ?_;rintro i _ ⟨d,rfl,rfl⟩;refine St.mZ ?_;rw[nQ];refine St.bI d.1 aI (iu (aM x)) rfl rfl (PN _ e) ?_;refine g9 ?_;refine St.rV [_] [aD (sl aI d.1 (iu (aM x)))] ?_;exact⟨d,rfl,rfl⟩
theorem Ee (g:ei)(hw:T6 (dG g)):∀x:bH,B3 (dG g) (aM x)=true→qE (aM x)≤1000→cX prog 123 #[gK g,eG x] [eD g,ae x] (iv (oT (dG g) (aM x))):=by
 intro x
 induction x using bH.ind
 rename_i x p
 intro i j;refine cX.lj (args:=[gK g,eG x]) 39 func123 rfl ntmps123 rfl (λc=> ?_);refine go ?_
 refine St.gG (eD g) (λ_:Unit=>Af g) (λρ h=>⟨(),h⟩) λ_=> ?_
 refine St.cast (H':=[aD (sl pj g.tv.1 g.types),aD (aL wj g.types),aD (sl gD g.fv.1 g.bh),aD (sl bX g.rv.1 g.rules),aD (aL cR g.rules),aD (sl dT g.xv.1 g.aK),aD (aL eO g.aK),aD (aJ g.start),aD (eD g),aD (ae x)]) rfl ?_;refine St.oL x ?_
 have a:aM x= .mk x.rule x.lex (x.kids.map aM):=gP x
 have b:=Vx (dG g) x.rule x.lex (x.kids.map aM)
 rw[←a]at b;rw[a,aaD]at i;rw[a,ZV]at j
 have q:(dG g).rules.length=g.rules.length:=aR _
 have s:(dG g).aK.length=g.aK.length:=aR _
 have t:=GI (x.kids.map aM)
 rw[aR]at t;refine go ?_;refine St.cW (.mk rfl) rfl (λu=> ?_);refine St.cW (.mk rfl) rfl (λv=> ?_);refine g11 ?_;refine St.cq (λe=> ?_) (λe=> ?_)
 ·rw[aB e,pV,eJ,eJ,s]at i
  rw[aB e]at b;obtain⟨y,hy⟩:=aF (show x.lex.toNat<g.aK.length by omega)
  have m:((g.aK.map qD).map (·.weight))[x.lex.toNat]?=some y.weight:=by rw[aw,aw,hy];rfl
  rw[show(dG g).aK=g.aK.map qD from rfl,m]at b;refine g6 ?_;refine St.ee (Ev.cM (k:=x.lex.toNat) (.mk rfl) (.mk rfl) B8 nH zE zE) ?_;refine g7 ?_;refine St.rV [_] [] ?_;exact ie (by rw[b];rfl)
 ·rw[aA (Int.not_lt.2 e),pV,eJ,q]at i
  rw[aA (Int.not_lt.2 e)]at b;obtain⟨y,hy⟩:=aF (show x.rule.toNat<g.rules.length by omega)
  have m:((g.rules.map l8).map (·.weight))[x.rule.toNat]?=some y.weight:=by rw[aw,aw,hy];rfl
  rw[show(dG g).rules=g.rules.map l8 from rfl,m]at b
  have w:0≤y.weight∧y.weight≤1000000:=hw.r (l8 y) (di (aa hy))
  have n:=H8 i.2
  refine g8 ?_;refine St.ee (Ev.cM (k:=x.rule.toNat) (.mk rfl) (.mk rfl) B7 oW zE zE) ?_;refine g15 ?_;refine St.slot 5 (iv (y.weight+il (dG g) ((x.kids.map aM).take 0))) rfl (congrArg iv (by rw[nR,il,Int.add_zero])) ?_;refine St.lH (ι:=Nat) (λk T=>(28,iv k)::(5,iv (y.weight+il (dG g) ((x.kids.map aM).take k)))::T) (λk=>[aD (eD g),aD (ae x),aD (sl bP x.kv.1 x.kids),aD (aL ae x.kids),aD (sl bX g.rv.1 g.rules),tI u (jj g) 32,tI v (sK x) 51]) (λk=>k≤x.kids.length) (λk=>x.kids.length-k) 0 (aC.k4 2 4 26 27) (aP _) ?_;intro k hk
  have A:=zy hw ((x.kids.map aM).take k)
  have B:=Bk (l:=x.kids.map aM) k
  refine g6 ?_;refine St.cq (λC=> ?_) (λC=> ?_)
  ·obtain⟨z,hz⟩:=aF (show k<x.kids.length by omega)
   have f:=aa hz
   refine St.cN ae x.kids (x:=z) f ?_
   have d:(x.kids.map aM)[k]?=some (aM z):=by rw[aw,hz];rfl
   have D:=Jq (g:=dG g) d
   have E:=GJ (aa d)
   have o:=n (aM z) (aa d)
   have F:=Lg hw (aM z)
   refine g7 ?_;refine St.ee (Ev.j2 (.mk rfl) hz A9 trivial mP gX.eq) ?_;refine St.al (λG=> ?_);refine g6 ?_;refine St.slot 33 (gK g) rfl rfl ?_;refine go ?_;refine St.slot 34 (eG z) rfl rfl ?_;refine St.ee (Ev.call (p z f o zE) Ox (.ah rfl rfl)) ?_;refine go ?_;refine St.slot 36 (iv (y.weight+il (dG g) ((x.kids.map aM).take (k+1)))) rfl (congrArg iv (by rw[D,Int.add_assoc])) ?_;refine g9 ?_;refine St.aH (k+1) zE
  ·obtain rfl:k=x.kids.length:=by omega
   rw[show(x.kids.map aM).take x.kids.length=x.kids.map aM from dV (by rw[aR];exact aQ _)];refine g12 ?_;refine St.rV [_] [] ?_;exact ie (by rw[b];rfl)
theorem Hv (g:ei)(hw:T6 (dG g))(a b:bH)(l:B3 (dG g) (aM a)=true)(m:B3 (dG g) (aM b)=true)(j:qE (aM a)≤1000)(d:qE (aM b)≤1000)(e:HY (aM a))(f:HY (aM b))(h:px (aM a))(i:px (aM b)):
 dR prog 80 #[gK g,eG a,eG b] ([eD g,ae a,ae b].map aD) (λv H2=>v=iv (xR (dG g) (aM a) (aM b))∧H2=[]):=by
 refine dR.body (args:=[gK g,eG a,eG b]) 21 func80 rfl ntmps80 rfl (λc=> ?_);refine go ?_;refine St.cast (H':=[aD (eD g),aD (ae a),aD (ae b)]) rfl ?_;refine go ?_;refine St.cW (.mk rfl) rfl (λq=> ?_);refine St.cW (.mk rfl) rfl (λr=> ?_);refine St.cW (.mk rfl) rfl (λs=> ?_);refine g4 ?_;refine St.qe [] mixed (λt u=> ?_);refine SW.gd 0 ?_;refine SW.slot 7 (gK g) rfl rfl ?_;refine SW.gd 1 ?_;refine SW.slot 8 (eG a) rfl rfl ?_;refine SW.dd 2 rfl (λ_=>Ev.call (Ee g hw a l j) Ox (.ah rfl rfl)) ?_;refine SW.gd 3 ?_;refine SW.slot 10 (gK g) rfl rfl ?_;refine SW.gd 4 ?_;refine SW.slot 11 (eG b) rfl rfl ?_;refine SW.dd 5 rfl (λ_=>Ev.call (Ee g hw b m d) Ox (.ah rfl rfl)) ?_;refine SW.dd 6 rfl (λ_=>Ev.call (eA _ _) mr (.ah rfl rfl)) ?_;refine SW.gd 7 ?_;refine SW.slot 14 (eG a) rfl rfl ?_;refine SW.gd 9 ?_;refine SW.slot 16 (eG b) rfl rfl ?_;refine SW.t1 8 ?_;refine St.dt (BD a e h j) We (.ay rfl) rfl ?_;rintro n _ ⟨o,rfl,rfl⟩;refine St.eZ ?_;refine g2 ?_;refine SW.go ?_;refine SW.t1 10 ?_;refine St.dt (BD b f i d) We (.ay rfl) rfl ?_;rintro v17 _ ⟨p,rfl,rfl⟩;refine St.eZ ?_;refine g2 ?_;refine SW.go ?_;refine SW.t1 11 ?_;refine St.ee (Ev.call (ri o.1 p.1 (iu (aM a)) (iu (aM b))) Oy (.ah rfl rfl)) ?_;refine g2 ?_;refine SW.go ?_;refine SW.t1 12 ?_;refine St.hS rfl (.ah rfl rfl) cP eL jF rfl rfl (by simp[Value.cells]) rfl rfl (λk=> ?_);refine St.aN (tO k 2 2) (show _=([(kf (oT (dG g) (aM a)) (oT (dG g) (aM b))),(jA kf (iu (aM a)) (iu (aM b)))]).length from rfl) (show _=rows aI ([(kf (oT (dG g) (aM a)) (oT (dG g) (aM b))),(jA kf (iu (aM a)) (iu (aM b)))])from rfl) ?_;refine g2 ?_;refine SW.go ?_;refine SW.t1 13 ?_;refine St.ee (Ev.qQ (qK (tO k 2 2) [(kf (oT (dG g) (aM a)) (oT (dG g) (aM b))),(jA kf (iu (aM a)) (iu (aM b)))]) Ep (.ay rfl) (cm.row cm.nil rfl rfl rfl (Cx (λx hx=>by simp only[List.mem_cons,List.not_mem_nil,or_false]at hx;rcases hx with rfl|rfl;exact oD _ _;exact ya oD _ _)))) ?_;refine g2 ?_;refine SW.go ?_;refine SW.gd 14 ?_;refine SW.dn ?_;refine g2 ?_;refine St.rV [_] [] ?_;exact⟨ie (show sc _ (sc _ 0)=_ by rw[LP];rfl),rfl⟩
theorem yJ (e:Nat)(d:ei)(uv k l:aY)(hw:T6 (dG d))(a b:bH)(m:B3 (dG d) (aM a)=true)(n:B3 (dG d) (aM b)=true)(o:qE (aM a)≤1000)(f:qE (aM b)≤1000)(g:HY (aM a))(h:HY (aM b))(i:px (aM a))(j:px (aM b)):
 dR prog 79 ([eG a,eG b]++ [tW e]).toArray ([ir e [d.tv.1,d.fv.1,d.rv.1,d.xv.1,d.start.nv.1,uv.1,k.1,l.1],eD d,ae a,ae b].map aD) (λv H2=>v=iv (xR (dG d) (aM a) (aM b))∧H2=[]):=by
 refine dR.body (args:=[eG a,eG b]++ [tW e]) 11 func79 rfl ntmps79 rfl (λc=> ?_);refine go ?_;refine St.cast (H':=[aD (ir e [d.tv.1,d.fv.1,d.rv.1,d.xv.1,d.start.nv.1,uv.1,k.1,l.1]),aD (eD d),aD (ae a),aD (ae b)]) rfl ?_;refine go ?_;refine St.cW (.mk rfl) rfl (λp=> ?_);refine St.cW (.mk rfl) rfl (λq=> ?_);refine g6 ?_;refine St.ee (Ev.LB 5 (.mk rfl) aaE trivial Vy rfl rfl) ?_;refine St.slot 7 (gK d) rfl rfl ?_;refine go ?_;refine St.slot 8 (eG a) rfl rfl ?_;refine go ?_;refine St.slot 9 (eG b) rfl rfl ?_;refine St.dt (Hv d hw a b m n o f g h i j) ahP (.fk rfl rfl rfl) rfl ?_;rintro v10 _ ⟨rfl,rfl⟩;refine St.YC ?_;refine g4 ?_;refine St.rV [_] [] ?_;exact⟨rfl,rfl⟩
def W5:dg:= .mk 0 [] 0 (.mk [] cF []) cF []
def ruZ (k w:Int):dL:=⟨[],⟨cF,[]⟩,k,w,W5⟩
def lxZ (w:Int):km:=⟨[],⟨cF,[]⟩,w,W5⟩
theorem SG (ρ:Ro):(iV W5).f ρ:= .mk (x:=W5) (.mk (x:= .mk [] cF []) (j1 mf ρ) (λy hy=>by cases hy)) (j1 nI ρ) (λy hy=>by cases hy)
theorem Ij (ρ:Ro):(aJ ⟨cF,[]⟩).f ρ:=λd hd=>by
 simp only[jV,List.mem_cons,List.not_mem_nil,or_false]at hd
 rcases hd with rfl|rfl
 ·exact j1 cD ρ
 ·exact λx hx=>by cases hx
theorem Zl (ρ:Ro)(k w:Int):(cR (ruZ k w)).f ρ:=λd hd=>by
 simp only[LV,List.mem_cons,List.not_mem_nil,or_false]at hd
 rcases hd with rfl|rfl
 ·exact Ij ρ
 ·exact SG ρ
theorem ZQ (ρ:Ro)(w:Int):(eO (lxZ w)).f ρ:=λd hd=>by
 simp only[VD,List.mem_cons,List.not_mem_nil,or_false]at hd
 rcases hd with rfl|rfl
 ·exact Ij ρ
 ·exact SG ρ
theorem Xg:dx W5= .mk 0 [] 0 (.mk [] []) []:=by unfold W5;rw[dx,dw,Gl,zz]
theorem afU (k w:Int):l8 (ruZ k w)=⟨[],[],k,w,.mk 0 [] 0 (.mk [] []) []⟩:=by
 show(⟨[],[],k,w,dx W5⟩:ry)=_
 rw[Xg]
theorem ae2 (w:Int):qD (lxZ w)=⟨[],[],w,.mk 0 [] 0 (.mk [] []) []⟩:=by
 show(⟨[],[],w,dx W5⟩:Eb)=_
 rw[Xg]
def EV (l:List dL):List dL:=l.map λr=>ruZ r.kids r.weight
def G5 (l:List km):List km:=l.map λx=>lxZ x.weight
def Dc (g:ei)(rv xv:aY):ei:=⟨cF,[],cF,[],rv,EV g.rules,xv,G5 g.aK,⟨cF,[]⟩⟩
theorem adC (g:ei)(rv xv:aY):dG (Dc g rv xv)=wG (dG g):=by
 have h1:(EV g.rules).map l8=(g.rules.map l8).map λr=>⟨[],[],r.kids,r.weight,.mk 0 [] 0 (.mk [] []) []⟩:=by
  unfold EV;rw[iX,iX]
  exact qw λr _=>afU r.kids r.weight
 have a:(G5 g.aK).map qD=(g.aK.map qD).map λx=>⟨[],[],x.weight,.mk 0 [] 0 (.mk [] []) []⟩:=by
  unfold G5;rw[iX,iX]
  exact qw λx _=>ae2 x.weight
 unfold dG Dc wG
 dsimp only
 rw[h1,a];rfl
theorem H5:nI.wf W5:=⟨by unfold bR;decide,by decide,by unfold bR;decide,by decide⟩
theorem Zk {g:ei}(h:∀r∈g.rules,bX.wf r):∀r∈EV g.rules,bX.wf r:=λr a=>by
 obtain⟨x,hx,rfl⟩:=cA.1 a
 have:=h x hx
 exact⟨aP _,this.2.1,this.2.2.1,H5⟩
theorem ZP {g:ei}(h:∀r∈g.aK,dT.wf r):∀r∈G5 g.aK,dT.wf r:=λr a=>by
 obtain⟨x,hx,rfl⟩:=cA.1 a
 have:=h x hx
 exact⟨aP _,this.2.1,H5⟩
theorem RT {l:List dL}{k:Nat}{r:dL}(h:l[k]?=some r):EV (l.take (k+1))=EV (l.take k)++ [ruZ r.kids r.weight]:=rH h
theorem QY {l:List km}{k:Nat}{r:km}(h:l[k]?=some r):G5 (l.take (k+1))=G5 (l.take k)++ [lxZ r.weight]:=rH h
theorem Vh (l:List dL):(EV l).length=l.length:=aR _
theorem VK (l:List km):(G5 l).length=l.length:=aR _
theorem Yk {g:ei}{rv xv:aY}{ρ:Ro}(h1:(sl bX rv.1 (EV g.rules)).f ρ)(a:(sl dT xv.1 (G5 g.aK)).f ρ):(eD (Dc g rv xv)).f ρ:=λd hd=>by
 simp only[Af,List.mem_cons,List.not_mem_nil,or_false]at hd
 rcases hd with rfl|rfl|rfl|rfl|rfl|rfl|rfl|rfl
 ·exact j1 pj ρ
 ·exact λx hx=>by cases hx
 ·exact j1 gD ρ
 ·exact h1
 ·exact λx hx=>by obtain⟨y,_,rfl⟩:=cA.1 (show x∈g.rules.map _ from hx);exact Zl ρ _ _
 ·exact a
 ·exact λx hx=>by obtain⟨y,_,rfl⟩:=cA.1 (show x∈g.aK.map _ from hx);exact ZQ ρ _
 ·exact Ij ρ
theorem EL (g:ei)(G:g.rules.length≤40)(hx:g.aK.length≤100):dR prog 73 #[gK g] ([eD g].map aD) (λv H'=>∃rv xv:aY,v=gK (Dc g rv xv)∧H'=[aD (eD (Dc g rv xv))]):=by
 refine dR.body (args:=[gK g]) 43 func73 rfl ntmps73 rfl (λc=> ?_);refine go ?_;refine St.cast (H':=[aD (eD g)]) rfl ?_;refine St.gW (sl bX g.rv.1 g.rules) [eD g] (λρ h=>h (eD g) (aV ..) _ (by simp[Af])) ?_;refine St.gW (sl dT g.xv.1 g.aK) [eD g] (λρ h=>h (eD g) (aV ..) _ (by simp[Af])) ?_;refine St.wf g.rv.1 (λj _=> ?_);refine St.wf g.xv.1 (λs _=> ?_);refine go ?_;refine St.cW (.mk rfl) rfl (λl=> ?_);refine St.al (λm=> ?_);refine g4 ?_;refine St.al (λn=> ?_);refine g12 ?_;refine St.dH 98 10 ?_;refine St.aN (.slice none 0 0) (show _=(EV (g.rules.take 0)).length from rfl) (show _=rows bX (EV (g.rules.take 0))from rfl) ?_;refine St.lH (ι:=Nat×aY) (λ⟨k,rv⟩ T=>(11,iv k)::T) (λ⟨k,rv⟩=>[row rv.1 98 10 (EV (g.rules.take k)).length (rows bX (EV (g.rules.take k))),tI n [(.slice none 0 0),(.slice none 0 0),rv.1,(.slice none 0 0),(.slice none 0 0)] 32,aD (sl bX g.rv.1 g.rules),aD (sl dT g.xv.1 g.aK),tI l (jj g) 32,tI m [(.slice none 0 0),(.slice none 0 0),(.slice none 0 0),(.slice none 0 0),(.slice none 0 0)] 32]) (λ⟨k,rv⟩=>k≤g.rules.length) (λ⟨k,rv⟩=>g.rules.length-k) ⟨0,cF⟩ (aC.k5 1 2 3 9 10) (aP _) ?_;rintro ⟨k,rv⟩ hk
 dsimp only at hk⊢
 have H:(EV (g.rules.take k)).length≤40:=by rw[Vh,cy];omega
 refine g6 ?_;refine St.cq (λt=> ?_) (λt=> ?_)
 ·obtain⟨r,o⟩:=aF (show k<g.rules.length by omega)
  have e:=RT o
  refine g7 ?_;refine St.ee (Ev.j2 (.mk rfl) o EH trivial oW gX.eq) ?_;refine St.al (λI=> ?_);refine g10 ?_;refine St.ee (Ev.build (bC.ah rfl rfl) (λw=>MR rfl rfl w)) ?_;refine St.hS rfl (.ay rfl) B7 oW agK rfl rfl (by simp[Value.cells]) rfl rfl (λy=> ?_);refine St.aq (.mk rfl) (.mk rfl) B7 oW agK agV (by intro u hu;exact bX.one (ruZ r.kids r.weight) u hu) zE zE rfl rfl rfl rfl (λv23 A=> ?_);refine St.aN v23 (show _=(EV (g.rules.take (k+1))).length by rw[e,bJ];rfl) (show _=rows bX (EV (g.rules.take (k+1))) by rw[e,bB];rfl) ?_;refine St.bQ v23 (λp _=> ?_);refine go ?_;refine St.bL (.mk rfl) (.mk rfl) ajM p (by rfl) ?_;refine g8 ?_;refine St.aH ⟨k+1,⟨v23,p⟩⟩ (by dsimp only;omega)
 ·obtain rfl:k=g.rules.length:=by omega
  rw[fW];refine g7 ?_
  obtain⟨⟨a,d⟩,B⟩:∃z,z=rv:=⟨rv,rfl⟩
  subst B;refine St.bI a bX (EV g.rules) rfl rfl (Zk j) ?_;refine g8 ?_;refine St.dH 100 9 ?_;refine St.aN (.slice none 0 0) (show _=(G5 (g.aK.take 0)).length from rfl) (show _=rows dT (G5 (g.aK.take 0))from rfl) ?_;refine St.lH (ι:=Nat×aY) (λ⟨k,xv⟩ T=>(29,iv k)::T) (λ⟨k,xv⟩=>[row xv.1 100 9 (G5 (g.aK.take k)).length (rows dT (G5 (g.aK.take k))),tI n [(.slice none 0 0),(.slice none 0 0),a,xv.1,(.slice none 0 0)] 32,aD (sl bX a (EV g.rules)),aD (sl bX g.rv.1 g.rules),aD (sl dT g.xv.1 g.aK),tI l (jj g) 32,tI m [(.slice none 0 0),(.slice none 0 0),(.slice none 0 0),(.slice none 0 0),(.slice none 0 0)] 32]) (λ⟨k,xv⟩=>k≤g.aK.length) (λ⟨k,xv⟩=>g.aK.length-k) ⟨0,cF⟩ (aC.k4 2 3 27 28) (aP _) ?_;rintro ⟨k,xv⟩ hk
  dsimp only at hk⊢
  have J:(G5 (g.aK.take k)).length≤100:=by rw[VK,cy];omega
  refine g6 ?_;refine St.cq (λC=> ?_) (λC=> ?_)
  ·obtain⟨x,f⟩:=aF (show k<g.aK.length by omega)
   have e:=QY f
   refine g7 ?_;refine St.ee (Ev.j2 (.mk rfl) f A6 trivial nH gX.eq) ?_;refine St.al (λK=> ?_);refine g8 ?_;refine St.ee (Ev.build (bC.ay rfl) (λw=>Od rfl w)) ?_;refine St.hS rfl (.ay rfl) B8 nH Xk rfl rfl (by simp[Value.cells]) rfl rfl (λD=> ?_);refine St.aq (.mk rfl) (.mk rfl) B8 nH Xk abI (by intro u hu;exact dT.one (lxZ x.weight) u hu) zE zE rfl rfl rfl rfl (λv39 E=> ?_);refine St.aN v39 (show _=(G5 (g.aK.take (k+1))).length by rw[e,bJ];rfl) (show _=rows dT (G5 (g.aK.take (k+1))) by rw[e,bB];rfl) ?_;refine St.bQ v39 (λq _=> ?_);refine go ?_;refine St.bL (.mk rfl) (.mk rfl) ajN q (by rfl) ?_;refine g8 ?_;refine St.aH ⟨k+1,⟨v39,q⟩⟩ (by dsimp only;omega)
  ·obtain rfl:k=g.aK.length:=by omega
   rw[fW]
   obtain⟨⟨b,i⟩,F⟩:∃z,z=xv:=⟨xv,rfl⟩
   subst F;refine St.bI b dT (G5 g.aK) rfl rfl (ZP s) ?_;refine St.gW (eD (Dc g ⟨a,d⟩ ⟨b,i⟩)) [sl bX a (EV g.rules),sl dT b (G5 g.aK)] (λρ h=>Yk (rv:=⟨a,d⟩) (xv:=⟨b,i⟩) (h _ (aV ..)) (h _ (bV _ (aV ..)))) ?_;refine g8 ?_;refine St.sA (.mk rfl) (.mk rfl) Vy ?_ (h1:=(by simp only[List.all_cons,List.all_nil,Bool.and_true,Bool.and_eq_true];exact⟨rfl,rfl,d,i,rfl⟩));refine g3 ?_;refine St.rV [_] [aD (eD (Dc g ⟨a,d⟩ ⟨b,i⟩))] ?_;exact⟨⟨a,d⟩,⟨b,i⟩,rfl,rfl⟩
abbrev s9 (its:List cK)(e:Nat):List dA:=jO (its.map dW) 60 e
theorem OJ (a b K:List dA):kp (a++b) K=kp a K++kp b K:=by unfold kp;rw[pk]
theorem OK (t:dA)(K:List dA):kp [t] K=K.map λs=> .mk t.rule 0 (t.kids++ [s]):=by unfold kp;rw[iE,List.flatMap_nil,fV]
def NA (its:List cK)(w:nW)(j:Nat):List dA:=(w.kids.take j).foldl (λl k=>kp l (s9 its k)) [.mk w.rule w.lex []]
theorem Fz {its:List cK}{w:nW}{j q:Nat}(h:w.kids[j]?=some q):NA its w (j+1)=kp (NA its w j) (s9 its q):=by unfold NA;rw[aO h,qv];rfl
theorem LF (its:List cK)(w:nW):NA its w w.kids.length=pH (s9 its) (uy w):=by unfold NA;rw[fW];rfl
theorem QS {its:List cK}{w:nW}(hk:∀k∈w.kids,1≤(s9 its k).length)(j:Nat):(NA its w j).length≤(pH (s9 its) (uy w)).length:=by
 have h:=uD (s9 its) (w.kids.drop j) (NA its w j) λk hm=>hk k (HU hm)
 have e:(w.kids.drop j).foldl (λl k=>kp l (s9 its k)) (NA its w j)=pH (s9 its) (uy w):=by
  unfold NA pH
  rw[←qv,jN];rfl
 rw[e]at h;exact h
theorem VH {its:List cK}{w:nW}(hk:∀k∈w.kids,1≤(s9 its k).length)(j:Nat):1≤(NA its w j).length:=uD (s9 its) (w.kids.take j) [.mk w.rule w.lex []] λk hm=>hk k (xA hm)
theorem BZ (get:Nat→List dA):∀(ks:List Nat) (l:List dA) (b:Nat),(∀t∈l,t.kids.length≤b)→∀t∈ks.foldl (λl k=>kp l (get k)) l,t.kids.length≤b+ks.length
 | [],l,b,h,t,ht=>h t ht
 |k::ks,l,b,h,t,ht=>by
  rw[im]at ht
  have:=BZ get ks (kp l (get k)) (b+1) (λs c=>by
   obtain⟨a,d,u,_,rfl⟩:=KJ c
   show(a.kids++ [u]).length≤b+1
   rw[bJ]
   have:=h a d
   simp only[List.length_cons,List.length_nil];omega) t ht
  rw[eU];omega
theorem QR {its:List cK}{w:nW}{j:Nat}:∀t∈NA its w j,t.kids.length≤w.kids.length:=λt ht=>by
 have h:=BZ (s9 its) (w.kids.take j) [.mk w.rule w.lex []] 0 (λs a=>by rw[bN.1 a];exact aQ _) t ht
 rw[cy]at h;omega
theorem afV (t:bH):(aM t).rule=t.rule:=by rw[gP];rfl
theorem XK (t:bH):(aM t).kids=t.kids.map aM:=by rw[gP];rfl
def Qx (its:List cK)(y:cK)(k:Nat):List dA:=((y.bb.map uy).take k).flatMap (pH (s9 its))
theorem GP {its:List cK}{y:cK}{k:Nat}{w:nW}(h:y.bb[k]?=some w):Qx its y (k+1)=Qx its y k++pH (s9 its) (uy w):=by
 have a:(y.bb.map uy)[k]?=some (uy w):=by rw[aw,h];rfl
 unfold Qx;rw[aO a,pk];simp
theorem Zc {its:List cK}{y:cK}(k:Nat):(Qx its y k).length≤(Qx its y y.bb.length).length:=by
 have e:y.bb.map uy=(y.bb.map uy).take k++(y.bb.map uy).drop k:=(jN _ _).symm
 have h:Qx its y y.bb.length=Qx its y k++((y.bb.map uy).drop k).flatMap (pH (s9 its)):=by
  unfold Qx;rw[show(y.bb.map uy).take y.bb.length=y.bb.map uy from dV (by rw[aR];exact aQ _)];rw[←pk,jN]
 rw[h,bJ];omega
theorem VT {R X:List Int}{its:List cK}(a:qG ⟨its.map dW,R,X⟩){e:Nat}{y:cK}(h:its[e]?=some y)(he:q8 ⟨its.map dW,R,X⟩ e<60):Qx its y y.bb.length=s9 its e:=by
 have b:e<(⟨its.map dW,R,X⟩:kg).its.length:=by show e<(its.map dW).length;rw[aR];exact(eh.1 h).1
 have h1:=G0 a 60 61 e b he zE
 unfold s9;rw[show jO (its.map dW) 60 e=jO (its.map dW) 61 e from h1,jO,FW h];unfold Qx;rw[show(y.bb.map uy).take y.bb.length=y.bb.map uy from dV (by rw[aR];exact aQ _)];rfl
theorem ai6 {its:List cK}{w:nW}{j:Nat}{ls:List bH}(h:ls.map aM=NA its w j){t:bH}(ht:t∈ls):t.kids.length≤w.kids.length:=by
 have:=QR (its:=its) (w:=w) (j:=j) (aM t) (by rw[←h];exact di ht)
 rw[XK,aR]at this;exact this
theorem N8 (a:ei)(uv p r:aY)(its:List cK)(R X:List Int)(F:qG ⟨its.map dW,R,X⟩)(hw:mq (its.map dW))(L0:its.length≤300):∀(f e:Nat),e<its.length→q8 ⟨its.map dW,R,X⟩ e<f→(s9 its e).length≤200→
 dR prog 77 #[.agg #[a.tv.1,a.fv.1,a.rv.1,a.xv.1,a.start.nv.1,uv.1,p.1,r.1],iv (e:Nat)] ([sl eE uv.1 its,aL dS its].map aD) (λv H'=>∃(g:aY) (outs:List bH),v=g.1∧outs.map aM=s9 its e∧H'=[aD (sl bP g.1 outs),aD (aL ae outs)]):=by
 intro f
 induction f with
 |zero=>(intro e _ h;omega)
 |succ f ih=> ?_
 intro e he hef hlen;refine dR.body (args:=[.agg #[a.tv.1,a.fv.1,a.rv.1,a.xv.1,a.start.nv.1,uv.1,p.1,r.1],iv (e:Nat)]) 81 func77 rfl ntmps77 rfl (λc=> ?_);refine go ?_;refine St.cast (H':=[aD (sl eE uv.1 its),aD (aL dS its)]) rfl ?_;obtain⟨y,hy⟩:=aF he
 have Q:e<(⟨its.map dW,R,X⟩:kg).its.length:=by show e<(its.map dW).length;rw[aR];exact he
 have h60:=F.ht e Q
 have Yz:=VT F hy h60
 refine St.cN dS its (x:=y) (aa hy) ?_;refine St.gW (sl lY y.wv.1 y.bb) [dS y] (λρ h=>h (dS y) (aV ..) _ (bV _ (aV ..))) ?_;refine St.wf y.wv.1 (λV hyl=> ?_);refine go ?_;refine St.cW (.mk rfl) rfl (λS=> ?_);refine g22 ?_;refine St.dH 51 3 ?_;refine St.aN (.slice none 0 0) (show _=([]:List bH).length from rfl) (show _=rows bP []from rfl) ?_;refine St.ea ae ?_;refine St.lH (ι:=Nat×aY×List bH) (λ⟨k,g,outs⟩ T=>(23,iv k)::(5,g.1)::T) (λ⟨k,g,outs⟩=>[row g.1 51 3 (outs).length (rows bP (outs)),aD (aL ae outs),aD (sl eE uv.1 its),aD (aL dS its),aD (sl lY y.wv.1 y.bb),aD (dS y),tI S [a.tv.1,a.fv.1,a.rv.1,a.xv.1,a.start.nv.1,uv.1,p.1,r.1] 109]) (λ⟨k,g,outs⟩=>k≤y.bb.length∧outs.map aM=Qx its y k∧∀t∈outs,bP.wf t) (λ⟨k,g,outs⟩=>y.bb.length-k) ⟨0,cF,[]⟩ (aC.k4 2 4 21 22) ⟨aP _,rfl,λt ht=>by cases ht⟩ ?_;rintro ⟨k,g,outs⟩ ⟨hk,I,A⟩
 dsimp only at hk I A⊢
 have hol:=congrArg List.length I
 rw[aR]at hol;refine g6 ?_;refine St.cq (λh24=> ?_) (λh24=> ?_)
 ·obtain⟨wy,G⟩:=aF (show k<y.bb.length by omega)
  have hwx:uy wy∈((⟨its.map dW,R,X⟩:kg).its.getD e er).bb:=by rw[show(⟨its.map dW,R,X⟩:kg).its.getD e er=dW y from FW hy];exact di (aa G)
  have hkk:=vS F Q hwx
  have Z4:=V wy (aa G)
  have hk3:wy.kids.length≤3:=by
   obtain⟨wi,Mq,n⟩:=K9 hwx
   by_cases hr:(uy wy).rule<0
   ·have h:=(F.lex e wi Q Mq (by rw[n];exact hr)).1;rw[n]at h;have h:wy.kids=[]:=h;rw[h];decide
   ·have h:=(F.rule e wi Q Mq (by rw[n];exact hr)).2.1;rw[n]at h;exact h
  have o:∀k∈wy.kids,1≤(s9 its k).length:=λq B=>by have h:=hkk q B;exact xp F hw 60 q h.1 zE
  have W:=GP (its:=its) G
  have Y:=Zc (its:=its) (y:=y) (k+1)
  rw[Yz,W,bJ]at Y
  have hnk:(bx wy.kids).length=wy.kids.length:=du _
  refine St.gW (sl aI wy.kv.1 (bx wy.kids)) [dS y] (λρ h=>h (dS y) (aV ..) (aL mG y.bb) (bV _ (bV _ (aV ..))) wy (aa G)) ?_;refine g7 ?_;refine St.ee (Ev.N7 (Rr:=lY) (sz:=3) (.mk rfl) G HH trivial uZ (by decide) (by decide)) ?_;refine St.slot 26 (.agg #[iv wy.rule,iv wy.lex,wy.kv.1]) rfl rfl ?_;refine St.al (λb7=> ?_);refine g9 ?_;refine St.ee (Ev.build (bC.ah rfl rfl) (λw=>BM rfl rfl w)) ?_;refine St.hS rfl (.ay rfl) ug mP EO rfl rfl (by simp[Value.cells]) rfl rfl (λJ=> ?_);refine St.bI (tO J 1 1) bP [.mk wy.rule wy.lex cF []] rfl rfl (λt ht=>by rw[bN.1 ht];exact Z4) ?_;refine St.fact (aL ae [.mk wy.rule wy.lex cF []]) (λρ _ _ t ht=>by rw[bN.1 ht];exact oz.mk (x:= .mk wy.rule wy.lex cF []) (j1 bP ρ) (λy hy=>by cases hy)) ?_;refine g13 ?_;refine St.lH (ι:=Nat×aY×List bH) (λ⟨j,lv,ls⟩ T=>(36,iv j)::(8,lv.1)::T) (λ⟨j,lv,ls⟩=>[aD (sl bP lv.1 ls),aD (aL ae ls),aD (sl aI wy.kv.1 (bx wy.kids)),row g.1 51 3 (outs).length (rows bP (outs)),aD (aL ae outs),aD (sl eE uv.1 its),aD (aL dS its),aD (sl lY y.wv.1 y.bb),aD (dS y),tI S [a.tv.1,a.fv.1,a.rv.1,a.xv.1,a.start.nv.1,uv.1,p.1,r.1] 109]) (λ⟨j,lv,ls⟩=>j≤wy.kids.length∧ls.map aM=NA its wy j) (λ⟨j,lv,ls⟩=>wy.kids.length-j) ⟨0,⟨tO J 1 1,rfl⟩,[.mk wy.rule wy.lex cF []]⟩ (aC.k8 2 4 5 21 22 23 34 35) ⟨aP _,by rw[eV,gP];rfl⟩ ?_;rintro ⟨j,lv,ls⟩ ⟨hj,K⟩
  dsimp only at hj K⊢
  refine St.wf lv.1 (λL _=> ?_)
  have U:=congrArg List.length K
  rw[aR]at U
  have hlJ:=QS o j
  refine g6 ?_;refine St.cq (λh37=> ?_) (λh37=> ?_)
  ·obtain⟨q,B⟩:=aF (show j<wy.kids.length by omega)
   obtain⟨Z,XE⟩:=hkk q (aa B)
   have Z:q<its.length:=by have h:q<(its.map dW).length:=Z;rwa[aR]at h
   have M:=QS o (j+1)
   rw[Fz B,tP,←U]at M
   have TG:=VH o j
   rw[←U]at TG
   have hK1:=o q (aa B)
   have hqL:(s9 its q).length≤200:=by have:=fJ (s9 its q).length TG;omega
   refine g7 ?_;refine St.ee (Ev.ld1 (.mk rfl) (iZ B) eK trivial rfl) ?_;refine g17 ?_;refine St.dH 51 3 ?_;refine St.aN (.slice none 0 0) (show _=([]:List bH).length from rfl) (show _=rows bP []from rfl) ?_;refine St.ea ae ?_;refine St.lH (ι:=Nat×aY×List bH) (λ⟨m,nv,b⟩ T=>(42,iv m)::(11,nv.1)::T) (λ⟨m,nv,b⟩=>[row nv.1 51 3 (b).length (rows bP (b)),aD (aL ae (b)),aD (sl bP lv.1 ls),aD (aL ae ls),aD (sl aI wy.kv.1 (bx wy.kids)),row g.1 51 3 (outs).length (rows bP (outs)),aD (aL ae outs),aD (sl eE uv.1 its),aD (aL dS its),aD (sl lY y.wv.1 y.bb),aD (dS y),tI S [a.tv.1,a.fv.1,a.rv.1,a.xv.1,a.start.nv.1,uv.1,p.1,r.1] 109]) (λ⟨m,nv,b⟩=>m≤ls.length∧b.map aM=kp ((ls.map aM).take m) (s9 its q)∧∀t∈b,bP.wf t) (λ⟨m,nv,b⟩=>ls.length-m) ⟨0,cF,[]⟩ (aC.k13 2 4 5 8 10 21 22 23 34 35 36 40 41) ⟨aP _,by rw[nR];rfl,λt ht=>by cases ht⟩ ?_;rintro ⟨m,nv,b⟩ ⟨hm,d,C⟩
   dsimp only at hm d C⊢
   refine g6 ?_;refine St.cq (λh43=> ?_) (λh43=> ?_)
   ·obtain⟨t,ht⟩:=aF (show m<ls.length by omega)
    have htm:=aa ht
    have htk:=ai6 K htm
    have htw:=L t htm
    have hte:(ls.map aM)[m]?=some (aM t):=by rw[aw,ht];rfl
    have hml:m+1≤ls.length:=by omega
    have N:=fJ (s9 its q).length hml
    rw[ji,nz]at N;refine St.cN ae ls (x:=t) htm ?_;refine St.oL t ?_;refine St.wf t.kv.1 (λai0 _=> ?_);refine g7 ?_;refine St.ee (Ev.j2 (.mk rfl) ht A9 trivial mP gX.eq) ?_;refine St.al (λYG=> ?_);refine g6 ?_;refine St.slot 46 (.agg #[a.tv.1,a.fv.1,a.rv.1,a.xv.1,a.start.nv.1,uv.1,p.1,r.1]) rfl rfl ?_;refine go ?_;refine St.dt (ih q Z zE hqL) ac2 (.ah rfl rfl) rfl ?_;rintro v48 _ ⟨sv,H,rfl,hss,rfl⟩;refine St.mZ ?_;refine St.wf sv.1 (λhsw _=> ?_)
    have ET:=congrArg List.length hss
    rw[aR]at ET;refine g5 ?_;refine St.lH (ι:=Nat×aY×List bH) (λ⟨i,nv,b⟩ T=>(50,iv i)::(11,nv.1)::T) (λ⟨i,nv,b⟩=>[row nv.1 51 3 (b).length (rows bP (b)),aD (aL ae (b)),aD (sl bP sv.1 H),aD (aL ae H),aD (sl bP t.kv.1 t.kids),aD (aL ae t.kids),tI YG (sK t) 51,aD (sl bP lv.1 ls),aD (aL ae ls),aD (sl aI wy.kv.1 (bx wy.kids)),row g.1 51 3 (outs).length (rows bP (outs)),aD (aL ae outs),aD (sl eE uv.1 its),aD (aL dS its),aD (sl lY y.wv.1 y.bb),aD (dS y),tI S [a.tv.1,a.fv.1,a.rv.1,a.xv.1,a.start.nv.1,uv.1,p.1,r.1] 109]) (λ⟨i,nv,b⟩=>i≤H.length∧b.map aM=kp ((ls.map aM).take m) (s9 its q)++((s9 its q).take i).map (λs=> .mk t.rule 0 (t.kids.map aM++ [s]))∧∀t∈b,bP.wf t) (λ⟨i,nv,b⟩=>H.length-i) ⟨0,nv,b⟩ (aC.k17 2 4 5 8 10 13 21 22 23 34 35 36 40 41 42 48 49) ⟨aP _,by rw[d,nR,jz,fV],C⟩ ?_;rintro ⟨i,nv,b⟩ ⟨hi,d,C⟩
    dsimp only at hi d C⊢
    have hnl:=congrArg List.length d
    rw[aR,bJ,tP,cy,aR,aR,cy,gB hm,←ET,gB hi]at hnl;refine g6 ?_;refine St.cq (λh51=> ?_) (λh51=> ?_)
    ·obtain⟨s,hs⟩:=aF (show i<H.length by omega)
     have O:=aa hs
     have hse:(s9 its q)[i]?=some (aM s):=by rw[←hss,aw,hs];rfl
     refine St.cN ae H (x:=s) O ?_;rw[←ET]at N M;refine g7 ?_;refine St.ee (Ev.j2 (.mk rfl) hs A9 trivial mP gX.eq) ?_;refine St.al (λb15=> ?_);refine g3 ?_;refine St.dZ [row nv.1 51 3 (b).length (rows bP (b))] mixed (λnp ns=> ?_);refine SW.gd 0 ?_;refine SW.gd 1 ?_;refine SW.gd 2 ?_;refine SW.gd 3 ?_;refine SW.gd 4 ?_;refine SW.gd 5 ?_;refine SW.gd 6 ?_;refine SW.gd 7 ?_;refine SW.gd 8 ?_;refine SW.gd 9 ?_;refine SW.gd 10 ?_;refine SW.dd 11 rfl (λ_=>Ev.clip (.mk rfl) (.mk rfl) (.mk rfl) ug mP rfl rfl) ?_;refine SW.gd 12 ?_;refine SW.t1 13 ?_;refine St.hS rfl (.ay rfl) ug mP EO rfl rfl (by simp[Value.cells]) rfl rfl (λb67=> ?_);refine g2 ?_;refine SW.go ?_;refine SW.t1 14 ?_;refine St.sQ (.mk rfl) (.mk rfl) ug mP EO Ou (by intro u hu;exact bP.one s u hu) zE zE rfl rfl rfl rfl (λv68 alH=> ?_);refine St.bQ v68 (λl _=> ?_);refine St.bI v68 bP (t.kids++ [s]) (by rw[bB];rfl) (by rw[bJ];rfl) (λz hz=>(cI.1 hz).elim (ai0 z) (λh=>by rw[bN.1 h];exact hsw s O)) ?_;refine St.yi ae (xs:=t.kids) (x:=s) ?_
     have aiT:aM (bH.mk t.rule 0 ⟨v68,l⟩ (t.kids++ [s]))= .mk t.rule 0 (t.kids.map aM++ [aM s]):=by rw[gP];show dA.mk t.rule 0 ((t.kids++ [s]).map aM)=_;rw[cL];rfl
     refine St.gW (ae (bH.mk t.rule 0 ⟨v68,l⟩ (t.kids++ [s]))) [sl bP v68 (t.kids++ [s]),aL ae (t.kids++ [s])] (λρ h=>oz.mk (x:=(bH.mk t.rule 0 ⟨v68,l⟩ (t.kids++ [s]))) (h _ (aV ..)) (λy hy=>h (aL ae (t.kids++ [s])) (bV _ (aV ..)) y hy)) ?_;refine g2 ?_;refine SW.go ?_;refine SW.dd 15 rfl (λ_=>Ev.build (ps:=[(0,(.tmp 56)),(2,(.tmp 68))]) (bC.ah rfl rfl) (λw=>MQ rfl l w)) ?_;refine SW.t1 16 ?_;refine St.hS rfl (.ay rfl) ug mP EO rfl rfl (by simp[Value.cells]) rfl rfl (λb70=> ?_);refine g2 ?_;refine SW.go ?_;refine SW.t1 17 ?_;refine St.aq (.mk rfl) (.mk rfl) ug mP EO Ou (by intro u hu;exact bP.one (bH.mk t.rule 0 ⟨v68,l⟩ (t.kids++ [s])) u hu) zE zE rfl rfl rfl rfl (λD alI=> ?_);refine St.aN D (show _=(b++ [(bH.mk t.rule 0 ⟨v68,l⟩ (t.kids++ [s]))]).length by rw[bJ];rfl) (show _=rows bP (b++ [(bH.mk t.rule 0 ⟨v68,l⟩ (t.kids++ [s]))]) by rw[bB];rfl) ?_;refine St.bQ D (λh71 _=> ?_);refine St.yi ae (xs:=b) (x:=(bH.mk t.rule 0 ⟨v68,l⟩ (t.kids++ [s]))) ?_;refine g2 ?_;refine SW.go ?_;refine SW.gd 18 ?_;refine SW.dn ?_;refine g7 ?_;refine St.aH ⟨i+1,⟨D,h71⟩,b++ [(bH.mk t.rule 0 ⟨v68,l⟩ (t.kids++ [s]))]⟩ ⟨by dsimp only;omega,by dsimp only;rw[cL,d,aO hse,cL,cr,show [(bH.mk t.rule 0 ⟨v68,l⟩ (t.kids++ [s]))].map aM=[aM (bH.mk t.rule 0 ⟨v68,l⟩ (t.kids++ [s]))]from rfl,aiT];rfl,λz hz=>(cI.1 hz).elim (C z) (λh=>by rw[bN.1 h];exact⟨htw.1,by show bR 0;unfold bR;decide⟩)⟩
    ·refine g11 ?_
     refine St.aH ⟨m+1,nv,b⟩ ⟨by dsimp only;omega,by dsimp only;rw[d,aO hte,OJ,OK,show i=(s9 its q).length by rw[←ET];omega,fW,XK,afV],C⟩
   ·refine g16 ?_
    obtain⟨⟨P,hnv⟩,hv3⟩:∃z,z=nv:=⟨nv,rfl⟩
    subst hv3;refine St.bI P bP b rfl rfl C ?_;refine St.aH ⟨j+1,⟨P,hnv⟩,b⟩ ⟨by dsimp only;omega,by dsimp only;rw[d,Fz B,←K,show m=(ls.map aM).length by rw[aR];omega,fW]⟩
  ·obtain rfl:j=wy.kids.length:=by omega
   rw[LF]at U;refine g8 ?_;refine St.oA (.mk rfl) (.mk rfl) ug mP EO Ou (mJ _ _) zE zE rfl rfl trivial rfl (λv78 alK=> ?_);refine St.XX v78 3 rfl ?_;refine St.aN v78 (show _=(outs++ls).length by rw[bJ]) (show _=rows bP (outs++ls) by unfold rows;rw[pk]) ?_;refine St.bQ v78 (λh78 _=> ?_);refine St.gW (aL ae (outs++ls)) [aL ae outs,aL ae ls] (λρ h z hz=>(cI.1 hz).elim (h (aL ae outs) (aV ..) z) (h (aL ae ls) (bV _ (aV ..)) z)) ?_;refine g9 ?_;refine St.aH ⟨k+1,⟨v78,h78⟩,outs++ls⟩ ⟨by dsimp only;omega,by dsimp only;rw[cL,I,K,LF,GP G],λt ht=>(cI.1 ht).elim (A t) (L t)⟩
 ·obtain rfl:k=y.bb.length:=by omega
  rw[Yz]at I
  obtain⟨⟨E,hov⟩,Pz⟩:∃z,z=g:=⟨g,rfl⟩
  subst Pz;refine St.bI E bP outs rfl rfl A ?_;refine g12 ?_;refine St.rV [_] [aD (sl bP E outs),aD (aL ae outs)] ?_;exact⟨⟨E,hov⟩,outs,rfl,I,rfl⟩
end Go.Proofs.YtiefglecbgdaiaaGreatDoor
