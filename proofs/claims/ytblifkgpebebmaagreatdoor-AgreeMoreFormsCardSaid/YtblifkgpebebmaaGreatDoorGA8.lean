/-
  Laws of walks through programs, and facts on grammars, trees and queries.
  Conditions: none.
-/
import Derived.Test.YtblifkgpebebmaaGreatDoorGA7
import Derived.Shelf.SlSortCmp.NoneTotal
set_option maxHeartbeats 4000000
set_option maxRecDepth 20000
set_option linter.unusedVariables false
set_option linter.unusedSimpArgs false
namespace Go.Proofs.YtblifkgpebebmaaGreatDoor
open Go Go.J Tryz
def jE:Rp dD:=⟨1,by decide,λx=>[x.nv.1],λ_=>True,λ_=>rfl,λx u h=>by simp at h;subst h;exact x.nv.2⟩
instance (x:dD):j7 jE x [x.nv.1]:=⟨rfl⟩
def Ad (mt:Nat→Nat→Option Nat)(r:sg)(M:List dz)(j:Nat):List Bool:=if(j:Int)<r.kids then M.map λy=>(dT mt r.graph (rR r.graph ((j:Int)+1)).toNat y).isSome else []
structure wC (f:kr)(g:gB)(mt:Nat→Nat→Option Nat):Prop where
 nr:f.nr=g.rules.length
 nl:f.nl=g.aL.length
 kids:f.kids=g.rules.map (·.kids)
 al:f.rJ.length=g.rules.length
 at_:∀(r:Nat) (x:rG) (rr:sg),f.rJ[r]?=some x→g.rules[r]?=some rr→∀j,j<3→(x.at_ j).2=Ad mt rr (HR g) j
theorem Eo (g:gB):(HR g).length=g.rules.length+g.aL.length:=by unfold HR;rw[bN,aN,aN]
theorem wC.ln {f:kr}{g:gB}{mt:Nat→Nat→Option Nat}(h:wC f g mt)(e:g.rules.length≤1000)(i:g.aL.length≤1000)(hk:∀r∈g.rules,r.kids≤3):xx f:=by
 refine⟨by rw[h.nr];exact e,by rw[h.nl];exact i,by rw[h.kids,aN,h.nr],by rw[h.al,h.nr],λk hm=> ?_,λr x k j hx a d=> ?_⟩
 ·rw[h.kids]at hm
  obtain⟨rr,c,rfl⟩:=cy.1 hm;exact hk rr c
 ·rw[h.kids,bQ]at a
  cases b:g.rules[r]? with
  |none=>rw[b]at a;cases a
  |some rr=>
   rw[b]at a;obtain rfl:=Option.some.inj a
   have m:=hk rr (ae b)
   have l:(j:Int)<rr.kids:=d
   rw[h.at_ r x rr hx b j (by omega)];unfold Ad;rw[aC d,aN,Eo,h.nr,h.nl]
theorem zH {f:kr}{g:gB}{mt:Nat→Nat→Option Nat}(h:wC f g mt)(top:Int):po f.nr f.nl top=HX g top:=by unfold po HX;rw[h.nr,h.nl]
theorem MF {f:kr}{g:gB}{mt:Nat→Nat→Option Nat}(h:wC f g mt)(hk:∀r∈g.rules,r.kids≤3):q7 f=Va g mt:=by
 funext rule a top
 unfold q7 Va;rw[zH h]
 rcases Decidable.em (0≤HX g top)with h1|h1
 case inr=>rw[fK h1];simp only[Bool.false_and]
 rcases Decidable.em (1≤a)with d|d
 case inr=>rw[fK d];simp only[Bool.false_and,Bool.and_false]
 rw[dt h1,dt d]
 rcases eM rule g.rules.length with b|b
 case inr=>
  have e:f.kids.getD rule 0=0:=by rw[aw,ic (by rw[h.kids,aN];exact b)];rfl
  rw[e,fK (show ¬((a:Int)≤0) by omega),fK (show ¬rule<g.rules.length by omega)]
  simp only[Bool.false_and,Bool.and_false]
 obtain⟨rr,c⟩:=aE b;obtain⟨x,hx⟩:=aE (show rule<f.rJ.length by rw[h.al];exact b)
 have k:f.kids.getD rule 0=rr.kids:=by rw[h.kids,aw,bQ,c];rfl
 have e2:g.rules.getD rule oQ=rr:=by rw[aw,c];rfl
 have l:f.rJ.getD rule Vb=x:=by rw[aw,hx];rfl
 rw[k,e2,l,dt b]
 rcases Decidable.em ((a:Int)≤rr.kids)with i|i
 case inr=>rw[fK i];simp only[Bool.false_and,Bool.and_false]
 rw[dt i]
 have n:=hk rr (ae c)
 obtain⟨j,rfl⟩:∃j,a=j+1:=⟨a-1,by omega⟩
 have m:=h.at_ rule x rr hx c j (by omega)
 have hp:=JL (nr:=f.nr) (nl:=f.nl) (top:=top) (by rw[zH h];exact h1)
 rw[zH h]at hp
 show(true&&true&&true&&((x.at_ j).2.getD (HX g top).toNat false))=(true&&true&&true&&true&&_)
 rw[m];unfold Ad;rw[aC (show(j:Int)<rr.kids by omega)]
 simp only[Bool.true_and]
 rw[aw,aw,bQ];obtain⟨y,hy⟩:=aE (show(HX g top).toNat<(HR g).length by rw[Eo,←h.nr,←h.nl];exact hp);rw[hy]
 show(dT mt rr.graph (rR rr.graph ((j:Int)+1)).toNat y).isSome=(dT mt rr.graph (rR rr.graph ((j+1:Nat):Int)).toNat y).isSome
 rw[show((j+1:Nat):Int)=(j:Int)+1 by push_cast;rfl]
def DX (s:List Bool):Nat:=s.countP λb=> !b
theorem Q4 {s:List Bool}{o:Nat}(h:s[o]?=some false):DX (s.set o true)+1=DX s:=by
 unfold DX
 induction s generalizing o with
 |nil=>cases h
 |cons b s a=>
  cases o with
  |zero=>obtain rfl:=Option.some.inj h;rw[sD,rz,rz];simp
  |succ o=>
   rw[wg,rz,rz]
   have:=a (o:=o) h
   omega
theorem Q3 (n:Nat):DX (List.replicate n false)=n:=by
 unfold DX
 induction n with
 |zero=>rfl
 |succ n a=>rw[List.replicate_succ,rz,a];rfl
abbrev CY:aV×List Bool:=(bT,[])
def bG (a:TypeId)(p:aV×List Bool):List ak:=[row p.1.1 a 1 p.2.length (rows eI p.2)]
def bD (p:aV×List Bool):du:=sl eI p.1.1 p.2
theorem Vd {c:Ctx}(b:TypeId)(a:aV×List Bool)(H:List ak)(w:World)(h:Mm c (bG b a++H) w):Mm c (aB (bD a)::H) w:=by
 obtain⟨ρ,k⟩:=h.out;exact k.bR eI a.2 rfl rfl (λ_ _=>trivial)
def yJ (P:List (aV×List Bool)):rG:=⟨(P.getD 0 CY).1,(P.getD 1 CY).1,(P.getD 2 CY).1,(P.getD 0 CY).2,(P.getD 1 CY).2,(P.getD 2 CY).2⟩
theorem MI (P:List (aV×List Bool)){j:Nat}(h:j<3):(yJ P).at_ j=P.getD j CY:=by
 rcases j with _|_|_|j
 ·rfl
 ·rfl
 ·rfl
 ·omega
theorem P9 {l:List Bool}{k:Nat}{x:Bool}(h:l[k]?=some x):(rows eI l)[k*1+0]?=some (.bool x):=by
 have:=eL eI l k 0 x h (by decide)
 exact this
theorem LP (l:List Bool)(k:Nat)(x:Bool):(rows eI l).set (k*1+0) (.bool x)=rows eI (l.set k x):=by
 rw[gX,j4];exact BW (Rr:=eI) rfl rfl l k
theorem yi (a:Nat)(b c:aV)(T:List ej)(d:im T)(nf:Nat)(e:nf≤100)(x y:dD)(hx:e7 T.length nf (ay x))(hy:e7 T.length nf (ay y))(f:x.nodes.length≤60)(g:y.nodes.length≤60)(node:Nat)(i:node<x.nodes.length):
 eD prog 119 ([bA x,iv (node:Nat),bA y]++ [Value.pointer (some ⟨a,0,none⟩)]).toArray [fO a [b.1,c.1],sl bF b.1 (de T),sl bF c.1 (db T),tz,aG x,aG y] (.bool (dT (hC T) (ay x) node (ay y)).isSome):=(Ke a b c T d nf e x y hx hy f g node i).mono λ_ _ h=>h.1
theorem Qs (g:gb)(s t:aV)(T:List ej)(hT:im T)(nf:Nat)(Kq:nf≤100)(hrn:g.rules.length≤40)(hxn:g.aL.length≤100)(hru:∀r∈g.rules,(1≤r.kids∧r.kids≤3)∧e7 T.length nf (ay r.graph)∧r.graph.nodes.length≤60)(WV:∀x∈g.aL,e7 T.length nf (ay x.graph)∧x.graph.nodes.length≤60)(J3:e7 T.length nf (ay g.start)∧g.start.nodes.length≤60)
 (GD:∀r∈g.rules,∀k:Int,0≤k→k≤r.kids→0≤rR (ay r.graph) k):dx prog 88 #[fV g,kC s t] ([sl cS g.rv.1 g.rules,aF bx g.rules,sl dy g.xv.1 g.aL,aF eO g.aL,aG g.start,sl bF s.1 (de T),sl bF t.1 (db T),tz].map aB) (λv H'=>∃f:kr,v=Kd f∧wC f (ca g) (hC T)∧H'=[aB (hY f)]):=by
 refine dx.body (args:=[fV g,kC s t]) 196 func88 rfl ntmps88 rfl (λc=> ?_);refine St.cast (H':=[aB (sl cS g.rv.1 g.rules),aB (aF bx g.rules),aB (sl dy g.xv.1 g.aL),aB (aF eO g.aL),aB (aG g.start),aB (sl bF s.1 (de T)),aB (sl bF t.1 (db T)),aB (tz)]) rfl ?_
 have hrn:g.rules.length≤40:=hrn
 have YJ:=zB T
 have Cx:∀(i:Nat) (r:cZ),g.rules[i]?=some r→(1≤r.kids∧r.kids≤3)∧e7 T.length nf (ay r.graph)∧r.graph.nodes.length≤60:=λi r h=>by have h1:=hru r (ae h);exact h1
 have WU:∀(i:Nat) (x:eX),g.aL[i]?=some x→e7 T.length nf (ay x.graph)∧x.graph.nodes.length≤60:=λi x h=>WV x (ae h)
 refine g2 ?_;refine St.dK (.mk rfl) rfl (λb2=> ?_);refine St.dK (.mk rfl) rfl (λR=> ?_);refine St.al (λb4=> ?_);refine g10 ?_;refine St.ee (Ev.build (bH.aY rfl rfl) (λw=>Gc rfl rfl w)) ?_;refine St.slot 33 (.agg #[iv (g.rules.length:Nat),iv (g.aL.length:Nat),(.slice none 0 0),(.slice none 0 0),(.slice none 0 0),(.slice none 0 0)]) rfl rfl ?_;refine St.al (λb5=> ?_);refine g18 ?_;refine St.e9 30 1 ?_;refine St.aM (.slice none 0 0) (show _=([]:List dD).length from rfl) (show _=rows jE []from rfl) ?_;refine St.dN aG ?_;refine St.lH (ι:=Nat×aV×List dD) (λ⟨i,v,M⟩ T=>(37,iv i)::(6,v.1)::T) (λ⟨i,v,M⟩=>(row v.1 30 1 (M).length (rows jE (M))::aB (aF aG (M))::aW b2 (.cells (iu g).toArray 32 (0,0))::aW R (.cells [s.1,t.1].toArray 100 (0,0))::aW b4 (.cells [iv 0,iv 0,(.slice none 0 0),(.slice none 0 0),(.slice none 0 0),(.slice none 0 0)].toArray 174 (0,0))::aW b5 (.cells [iv (g.rules.length:Nat),iv (g.aL.length:Nat),bT.1,bT.1,bT.1,bT.1].toArray 174 (0,0))::aB (sl cS g.rv.1 g.rules)::aB (aF bx g.rules)::aB (sl dy g.xv.1 g.aL)::aB (aF eO g.aL)::aB (aG g.start)::aB (sl bF s.1 (de T))::aB (sl bF t.1 (db T))::aB tz::[])) (λ⟨i,v,M⟩=>i≤g.rules.length∧M.map ay=(g.rules.take i).map (λr=>lu (ay r.graph))∧(∀y∈M,e7 T.length nf (ay y)∧y.nodes.length≤60)) (λ⟨i,v,M⟩=>g.rules.length-i) ⟨0,bT,[]⟩ (aD.cons 2 rfl (aD.cons 3 rfl (aD.cons 4 rfl (aD.cons 5 rfl (aD.cons 35 rfl (aD.cons 36 rfl aD.nil)))))) ⟨aO _,rfl,λ_ h=>by cases h⟩ ?_;rintro ⟨i,v,M⟩ ⟨hi,U,C⟩
 dsimp only at hi U C⊢
 have hMl:M.length=i:=by have:=congrArg List.length U;rw[aN,aN,eR]at this;omega
 refine g6 ?_;refine St.cq (λh38=> ?_) (λh38=> ?_)
 ·obtain⟨r,D⟩:=aE (show i<g.rules.length by omega)
  obtain⟨hk,Gz,A8⟩:=Cx i r D
  have Wf:=gP Gz Kq
  refine St.cI bx g.rules (x:=r) (ae D) ?_;refine St.eY (aG r.graph) [bx r] (λρ h=>h (bx r) (aP ..) (aG r.graph) (aP ..)) ?_;refine g7 ?_;refine St.ee (Ev.jr (.mk rfl) D uO trivial kV j7.eq) ?_;refine St.al (λb8=> ?_);refine St.sA (.mk rfl) (.mk rfl) kV ?_ (h1:=(eW.2 λu hu=>cS.one r u hu));refine g5 ?_;refine St.ee (Ev.iV 1 (.mk rfl) mf trivial jT rfl rfl) ?_;refine St.slot 43 (bA r.graph) rfl rfl ?_;refine St.ag (px r.graph T.length nf Kq Gz (by omega) (GD r (ae D) 0 (by omega) (by omega))) Mh (.ar rfl) rfl ?_;rintro v44 _ rfl;refine St.ao ?_;refine St.bK (lu (ay r.graph)) v44 (λmy hm=> ?_);obtain⟨rfl,Ui⟩:=hm;obtain⟨m1,m2⟩:=qP Gz (by rw[cz];exact A8);rw[←Ui]at m1 m2;rw[cz]at m2;refine St.fp rfl (.ar rfl) Bo jT Tx rfl rfl (by intro u hu;simp only[List.mem_cons,List.not_mem_nil,or_false]at hu;subst hu;rfl) rfl rfl (λb45=> ?_);refine St.aj (.mk rfl) (.mk rfl) Bo jT Tx ZC (by intro u hu;have Np:u∈[my.nv.1]:=hu;rw[bO.1 Np];exact my.nv.2) (by omega) (by omega) rfl rfl rfl rfl (λv46 anS=> ?_);refine St.aM v46 (show _=(M++ [my]).length from cR) (show _=rows jE (M++ [my]) by rw[ax];rfl) ?_;refine St.bZ v46 (λh46 _=> ?_);refine St.eY (aF aG (M++ [my])) [aF aG M,aG my] (λρ h x hx=>by rcases cD.1 hx with hx|hx;exact h _ (aP ..) x hx;rw[bO.1 hx];exact h _ (cN _ (aP ..))) ?_;refine g9 ?_;refine St.aH ⟨i+1,⟨v46,h46⟩,M++ [my]⟩ ⟨by omega,by rw[cO,U,aX D,cO];show _++ [ay my]=_++ [lu (ay r.graph)];rw[Ui],λy hy=>by rcases cD.1 hy with hy|hy;exact C y hy;rw[bO.1 hy];exact⟨m1,m2⟩⟩
 ·obtain rfl:i=g.rules.length:=by omega
  rw[jl]at U;refine g15 ?_;refine St.lH (ι:=Nat×aV×List dD) (λ⟨i,v,M⟩ T=>(51,iv i)::(6,v.1)::T) (λ⟨i,v,M⟩=>(row v.1 30 1 (M).length (rows jE (M))::aB (aF aG (M))::aW b2 (.cells (iu g).toArray 32 (0,0))::aW R (.cells [s.1,t.1].toArray 100 (0,0))::aW b4 (.cells [iv 0,iv 0,(.slice none 0 0),(.slice none 0 0),(.slice none 0 0),(.slice none 0 0)].toArray 174 (0,0))::aW b5 (.cells [iv (g.rules.length:Nat),iv (g.aL.length:Nat),bT.1,bT.1,bT.1,bT.1].toArray 174 (0,0))::aB (sl cS g.rv.1 g.rules)::aB (aF bx g.rules)::aB (sl dy g.xv.1 g.aL)::aB (aF eO g.aL)::aB (aG g.start)::aB (sl bF s.1 (de T))::aB (sl bF t.1 (db T))::aB tz::[])) (λ⟨i,v,M⟩=>i≤g.aL.length∧M.map ay=g.rules.map (λr=>lu (ay r.graph))++(g.aL.take i).map (λx=>ay x.graph)∧(∀y∈M,e7 T.length nf (ay y)∧y.nodes.length≤60)) (λ⟨i,v,M⟩=>g.aL.length-i) ⟨0,v,M⟩ (aD.cons 2 rfl (aD.cons 3 rfl (aD.cons 4 rfl (aD.cons 5 rfl (aD.cons 49 rfl (aD.cons 50 rfl aD.nil)))))) ⟨aO _,by rw[U,A7,lE,gq],C⟩ ?_;rintro ⟨i,v,M⟩ ⟨hi,U,C⟩
  dsimp only at hi U C⊢
  have hMl:M.length=g.rules.length+i:=by have:=congrArg List.length U;rw[aN,bN,aN,aN,eR]at this;omega
  refine g6 ?_;refine St.cq (λh52=> ?_) (λh52=> ?_)
  ·obtain⟨x,hx⟩:=aE (show i<g.aL.length by omega)
   obtain⟨Gz,A8⟩:=WU i x hx;refine St.cI eO g.aL (x:=x) (ae hx) ?_;refine St.eY (aG x.graph) [eO x] (λρ h=>h (eO x) (aP ..) (aG x.graph) (aP ..)) ?_;refine g7 ?_;refine St.ee (Ev.jr (.mk rfl) hx zt trivial nR j7.eq) ?_;refine St.al (λb10=> ?_);refine St.sA (.mk rfl) (.mk rfl) nR ?_ (h1:=(eW.2 λu hu=>dy.one x u hu));refine g5 ?_;refine St.ee (Ev.iV 1 (.mk rfl) mf trivial jT rfl rfl) ?_;refine St.slot 57 (bA x.graph) rfl rfl ?_;refine St.fp rfl (.ar rfl) Bo jT Tx rfl rfl (by intro u hu;simp only[List.mem_cons,List.not_mem_nil,or_false]at hu;subst hu;rfl) rfl rfl (λb58=> ?_);refine St.aj (.mk rfl) (.mk rfl) Bo jT Tx ZC (by intro u hu;have Np:u∈[x.graph.nv.1]:=hu;rw[bO.1 Np];exact x.graph.nv.2) (by omega) (by omega) rfl rfl rfl rfl (λv59 anW=> ?_);refine St.aM v59 (show _=(M++ [x.graph]).length from cR) (show _=rows jE (M++ [x.graph]) by rw[ax];rfl) ?_;refine St.bZ v59 (λh59 _=> ?_);refine St.eY (aF aG (M++ [x.graph])) [aF aG M,aG x.graph] (λρ h x hx=>by rcases cD.1 hx with hx|hx;exact h _ (aP ..) x hx;rw[bO.1 hx];exact h _ (cN _ (aP ..))) ?_;refine g9 ?_;refine St.aH ⟨i+1,⟨v59,h59⟩,M++ [x.graph]⟩ ⟨by omega,by rw[cO,U,aX hx,cO,dp];rfl,λy hy=>by rcases cD.1 hy with hy|hy;exact C y hy;rw[bO.1 hy];exact⟨Gz,A8⟩⟩
  ·obtain rfl:i=g.aL.length:=by omega
   rw[jl]at U
   have hMg:M.map ay=HR (ca g):=by rw[U];unfold HR ca;simp only[List.map_map];rfl
   obtain⟨⟨mv,hmv⟩,Wh⟩:∃z,z=v:=⟨v,rfl⟩
   subst Wh;refine St.bR mv jE M rfl rfl (λ_ _=>trivial) ?_;refine St.vT R ?_;refine g7 ?_;refine St.ee (Ev.func (.ar rfl)) ?_;refine g13 ?_;refine St.e9 3 1 ?_;refine St.aM (.slice none 0 0) (show _=([]:List Int).length from rfl) (show _=rows aI []from rfl) ?_;refine St.e9 234 3 ?_;refine St.aM (.slice none 0 0) (show _=([]:List rG).length from rfl) (show _=rows sL []from rfl) ?_;refine St.dN nY ?_;refine St.lH (ι:=Nat×aV×List Int×aV×List rG) (λ⟨i,kv,l,av,d⟩ T=>(65,iv i)::T) (λ⟨i,kv,l,av,d⟩=>(row kv.1 3 1 (l).length (rows aI (l))::row av.1 234 3 (d).length (rows sL (d))::aB (aF nY d)::aW b5 (.cells [iv (g.rules.length:Nat),iv (g.aL.length:Nat),kv.1,av.1,bT.1,bT.1].toArray 174 (0,0))::aB (sl cS g.rv.1 g.rules)::aB (aF bx g.rules)::aB (sl dy g.xv.1 g.aL)::aB (aF eO g.aL)::aB (aG g.start)::aB (sl bF s.1 (de T))::aB (sl bF t.1 (db T))::aB tz::aW b2 (.cells (iu g).toArray 32 (0,0))::aW b4 (.cells [iv 0,iv 0,(.slice none 0 0),(.slice none 0 0),(.slice none 0 0),(.slice none 0 0)].toArray 174 (0,0))::aB (fO R [s.1,t.1])::aB (sl jE mv M)::aB (aF aG M)::[])) (λ⟨i,kv,l,av,d⟩=>i≤g.rules.length∧l=(g.rules.take i).map (·.kids)∧d.length=i∧∀(k:Nat) (x:rG) (r:cZ),d[k]?=some x→g.rules[k]?=some r→∀j,j<3→(x.at_ j).2=Ad (hC T) (lI r) (M.map ay) (j)) (λ⟨i,kv,l,av,d⟩=>g.rules.length-i) ⟨0,bT,[],bT,[]⟩ (aD.cons 2 rfl (aD.cons 4 rfl (aD.cons 5 rfl (aD.cons 6 rfl (aD.cons 11 rfl (aD.cons 63 rfl (aD.cons 64 rfl aD.nil))))))) ⟨aO _,rfl,rfl,λ_ _ _ h=>by cases h⟩ ?_;rintro ⟨i,kv,l,av,d⟩ ⟨hi,P,V,hAL⟩
   dsimp only at hi P V hAL⊢
   have hKl:l.length=i:=by rw[P,aN,eR];omega
   refine g6 ?_;refine St.cq (λh66=> ?_) (λh66=> ?_)
   ·obtain⟨r,D⟩:=aE (show i<g.rules.length by omega)
    obtain⟨hk,Gz,A8⟩:=Cx i r D
    have Wf:=gP Gz Kq
    refine St.cI bx g.rules (x:=r) (ae D) ?_;refine St.eY (aG r.graph) [bx r] (λρ h=>h (bx r) (aP ..) (aG r.graph) (aP ..)) ?_;refine g7 ?_;refine St.ee (Ev.jr (.mk rfl) D uO trivial kV j7.eq) ?_;refine St.al (λb13=> ?_);refine St.sA (.mk rfl) (.mk rfl) kV ?_ (h1:=(eW.2 λu hu=>cS.one r u hu));refine g4 ?_;refine St.al (λML=> ?_);refine St.mK ML ([CY,CY,CY].map λp:aV×List Bool=>p.1.1) rfl ?_;refine St.e9 4 1 ?_;refine St.e9 4 1 ?_;refine St.e9 4 1 ?_;refine St.ma [row (.slice none 0 0) 4 1 0 [],row (.slice none 0 0) 4 1 0 [],row (.slice none 0 0) 4 1 0 []] [] (bE (bG 4) ([CY,CY,CY])) (List.Perm.refl _) ?_;refine g11 ?_;refine St.lH (ι:=Nat×List (aV×List Bool)) (λ⟨k,Q⟩ T=>(71,iv k)::T) (λ⟨k,Q⟩=>(aW ML (.cells ((Q).map λp=>p.1.1).toArray 234 (0,0))::aW b13 (.cells (zU r).toArray 110 (0,0))::row kv.1 3 1 (l).length (rows aI (l))::row av.1 234 3 (d).length (rows sL (d))::aB (aF nY d)::aW b5 (.cells [iv (g.rules.length:Nat),iv (g.aL.length:Nat),kv.1,av.1,bT.1,bT.1].toArray 174 (0,0))::aB (aG r.graph)::aB (sl cS g.rv.1 g.rules)::aB (aF bx g.rules)::aB (sl dy g.xv.1 g.aL)::aB (aF eO g.aL)::aB (aG g.start)::aB (sl bF s.1 (de T))::aB (sl bF t.1 (db T))::aB tz::aW b2 (.cells (iu g).toArray 32 (0,0))::aW b4 (.cells [iv 0,iv 0,(.slice none 0 0),(.slice none 0 0),(.slice none 0 0),(.slice none 0 0)].toArray 174 (0,0))::aB (fO R [s.1,t.1])::aB (sl jE mv M)::aB (aF aG M)::bE (bG 4) (Q))) (λ⟨k,Q⟩=>(k:Int)≤r.kids∧Q.length=3∧∀j,j<3→(Q.getD j CY).2=if j<k then Ad (hC T) (lI r) (M.map ay) (j)else []) (λ⟨k,Q⟩=>3-k) ⟨0,[CY,CY,CY]⟩ (aD.cons 2 rfl (aD.cons 4 rfl (aD.cons 5 rfl (aD.cons 6 rfl (aD.cons 11 rfl (aD.cons 13 rfl (aD.cons 14 rfl (aD.cons 63 rfl (aD.cons 64 rfl (aD.cons 65 rfl (aD.cons 70 rfl aD.nil))))))))))) ⟨by omega,rfl,λj S=>by rw[aA (Nat.not_lt_zero _)];rcases j with _|_|_|j;rfl;rfl;rfl;omega⟩ ?_;rintro ⟨k,Q⟩ ⟨hk3,F,hQ⟩
    dsimp only at hk3 F hQ⊢
    refine g6 ?_;refine St.cq (λh72=> ?_) (λh72=> ?_)
    ·obtain⟨nd,Ko⟩:∃nd:Nat,nd=(rR (ay r.graph) ((k:Int)+1)).toNat:=⟨_,rfl⟩
     have anH:=GD r (ae D) ((k:Int)+1) (by omega) (by omega)
     have ajY:=zm Gz ((k:Int)+1)
     rw[←Ko,cz]at ajY
     have hLk:Ad (hC T) (lI r) (M.map ay) (k)=M.map (λy:dD=>(dT (hC T) (ay r.graph) nd (ay y)).isSome):=by unfold Ad;rw[aC (show(k:Int)<(lI r).kids from h72),kH,show(lI r).graph=ay r.graph from rfl,←Ko];rfl
     refine g13 ?_;refine St.ee (Ev.iV 1 (.mk rfl) mf trivial jT rfl rfl) ?_;refine St.slot 75 (bA r.graph) rfl rfl ?_;refine g2 ?_;refine St.slot 77 (iv ((k:Int)+1)) rfl rfl ?_;refine St.ee (Ev.call (nB r.graph 0 ((k:Int)+1) (by have:=Gz.pos;rw[cz]at this;omega) (λn hn=>⟨(Wf n hn).1,by have:=(Wf n hn).2;omega⟩)) IZ (.eh rfl rfl rfl)) ?_;refine St.slot 78 (iv (nd:Nat)) rfl (congrArg iv (by rw[zn];omega)) ?_;refine g11 ?_;refine St.lH (ι:=Nat×List (aV×List Bool)) (λ⟨m,Q⟩ T=>(81,iv m)::T) (λ⟨m,Q⟩=>(aW ML (.cells ((Q).map λp=>p.1.1).toArray 234 (0,0))::aW b13 (.cells (zU r).toArray 110 (0,0))::row kv.1 3 1 (l).length (rows aI (l))::row av.1 234 3 (d).length (rows sL (d))::aB (aF nY d)::aW b5 (.cells [iv (g.rules.length:Nat),iv (g.aL.length:Nat),kv.1,av.1,bT.1,bT.1].toArray 174 (0,0))::aB (aG r.graph)::aB (sl cS g.rv.1 g.rules)::aB (aF bx g.rules)::aB (sl dy g.xv.1 g.aL)::aB (aF eO g.aL)::aB (aG g.start)::aB (sl bF s.1 (de T))::aB (sl bF t.1 (db T))::aB tz::aW b2 (.cells (iu g).toArray 32 (0,0))::aW b4 (.cells [iv 0,iv 0,(.slice none 0 0),(.slice none 0 0),(.slice none 0 0),(.slice none 0 0)].toArray 174 (0,0))::aB (fO R [s.1,t.1])::aB (sl jE mv M)::aB (aF aG M)::bE (bG 4) (Q))) (λ⟨m,Q⟩=>m≤M.length∧Q.length=3∧∀j,j<3→(Q.getD j CY).2=if j<k then Ad (hC T) (lI r) (M.map ay) (j)else if j=k then(M.take m).map (λy:dD=>(dT (hC T) (ay r.graph) nd (ay y)).isSome)else []) (λ⟨m,Q⟩=>M.length-m) ⟨0,Q⟩ (aD.cons 2 rfl (aD.cons 4 rfl (aD.cons 5 rfl (aD.cons 6 rfl (aD.cons 11 rfl (aD.cons 13 rfl (aD.cons 14 rfl (aD.cons 15 rfl (aD.cons 16 rfl (aD.cons 63 rfl (aD.cons 64 rfl (aD.cons 65 rfl (aD.cons 70 rfl (aD.cons 71 rfl (aD.cons 79 rfl (aD.cons 80 rfl aD.nil)))))))))))))))) ⟨aO _,F,λj S=>by rw[hQ j S];split;rfl;split;rfl;rfl⟩ ?_;rintro ⟨m,Q⟩ ⟨hm,F,hQ⟩
     dsimp only at hm F hQ⊢
     refine g6 ?_;refine St.cq (λh82=> ?_) (λh82=> ?_)
     ·obtain⟨y,hy⟩:=aE (show m<M.length by omega)
      obtain⟨hgy,hly⟩:=C y (ae hy);obtain⟨q,hq⟩:=aE (show k<Q.length by omega)
      have hqd:Q.getD k CY=q:=by rw[aw,hq];rfl
      have J0:q.2=(M.take m).map (λy:dD=>(dT (hC T) (ay r.graph) nd (ay y)).isSome):=by rw[←hqd,hQ k (by omega),aA (Nat.lt_irrefl _),aC rfl]
      have ab9:q.2.length=m:=by rw[J0,aN,eR];omega
      refine St.eY (aG y) [aF aG M] (λρ h=>h _ (aP ..) y (ae hy)) ?_;refine g7 ?_;refine St.ee (Ev.jr (.mk rfl) hy mf trivial jT j7.eq) ?_;refine St.al (λb18=> ?_);refine St.sA (.mk rfl) (.mk rfl) jT ?_ (h1:=(by simp only[jE,List.all_cons,List.all_nil,Bool.and_true];exact y.nv.2));refine g2 ?_;refine St.tail (bE (bG 4) (Q)) (row q.1.1 4 1 (q.2).length (rows eI (q.2))::bE (bG 4) (Q.eraseIdx k)) (nI _ hq) ?_;refine St.da (aW ML (.cells ((Q).map λp=>p.1.1).toArray 234 (0,0))::row q.1.1 4 1 (q.2).length (rows eI (q.2))::bE (bG 4) (Q.eraseIdx k)) mixed (λnp ns=> ?_);refine SW.gd 0 ?_;refine SW.gd 1 ?_;refine SW.dd 2 rfl (λ_=>Ev.H9 (k:=k) (.mk rfl) (.mk rfl) zu qW rfl (by omega)) ?_;refine SW.gd 4 ?_;refine SW.gd 5 ?_;refine SW.dd 6 rfl (λ_=>Ev.iV 1 (.mk rfl) mf trivial jT rfl rfl) ?_;refine SW.slot 91 (bA r.graph) rfl rfl ?_;refine SW.gd 7 ?_;refine SW.gd 8 ?_;refine SW.slot 93 (bA y) rfl rfl ?_;refine SW.dd 9 rfl (λ_=>Ev.ep (yi R s t T hT nf Kq r.graph y Gz hgy A8 hly nd (by omega)) UD (.mk rfl) (.eh rfl rfl rfl)) ?_;refine SW.t2 3 10 ?_ ?_
      focus
       refine St.ee (Ev.kP (.mk rfl) jj trivial (show(Q.map λp=>p.1.1)[k]?=some q.1.1 by rw[bQ,hq];rfl)) ?_;refine g2 ?_;refine SW.go ?_;refine SW.t1 10 ?_;refine St.fp rfl (.ar rfl) jj Bj Qm rfl rfl (by simp[Value.cells]) rfl rfl (λb95=> ?_);refine g2 ?_;refine SW.go ?_;refine SW.t1 11 ?_;refine St.aj (.mk rfl) (.mk rfl) jj Bj Qm YC (by simp[Value.oneCell',Value.cells]) (by omega) (by omega) rfl rfl rfl rfl (λX akF=> ?_);refine St.aM X (show _=(q.2++ [(dT (hC T) (ay r.graph) nd (ay y)).isSome]).length from cR) (show _=rows eI (q.2++ [(dT (hC T) (ay r.graph) nd (ay y)).isSome]) by rw[ax];rfl) ?_;refine St.bZ X (λS8 _=> ?_);refine g2 ?_;refine SW.go ?_;refine SW.dd 12 rfl (λ_=>Ev.H9 (k:=k) (.mk rfl) (.mk rfl) zu qW rfl (by omega)) ?_;refine SW.t1 13 ?_;refine St.Jd ((Q.set k (⟨X,S8⟩,q.2++ [(dT (hC T) (ay r.graph) nd (ay y)).isSome])).map λp=>p.1.1) (.mk rfl) (.mk rfl) (by rw[jk]) qW S8 (by rw[aN];omega) ?_;refine g2 ?_;refine SW.go ?_;refine SW.dn ?_
      rotate_left
      focus
       refine St.fp rfl (.ar rfl) jj Bj Qm rfl rfl (by simp[Value.cells]) rfl rfl (λb95=> ?_);refine g2 ?_;refine SW.go ?_;refine SW.t1 3 ?_;refine St.ee (Ev.kP (.mk rfl) jj trivial (show(Q.map λp=>p.1.1)[k]?=some q.1.1 by rw[bQ,hq];rfl)) ?_;refine g2 ?_;refine SW.go ?_;refine SW.t1 11 ?_;refine St.aj (.mk rfl) (.mk rfl) jj Bj Qm YC (by simp[Value.oneCell',Value.cells]) (by omega) (by omega) rfl rfl rfl rfl (λX akF=> ?_);refine St.aM X (show _=(q.2++ [(dT (hC T) (ay r.graph) nd (ay y)).isSome]).length from cR) (show _=rows eI (q.2++ [(dT (hC T) (ay r.graph) nd (ay y)).isSome]) by rw[ax];rfl) ?_;refine St.bZ X (λS8 _=> ?_);refine g2 ?_;refine SW.go ?_;refine SW.dd 12 rfl (λ_=>Ev.H9 (k:=k) (.mk rfl) (.mk rfl) zu qW rfl (by omega)) ?_;refine SW.t1 13 ?_;refine St.Jd ((Q.set k (⟨X,S8⟩,q.2++ [(dT (hC T) (ay r.graph) nd (ay y)).isSome])).map λp=>p.1.1) (.mk rfl) (.mk rfl) (by rw[jk]) qW S8 (by rw[aN];omega) ?_;refine g2 ?_;refine SW.go ?_;refine SW.dn ?_
      all_goals
       refine g7 ?_;refine St.ma [row (⟨X,S8⟩:aV).1 4 1 (q.2++ [(dT (hC T) (ay r.graph) nd (ay y)).isSome]).length (rows eI (q.2++ [(dT (hC T) (ay r.graph) nd (ay y)).isSome]))] (bE (bG 4) (Q.eraseIdx k)) (bE (bG 4) (Q.set k (⟨X,S8⟩,q.2++ [(dT (hC T) (ay r.graph) nd (ay y)).isSome]))) (sN (bG 4) (⟨X,S8⟩,q.2++ [(dT (hC T) (ay r.graph) nd (ay y)).isSome]) (by omega)) ?_;refine St.aH ⟨m+1,Q.set k (⟨X,S8⟩,q.2++ [(dT (hC T) (ay r.graph) nd (ay y)).isSome])⟩ ⟨by omega,by rw[cn];exact F,λj S=>by rw[aw];by_cases h2:j=k;subst h2;rw[fU (by omega),aA (Nat.lt_irrefl _),aC rfl,aX hy,cO];show q.2++_=_;rw[J0];rfl;rw[ig (λh=>h2 h.symm),←aw,hQ j S,aA h2,aA h2]⟩
     ·obtain rfl:m=M.length:=by omega
      rw[jl]at hQ;refine g11 ?_;refine St.aH ⟨k+1,Q⟩ ⟨by push_cast;omega,F,λj S=>by rw[hQ j S];by_cases h1:j<k;rw[aC h1,aC (by omega)];rw[aA h1];by_cases h2:j=k;subst h2;rw[aC rfl,aC (by omega),hLk];rw[aA h2,aA (by omega)]⟩
    ·have hkr:r.kids=(k:Int):=by omega
     refine g11 ?_;refine St.fp rfl (.ar rfl) bI dL eQ rfl rfl (by simp[Value.cells]) rfl rfl (λYp=> ?_);refine St.aj (.mk rfl) (.mk rfl) bI dL eQ xO (by simp[Value.oneCell',Value.cells]) (by omega) (by omega) rfl rfl rfl rfl (λv105 amF=> ?_);refine St.aM v105 (show _=(l++ [r.kids]).length from cR) (show _=rows aI (l++ [r.kids]) by rw[ax];rfl) ?_;refine St.bZ v105 (λS4 _=> ?_);refine go ?_;refine St.cJ (.mk rfl) (.mk rfl) fE S4 (by rfl) ?_;refine g2 ?_
     obtain⟨J,K,L,rfl⟩:∃J K L,Q=[J,K,L]:=by match Q,F with| [a,b,c2],_=>exact⟨a,b,c2,rfl⟩
     refine g4 ?_;refine St.slot 109 (.agg #[J.1.1,K.1.1,L.1.1]) rfl rfl ?_;refine St.fp rfl (.ar rfl) underlying170 Jj VH rfl rfl (by intro u hu;simp only[List.mem_cons,List.not_mem_nil,or_false]at hu;subst hu;rfl) rfl rfl (λYq=> ?_);refine St.aj (.mk rfl) (.mk rfl) underlying170 Jj VH ZA (by intro u hu;have Np:u∈[J.1.1,K.1.1,L.1.1]:=hu;simp only[List.mem_cons,List.not_mem_nil,or_false]at Np;rcases Np with rfl|rfl|rfl;exact J.1.2;exact K.1.2;exact L.1.2) (by omega) (by omega) rfl rfl rfl rfl (λTl amH=> ?_);refine St.aM Tl (show _=(d++ [yJ [J,K,L]]).length from cR) (show _=rows sL (d++ [yJ [J,K,L]]) by rw[ax];rfl) ?_;refine St.bZ Tl (λaaE _=> ?_);refine St.TF (f:=bG 4) bD [J,K,L] (λa H w h=>Vd 4 a H w h) ?_;refine St.eY (nY (yJ [J,K,L])) [aF bD [J,K,L]] (λρ h=>by have h0:=h _ (aP ..);intro e he;rcases cH.1 he with rfl|he;exact h0 J (by simp);rcases cH.1 he with rfl|he;exact h0 K (by simp);rcases cH.1 he with rfl|he;exact h0 L (by simp);cases he) ?_;refine St.eY (aF nY (d++ [yJ [J,K,L]])) [aF nY d,nY (yJ [J,K,L])] (λρ h x hx=>by rcases cD.1 hx with hx|hx;exact h _ (aP ..) x hx;rw[bO.1 hx];exact h _ (cN _ (aP ..))) ?_;refine go ?_;refine St.cJ (.mk rfl) (.mk rfl) ae4 aaE (by rfl) ?_;refine g8 ?_;refine St.aH ⟨i+1,⟨v105,S4⟩,l++ [r.kids],⟨Tl,aaE⟩,d++ [yJ [J,K,L]]⟩ ⟨by omega,by rw[P,aX D,cO];rfl,by rw[bN,V];rfl,λk2 x r2 hx J1 j S=>by rcases Nat.lt_trichotomy k2 i with h1|h1|h1;exact hAL k2 x r2 (by rw[ob (by omega)]at hx;exact hx) J1 j S;subst h1;rw[lZ (by omega),V,ff]at hx;obtain rfl:=Option.some.inj hx;rw[D]at J1;obtain rfl:=Option.some.inj J1;rw[MI _ S,hQ j S];split;rfl;(unfold Ad;rw[aA (show ¬(j:Int)<(lI r).kids from by show ¬(j:Int)<r.kids;omega)]);rw[ic (by rw[bN,V];simp only[List.length_cons,List.length_nil];omega)]at hx;cases hx⟩
   ·obtain rfl:i=g.rules.length:=by omega
    rw[jl]at P
    obtain⟨⟨G,Qg⟩,Wh⟩:∃z,z=kv:=⟨kv,rfl⟩
    subst Wh
    obtain⟨⟨E,Qd⟩,hv3⟩:∃z,z=av:=⟨av,rfl⟩
    subst hv3;refine St.bR G aI l rfl rfl (λz hz=>by rw[P]at hz;obtain⟨r,D,rfl⟩:=cy.1 hz;have:=(hru r D).1;show aa r.kids;unfold aa;omega) ?_;refine St.bR E sL d rfl rfl (λ_ _=>trivial) ?_
    have hFO:∀s2 f2:aV,wC ⟨g.rules.length,g.aL.length,⟨G,Qg⟩,⟨E,Qd⟩,s2,f2,l,d⟩ (ca g) (hC T):=λs2 f2=>⟨(aN _).symm,(aN _).symm,by show l=(g.rules.map lI).map _;rw[P,kH];rfl,by show d.length=(g.rules.map lI).length;rw[V,aN],λk x rr hx We j S=>by have We:(g.rules.map lI)[k]?=some rr:=We;rw[bQ]at We;obtain⟨r,D,rfl⟩:=di.1 We;rw[hAL k x r hx D j S,hMg]⟩
    refine g14 ?_;refine St.e9 4 1 ?_;refine St.aM (.slice none 0 0) (show _=([]:List Bool).length from rfl) (show _=rows eI []from rfl) ?_;refine St.lH (ι:=Nat×aV×List Bool) (λ⟨m,sv,N⟩ T=>(116,iv m)::T) (λ⟨m,sv,N⟩=>(row sv.1 4 1 (N).length (rows eI (N))::aW b5 (.cells [iv (g.rules.length:Nat),iv (g.aL.length:Nat),(⟨G,Qg⟩:aV).1,(⟨E,Qd⟩:aV).1,sv.1,bT.1].toArray 174 (0,0))::aB (sl aI G l)::aB (sl sL E d)::aB (aF nY d)::aB (sl cS g.rv.1 g.rules)::aB (aF bx g.rules)::aB (sl dy g.xv.1 g.aL)::aB (aF eO g.aL)::aB (aG g.start)::aB (sl bF s.1 (de T))::aB (sl bF t.1 (db T))::aB tz::aW b2 (.cells (iu g).toArray 32 (0,0))::aW b4 (.cells [iv 0,iv 0,(.slice none 0 0),(.slice none 0 0),(.slice none 0 0),(.slice none 0 0)].toArray 174 (0,0))::aB (fO R [s.1,t.1])::aB (sl jE mv M)::aB (aF aG M)::[])) (λ⟨m,sv,N⟩=>m≤M.length∧N.length=m) (λ⟨m,sv,N⟩=>M.length-m) ⟨0,bT,[]⟩ (aD.cons 2 rfl (aD.cons 4 rfl (aD.cons 5 rfl (aD.cons 6 rfl (aD.cons 11 rfl (aD.cons 114 rfl (aD.cons 115 rfl aD.nil))))))) ⟨aO _,rfl⟩ ?_;rintro ⟨m,sv,N⟩ ⟨hm,hSl⟩
    dsimp only at hm hSl⊢
    refine g6 ?_;refine St.cq (λNQ=> ?_) (λNQ=> ?_)
    ·obtain⟨y,hy⟩:=aE (show m<M.length by omega)
     obtain⟨hgy,hly⟩:=C y (ae hy);refine St.eY (aG y) [aF aG M] (λρ h=>h _ (aP ..) y (ae hy)) ?_;refine g7 ?_;refine St.ee (Ev.jr (.mk rfl) hy mf trivial jT j7.eq) ?_;refine St.al (λb20=> ?_);refine St.sA (.mk rfl) (.mk rfl) jT ?_ (h1:=(by simp only[jE,List.all_cons,List.all_nil,Bool.and_true];exact y.nv.2));refine g2 ?_;refine St.da [row sv.1 4 1 (N).length (rows eI (N)),aW b5 (.cells [iv (g.rules.length:Nat),iv (g.aL.length:Nat),(⟨G,Qg⟩:aV).1,(⟨E,Qd⟩:aV).1,sv.1,bT.1].toArray 174 (0,0))] mixed (λnp ns=> ?_);refine SW.gd 0 ?_;refine SW.gd 2 ?_;refine SW.gd 3 ?_;refine SW.dd 4 rfl (λ_=>Ev.iV 1 (.mk rfl) mf trivial jT rfl rfl) ?_;refine SW.slot 124 (bA g.start) rfl rfl ?_;refine SW.gd 5 ?_;refine SW.slot 125 (bA y) rfl rfl ?_;refine SW.dd 6 rfl (λ_=>Ev.ep (yi R s t T hT nf Kq g.start y J3.1 hgy J3.2 hly 0 (by have:=J3.1.pos;rw[cz]at this;exact this)) UD (.mk rfl) (.eh rfl rfl rfl)) ?_;refine SW.t2 1 7 ?_ ?_
     focus
      refine g3 ?_;refine SW.go ?_;refine SW.t1 7 ?_;refine St.fp rfl (.ar rfl) jj Bj Qm rfl rfl (by simp[Value.cells]) rfl rfl (λafX=> ?_);refine g2 ?_;refine SW.go ?_;refine SW.t1 8 ?_;refine St.aj (.mk rfl) (.mk rfl) jj Bj Qm YC (by simp[Value.oneCell',Value.cells]) (by omega) (by omega) rfl rfl rfl rfl (λLl ac7=> ?_);refine St.aM Ll (show _=(N++ [(dT (hC T) (ay g.start) 0 (ay y)).isSome]).length from cR) (show _=rows eI (N++ [(dT (hC T) (ay g.start) 0 (ay y)).isSome]) by rw[ax];rfl) ?_;refine St.bZ Ll (λS7 _=> ?_);refine g2 ?_;refine SW.go ?_;refine SW.gd 9 ?_;refine SW.t1 10 ?_;refine St.cJ (.mk rfl) (.mk rfl) qW S7 (by rfl) ?_;refine g2 ?_;refine SW.go ?_;refine SW.dn ?_
     rotate_left
     focus
      refine St.fp rfl (.ar rfl) jj Bj Qm rfl rfl (by simp[Value.cells]) rfl rfl (λafX=> ?_);refine g2 ?_;refine SW.go ?_;refine SW.t1 1 ?_;refine g3 ?_;refine SW.go ?_;refine SW.t1 8 ?_;refine St.aj (.mk rfl) (.mk rfl) jj Bj Qm YC (by simp[Value.oneCell',Value.cells]) (by omega) (by omega) rfl rfl rfl rfl (λLl ac7=> ?_);refine St.aM Ll (show _=(N++ [(dT (hC T) (ay g.start) 0 (ay y)).isSome]).length from cR) (show _=rows eI (N++ [(dT (hC T) (ay g.start) 0 (ay y)).isSome]) by rw[ax];rfl) ?_;refine St.bZ Ll (λS7 _=> ?_);refine g2 ?_;refine SW.go ?_;refine SW.gd 9 ?_;refine SW.t1 10 ?_;refine St.cJ (.mk rfl) (.mk rfl) qW S7 (by rfl) ?_;refine g2 ?_;refine SW.go ?_;refine SW.dn ?_
     all_goals
      refine g7 ?_;refine St.aH ⟨m+1,⟨Ll,S7⟩,N++ [(dT (hC T) (ay g.start) 0 (ay y)).isSome]⟩ ⟨by omega,by rw[bN,hSl];rfl⟩
    ·obtain rfl:m=M.length:=by omega
     refine g15 ?_;refine St.e9 171 1 ?_;refine St.aM (.slice none 0 0) (show _=([]:List aV).length from rfl) (show _=rows bS []from rfl) ?_;refine St.lH (ι:=Nat×aV×List aV) (λ⟨i,fv,O⟩ T=>(134,iv i)::T) (λ⟨i,fv,O⟩=>(row fv.1 171 1 O.length (rows bS O)::aW b5 (.cells [iv (g.rules.length:Nat),iv (g.aL.length:Nat),(⟨G,Qg⟩:aV).1,(⟨E,Qd⟩:aV).1,sv.1,fv.1].toArray 174 (0,0))::aB (sl aI G l)::aB (sl sL E d)::aB (aF nY d)::aB (sl cS g.rv.1 g.rules)::aB (aF bx g.rules)::aB (sl dy g.xv.1 g.aL)::aB (aF eO g.aL)::aB (aG g.start)::aB (sl bF s.1 (de T))::aB (sl bF t.1 (db T))::aB tz::aW b2 (.cells (iu g).toArray 32 (0,0))::aW b4 (.cells [iv 0,iv 0,(.slice none 0 0),(.slice none 0 0),(.slice none 0 0),(.slice none 0 0)].toArray 174 (0,0))::aB (fO R [s.1,t.1])::aB (sl jE mv M)::aB (aF aG M)::[])) (λ⟨i,fv,O⟩=>i≤g.rules.length∧O.length=i) (λ⟨i,fv,O⟩=>g.rules.length-i) ⟨0,bT,[]⟩ (aD.cons 4 rfl (aD.cons 5 rfl (aD.cons 6 rfl (aD.cons 133 rfl aD.nil)))) ⟨aO _,rfl⟩ ?_;rintro ⟨i,fv,O⟩ ⟨hi,hFl⟩
     dsimp only at hi hFl⊢
     refine g6 ?_;refine St.cq (λah2=> ?_) (λah2=> ?_)
     ·refine g14 ?_
      refine St.sQ (m:=M.length) (.mk rfl) (.mk rfl) jj Bj Qm YC rfl rfl (by omega) rfl rfl (λCR=> ?_);refine St.aM (.slice (some ⟨CR,0,none⟩) M.length M.length) (show _=(List.replicate M.length false).length by rw[kG]) (show _=rows eI (List.replicate M.length false)from(zS (Rr:=eI) rfl _).symm) ?_;refine g7 ?_;refine St.fp rfl (.ar rfl) bI dL eQ rfl rfl (by simp[Value.cells]) rfl rfl (λYu=> ?_);refine St.aM (.slice (some ⟨Yu,0,none⟩) 1 1) (show _=[i].length from rfl) (show _=rows aI (bW [i])from rfl) ?_;refine g4 ?_;refine St.lH (ι:=List Bool×aV×List Nat) (λ⟨B,wv,W⟩ T=>(23,wv.1)::T) (λ⟨B,wv,W⟩=>(row (.slice (some ⟨CR,0,none⟩) M.length M.length) 4 1 B.length (rows eI B)::row wv.1 3 1 W.length (rows aI (bW W))::row fv.1 171 1 O.length (rows bS O)::aW b5 (.cells [iv (g.rules.length:Nat),iv (g.aL.length:Nat),(⟨G,Qg⟩:aV).1,(⟨E,Qd⟩:aV).1,sv.1,fv.1].toArray 174 (0,0))::aB (sl aI G l)::aB (sl sL E d)::aB (aF nY d)::aB (sl cS g.rv.1 g.rules)::aB (aF bx g.rules)::aB (sl dy g.xv.1 g.aL)::aB (aF eO g.aL)::aB (aG g.start)::aB (sl bF s.1 (de T))::aB (sl bF t.1 (db T))::aB tz::aW b2 (.cells (iu g).toArray 32 (0,0))::aW b4 (.cells [iv 0,iv 0,(.slice none 0 0),(.slice none 0 0),(.slice none 0 0),(.slice none 0 0)].toArray 174 (0,0))::aB (fO R [s.1,t.1])::aB (sl jE mv M)::aB (aF aG M)::[])) (λ⟨B,wv,W⟩=>B.length=M.length∧(∀z∈W,z<g.rules.length)∧DX B+W.length≤M.length+1) (λ⟨B,wv,W⟩=>DX B+W.length) ⟨List.replicate M.length false,⟨.slice (some ⟨Yu,0,none⟩) 1 1,rfl⟩,[i]⟩ (aD.cons 4 rfl (aD.cons 5 rfl (aD.cons 6 rfl (aD.cons 22 rfl (aD.cons 133 rfl (aD.cons 134 rfl aD.nil)))))) ⟨kG ..,λz hz=>by rw[bO.1 hz];omega,by rw[Q3];exact aR _⟩ ?_;rintro ⟨B,wv,W⟩ ⟨hsl,hW,hb⟩
      dsimp only at hsl hW hb⊢
      refine g8 ?_;refine St.cq (λaaH=> ?_) (λaaH=> ?_)
      ·obtain⟨A,at_,rfl⟩:∃A at_,W=A++ [at_]:=⟨W.dropLast,W.getLast (by intro h;subst h;simp at aaH),(List.dropLast_concat_getLast _).symm⟩
       have ajH:=hW at_ (by simp)
       have hWl:(A++ [at_]).length=A.length+1:=cR.symm
       obtain⟨Y,YN⟩:=aE (show at_<d.length by omega);obtain⟨ra,Wb⟩:=aE ajH;obtain⟨hka,_,_⟩:=Cx at_ ra Wb
       have Um:(Y.at_ 0).2.length=M.length:=by rw[hAL at_ Y ra YN Wb 0 (by omega)];unfold Ad;rw[aC (show((0:Nat):Int)<(lI ra).kids from by show((0:Nat):Int)<ra.kids;omega),aN,aN]
       refine St.cI nY d (x:=Y) (ae YN) ?_;refine St.eY (sl eI (Y.at_ 0).1.1 (Y.at_ 0).2) [nY Y] (λρ h=>IQ Y 0 ρ (h _ (aP ..))) ?_;refine g8 ?_;refine St.slot 147 (iv ((A.length+1:Nat):Int)) rfl (congrArg iv (by rw[hWl])) ?_;refine go ?_;refine St.slot 148 (iv (A.length:Nat)) rfl (congrArg iv (by push_cast;omega)) ?_;refine St.ee (Ev.dX (k:=A.length) (.mk rfl) (.mk rfl) bI dL (by omega) (by omega)) ?_;refine St.ee (Ev.ct (.mk rfl) gG trivial (by omega) (gU (gT (show(A++ [at_])[A.length]?=some at_ by simp)))) ?_;refine g8 ?_;refine St.slot 153 (iv ((A.length+1:Nat):Int)) rfl (congrArg iv (by rw[hWl])) ?_;refine go ?_;refine St.slot 154 (iv (A.length:Nat)) rfl (congrArg iv (by push_cast;omega)) ?_;refine St.ee (Ev.pG (h:=A.length) (.mk rfl) (.mk rfl) bI dL (by omega) (by omega)) ?_;refine St.DH wv.1 A.length (by omega) ?_;refine St.bZ (pH wv.1 1 0 A.length) (λah3 _=> ?_);refine St.aM (pH wv.1 1 0 A.length) rfl (show _=rows aI (bW A) by rw[ke,←dW A];exact uE aI _ _) ?_;refine g8 ?_;refine St.JW E (by omega) (λbs os cs Nj=> ?_);refine go ?_;refine St.ee (Ev.xV (j:=0) Nj (.mk rfl) (.mk rfl) zu qW (by omega) (by omega)) ?_;refine St.ee (Ev.ld1 (.mk rfl) YN jj trivial (Y.cell (by omega))) ?_;refine g5 ?_
       obtain⟨B0,hB0⟩:∃B0,B0=DX B+A.length:=⟨_,rfl⟩
       have hB1:B0≤M.length:=by omega
       refine St.lH (ι:=Nat×List Bool×aV×List Nat) (λ⟨o,B,wv,W⟩ T=>(163,iv o)::(23,wv.1)::T) (λ⟨o,B,wv,W⟩=>(row (.slice (some ⟨CR,0,none⟩) M.length M.length) 4 1 B.length (rows eI B)::row wv.1 3 1 W.length (rows aI (bW W))::row fv.1 171 1 O.length (rows bS O)::aW b5 (.cells [iv (g.rules.length:Nat),iv (g.aL.length:Nat),(⟨G,Qg⟩:aV).1,(⟨E,Qd⟩:aV).1,sv.1,fv.1].toArray 174 (0,0))::aB (sl aI G l)::aB (sl sL E d)::aB (aF nY d)::aB (sl eI (Y.at_ 0).1.1 (Y.at_ 0).2)::aB (sl cS g.rv.1 g.rules)::aB (aF bx g.rules)::aB (sl dy g.xv.1 g.aL)::aB (aF eO g.aL)::aB (aG g.start)::aB (sl bF s.1 (de T))::aB (sl bF t.1 (db T))::aB tz::aW b2 (.cells (iu g).toArray 32 (0,0))::aW b4 (.cells [iv 0,iv 0,(.slice none 0 0),(.slice none 0 0),(.slice none 0 0),(.slice none 0 0)].toArray 174 (0,0))::aB (fO R [s.1,t.1])::aB (sl jE mv M)::aB (aF aG M)::[])) (λ⟨o,B,wv,W⟩=>o≤M.length∧B.length=M.length∧(∀z∈W,z<g.rules.length)∧DX B+W.length≤B0) (λ⟨o,B,wv,W⟩=>M.length-o) ⟨0,B,⟨pH wv.1 1 0 A.length,ah3⟩,A⟩ (aD.cons 4 rfl (aD.cons 5 rfl (aD.cons 6 rfl (aD.cons 22 rfl (aD.cons 133 rfl (aD.cons 134 rfl (aD.cons 161 rfl (aD.cons 162 rfl aD.nil)))))))) ⟨aO _,hsl,λz hz=>hW z (by simp[hz]),Nat.le_of_eq hB0.symm⟩ ?_;rintro ⟨o,I,wv2,W2⟩ ⟨ho,Nk,Z,Di⟩
       dsimp only at ho Nk Z Di⊢
       refine g6 ?_;refine St.cq (λah5=> ?_) (λah5=> ?_)
       ·obtain⟨bo,hbo⟩:=aE (show o<(Y.at_ 0).2.length by omega)
        obtain⟨so,hso⟩:=aE (show o<I.length by omega);refine g17 ?_;refine St.gt _ rfl rfl (λhg=>Ev.move (.mk rfl)) rfl ?_;refine St.gt _ rfl rfl (λhg=>Ev.move (.mk rfl)) rfl ?_;refine St.gt _ rfl rfl (λhg=>Ev.dX (k:=o) (ai.gv rfl hg) (ai.gv rfl hg) jj Bj (by first|omega|(simp only[ew]at hg;omega)) (by omega)) rfl ?_;refine St.gt _ rfl rfl (λhg=>Ev.ct (ai.gv rfl hg) IA trivial (by omega) (P9 hso)) rfl ?_;refine St.gt _ rfl rfl (λhg=>Ev.not (ai.gv rfl hg)) rfl ?_;refine g3 ?_;refine St.cond _ rfl (λaaJ=> ?_) (λaaJ=> ?_)
        ·skip
         obtain rfl:so=false:=by cases so;rfl;simp at aaJ
         have hu:=Q4 hso
         refine g5 ?_;refine St.cG (.mk rfl) (.mk rfl) Bj rfl (by omega) (by decide) ?_;refine St.aM (.slice (some ⟨CR,0,none⟩) M.length M.length) (show _=(I.set o true).length by rw[cn]) (show _=rows eI (I.set o true)from LP _ _ _) ?_;refine g10 ?_;refine St.cq (λah6=> ?_) (λah6=> ?_)
         ·refine g3 ?_
          refine St.fp rfl (.ar rfl) bI dL eQ rfl rfl (by simp[Value.cells]) rfl rfl (λamX=> ?_);refine St.aj (.mk rfl) (.mk rfl) bI dL eQ xO (by simp[Value.oneCell',Value.cells]) (by omega) (by omega) rfl rfl rfl rfl (λXy amP=> ?_);refine St.aM Xy (show _=(W2++ [o]).length by rw[bN];rfl) (show _=rows aI (bW (W2++ [o])) by rw[ke,ax];rfl) ?_;refine St.bZ Xy (λah7 _=> ?_);refine g9 ?_;refine St.aH ⟨o+1,I.set o true,⟨Xy,ah7⟩,W2++ [o]⟩ ⟨by omega,by rw[cn];exact Nk,λz hz=>by rcases cD.1 hz with hz|hz;exact Z z hz;rw[bO.1 hz];omega,by dsimp only;rw[bN];simp only[List.length_cons,List.length_nil];omega⟩
         ·refine g8 ?_
          refine St.aH ⟨o+1,I.set o true,wv2,W2⟩ ⟨by omega,by rw[cn];exact Nk,Z,by first|omega|(dsimp only;omega)⟩
        ·skip
         skip
         refine g8 ?_;refine St.aH ⟨o+1,I,wv2,W2⟩ ⟨by omega,Nk,Z,Di⟩
       ·skip
        refine g6 ?_;refine St.sK ⟨I,wv2,W2⟩ ⟨Nk,Z,by first|omega|(dsimp only;omega)⟩ (by dsimp only;omega) (by repeat(first|exact Sub.nil|refine Sub.cons (by first|rfl|exact congrArg (λz=>some (iv z)) (by first|omega|(dsimp only;omega))|exact congrArg (λz=>some (Value.bool z)) (by first|assumption|exact j5 (by assumption))) ?_)) (λ_ hw=>hw.sub)
      ·skip
       refine g9 ?_;refine St.fp rfl (.ar rfl) underlying172 qW VF rfl rfl (by simp[Value.cells]) rfl rfl (λamY=> ?_);refine St.aj (.mk rfl) (.mk rfl) underlying172 qW VF Z7 (by simp[Value.oneCell',Value.cells]) (by omega) (by omega) rfl rfl rfl rfl (λQF amQ=> ?_);refine St.aM QF (show _=(O++ [(⟨.slice (some ⟨CR,0,none⟩) M.length M.length,rfl⟩:aV)]).length from cR) (show _=rows bS (O++ [(⟨.slice (some ⟨CR,0,none⟩) M.length M.length,rfl⟩:aV)]) by rw[ax];rfl) ?_;refine St.bZ QF (λaaK _=> ?_);refine go ?_;refine St.cJ (.mk rfl) (.mk rfl) ae5 aaK (by rfl) ?_;refine g8 ?_;refine St.aH ⟨i+1,⟨QF,aaK⟩,O++ [(⟨.slice (some ⟨CR,0,none⟩) M.length M.length,rfl⟩:aV)]⟩ ⟨by omega,by rw[bN,hFl];rfl⟩
     ·skip
      refine g8 ?_;refine St.sA (.mk rfl) (.mk rfl) Jh ?_ (h1:=(by simp only[List.all_cons,List.all_nil,Bool.and_true,Bool.and_eq_true];exact⟨rfl,rfl,Qg,Qd,sv.2,fv.2⟩));refine g3 ?_;refine St.eY (hY ⟨g.rules.length,g.aL.length,⟨G,Qg⟩,⟨E,Qd⟩,sv,fv,l,d⟩) [sl aI G l,sl sL E d,aF nY d] (λρ h=>h) ?_;refine St.rV [_] [aB (hY ⟨g.rules.length,g.aL.length,⟨G,Qg⟩,⟨E,Qd⟩,sv,fv,l,d⟩)] ?_;exact⟨⟨g.rules.length,g.aL.length,⟨G,Qg⟩,⟨E,Qd⟩,sv,fv,l,d⟩,rfl,hFO sv fv,rfl⟩
end Go.Proofs.YtblifkgpebebmaaGreatDoor
namespace Go.Proofs
open Go.Shelf
def Tryz.sP:Go.Shelf.Ren:=⟨λ|6=>125|14=>147|15=>148|20=>160|21=>161|22=>162|23=>163|24=>164|25=>165|26=>166|27=>167|28=>168|29=>169|46=>179|47=>180|48=>181|49=>182|50=>183|57=>185|n=>n,λ|0=>0|3=>3|4=>4|5=>5|9=>9|22=>58|24=>3|25=>208|39=>218|45=>282|46=>283|50=>112|53=>289|55=>157|66=>298|70=>302|76=>304|77=>305|n=>n,λ|n=>n⟩
theorem Tryz.yw:Go.Proofs.SlLaysF.n6 Tryz.prog Tryz.sP:={
 mixed:=by kernel_rfl
 f6:=⟨Tryz.f125.name,by decide,Tryz.func125.trans (congrArg some (by kernel_rfl))⟩
 f14:=⟨Tryz.f147.name,by decide,Tryz.func147.trans (congrArg some (by kernel_rfl))⟩
 f15:=Tryz.func148.trans (congrArg some (by kernel_rfl))
 f20:=⟨Tryz.f160.name,by decide,Tryz.func160.trans (congrArg some (by kernel_rfl))⟩
 f21:=⟨Tryz.f161.name,by decide,Tryz.func161.trans (congrArg some (by kernel_rfl))⟩
 f22:=⟨Tryz.f162.name,by decide,Tryz.func162.trans (congrArg some (by kernel_rfl))⟩
 f23:=⟨Tryz.f163.name,by decide,Tryz.func163.trans (congrArg some (by kernel_rfl))⟩
 f24:=⟨Tryz.f164.name,by decide,Tryz.func164.trans (congrArg some (by kernel_rfl))⟩
 f25:=⟨Tryz.f165.name,by decide,Tryz.func165.trans (congrArg some (by kernel_rfl))⟩
 f26:=⟨Tryz.f166.name,by decide,Tryz.func166.trans (congrArg some (by kernel_rfl))⟩
 f27:=⟨Tryz.f167.name,by decide,Tryz.func167.trans (congrArg some (by kernel_rfl))⟩
 f28:=Tryz.func168.trans (congrArg some (by kernel_rfl))
 f29:=Tryz.func169.trans (congrArg some (by kernel_rfl))
 f46:=⟨Tryz.f179.name,by decide,Tryz.func179.trans (congrArg some (by kernel_rfl))⟩
 f47:=Tryz.func180.trans (congrArg some (by kernel_rfl))
 f48:=Tryz.func181.trans (congrArg some (by kernel_rfl))
 f49:=⟨Tryz.f182.name,by decide,Tryz.func182.trans (congrArg some (by kernel_rfl))⟩
 f50:=⟨Tryz.f183.name,by decide,Tryz.func183.trans (congrArg some (by kernel_rfl))⟩
 f57:=⟨Tryz.f185.name,by decide,Tryz.func185.trans (congrArg some (by kernel_rfl))⟩
 t0:=YW
 a0:=Tryz.isAgg0
 z0:=Tryz.sizeOf0
 v0:=Tryz.zeroValue0
 t3:=gG
 a3:=Tryz.isAgg3
 z3:=Tryz.sizeOf3
 v3:=Tryz.zeroValue3
 t4:=IA
 a4:=Tryz.isAgg4
 z4:=Tryz.sizeOf4
 v4:=Tryz.zeroValue4
 t5:=GG
 a5:=Tryz.isAgg5
 z5:=Tryz.sizeOf5
 v5:=Tryz.zeroValue5
 t9:=wW
 a9:=Tryz.isAgg9
 z9:=Tryz.sizeOf9
 v9:=Tryz.zeroValue9
 t22:=bI
 a22:=Tryz.isAgg58
 z22:=Tryz.sizeOf58
 v22:=Tryz.zeroValue58
 a24:=Tryz.isAgg3
 z24:=Tryz.sizeOf3
 t25:=Tryz.underlying208
 a25:=Tryz.isAgg208
 z25:=Tryz.sizeOf208
 v25:=Tryz.zeroValue208
 t39:=Bn
 a39:=Tryz.isAgg218
 z39:=Tryz.sizeOf218
 v39:=Tryz.zeroValue218
 t45:=Tryz.underlying282
 a45:=Tryz.isAgg282
 z45:=Tryz.sizeOf282
 v45:=Tryz.zeroValue282
 t46:=Tryz.underlying283
 a46:=Tryz.isAgg283
 z46:=Tryz.sizeOf283
 v46:=Tryz.zeroValue283
 t50:=Tryz.underlying112
 a50:=Tryz.isAgg112
 z50:=Tryz.sizeOf112
 v50:=Tryz.zeroValue112
 t53:=Tryz.underlying289
 a53:=Tryz.isAgg289
 z53:=Tryz.sizeOf289
 v53:=Tryz.zeroValue289
 t55:=lY
 a55:=Tryz.isAgg157
 z55:=Tryz.sizeOf157
 v55:=Tryz.zeroValue157
 t66:=Tryz.underlying298
 a66:=Tryz.isAgg298
 z66:=Tryz.sizeOf298
 v66:=Tryz.zeroValue298
 t70:=Tryz.underlying302
 a70:=Tryz.isAgg302
 z70:=Tryz.sizeOf302
 v70:=Tryz.zeroValue302
 t76:=Tryz.underlying304
 a76:=Tryz.isAgg304
 z76:=Tryz.sizeOf304
 v76:=Tryz.zeroValue304
 t77:=Tryz.underlying305
 a77:=Tryz.isAgg305
 z77:=Tryz.sizeOf305
 v77:=Tryz.zeroValue305}
end Go.Proofs
namespace Go.J
open Go Go.Proofs Go.Shelf Go.RowKit Go.Lib Go.Sort
theorem Start.AR {ds:List du}{W:World}(hd:∀d∈ds,d.f (J.all W)):Start (ds.map J.aB) (J.all W) W:=
 ⟨rfl,⟨rfl,λ_=>aR _⟩,rfl,aR _,λ_ _ _=>rfl,λ_ _ h=>h,Ro.le_refl _,λ_ _ _=>rfl,λE c=>by
  obtain⟨d,e,rfl⟩:=cy.1 c;exact dB.2 (hd d e),
  (λE c b a=>by
   obtain⟨d,hd,rfl⟩:=cy.1 c
   rw[jx]at a;cases a),
  by
   refine sC.2 (wY (R:=λ_ _=>True) ?_ (List.pairwise_of_forall λ_ _=>trivial));intro d g _ _ _ b a
   rw[jx]at a;cases a⟩
theorem eD.aaA {P:Program}{f:FuncId}{args:Array Value}{ds:List du}{v:Value}{W:World}(h:eD P f args ds v)(hd:∀d∈ds,d.f (J.all W)):
 Calls P f args W λe w'=>e= .returned v∧∃q a,w'=grow (W.drewN q) a:=by
 refine(h W (J.all W) (Start.AR hd)).mono ?_;rintro e w' ⟨u,H',rfl,rfl,hm⟩;obtain⟨jo,hm⟩:=hm.out;refine⟨rfl,w'.drawn-W.drawn,w'.heap.extract W.heap.size w'.heap.size,?_⟩
 have h1:=hm.os
 have b:=And.intro hm.tape.1 (hm.tape.2 trivial)
 have c:=hm.output
 have l:=hm.size
 have g:∀k,k<W.heap.size→w'.heap[k]?=W.heap[k]?:=λk hk=>hm.AA k hk (j9 ds k)
 clear hm
 cases w' with
 |mk m n o a p=>
  cases W with
  |mk heap tape drawn os out=>
   simp only at h1 b c l g
   simp only[grow,World.drewN,World.mk.injEq]
   refine⟨?_,b.1,by omega,h1,c⟩
   apply Array.ext_getElem?
   intro i;rw[Array.getElem?_append]
   split
   ·rename_i j;exact g i j
   ·rename_i j
    rw[Array.getElem?_extract]
    split
    ·congr 1;omega
    ·rename_i r
     rw[Array.getElem?_eq_none (by omega)]
section
variable {P:Program}{Qa:Ren}{α:Type}[Inhabited α]
theorem pW (enc:α→Value)(w:World)(g0 m k:Nat)(a:Array α)(os:Array Obj)(hk:k≠g0)(b:k<w.heap.size):(sortWorld enc w g0 0 m a os).heap[k]?=w.heap[k]?:=by
 unfold sortWorld grow putRow mapBlock
 simp only[]
 rw[Array.getElem?_append_left (by simpa using b),Array.getElem?_modify];rw[aA (λe=>hk e.symm)];rfl
theorem zZ (enc:α→Value)(w:World)(g0 m:Nat)(b:Array α)(os:Array Obj){cur:Array Value}{e:TypeId}{fr:Nat×Nat}(c:w.heap[g0]?=some (.cells cur e fr)):
 (sortWorld enc w g0 0 m b os).heap[g0]?=some (.cells (putCells enc 0 b cur) e fr):=by
 have d:=(wA.1 c).1
 have a:(Sort.ahead w m).heap[g0]?=some (.cells cur e fr):=c
 unfold sortWorld grow putRow mapBlock
 simp only[]
 rw[Array.getElem?_append_left (by simpa using d),Array.getElem?_modify,aC rfl,a];rfl
theorem Start.sorted {ds:List du}{enc:α→Value}{v:Value}{e:TypeId}{d:List α}{w:World}{ρ:Ro}(st:Start (ds.map aB++ [row v e 1 d.length (d.map enc)]) ρ w){g0 cap:Nat}{cur:Array Value}
 (f:v= .slice (some ⟨g0,0,none⟩) d.length cap) (h:w.heap[g0]?=some (.cells cur e (0,0))) (q:d.length≤cap) (r:cap≤maxLen) (A:cur.size=cap*1) (B:cur.toList.take (d.length*1)=d.map enc):
 Holds enc w g0 0 d.toArray∧g0<w.heap.size∧(∀(m:Nat) (os:Array Obj) (c:Array α),Ro.le ρ (J.all (sortWorld enc w g0 0 m c os)))∧
  ∀(n:Nat) (a:Array α) (os:Array Obj),a.size=d.length→Mm ⟨w,ρ,jn (ds.map aB++ [row v e 1 d.length (d.map enc)]),True⟩ [row v e 1 d.length (a.toList.map enc)] (sortWorld enc w g0 0 n a os):=by
 have hblk:=(wA.1 h).1
 have u:ρ g0=Option.none:=(st.own _ (mj _ (C6 _)) g0 (by rw[eG,f];rfl)).1
 have x:∀j (g:j<d.length),cur[j]?=some (enc d[j]):=λj g=>by
  have:=congrArg (λl=>l[j]?) B
  simp only[List.getElem?_take,List.getElem?_map,List.getElem?_eq_getElem g,Option.map_some]at this
  rw[aC (by omega)]at this
  simpa using this
 have hle:∀(m:Nat) (os:Array Obj) (c:Array α),Ro.le ρ (J.all (sortWorld enc w g0 0 m c os)):=λm os c k o hk=>by
  have y:=st.fits k o hk
  have C:k≠g0:=by rintro rfl;rw[u]at hk;cases hk
  show(sortWorld enc w g0 0 m c os).heap[k]?=some o
  rw[pW enc w g0 m k c os C (wA.1 y).1,y]
 refine⟨λj g=> ?_,hblk,hle,λn a os D=>Mm.mk (ρ:=ρ) ⟨rfl,⟨rfl,?_⟩,rfl,?_,?_,?_,Ro.le_refl _,λ_ _ _=>rfl,?_,?_,GA ..⟩⟩
 ·have F:j<d.length:=by simpa using g
  refine⟨?_,?_⟩
  ·rw[World.cell?,h]
   simp only[Option.isSome_none,Bool.false_eq_true,if_false,Nat.zero_add]
   rw[x j F,getElem!_pos d.toArray j g]
   simp
  ·rw[World.frozen?,h];simp
 ·intro _;show w.drawn≤w.drawn+n;omega
 ·unfold sortWorld grow;simp
 ·intro k hk G
  refine pW enc w g0 n k a os ?_ hk;rintro rfl;exact G ⟨_,mj _ (C6 _),by rw[eG,f];rfl⟩
 ·exact λk o hk=>hle n os a k o hk
 ·intro E s
  rw[bO.1 s];refine eK.2 ⟨by simp[D],.inr ⟨g0,cap,putCells enc 0 a cur,f,aO _,zZ enc w g0 n a os h,q,r,by simp[putCells,A],?_⟩⟩
  apply pa
  intro i
  simp only[putCells,List.getElem?_take,Array.getElem?_toList,Array.getElem?_mapIdx,List.getElem?_map]
  by_cases H:i<d.length
  ·have t:i<a.size:=by omega
   rw[aC (by omega),x i H]
   simp only[Option.map_some,Nat.zero_le,true_and,Nat.zero_add,Nat.sub_zero]
   rw[aC t,getElem!_pos a i t,Dc t];rfl
  ·rw[aA (by omega),Array.getElem?_eq_none (by omega)];rfl
 ·intro E s b p
  rw[bO.1 s]at p
  have z:b=g0:=by rw[eG,f]at p;simp[Value.ownBlock]at p;exact p.symm
  exact⟨z▸u,.inr ⟨_,mj _ (C6 _),by rw[eG,f,z];rfl⟩⟩
theorem Start.stays {ds:List du}{E:ak}{w:World}{ρ:Ro}(st:Start (ds.map aB++ [E]) ρ w):Mm ⟨w,ρ,jn (ds.map aB++ [E]),True⟩ [E] w:=Mm.mk (eu.perm st jX).left
theorem Ao (L:SlLaysF.n6 P Qa)(enc:α→Value)(h1:OneCell enc)(cf:α→α→Int)(hO:SWO (ltOf cf))(g:Nat)(k:Array Value)
 (H:∀args w,(callFunc g args).run P w= .ok (.enter g args) w) (ds:List du) (I:∀x y,eD P g (#[enc x,enc y]++k) ds (.int .i64 (cf x y))) (v:Value) (e:TypeId) (d:List α) (hlen:d.length<4611686018427387904):
 dx P (Qa.f 6) #[v,.func (.func g) #[] k] (ds.map aB++ [row v e 1 d.length (d.map enc)])
  (λu H'=>u= .tuple #[]∧∃c:List α,c.Perm d∧c.Pairwise (λa b=>ltOf cf b a=false)∧H'=[row v e 1 d.length (c.map enc)]):=by
 intro w ρ st
 have J:=eK.1 (st.dM _ (mj _ (C6 _)))
 have o:∀x∈ds,x.f ρ:=λx hx=>dB.1 (st.dM _ (kW _ (eN hx)))
 have none:∀(p:Option Addr) (cap:Nat),v= .slice p 0 cap→d=[]→Calls P (Qa.f 6) #[v,.func (.func g) #[] k] w λq w'=>∃l H',q= .returned l∧
  (l= .tuple #[]∧∃c:List α,c.Perm d∧c.Pairwise (λa b=>ltOf cf b a=false)∧H'=[row v e 1 d.length (c.map enc)])∧Mm ⟨w,ρ,jn (ds.map aB++ [row v e 1 d.length (d.map enc)]),True⟩ H' w':=by
  intro p cap h K
  have F:=AnyF.slices_SortFunc_none (P:=P) (ρ:=Qa) {L with} p cap (.func (.func g) #[] k) w
  rw[←h]at F;refine F.mono ?_;rintro M w' ⟨rfl,rfl⟩;exact⟨_,_,rfl,⟨rfl,d,.refl _,(by rw[K];exact .nil),rfl⟩,st.stays⟩
 rcases J.2 with⟨h,N⟩|⟨g0,cap,cur,h,_,O,r,s,Q,R⟩
 ·exact none _ _ h (lD N)
 ·by_cases hz:d.length=0
  ·rw[hz]at h;exact none _ _ h (lD hz)
  ·obtain⟨hH,hblk,hle,t⟩:=Start.sorted st h O r s Q R
   have z:CmpLays1 P g k enc cf g0 0 d.toArray.size w:=λm os S _ x y=>(I x y).aaA λx hx=>x.mono _ _ (hle m os S) (o x hx)
   have main:=Any.slices_SortFunc L enc h1 cf hO g k g0 0 cap d.toArray w H z hH hblk (by simpa using hlen)
   have A:v= .slice (some ⟨g0,0,Option.none⟩) d.toArray.size cap:=by rw[h];simp
   rw[←A]at main;refine main.mono ?_;rintro M w' ⟨rfl,c,n,os,⟨B,_,hp⟩,C,rfl⟩
   have T:c.size=d.length:=by simpa using B
   have D:c.toList.Perm d:=by
    have U:c.extract 0 d.toArray.size=c:=by rw[←B];simp
    have e2:d.toArray.extract 0 d.toArray.size=d.toArray:=by simp
    rw[U,e2]at hp
    simpa using hp
   refine⟨_,_,rfl,⟨rfl,c.toList,D,?_,rfl⟩,t n c os T⟩;rw[List.pairwise_iff_getElem];intro i j V W E
   have X:i<c.size:=by simpa using V
   have G:j<c.size:=by simpa using W
   have:=C i j (aO _) E (by rw[←B];exact G)
   rw[getElem!_pos c i X,getElem!_pos c j G]at this
   simpa using this
end
section
variable {P:Program}{Qa:Ren}
theorem DP (L:SlLaysF.n6 P Qa)(fv v:Value)(e:TypeId)(D:du):dx P (Qa.f 6) #[v,fv] ([D].map aB++ [row v e 1 0 []]) (λu H'=>u= .tuple #[]∧H'=[row v e 1 0 []]):=by
 intro w ρ st
 have g:=eK.1 (st.dM (row v e 1 0 []) (mj _ (C6 _)))
 have none:∀(p:Option Addr) (cap:Nat),v= .slice p 0 cap→Calls P (Qa.f 6) #[v,fv] w λc w'=>∃a H',c= .returned a∧(a= .tuple #[]∧H'=[row v e 1 0 []])∧Mm ⟨w,ρ,jn ([D].map aB++ [row v e 1 0 []]),True⟩ H' w':=by
  intro p cap b
  have d:=AnyF.slices_SortFunc_none (P:=P) (ρ:=Qa) {L with} p cap fv w
  rw[←b]at d;refine d.mono ?_;rintro h w' ⟨rfl,rfl⟩;exact⟨_,_,rfl,⟨rfl,rfl⟩,st.stays⟩
 rcases g.2 with⟨b,_⟩|⟨g0,cap,cur,b,_⟩
 ·exact none _ _ b
 ·exact none _ _ b
theorem DQ (L:SlLaysF.n6 P Qa){m:Nat}(enc:Nat→Value)(h1:∀i,i<m→(enc i).oneCell'=true)(cf:Nat→Nat→Int)(n:∀a,a<m→¬cf a a<0)(o:∀a b c,a<m→b<m→c<m→cf a b<0→cf b c<0→cf a c<0)
 (p:∀a b c,a<m→b<m→c<m→¬cf a b<0→¬cf b c<0→¬cf a c<0) (g:Nat) (q:aJ P g) (caps:List Value) (D:du)
 (r:∀a b,a<m→b<m→eD P g ([enc a,enc b]++caps).toArray [D] (iv (cf a b))) (v:Value) (e:TypeId) (hm:m<4611686018427387904):
 dx P (Qa.f 6) #[v,.func (.func g) #[] caps.toArray] ([D].map aB++ [row v e 1 m ((List.range m).map enc)]) (λu H'=>u= .tuple #[]∧∃l:List Nat,l.Perm (List.range m)∧l.Pairwise (λa b=>¬cf b a<0)∧H'=[row v e 1 m (l.map enc)]):=by
 rcases Nat.eq_zero_or_pos m with rfl|s
 ·exact(DP L (.func (.func g) #[] caps.toArray) v e D).mono λu H' ⟨h1,j⟩=>⟨h1,[],List.Perm.refl _,List.Pairwise.nil,j⟩
 ·haveI:Inhabited {i:Nat//i<m}:=⟨⟨0,s⟩⟩
  let d:List {i:Nat//i<m}:=(List.range m).attach.map λx=>⟨x.1,dq.1 x.2⟩
  have t:d.length=m:=by simp[d]
  have k:d.map (λx=>x.1)=List.range m:=by simp[d,List.map_map,Function.comp_def]
  have A:d.map (λx=>enc x.1)=(List.range m).map enc:=by rw[←k];simp[List.map_map,Function.comp_def]
  have hO:SWO (ltOf λ(x y:{i:Nat//i<m})=>cf x.1 y.1):=by
   refine⟨λx=>fK (n x.1 x.2),λx y z h1 j=>dt (o _ _ _ x.2 y.2 z.2 (ei h1) (ei j)),λx y z h1 j=>fK (p _ _ _ x.2 y.2 z.2 (iX h1) (iX j))⟩
  have main:=Ao L (λx:{i:Nat//i<m}=>enc x.1) (λx=>h1 x.1 x.2) (λx y=>cf x.1 y.1) hO g caps.toArray (λargs w=>q.run) [D] (λx y=>by have:=r x.1 y.1 x.2 y.2;simpa using this) v e d (by omega)
  rw[t,A]at main;refine main.mono ?_;rintro u H' ⟨hu,B,hp,C,hH⟩;refine⟨hu,B.map (λx=>x.1),?_,?_,?_⟩
  ·have:=hp.map (λx=>x.1);rw[k]at this;exact this
  ·rw[sC]
   exact C.imp λh=>iX h
  ·rw[hH];simp[List.map_map,Function.comp_def]
end
end Go.J
namespace Go.Proofs.YtblifkgpebebmaaGreatDoor
open Go Go.J Tryz
def xC:dJ:=⟨0,0,0,⟨bT,[]⟩,bT,[],bT,[]⟩
def Up (o:List Nat)(w:re):re:=⟨w.rule,w.lex,w.kv,w.kids.map (pB o)⟩
def A9 (o:List Nat)(x:dJ):dJ:=⟨x.frm,x.tqo,x.cw,x.gr,x.wv,x.cV.map (Up o),x.tv,x.ba⟩
def mS (w:re):du:=sl aI w.kv.1 (bW w.kids)
def cj (x:dJ):du:=iP [aG x.gr,sl mH x.wv.1 x.cV,aF mS x.cV]
theorem TV (its:List dJ):((l7 (its.map cE)).map λi=>A9 (l7 (its.map cE)) (its.getD i xC)).map cE=gn (its.map cE):=by
 unfold gn;rw[kH]
 refine C1 λi _=> ?_
 have e:(its.map cE).getD i gh=cE (its.getD i xC):=by
  simp only[List.getD_eq_getElem?_getD,List.getElem?_map]
  cases its[i]? with
  |none=>rfl
  |some x=>rfl
 rw[e]
 show cE (A9 _ _)=_
 unfold A9 cE
 simp only[List.map_map]
 congr 1
theorem Cy {o:List Nat}(hd:o.Nodup){k i:Nat}(hk:o[k]?=some i):o.idxOf i=k:=by
 have a:=ah hk
 have b:o[k]=i:=by rw[bU a]at hk;exact Option.some.inj hk
 rw[←b];exact hd.idxOf_getElem k a
def OL (n k:Nat):List Int:=bW (List.range k)++List.replicate (n-k) 0
theorem VQ {n k:Nat}(h:k<n):(OL n k).set k (k:Int)=OL n (k+1):=by
 unfold OL;rw[lG _ _ (by rw[dW,jV];exact aR _),dW,jV,ff,uW,ke,dp,show n-k=(n-(k+1))+1 by omega,List.replicate_succ,sD];rfl
theorem VP (n:Nat):OL n n=bW (List.range n):=by unfold OL;rw[ff];simp
def KH (o:List Nat)(k:Nat):List Int:=(List.range o.length).map λi=>if o.idxOf i<k then(o.idxOf i:Int)else 0
theorem Qt (o:List Nat):KH o 0=List.replicate o.length 0:=by
 unfold KH
 refine pa λj=> ?_
 rw[bQ,s7]
 rcases eM j o.length with a|a
 ·rw[nV a,aC a];rfl
 ·rw[ic (by simpa using a),aA (by omega)];rfl
theorem Qu {o:List Nat}(hd:o.Nodup){k i:Nat}(hk:o[k]?=some i)(f:i<o.length):(KH o k).set i (k:Int)=KH o (k+1):=by
 have a:=ah hk
 have b:o.idxOf i=k:=by
  have m:o[k]=i:=by rw[bU a]at hk;exact Option.some.inj hk
  rw[←m];exact hd.idxOf_getElem k a
 refine pa λj=> ?_
 unfold KH
 by_cases e:j=i
 ·subst e
  rw[fU (by rw[aN,jV];exact f),bQ,nV f]
  show some _=some _
  dsimp only
  rw[b,aC (by omega)]
 ·rw[ig (λh=>e h.symm),bQ,bQ]
  rcases eM j o.length with d|d
  ·rw[nV d]
   show some _=some _
   dsimp only
   have p:o.idxOf j≠k:=λg=>by
    have:o.idxOf j<o.length:=by rw[g];exact a
    have n:=List.getElem_idxOf this
    have l:o[k]?=some j:=by rw[←g,bU this,n]
    rw[hk]at l;exact e (Option.some.inj l).symm
   congr 1
   try dsimp only
   by_cases c:o.idxOf j<k
   ·rw[aC c,aC (by omega)]
   ·rw[aA c,aA (by omega)]
  ·rw[ic (by simpa using d)];rfl
theorem VR {o:List Nat}{i:Nat}(a:i<o.length)(hm:i∈o):(KH o o.length)[i]?=some ((pB o i:Nat):Int):=by
 unfold KH pB;rw[bQ,nV a]
 show some _=some _
 dsimp only
 rw[aC (List.idxOf_lt_length_iff.2 hm)]
def I2 (o:List Nat)(its:List dJ)(k:Nat):List dJ:=((o.take k).map λi=>A9 o (its.getD i xC))++List.replicate (o.length-k) xC
theorem VL {o:List Nat}{its:List dJ}{k:Nat}(h:k≤o.length):(I2 o its k).length=o.length:=by unfold I2;rw[bN,aN,eR,kG];omega
theorem M3 {o:List Nat}{its:List dJ}{k i:Nat}{x:dJ}(hk:o[k]?=some i)(hx:its[i]?=some x):(I2 o its k).set k (A9 o x)=I2 o its (k+1):=by
 have a:=ah hk
 unfold I2;rw[lG _ _ (by rw[aN,eR];omega),aN,eR,kn (by omega),ff,aX hk,cO,dp,show o.length-k=(o.length-(k+1))+1 by omega,List.replicate_succ,sD]
 have e:its.getD i xC=x:=by rw[aw,hx];rfl
 rw[fL,lE,e];rfl
def T2 (o:List Nat)(its:List dJ)(k:Nat):List dJ:=its.zipIdx.map λp=>if o.idxOf p.2<k then A9 o p.1 else p.1
theorem MA (o:List Nat)(its:List dJ)(k:Nat):(T2 o its k).length=its.length:=by unfold T2;rw[aN,List.length_zipIdx]
theorem Az (o:List Nat)(its:List dJ)(k i:Nat):(T2 o its k)[i]?=(its[i]?).map λx=>if o.idxOf i<k then A9 o x else x:=by
 unfold T2;rw[bQ,List.getElem?_zipIdx]
 cases its[i]? with
 |none=>rfl
 |some x=>simp
theorem Qx (o:List Nat)(its:List dJ):T2 o its 0=its:=pa λi=>by
 rw[Az]
 cases its[i]? with
 |none=>rfl
 |some x=>simp
theorem VT {o:List Nat}(hd:o.Nodup){its:List dJ}{k i:Nat}{x:dJ}(hk:o[k]?=some i)(hx:its[i]?=some x):(T2 o its k).set i (A9 o x)=T2 o its (k+1):=by
 have a:=ah hk
 have f:o.idxOf i=k:=by
  have g:o[k]=i:=by rw[bU a]at hk;exact Option.some.inj hk
  rw[←g];exact hd.idxOf_getElem k a
 refine pa λj=> ?_
 by_cases e:j=i
 ·subst e
  rw[fU (by rw[MA];exact ah hx),Az,hx]
  show some _=some _
  dsimp only
  rw[aC (by omega)]
 ·rw[ig (λh=>e h.symm),Az,Az]
  cases m:its[j]? with
  |none=>rfl
  |some y=>
   show some _=some _
   dsimp only
   congr 1
   have n:o.idxOf j≠k:=λb=>by
    have:o.idxOf j<o.length:=by rw[b];exact a
    have l:=List.getElem_idxOf this
    have d:o[k]?=some j:=by rw[←b,bU this,l]
    rw[hk]at d;exact e (Option.some.inj d).symm
   by_cases c:o.idxOf j<k
   ·rw[aC c,aC (by omega)]
   ·rw[aA c,aA (by omega)]
theorem VS {o:List Nat}{its:List dJ}(h:∀i,i<its.length→i∈o):T2 o its o.length=its.map (A9 o):=pa λi=>by
 rw[Az,bQ]
 cases a:its[i]? with
 |none=>rfl
 |some x=>
  show some _=some _
  dsimp only
  rw[aC (List.idxOf_lt_length_iff.2 (h i (ah a)))]
theorem PH (o:List Nat)(l:List re):rows mH (l.map (Up o))=rows mH l:=by
 unfold rows
 rw[List.flatMap_map];rfl
theorem WH {α:Type}(f:α→List ak)(X:List ak){l:List α}{i:Nat}{x:α}(h:l[i]?=some x):(bE f l++X).Perm (f x++(bE f (l.eraseIdx i)++X)):=by
 rw[←dp];exact(nI f h).append_right X
theorem aaC {α:Type}(f:α→List ak)(X:List ak){l:List α}{i:Nat}(x:α)(h:i<l.length):(f x++(bE f (l.eraseIdx i)++X)).Perm (bE f (l.set i x)++X):=by
 rw[←dp];exact(sN f x h).append_right X
def W2 (o:List Nat)(l:List re)(m:Nat):List re:=(l.take m).map (Up o)++l.drop m
theorem R0 (o:List Nat)(l:List re):W2 o l 0=l:=rfl
theorem Yj {o:List Nat}{l:List re}{m:Nat}{w:re}(h:l[m]?=some w):(W2 o l m)[m]?=some w:=by
 have:=ah h
 unfold W2
 rw[lZ (by rw[aN,eR];omega),aN,eR,kn (by omega),ff,A4];simpa using h
theorem VW {o:List Nat}{l:List re}{m:Nat}(h:m≤l.length):(W2 o l m).length=l.length:=by unfold W2;rw[bN,aN,eR,A5];omega
theorem VX {o:List Nat}{l:List re}{m:Nat}{w:re}(h:l[m]?=some w):(W2 o l m).set m (Up o w)=W2 o l (m+1):=by
 have a:=ah h
 unfold W2
 rw[lG _ _ (by rw[aN,eR];omega),aN,eR,kn (by omega),ff,aX h,bP h,sD,cO,dp];rfl
theorem VV (o:List Nat)(l:List re):W2 o l l.length=l.map (Up o):=by unfold W2;simp
def K2 (o l:List Nat)(d:Nat):List Nat:=(l.take d).map (pB o)++l.drop d
theorem Qo (o l:List Nat):K2 o l 0=l:=rfl
theorem Yh {o l:List Nat}{d k:Nat}(h:l[d]?=some k):(K2 o l d)[d]?=some k:=by
 have:=ah h
 unfold K2
 rw[lZ (by rw[aN,eR];omega),aN,eR,kn (by omega),ff,A4];simpa using h
theorem VO {o l:List Nat}{d k:Nat}(h:l[d]?=some k):(K2 o l d).set d (pB o k)=K2 o l (d+1):=by
 have a:=ah h
 unfold K2
 rw[lG _ _ (by rw[aN,eR];omega),aN,eR,kn (by omega),ff,aX h,bP h,sD,cO,dp];rfl
theorem VN (o l:List Nat):K2 o l l.length=l.map (pB o):=by unfold K2;simp
theorem Ep (l:List Nat)(d k:Nat):(bW l).set d (k:Int)=bW (l.set d k):=by unfold bW;rw[jk]
theorem Wq {c:Ctx}(p b:TypeId){x:dJ}(hw:∀w∈x.cV,mH.wf w∧∀k∈w.kids,aa (k:Int))(H:List ak)(w:World)(h:Mm c (ek p b x++H) w):Mm c (aB (iP [sl mH x.wv.1 x.cV,aF mS x.cV])::H) w:=by
 obtain⟨ρ,k⟩:=h.out
 have h1:=k.bR mH x.cV rfl rfl (λy hy=>(hw y hy).1)
 obtain⟨n,e⟩:=h1.out
 have f:=(e.perm (List.Perm.swap _ _ _)).drop
 have g:Mm c (bE (jF b) x.cV++(aB (sl mH x.wv.1 x.cV)::H)) w:=Mm.mk (f.perm qk.symm)
 have gen:∀(l:List re) (H:List ak),(∀y∈l,∀k∈y.kids,aa (k:Int))→Mm c (bE (jF b) l++H) w→Mm c (aB (aF mS l)::H) w:=by
  intro l
  induction l with
  |nil=>exact λH _ h=>h.fact (aF mS []) λρ _ x hx=>by cases hx
  |cons a l q=>
   intro H o h;rw[iw,dp]at h;obtain⟨ρ,k⟩:=h.out
   have h1:=k.bR aI (bW a.kids) rfl (dW _).symm (λz hz=>by obtain⟨z2,i,rfl⟩:=cy.1 hz;exact o a (by simp) z2 i)
   obtain⟨n,e⟩:=h1.out
   have e:eu c (aB (mS a)::(bE (jF b) l++H)) n w:=e
   have r:Mm c (bE (jF b) l++(aB (mS a)::H)) w:=Mm.mk (e.perm qk.symm)
   have g:=q _ (λy hy=>o y (by simp[hy])) r
   have j:Mm c (aB (aF mS (a::l))::aB (aF mS l)::aB (mS a)::H) w:=g.fact _ (λρ hm x hx=>by
    rcases cH.1 hx with rfl|hx
    ·exact dB.1 (hm.dM (aB (mS x)) (by simp))
    ·exact dB.1 (hm.dM (aB (aF mS l)) (by simp)) x hx)
   obtain⟨m,k⟩:=j.out
   have f:eu c (aB (aF mS l)::aB (mS a)::aB (aF mS (a::l))::H) m w:=k.perm ((List.Perm.swap _ _ _).trans ((List.Perm.swap _ _ _).cons _))
   exact Mm.mk f.drop.drop
 have j:=gen x.cV _ (λy hy=>(hw y hy).2) g
 have s:Mm c (aB (iP [sl mH x.wv.1 x.cV,aF mS x.cV])::aB (aF mS x.cV)::aB (sl mH x.wv.1 x.cV)::H) w:=j.fact _ (λρ hm d hd=>by
  rcases cH.1 hd with rfl|hd
  ·exact dB.1 (hm.dM (aB (sl mH x.wv.1 x.cV)) (by simp))
  ·rw[bO.1 hd];exact dB.1 (hm.dM (aB (aF mS x.cV)) (by simp)))
 obtain⟨m,k⟩:=s.out
 have f:eu c (aB (aF mS x.cV)::aB (sl mH x.wv.1 x.cV)::aB (iP [sl mH x.wv.1 x.cV,aF mS x.cV])::H) m w:=k.perm ((List.Perm.swap _ _ _).trans ((List.Perm.swap _ _ _).cons _))
 exact Mm.mk f.drop.drop
theorem Mm.aeV {c:Ctx}{α:Type}{f:α→List ak}{g:α→du}{w:World}:∀(l:List α) (H:List ak),(∀a∈l,∀H,Mm c (f a++H) w→Mm c (aB (g a)::H) w)→Mm c (bE f l++H) w→Mm c (aB (aF g l)::H) w
 | [],H,_,h=>h.fact (aF g []) λρ _ x hx=>by cases hx
 |a::l,H,d,h=>by
  rw[iw,dp]at h
  have h1:=d a (by simp) _ h
  obtain⟨p,e⟩:=h1.out
  have i:Mm c (bE f l++(aB (g a)::H)) w:=Mm.mk (e.perm qk.symm)
  have j:=Mm.aeV l _ (λb m=>d b (by simp[m])) i
  have n:Mm c (aB (aF g (a::l))::aB (aF g l)::aB (g a)::H) w:=j.fact _ (λρ hm x hx=>by
   rcases cH.1 hx with rfl|hx
   ·exact dB.1 (hm.dM (aB (g x)) (by simp))
   ·exact dB.1 (hm.dM (aB (aF g l)) (by simp)) x hx)
  obtain⟨ρ,k⟩:=n.out
  have o:eu c (aB (aF g l)::aB (g a)::aB (aF g (a::l))::H) ρ w:=k.perm ((List.Perm.swap _ _ _).trans ((List.Perm.swap _ _ _).cons _))
  exact Mm.mk o.drop.drop
theorem St.XS {n:Nat}{F:Fr}{c:Ctx}{H H':List ak}{T:Act→World→Prop}(d e:TypeId)(l:List dJ)(hw:∀x∈l,∀w∈x.cV,mH.wf w∧∀k∈w.kids,aa (k:Int))[f:jD (bE (ek d e) l) [] H H'](h:St n F (Mm c (aB (aF (λx:dJ=>iP [sl mH x.wv.1 x.cV,aF mS x.cV]) l)::H')) T):St n F (Mm c H) T:=by
 obtain⟨L,a,b⟩:=f.eq
 refine h.o6 λw g=> ?_
 rw[b,gq];refine Mm.aeV l L (λx hx H h=>Wq d e (hw x hx) H w h) ?_;obtain⟨ρ,k⟩:=g.out;refine Mm.mk (k.perm ?_);rw[a];exact jX
theorem Hu (a b:Nat)(u:aV)(its:List dJ)(hd:((its.map cE).map λx=>fZ x.ed).Nodup)(v:Value)(o:its.length≤1000):
 dx prog 125 #[v,.func (.func 126) #[] [Value.pointer (some ⟨a,0,none⟩)].toArray] ([iP [ri a (.pointer (some ⟨b,0,none⟩)),ri b u.1,sl eB u.1 its,aF (λx:dJ=>aG x.gr) its]].map aB++ [row v 3 1 its.length (rows aI (bW (List.range its.length)))]) (λr H'=>r= .tuple #[]∧H'=[row v 3 1 its.length (rows aI (bW (l7 (its.map cE))))]):=by
 have d:∀i,i<its.length→∃x,its[i]?=some x∧(its.map cE).getD i gh=cE x:=λi c=>by
  obtain⟨x,hx⟩:=aE c;exact⟨x,hx,by rw[aw,bQ,hx];rfl⟩
 have e:∀l:List Nat,rows aI (bW l)=l.map λi=>iv (i:Nat):=λl=>by rw[jQ,bW,kH];rfl
 have main:=DQ Tryz.yw (m:=its.length) (λi=>iv (i:Nat)) (λ_ _=>rfl) (λi j=>xP ((its.map cE).getD i gh).ed ((its.map cE).getD j gh).ed) (λ_ _=>Ig _) (λ_ _ _ _ _ _=>BA) (λ_ _ _ _ _ _=>yW) 126 ZM [Value.pointer (some ⟨a,0,none⟩)] (iP [ri a (.pointer (some ⟨b,0,none⟩)),ri b u.1,sl eB u.1 its,aF (λx:dJ=>aG x.gr) its]) (λi j c f=>by
  obtain⟨x,hx,ex⟩:=d i c;obtain⟨y,hy,g⟩:=d j f;rw[ex,g]
  exact(Ht a b u its i j x y hx hy).all) v 3 (by omega)
 rw[e];refine main.mono ?_;rintro r H' ⟨h1,l,hp,h,k⟩;refine⟨h1,?_⟩
 have n:l=l7 (its.map cE):=Oe hd (by rw[aN];exact hp) h
 rw[k,n,e]
theorem Lc (a n:Nat)(u:aV)(its:List dJ)(hd:((its.map cE).map λx=>fZ x.ed).Nodup)(U:its.length≤1000)(hw:∀x∈its,x.cV.length≤3000000000000∧∀w∈x.cV,mH.wf w∧w.kids.length≤1000∧∀k∈w.kids,k<its.length):
 dx prog 91 #[.pointer (some ⟨a,0,none⟩)] ([aF (λx:dJ=>aG x.gr) its].map aB++([aW a (.cells [u.1,iv (n:Nat),(.slice none 0 0)].toArray 120 (0,0)),row u.1 186 6 its.length (rows eB its)]++bE (ek 200 3) (its))) (λv H'=>∃(P:aV) (E:List dJ),E.map cE=gn (its.map cE)∧H'=[aW a (.cells [P.1,iv (n:Nat),(.slice none 0 0)].toArray 120 (0,0)),aB (sl eB P.1 E),aB (aF cj E)]):=by
 refine dx.body (args:=[.pointer (some ⟨a,0,none⟩)]) 101 func91 rfl ntmps91 rfl (λc=> ?_);refine St.cast (H':=(aB (aF (λx:dJ=>aG x.gr) its)::aW a (.cells [u.1,iv (n:Nat),(.slice none 0 0)].toArray 120 (0,0))::row u.1 186 6 its.length (rows eB its)::bE (ek 200 3) (its))) rfl ?_;refine go ?_;refine St.bR u.1 eB its rfl rfl (λ_ _=>trivial) ?_
 obtain⟨o,F⟩:∃o,o=(l7 (its.map cE)):=⟨_,rfl⟩
 have t:o.Perm (List.range its.length):=by rw[F,show its.length=(its.map cE).length from(aN _).symm];exact jg _ _
 have A:o.length=its.length:=by rw[t.length_eq,jV]
 have r:o.Nodup:=t.nodup_iff.2 List.nodup_range
 have C:∀i,i<its.length→i∈o:=λi b=>t.mem_iff.2 (dq.2 b)
 refine go ?_;refine St.Mc (.mk rfl) rfl rfl (λs=> ?_);refine g9 ?_;refine St.sQ (m:=its.length) (.mk rfl) (.mk rfl) bI dL eQ xO rfl rfl (by omega) rfl rfl (λf=> ?_);refine St.aM (.slice (some ⟨f,0,none⟩) its.length its.length) rfl (show _=rows aI (OL its.length 0) by rw[zN];rfl) ?_;refine g12 ?_;refine St.lH (ι:=Nat) (λk T=>(22,iv k)::T) (λk=>(aW a (.cells [u.1,iv (n:Nat),(.slice none 0 0)].toArray 120 (0,0))::aW s (.cells [.pointer (some ⟨a,0,none⟩)].toArray 239 (0,0))::aB (sl eB u.1 its)::aB (aF (λx:dJ=>aG x.gr) its)::row (.slice (some ⟨f,0,none⟩) its.length its.length) 3 1 its.length (rows aI (OL its.length k))::bE (ek 200 3) (its))) (λk=>k≤its.length) (λk=>its.length-k) 0 (aD.cons 1 rfl (aD.cons 2 rfl (aD.cons 21 rfl aD.nil))) (aO _) ?_;intro k hk;refine g6 ?_;refine St.cq (λV=> ?_) (λV=> ?_)
 ·skip
  refine g15 ?_;refine St.cG (.mk rfl) (.mk rfl) dL rfl (by omega) (by decide) ?_;refine St.aM (.slice (some ⟨f,0,none⟩) its.length its.length) rfl (show _=rows aI (OL its.length (k+1)) by rw[jA,VQ (by omega)]) ?_;refine g8 ?_;refine St.aH (k+1) (by omega)
 ·obtain rfl:k=its.length:=by omega
  rw[VP];refine g8 ?_;refine St.ee (Ev.func (.ar rfl)) ?_;refine St.ZE (ds:=[iP [ri s (.pointer (some ⟨a,0,none⟩)),ri a u.1,sl eB u.1 its,aF (λx:dJ=>aG x.gr) its]]) (L:=[row (.slice (some ⟨f,0,none⟩) its.length its.length) 3 1 its.length (rows aI (bW (List.range its.length)))]) (R:=_) (Hu s a u its hd (.slice (some ⟨f,0,none⟩) its.length its.length) U) ZL (.aY rfl rfl) (il.iP (il.aW (il.aW (il.aB (il.aB il.nil))))) (gw.row gw.nil) (λv H' h=>h.2▸gw.row gw.nil) rfl ?_;rintro v32 _ ⟨rfl,rfl⟩;rw[←F];refine St.ao ?_;refine g6 ?_;refine St.sQ (m:=its.length) (.mk rfl) (.mk rfl) bI dL eQ xO rfl rfl (by omega) rfl rfl (λB=> ?_);refine St.aM (.slice (some ⟨B,0,none⟩) its.length its.length) rfl (show _=rows aI (KH o 0) by rw[zN,Qt,A]) ?_;refine g12 ?_;refine St.lH (ι:=Nat) (λk T=>(38,iv k)::T) (λk=>(aW a (.cells [u.1,iv (n:Nat),(.slice none 0 0)].toArray 120 (0,0))::aW s (.cells [.pointer (some ⟨a,0,none⟩)].toArray 239 (0,0))::aB (sl eB u.1 its)::aB (aF (λx:dJ=>aG x.gr) its)::row (.slice (some ⟨f,0,none⟩) its.length its.length) 3 1 its.length (rows aI (bW o))::row (.slice (some ⟨B,0,none⟩) its.length its.length) 3 1 its.length (rows aI (KH o k))::bE (ek 200 3) (its))) (λk=>k≤its.length) (λk=>its.length-k) 0 (aD.cons 1 rfl (aD.cons 2 rfl (aD.cons 4 rfl (aD.cons 36 rfl (aD.cons 37 rfl aD.nil))))) (aO _) ?_;intro k hk;refine g6 ?_;refine St.cq (λW=> ?_) (λW=> ?_)
  ·obtain⟨i,b⟩:=aE (show k<o.length by omega)
   have D:i<its.length:=dq.1 (t.mem_iff.1 (ae b))
   refine g8 ?_;refine St.ee (Ev.ct (.mk rfl) gG trivial (by omega) (gU (gT b))) ?_;refine g9 ?_;refine St.cG (.mk rfl) (.mk rfl) dL rfl (by omega) (by decide) ?_;refine St.aM (.slice (some ⟨B,0,none⟩) its.length its.length) rfl (show _=rows aI (KH o (k+1)) by rw[jA,Qu r b (by omega)]) ?_;refine g8 ?_;refine St.aH (k+1) (by omega)
  ·obtain rfl:k=its.length:=by omega
   refine g9 ?_;refine St.nJ (Rr:=eB) (g:=xC) (m:=its.length) (sz:=6) rfl (.mk rfl) (.mk rfl) nT oX GC Me rfl rfl (by omega) rfl rfl (λj=> ?_);refine St.aM (.slice (some ⟨j,0,none⟩) its.length its.length) rfl (show _=rows eB (I2 o its 0) by unfold I2;rw[A7,lE,A6,Nat.sub_zero,A]) ?_;refine g12 ?_;refine St.Ef (ι:=Nat) (λk T=>(53,iv k)::T) (λk=>(aW a (.cells [u.1,iv (n:Nat),(.slice none 0 0)].toArray 120 (0,0))::aW s (.cells [.pointer (some ⟨a,0,none⟩)].toArray 239 (0,0))::aB (sl eB u.1 its)::aB (aF (λx:dJ=>aG x.gr) its)::row (.slice (some ⟨f,0,none⟩) its.length its.length) 3 1 its.length (rows aI (bW o))::row (.slice (some ⟨B,0,none⟩) its.length its.length) 3 1 its.length (rows aI (KH o its.length))::row (.slice (some ⟨j,0,none⟩) its.length its.length) 186 6 its.length (rows eB (I2 o its (k)))::bE (ek 200 3) (T2 o its k))) (λk=>k≤its.length) (λk=>its.length-k) 0 (aD.cons 1 rfl (aD.cons 4 rfl (aD.cons 7 rfl (aD.cons 51 rfl (aD.cons 52 rfl aD.nil))))) (aO _) (by repeat(first|exact Sub.nil|refine Sub.cons (by first|rfl|exact congrArg (λz=>some (iv z)) (by first|omega|(dsimp only;omega))|exact congrArg (λz=>some (Value.bool z)) (by first|assumption|exact j5 (by assumption))) ?_)) (λ_ hw=>by rw[Qx];exact hw.sub) ?_;intro k hk;refine g6 ?_;refine St.cq (λX=> ?_) (λX=> ?_)
   ·obtain⟨i,b⟩:=aE (show k<o.length by omega)
    have D:i<its.length:=dq.1 (t.mem_iff.1 (ae b))
    obtain⟨x,hx⟩:=aE D;obtain⟨Nr,Y⟩:=hw x (ae hx)
    have Z:=Cy r b
    have hT:(T2 o its k)[i]?=some x:=by rw[Az,hx];show some _=some _;dsimp only;rw[aA (by omega)]
    have hI:=VL (o:=o) (its:=its) (k:=k) (by omega)
    refine g8 ?_;refine St.ee (Ev.ct (.mk rfl) gG trivial (by omega) (gU (gT b))) ?_;refine g14 ?_;refine St.ee (Ev.Ea (Rr:=eB) (sz:=6) (.mk rfl) hx underlying186 trivial oX (by decide) (by decide)) ?_;refine go ?_;refine St.uJ (Rr:=eB) (show eB.size=6 from rfl) (A9 o x) (.mk rfl) (.mk rfl) oX (by omega) (by omega) ?_;rw[M3 b hx];refine g6 ?_
    have G:(I2 o its (k+1))[k]?=some (A9 o x):=by rw[←M3 b hx,fU (by omega)]
    refine St.aM (.slice (some ⟨j,0,none⟩) its.length its.length) rfl (show _=rows eB (I2 o its (k+1))from rfl) ?_;refine g2 ?_;refine St.ee (Ev.ct (.mk rfl) uP trivial (by omega) (eL eB _ k 4 _ G (by decide))) ?_;refine St.slot 72 x.wv.1 rfl rfl ?_;refine St.tail (bE (ek 200 3) (T2 o its k)) (row x.wv.1 200 3 x.cV.length (rows mH x.cV)::row x.tv.1 3 1 x.ba.length (rows aI x.ba)::(bE (jF 3) x.cV++bE (ek 200 3) ((T2 o its k).eraseIdx i))) (nI (ek 200 3) hT) ?_;refine g5 ?_;refine St.Ef (ι:=Nat) (λm T=>(74,iv m)::T) (λm=>(aW a (.cells [u.1,iv (n:Nat),(.slice none 0 0)].toArray 120 (0,0))::aW s (.cells [.pointer (some ⟨a,0,none⟩)].toArray 239 (0,0))::aB (sl eB u.1 its)::aB (aF (λx:dJ=>aG x.gr) its)::row (.slice (some ⟨f,0,none⟩) its.length its.length) 3 1 its.length (rows aI (bW o))::row (.slice (some ⟨B,0,none⟩) its.length its.length) 3 1 its.length (rows aI (KH o its.length))::row (.slice (some ⟨j,0,none⟩) its.length its.length) 186 6 its.length (rows eB (I2 o its (k+1)))::row x.wv.1 200 3 x.cV.length (rows mH x.cV)::row x.tv.1 3 1 x.ba.length (rows aI x.ba)::(bE (jF 3) (W2 o x.cV m)++bE (ek 200 3) ((T2 o its k).eraseIdx i)))) (λm=>m≤x.cV.length) (λm=>x.cV.length-m) 0 (aD.cons 1 rfl (aD.cons 4 rfl (aD.cons 7 rfl (aD.cons 51 rfl (aD.cons 52 rfl (aD.cons 53 rfl (aD.cons 72 rfl (aD.cons 73 rfl aD.nil)))))))) (aO _) (by repeat(first|exact Sub.nil|refine Sub.cons (by first|rfl|exact congrArg (λz=>some (iv z)) (by first|omega|(dsimp only;omega))|exact congrArg (λz=>some (Value.bool z)) (by first|assumption|exact j5 (by assumption))) ?_)) (λ_ hw=>by rw[R0];exact hw.sub) ?_;intro m hm;refine g6 ?_;refine St.cq (λH=> ?_) (λH=> ?_)
    ·obtain⟨w,p⟩:=aE (show m<x.cV.length by omega)
     obtain⟨Q,S,I⟩:=Y w (ae p)
     have J:=Yj (o:=o) p
     have hWl:=VW (o:=o) (l:=x.cV) (m:=m) (by omega)
     refine g7 ?_;refine St.ee (Ev.vJ (R:=mH) (.mk rfl) p underlying200 trivial wR (by omega)) ?_;refine St.slot 77 (.agg #[iv w.rule,iv w.lex,w.kv.1]) rfl rfl ?_;refine St.al (λYA=> ?_);refine g7 ?_;refine St.tail (bE (jF 3) (W2 o x.cV m)++bE (ek 200 3) ((T2 o its k).eraseIdx i)) (row w.kv.1 3 1 w.kids.length (rows aI (bW w.kids))::(bE (jF 3) ((W2 o x.cV m).eraseIdx m)++bE (ek 200 3) ((T2 o its k).eraseIdx i))) (WH (jF 3) (bE (ek 200 3) ((T2 o its k).eraseIdx i)) J) ?_;refine g5 ?_;refine St.Ef (ι:=Nat) (λd T=>(81,iv d)::T) (λd=>(aW a (.cells [u.1,iv (n:Nat),(.slice none 0 0)].toArray 120 (0,0))::aW s (.cells [.pointer (some ⟨a,0,none⟩)].toArray 239 (0,0))::aB (sl eB u.1 its)::aB (aF (λx:dJ=>aG x.gr) its)::row (.slice (some ⟨f,0,none⟩) its.length its.length) 3 1 its.length (rows aI (bW o))::row (.slice (some ⟨B,0,none⟩) its.length its.length) 3 1 its.length (rows aI (KH o its.length))::row (.slice (some ⟨j,0,none⟩) its.length its.length) 186 6 its.length (rows eB (I2 o its (k+1)))::row x.wv.1 200 3 x.cV.length (rows mH x.cV)::row x.tv.1 3 1 x.ba.length (rows aI x.ba)::aW YA (.cells [iv w.rule,iv w.lex,w.kv.1].toArray 200 (0,0))::row w.kv.1 3 1 w.kids.length (rows aI (bW (K2 o w.kids d)))::(bE (jF 3) ((W2 o x.cV m).eraseIdx m)++bE (ek 200 3) ((T2 o its k).eraseIdx i)))) (λd=>d≤w.kids.length) (λd=>w.kids.length-d) 0 (aD.cons 1 rfl (aD.cons 4 rfl (aD.cons 7 rfl (aD.cons 11 rfl (aD.cons 51 rfl (aD.cons 52 rfl (aD.cons 53 rfl (aD.cons 72 rfl (aD.cons 73 rfl (aD.cons 74 rfl (aD.cons 79 rfl (aD.cons 80 rfl aD.nil)))))))))))) (aO _) (by repeat(first|exact Sub.nil|refine Sub.cons (by first|rfl|exact congrArg (λz=>some (iv z)) (by first|omega|(dsimp only;omega))|exact congrArg (λz=>some (Value.bool z)) (by first|assumption|exact j5 (by assumption))) ?_)) (λ_ hw=>by rw[Qo];exact hw.sub) ?_;intro d hdd;refine g6 ?_;refine St.cq (λh82=> ?_) (λh82=> ?_)
     ·obtain⟨q,K⟩:=aE (show d<w.kids.length by omega)
      have hql:=I q (ae K)
      have M:=Yh (o:=o) K
      refine g8 ?_;refine St.ee (Ev.ct (.mk rfl) gG trivial (by omega) (gU (gT M))) ?_;refine g4 ?_;refine St.l8 w.kv.1 (by omega) (λbs cs Nj=> ?_);refine St.da (row w.kv.1 3 1 w.kids.length (rows aI (bW (K2 o w.kids d)))::(bE (jF 3) ((W2 o x.cV m).eraseIdx m)++bE (ek 200 3) ((T2 o its k).eraseIdx i))) mixed (λnp ns=> ?_);refine SW.gd 0 ?_;refine SW.gd 1 ?_;refine SW.gd 2 ?_;refine SW.gd 3 ?_;refine SW.gd 4 ?_;refine SW.gd 5 ?_;refine SW.dd 6 rfl (λ_=>Ev.ct (.mk rfl) gG trivial (by omega) (gU (by rw[←A];exact VR (by omega) (C q hql)))) ?_;refine SW.dd 7 rfl (λ_=>Ev.mo (k:=d) Nj (.mk rfl) (.mk rfl) bI dL (by omega) (by omega)) ?_;refine SW.t1 8 ?_;refine St.cG (.mk rfl) (.mk rfl) dL rfl (by omega) (by decide) ?_;refine St.aM w.kv.1 rfl (show _=rows aI (bW (K2 o w.kids (d+1))) by rw[jA,Ep,VO K]) ?_;refine g2 ?_;refine SW.go ?_;refine SW.dn ?_;refine g7 ?_;refine St.aH (d+1) (by omega)
     ·obtain rfl:d=w.kids.length:=by omega
      rw[VN];refine St.ma [row w.kv.1 3 1 w.kids.length (rows aI (bW (w.kids.map (pB o))))] (bE (jF 3) ((W2 o x.cV m).eraseIdx m)++bE (ek 200 3) ((T2 o its k).eraseIdx i)) (bE (jF 3) (W2 o x.cV (m+1))++bE (ek 200 3) ((T2 o its k).eraseIdx i)) (by have:=aaC (jF 3) (bE (ek 200 3) ((T2 o its k).eraseIdx i)) (Up o w) (show m<(W2 o x.cV m).length by omega);rw[VX p]at this;unfold jF Up at this;dsimp only at this;rw[aN]at this;exact this) ?_;refine g11 ?_;refine St.aH (m+1) (by omega)
    ·obtain rfl:m=x.cV.length:=by omega
     rw[VV];refine St.ma [row x.wv.1 200 3 x.cV.length (rows mH x.cV),row x.tv.1 3 1 x.ba.length (rows aI x.ba)] (bE (jF 3) (x.cV.map (Up o))++bE (ek 200 3) ((T2 o its k).eraseIdx i)) (bE (ek 200 3) (T2 o its (k+1))) (by have:=sN (ek 200 3) (A9 o x) (show i<(T2 o its k).length by rw[MA];exact D);rw[VT r b hx]at this;unfold ek A9 at this;dsimp only at this;rw[aN,PH]at this;exact this) ?_;refine g11 ?_;refine St.aH (k+1) (by omega)
   ·obtain rfl:k=its.length:=by omega
    have N:T2 o its its.length=its.map (A9 o):=by rw[←A];exact VS C
    rw[N];refine St.XS 200 3 (its.map (A9 o)) (λy hy w S=>by obtain⟨x,hx,rfl⟩:=cy.1 hy;obtain⟨w1,Q,rfl⟩:=cy.1 S;have:=(hw x hx).2 w1 Q;exact⟨this.1,λk hk=>by obtain⟨k1,hk1,rfl⟩:=cy.1 hk;have h9:pB o k1≤o.length:=List.idxOf_le_length;unfold aa;omega⟩) ?_
    have O:I2 o its its.length=o.map λi=>A9 o (its.getD i xC):=by unfold I2;rw[←A,ff,jl];exact gq _
    rw[O];refine St.bR (.slice (some ⟨j,0,none⟩) its.length its.length) eB (o.map λi=>A9 o (its.getD i xC)) rfl (by rw[aN,A]) (λ_ _=>trivial) ?_
    refine St.eY (aF cj (o.map λi=>A9 o (its.getD i xC))) [aF (λx:dJ=>aG x.gr) its,aF (λx:dJ=>iP [sl mH x.wv.1 x.cV,aF mS x.cV]) (its.map (A9 o))] (λρ h y hy=>by
     have h1:=h _ (aP ..)
     have h2:=h _ (cN _ (aP ..))
     obtain⟨i,b,rfl⟩:=cy.1 hy
     have D:i<its.length:=dq.1 (t.mem_iff.1 b)
     obtain⟨x,hx⟩:=aE D
     have SX:its.getD i xC=x:=by rw[aw,hx];rfl
     rw[SX]
     have h3:=h2 (A9 o x) (eN (ae hx))
     intro e he
     rcases cH.1 he with rfl|he
     ·exact h1 x (ae hx)
     ·exact h3 e he) ?_
    refine g10 ?_;refine St.cJ (.mk rfl) (.mk rfl) Pe rfl (by rfl) ?_;refine go ?_;refine St.eF ?_;refine St.rV [] [aW a (.cells [(.slice (some ⟨j,0,none⟩) its.length its.length),iv (n:Nat),(.slice none 0 0)].toArray 120 (0,0)),aB (sl eB (.slice (some ⟨j,0,none⟩) its.length its.length) (o.map λi=>A9 o (its.getD i xC))),aB (aF cj (o.map λi=>A9 o (its.getD i xC)))] ?_;exact⟨⟨(.slice (some ⟨j,0,none⟩) its.length its.length),rfl⟩,_,by rw[F];exact TV its,rfl⟩
theorem ym {q:List jH}{i:Nat}(h:i<q.length):q.getD i Ie∈q:=by
 rw[aw,bU h];exact gz h
theorem oT (q:List jH)(i j:Nat):(xH q i j).length=q.length:=by unfold xH;rw[cn,cn]
theorem zi {q:List jH}{i j:Nat}(a:i<q.length)(b:j<q.length){u:jH}(h:u∈xH q i j):u∈q:=by
 rcases lF h with h|rfl
 ·rcases lF h with h|rfl
  ·exact h
  ·exact ym b
 ·exact ym a
theorem Se {q:List jH}{i n:Nat}(h:¬n≤2*i+1):p6 q i n<n:=by unfold p6;split<;>omega
theorem ye:∀(f:Nat) (q:List jH) (i n:Nat),n≤q.length→∀u∈oE f q i n,u∈q
 |0,_,_,_,_,_,h=>h
 |f+1,q,i,n,a,u,h=>by
  rw[oE]at h
  split at h
  ·exact h
  ·rename_i h1
   split at h
   ·exact h
   ·have hk:=Se (q:=q) h1
    exact zi (by omega) (by omega) (ye f _ _ n (by rw[oT];exact a) u h)
theorem tK:∀(f:Nat) (q:List jH) (i n:Nat),(oE f q i n).length=q.length
 |0,_,_,_=>rfl
 |f+1,q,i,n=>by
  rw[oE]
  split
  ·rfl
  ·split
   ·rfl
   ·rw[tK f,oT]
theorem Ju:∀(f:Nat) (q:List jH) (j:Nat),j<q.length→∀u∈Js f q j,u∈q
 |0,_,_,_,_,h=>h
 |f+1,q,j,a,u,h=>by
  rw[Js]at h
  split at h
  ·exact h
  ·exact zi (by omega) a (Ju f _ _ (by rw[oT];omega) u h)
theorem Jt:∀(f:Nat) (q:List jH) (j:Nat),(Js f q j).length=q.length
 |0,_,_=>rfl
 |f+1,q,j=>by
  rw[Js]
  split
  ·rfl
  ·rw[Jt f,oT]
theorem ER (n:Nat):∀(k:Nat) (q:List jH),(td n k q).length=q.length
 |0,_=>rfl
 |k+1,q=>by rw[td,ER n k,tK]
theorem ES (n:Nat):∀(k:Nat) (q:List jH),n≤q.length→∀u∈td n k q,u∈q
 |0,_,_,_,h=>h
 |k+1,q,a,u,h=>ye _ _ _ _ a u (ES n k _ (by rw[tK];exact a) u (by rwa[td]at h))
theorem FI (q:List jH)(x:jH):(Ak q x).length=q.length+1:=by unfold Ak;rw[Jt,bN,pc]
theorem Ou {q:List jH}{x u:jH}(h:u∈Ak q x):u∈q∨u=x:=by
 have:=Ju _ _ _ (by rw[bN,pc];omega) u h
 rcases cD.1 this with h|h
 ·exact .inl h
 ·exact .inr (bO.1 h)
theorem FD (q:List jH):(pC q).length=q.length:=by unfold pC;rw[tK,oT]
theorem FE {q:List jH}(a:0<q.length){u:jH}(h:u∈pC q):u∈q:=zi a (by omega) (ye _ _ _ _ (by rw[oT];omega) u h)
section
variable {B:cr}{f:Nat}{get:eA→Nat→Nat→eA×Option jq}
theorem gO {st:eA}{e:Nat}{x:wD}(h:st[e]?=some x):st.getD e nq=x:=by rw[aw,h];rfl
theorem r4 {st:eA}{e:Nat}{x:wD}(h:st[e]?=some x)(q:List jH):DA st e q=st.set e ⟨x.done,q,x.begun⟩:=by unfold DA;rw[gO h]
structure VI (B:cr)(e:Nat)(vf:eA)(w:Nat)(st:eA):Prop where
 ok:jm B st
 hp:Hp B e vf st
 at_:∃x:wD,st[e]?=some x∧x.done=[]∧x.begun=true∧x.next.length≤w
theorem R8 (j:o7 B)(m:sj B f get){e w:Nat}{vf st:eA}(he:e<B.its.length)(n:l3 B e<f+1)(hw:w<rM B e)(h:VI B e vf w st):
 VI B e vf (w+1) (AQ B get e st w):=by
 obtain⟨x,hx,hd,g,q⟩:=h.at_
 have s:=j.ht e he
 obtain⟨d,a2,a3⟩:=Ce (D:=0) (ranks:=List.replicate (B.fy e w).kids.length 0) j m he n hw (kG) (λr o=>(by rw[wa o];exact aR _)) (by omega) h.ok
 have a:=a2 e (aR _)
 rw[hx]at a;unfold AQ
 rcases k:mn B get st e w (List.replicate (B.fy e w).kids.length 0)with⟨st2,_|c⟩
 ·rw[k]at d a2 a
  exact⟨d,h.hp.trans a2.hp,x,a,hd,g,by omega⟩
 ·rw[k]at d a2 a3 a
  dsimp only at a⊢
  rw[r4 a,gO a]
  have p:=a3 c rfl
  have i:=d.nl e x a
  refine⟨d.set (e:=e) (y:=⟨x.done,x.next++ [c],x.begun⟩) ⟨i.done,λc2 b=> ?_,i.dl,λl=>(by rw[g]at l;cases l),?_⟩,(h.hp.trans a2.hp).trans (.set _ _),⟨x.done,x.next++ [c],x.begun⟩,?_,hd,g,?_⟩
  ·rcases cD.1 b with b|b
   ·exact i.next c2 b
   ·rw[bO]at b;subst b;exact p.mono (aO _)
  ·show(x.next++ [c]).length≤_
   rw[bN,pc];omega
  ·exact fU (ez.1 a).1
  ·show(x.next++ [c]).length≤_
   rw[bN,pc];omega
theorem Ha {α:Type}(g:α→Nat→α)(a:α)(n:Nat):(List.range (n+1)).foldl g a=g ((List.range n).foldl g a) n:=by
 rw[uW,wc];rfl
def E3 (B:cr)(get:eA→Nat→Nat→eA×Option jq)(e:Nat)(st:eA)(w:Nat):eA:=(List.range w).foldl (AQ B get e) (st.set e ⟨(st.getD e nq).done,(st.getD e nq).next,true⟩)
theorem B5 (e:Nat)(st:eA)(w:Nat):E3 B get e st (w+1)=AQ B get e (E3 B get e st w) w:=Ha _ _ _
theorem E0 {e:Nat}{st:eA}(h:(st.getD e nq).begun=false):yK B get e st=DA (E3 B get e st (rM B e)) e (td ((E3 B get e st (rM B e)).getD e nq).next.length (((E3 B get e st (rM B e)).getD e nq).next.length/2) ((E3 B get e st (rM B e)).getD e nq).next):=by
 unfold yK;rw[aA (by rw[h];decide)];rfl
theorem E2 {e:Nat}{st:eA}(h:(st.getD e nq).begun=true):yK B get e st=st:=by unfold yK;rw[aC h]
theorem CU (g:o7 B)(h:sj B f get){e:Nat}{st:eA}(he:e<B.its.length)(i:l3 B e<f+1)(b:jm B st)(c:(st.getD e nq).begun=false):∀w,w≤rM B e→VI B e st w (E3 B get e st w)
 |0,_=>by
  obtain⟨x,hx,d,a⟩:=b.at_ he;rw[d]at c;obtain⟨j,k⟩:=a.new c
  have hy:Qq B e ⟨x.done,x.next,true⟩:=⟨a.done,a.next,a.dl,λl=>(by cases l),a.nl⟩
  refine⟨?_,?_,⟨x.done,x.next,true⟩,?_,j,rfl,?_⟩
  ·show jm B (st.set e ⟨(st.getD e nq).done,(st.getD e nq).next,true⟩);rw[d];exact b.set hy
  ·exact .set _ _
  ·show(st.set e ⟨(st.getD e nq).done,(st.getD e nq).next,true⟩)[e]?=_;rw[d];exact fU (ez.1 hx).1
  ·show x.next.length≤0;rw[k];exact aR _
 |w+1,hw=>by rw[B5];exact R8 g h he i (by omega) (CU g h he i b c w (by omega))
structure GM (B:cr)(e:Nat)(vf st:eA):Prop where
 ok:jm B st
 hp:Hp B e vf st
 at_:∃x:wD,st[e]?=some x∧x.begun=true
theorem MQ (l:o7 B)(m:sj B f get){e:Nat}{st:eA}(he:e<B.its.length)(n:l3 B e<f+1)(b:jm B st):GM B e st (yK B get e st):=by
 obtain⟨x0,o,g,_⟩:=b.at_ he
 cases d:x0.begun with
 |true=>rw[E2 (by rw[g];exact d)];exact⟨b,.refl _ _ _,x0,o,d⟩
 |false=>
  have i:(st.getD e nq).begun=false:=by rw[g];exact d
  rw[E0 i]
  have h:=CU l m he n b i (rM B e) (aR _)
  obtain⟨x,hx,hd,j,q⟩:=h.at_
  have a:=h.ok.nl e x hx
  rw[r4 hx,gO hx];refine⟨h.ok.set ⟨a.done,λc p=>a.next c (ES _ _ _ (aR _) c p),a.dl,λk=>(by rw[j]at k;cases k),?_⟩,h.hp.trans (.set _ _),_,fU (ez.1 hx).1,j⟩
  show(td _ _ _).length≤_
  rw[ER];exact a.nl
theorem Oo {st:eA}{e:Nat}{x:wD}(h:st[e]?=some x):LI st e=st.set e ⟨x.done++ [((pC x.next).getD (x.next.length-1) Ie).rk],(pC x.next).take (x.next.length-1),x.begun⟩:=by unfold LI;rw[gO h]
theorem JM {st:eA}{e:Nat}{x:wD}(h:st[e]?=some x):FC st e=(pC x.next).getD (x.next.length-1) Ie:=by unfold FC;rw[gO h]
structure Dq (B:cr)(e D:Nat)(vf:eA)(d:Nat)(st:eA):Prop where
 ok:jm B st
 hp:Hp B e vf st
 at_:∃x:wD,st[e]?=some x∧x.done.length=D∧x.begun=true∧x.next.length+4≤rM B e+3*D+d
theorem Oq {e r:Nat}{vf st:eA}{x:wD}(h:GM B e vf st)(hx:st[e]?=some x)(n:r+1+l3 B e≤262)(hd:x.done.length≤r)(d:0<x.next.length):
 Dq B e (x.done.length+1) vf 0 (LI st e)∧uZ B e x.done.length (FC st e):=by
 obtain⟨o,f,g⟩:=h.at_
 rw[hx]at f;obtain rfl:=Option.some.inj f
 have a:=h.ok.nl e x hx
 have b:(pC x.next).getD (x.next.length-1) Ie∈x.next:=FE d (ym (by rw[FD];omega))
 have i:=a.next _ b
 rw[Oo hx,JM hx]
 have p:=a.nl
 have hle:(x.done++ [((pC x.next).getD (x.next.length-1) Ie).rk]).length=x.done.length+1:=by rw[bN,pc]
 have j:((pC x.next).take (x.next.length-1)).length=x.next.length-1:=by rw[eR,FD];omega
 refine⟨⟨h.ok.set ⟨λk hk=> ?_,λc m=> ?_,?_,λl=>(by rw[g]at l;cases l),?_⟩,h.hp.trans (.set _ _),_,fU (ez.1 hx).1,hle,g,?_⟩,i⟩
 ·rcases cD.1 hk with hk|hk
  ·exact a.done k hk
  ·rw[bO]at hk;subst hk;exact i.rk
 ·exact(a.next c (FE d (C5 m))).mono (by show _≤(x.done++_).length;omega)
 ·show(x.done++_).length+l3 B e≤262;rw[hle];omega
 ·show((pC x.next).take _).length≤rM B e+3*(x.done++_).length;rw[hle,j];omega
 ·show((pC x.next).take _).length+4≤_;rw[j];omega
def zK (B:cr)(get:eA→Nat→Nat→eA×Option jq)(e:Nat)(c:jH)(d:Nat)(st:eA):eA:=match mn B get st e c.fy (c.ranks.set d (c.ranks.getD d 0+1))with
 |(st,none)=>st
 |(st,some x)=>DA st e (Ak (st.getD e nq).next x)
theorem BU (e:Nat)(c:jH)(m d:Nat)(st:eA):Al B get e c (m+1) d st=if 0<c.ranks.getD d 0 then zK B get e c d st else Al B get e c m (d+1) (zK B get e c d st):=rfl
theorem JQ {c:jH}{e D d:Nat}(h:uZ B e D c):(c.ranks.set d (c.ranks.getD d 0+1)).length=(B.fy e c.fy).kids.length∧∀r∈c.ranks.set d (c.ranks.getD d 0+1),r≤D+1:=by
 refine⟨by rw[cn];exact h.len,λr a=> ?_⟩
 rcases lF a with a|rfl
 ·have:=h.rks r a;omega
 ·rw[aw]
  cases b:c.ranks[d]? with
  |none=>show 0+1≤D+1;omega
  |some z=>have:=h.rks z (ae b);show z+1≤D+1;omega
theorem DE (o:o7 B)(p:sj B f get){e d D:Nat}{c:jH}{vf st:eA}(he:e<B.its.length)(q:l3 B e<f+1)(l:uZ B e D c)(hd:d<3)(h:Dq B e (D+1) vf d st):
 Dq B e (D+1) vf (d+1) (zK B get e c d st):=by
 obtain⟨x,hx,g,i,t⟩:=h.at_;obtain⟨r,s⟩:=JQ (d:=d) l
 have u:=(h.ok.nl e x hx).dl
 obtain⟨b,a2,a3⟩:=Ce (D:=D+1) o p he q l.fy r s (by omega) h.ok
 have a:=a2 e (aR _)
 rw[hx]at a;unfold zK
 rcases m:mn B get st e c.fy (c.ranks.set d (c.ranks.getD d 0+1))with⟨st2,_|z⟩
 ·rw[m]at b a2 a
  exact⟨b,h.hp.trans a2.hp,x,a,g,i,by omega⟩
 ·rw[m]at b a2 a3 a
  dsimp only at a⊢
  rw[r4 a,gO a]
  have hz:=a3 z rfl
  have j:=b.nl e x a
  refine⟨b.set ⟨j.done,λc2 k=> ?_,j.dl,λn=>(by rw[i]at n;cases n),?_⟩,(h.hp.trans a2.hp).trans (.set _ _),_,fU (ez.1 a).1,g,i,?_⟩
  ·rcases Ou k with k|rfl
   ·exact j.next c2 k
   ·show uZ B e x.done.length c2;rw[g];exact hz
  ·show(Ak x.next z).length≤rM B e+3*x.done.length;rw[FI];omega
  ·show(Ak x.next z).length+4≤_;rw[FI];omega
theorem uC {e D d:Nat}{vf st:eA}(h:Dq B e D vf d st):GM B e vf st:=let⟨x,hx,_,a,_⟩:=h.at_;⟨h.ok,h.hp,x,hx,a⟩
theorem JO (a:o7 B)(b:sj B f get){e D:Nat}{c:jH}{vf:eA}(he:e<B.its.length)(g:l3 B e<f+1)(i:uZ B e D c):∀(m d:Nat) (st:eA),m+d≤3→Dq B e (D+1) vf d st→GM B e vf (Al B get e c m d st)
 |0,d,st,_,h=>uC h
 |m+1,d,st,hm,h=>by
  have j:=DE a b he g i (by omega) h
  rw[BU]
  split
  ·exact uC j
  ·exact JO a b he g i m (d+1) _ (by omega) j
theorem afF (a:o7 B){e w:Nat}(he:e<B.its.length)(hw:w<rM B e):(B.fy e w).kids.length≤3:=by
 by_cases b:(B.fy e w).rule<0
 ·rw[(a.lex e w he hw b).1];exact aO _
 ·exact(a.rule e w he hw b).2.1
theorem aeY (b:o7 B){e D:Nat}{c:jH}(he:e<B.its.length)(a:uZ B e D c):c.ranks.length≤3:=by
 rw[a.len]
 by_cases d:(B.fy e c.fy).rule<0
 ·rw[(b.lex e c.fy he a.fy d).1];exact aO _
 ·exact(b.rule e c.fy he a.fy d).2.1
theorem JB (a:o7 B)(c:sj B f get){e r:Nat}{vf:eA}(he:e<B.its.length)(d:l3 B e<f+1)(g:r+1+l3 B e≤262):∀(m:Nat) (st:eA),GM B e vf st→GM B e vf (tq B get e r m st)
 |0,_,h=>h
 |m+1,st,h=>by
  rw[tq];obtain⟨x,hx,k⟩:=h.at_
  split
  ·rename_i b
   rw[gO hx]at b;obtain⟨j,i⟩:=Oq h hx g b.1 b.2;exact JB a c he d g m _ (JO a c he d i _ 0 _ (by have:=aeY a he i;omega) j)
  ·exact h
end
theorem Cu {B:cr}(a:o7 B):∀f,sj B f (fh B f)
 |0=>⟨λe r st _ h=>by omega⟩
 |f+1=>⟨λe r st he b d g=>by
  have c:=Cu a f
  have h:=JB a c he b d (r+1) _ (MQ a c he b g)
  obtain⟨x,hx,_⟩:=h.at_;rw[fh];refine⟨h.ok,h.hp,λy hy=> ?_⟩
  dsimp only at hy
  rw[gO hx]at hy
  exact(h.ok.nl e x hx).done y (ae hy)⟩
end Go.Proofs.YtblifkgpebebmaaGreatDoor
namespace Go.J
open Go Go.RowKit
section
variable {P:Program}{n:Nat}{F:Fr}{c:Ctx}{H R:List ak}{ty t e:TypeId}{x:Operand}{T:Act→World→Prop}
theorem Ev.qy {b off:Nat}{d:TypeDesc}{L:List Value}{u:Value}[f:mI b H L](hx:ai F x (.pointer (some ⟨b,off,none⟩)))(ht:P.underlying t=some d)(g:(match d with| .struct _| .array _ _=>False|_=>True))(hu:L[off]?=some u):
 Ev P n F (Mm c H) (.load t x) ty u:= .of_run λa w h hw=>by
 obtain⟨ρ,hm⟩:=hw.out;obtain⟨e,fr,h1⟩:=dB.1 (hm.dM _ f.mem)
 have h1:=hm.fits _ _ h1
 simp[execOp,hx.eval h,Instr.loadAt,Instr.sureAddr,fP ht g ((cU h1).trans (by simpa using hu))]
theorem St.aeZ {size m:Nat}{cs:List Value}(v:Value)(s:Nat)[tk:lR v H e size m cs R](a:size=s)(h:St n F (Mm c (row v e s m cs::R)) T):St n F (Mm c H) T:=by
 subst a
 exact h.o6 λw hw=>let⟨_,k⟩:=hw.out;Mm.mk (k.perm tk.perm)
theorem mW {ρ:Ro}{b off:Nat}:∀(us:List Value) (j:Nat) (L:List Value) (w:World),eu c (aW b (.cells L.toArray e (0,0))::R) ρ w→off+j+us.length≤L.length→(∀u∈us,u.oneCell'=true)→
 ∃w',(storeCells ⟨b,off,none⟩ us j).run P w= .ok () w'∧eu c (aW b (.cells (sS L (off+j) us).toArray e (0,0))::R) ρ w'
 | [],j,L,w,hm,_,_=>⟨w,rfl,hm⟩
 |u::us,j,L,w,hm,a,h1=>by
  rw[fA]at a;obtain⟨c1,f1,d⟩:=xN (off:=off+j) (u:=u) hm (by omega);obtain⟨w',f,g⟩:=mW (off:=off) us (j+1) (L.set (off+j) u) _ d (by rw[cn];omega) (λz hz=>h1 z (by simp[hz]));refine⟨w',?_,by rw[sS];exact g⟩;rw[storeCells]
  simp[run_store P w _ u _ (h1 u (by simp)),c1,f1,Addr.add_lit,f]
variable {y:Operand}{Q:Exit→Act→World→Prop}{ops:Array Oper}{rest:List Oper}{pos:String}{after:Array Edge}{ty:TypeId}
theorem St.PZ {b off m:Nat}{L L' us:List Value}[tk:ku b H (.cells L.toArray e (0,0)) R](hx:ai F x (.pointer (some ⟨b,off,none⟩)))(hy:ai F y (.agg us.toArray))(f:(P.info? t).map (·.size)=some m)(g:us.length=m)(h1:us.all (·.oneCell')=true)
 (j:Nat.ble (off+m) L.length=true) (k:sS L off us=L') (h:St n F (Mm c (aW b (.cells L'.toArray e (0,0))::R)) (wpList P ops Q rest)):
 St n F (Mm c H) (wpList P ops Q ({dst:=none,op:= .store t x y,type:=ty,pos:=pos,after:=after,guard:=none}::rest)):=by
 subst k;refine St.lh (K:=λu H'=>H'=aW b (.cells (sS L off us).toArray e (0,0))::R) ?_ ?_
 ·intro a w ρ d hm
  have l:=hm.perm tk.perm
  obtain⟨w',o,p⟩:=mW (P:=P) (off:=off) us 0 L w l (by have:=dR j;omega) (λu hu=>eW.1 h1 u hu);obtain⟨i,q,r⟩:=di.1 f;refine⟨.skip,w',ρ,_,?_,⟨_,.inr ⟨rfl,rfl⟩,rfl⟩,p⟩
  simp[execOp,hx.eval d,hy.eval d,Instr.storeAt,Instr.sureAddr,storeVar,sizeOf,typeInfo,q,r,bJ,g,o]
 ·rintro _ _ rfl
  exact h
end
end Go.J
namespace Go.Proofs.YtblifkgpebebmaaGreatDoor
open Go Go.J Tryz
structure AcD where
 wt:Int
 cv:aV
 code:List Int
 kv:aV
 ts:List dE
def U2 (r l:Int)(a:AcD):jq:=⟨a.wt,a.code,.mk r l (a.ts.map cx)⟩
theorem Dt (r l:Int)(a:AcD)(k:xL)(u v:aV):U2 r l ⟨a.wt+k.wt,u,a.code++k.code,v,a.ts++ [k.tree]⟩=MC (U2 r l a) (mV k):=by unfold U2 MC mV;rw[cO];rfl
theorem G4 {l m:List Nat}{k a b:Nat}(h:l[k]?=some a)(c:m[k]?=some b):(l.zip m).drop k=(a,b)::(l.zip m).drop (k+1):=bP (by rw[List.getElem?_zip_eq_some];exact⟨h,c⟩)
theorem qc (r l:Int)(ρ:Ro):(br (.mk r l bT [])).f ρ:=ot.mk (x:= .mk r l bT []) (sV dC ρ) (λy hy=>by cases hy)
theorem sX {R X:List Int}{its:List dJ}{L:List jJ}(h:jm (⟨its.map cE,R,X⟩:cr) (L.map fi)):L.length=its.length:=by
 have:=h.len;rw[aN]at this;rw[this];exact aN _
theorem U5 {R X:List Int}{its:List dJ}{e:Nat}{y:dJ}(h:its[e]?=some y):(⟨its.map cE,R,X⟩:cr).its.getD e gh=cE y:=by
 show(its.map cE).getD e gh=cE y
 rw[aw,bQ,h];rfl
theorem U6 {R X:List Int}{its:List dJ}{e w:Nat}{y:dJ}{a:re}(h:its[e]?=some y)(b:y.cV[w]?=some a):(⟨its.map cE,R,X⟩:cr).fy e w=wyE a:=by
 unfold cr.fy;rw[U5 h]
 show(y.cV.map wyE).getD w wy0=wyE a
 rw[aw,bQ,b];rfl
theorem CZ {R X:List Int}{its:List dJ}{e:Nat}{y:dJ}(h:its[e]?=some y):rM (⟨its.map cE,R,X⟩:cr) e=y.cV.length:=by
 unfold rM;rw[U5 h];exact aN _
def Jz:xL:=⟨0,bT,[],.mk 0 0 bT []⟩
def zCh:kq:=⟨Jz,0,bT,[]⟩
def VJ (c a m0 b:Nat)(rv xv eC:aV)(R X:List Int)(its:List dJ)(f:Nat):Prop:=∀(e r:Nat) (L:List jJ),e<its.length→l3 (⟨its.map cE,R,X⟩:cr) e<f→r+1+l3 (⟨its.map cE,R,X⟩:cr) e≤262→jm (⟨its.map cE,R,X⟩:cr) (L.map fi)→
 dx prog 52 #[.pointer (some ⟨c,0,none⟩),iv (e:Nat),iv (r:Nat)] ([fO c [rv.1,xv.1,eC.1,(.slice (some ⟨a,0,none⟩) m0 b)],sl aI rv.1 R,sl aI xv.1 X,sl eB eC.1 its,aF cj its].map aB++(row (.slice (some ⟨a,0,none⟩) m0 b) 194 3 (L).length (rows fM (L))::bE (kK 71 196) L)) (λv H'=>∃(L':List jJ) (k:xL) (o:Bool),fh (⟨its.map cE,R,X⟩:cr) f (L.map fi) e r=(L'.map fi,if o then some (mV k)else none)∧v= .tuple #[kU k,.bool o]∧H'=row (.slice (some ⟨a,0,none⟩) m0 b) 194 3 (L').length (rows fM (L'))::aB (oL k)::bE (kK 71 196) L')
theorem wG (K l m0 p:Nat)(rv xv eC:aV)(R X:List Int)(its:List dJ)(M:o7 (⟨its.map cE,R,X⟩:cr))(f:Nat)(SE:VJ K l m0 p rv xv eC R X its f)(e w D:Nat)(g:aV)(ranks:List Nat)(L:List jJ)(he:e<its.length)(SB:l3 (⟨its.map cE,R,X⟩:cr) e<f+1)(hw:w<rM (⟨its.map cE,R,X⟩:cr) e)(N:ranks.length=((⟨its.map cE,R,X⟩:cr).fy e w).kids.length)(hrk:∀r∈ranks,r≤D)(hD:D+l3 (⟨its.map cE,R,X⟩:cr) e≤262)(J3:jm (⟨its.map cE,R,X⟩:cr) (L.map fi)):
 dx prog 93 #[.pointer (some ⟨K,0,none⟩),iv (e:Nat),iv (w:Nat),g.1] ([fO K [rv.1,xv.1,eC.1,(.slice (some ⟨l,0,none⟩) m0 p)],sl aI rv.1 R,sl aI xv.1 X,sl eB eC.1 its,aF cj its,sl aI g.1 (bW ranks)].map aB++(row (.slice (some ⟨l,0,none⟩) m0 p) 194 3 (L).length (rows fM (L))::bE (kK 71 196) L)) (λv H'=>∃(L':List jJ) (c:kq) (o:Bool),mn (⟨its.map cE,R,X⟩:cr) (fh (⟨its.map cE,R,X⟩:cr) f) (L.map fi) e w ranks=(L'.map fi,if o then some (iR c)else none)∧v= .tuple #[E9 c,.bool o]∧H'=row (.slice (some ⟨l,0,none⟩) m0 p) 194 3 (L').length (rows fM (L'))::aB (hS c)::bE (kK 71 196) L'):=by
 refine dx.body (args:=[.pointer (some ⟨K,0,none⟩),iv (e:Nat),iv (w:Nat),g.1]) 122 func93 rfl ntmps93 rfl (λc=> ?_);refine go ?_;refine St.cast (H':=(aB (fO K [rv.1,xv.1,eC.1,(.slice (some ⟨l,0,none⟩) m0 p)])::aB (sl aI rv.1 R)::aB (sl aI xv.1 X)::aB (sl eB eC.1 its)::aB (aF cj its)::aB (sl aI g.1 (bW ranks))::row (.slice (some ⟨l,0,none⟩) m0 p) 194 3 (L).length (rows fM (L))::bE (kK 71 196) L)) rfl ?_;obtain⟨y,hy⟩:=aE he;rw[CZ hy]at hw;obtain⟨b,O⟩:=aE hw
 have F:=U6 (R:=R) (X:=X) hy O
 rw[F]at N
 have N:ranks.length=b.kids.length:=N
 have hnk:(bW b.kids).length=b.kids.length:=dW _
 have hnr:(bW ranks).length=ranks.length:=dW _
 have G:w<rM (⟨its.map cE,R,X⟩:cr) e:=by rw[CZ hy];exact hw
 have Y:e<(⟨its.map cE,R,X⟩:cr).its.length:=by show e<(its.map cE).length;rw[aN];exact he
 have SQ:=M.sz e w Y G
 rw[F]at SQ
 have SQ: -1≤b.rule∧b.rule≤1000∧0≤b.lex∧b.lex≤1000:=SQ
 have hwb:w<1200000000000:=by have:=M.nw e Y;omega
 refine St.cI cj its (x:=y) (ae hy) ?_;refine St.eY (sl mH y.wv.1 y.cV) [cj y] (λρ h=>h (cj y) (aP ..) _ (cN _ (aP ..))) ?_;refine St.eY (sl aI b.kv.1 (bW b.kids)) [cj y] (λρ h=>h (cj y) (aP ..) (aF mS y.cV) (cN _ (cN _ (aP ..))) b (ae O)) ?_;refine go ?_;refine St.al (λb8=> ?_);refine g8 ?_;refine St.ee (Ev.qy (.mk rfl) nT trivial rfl) ?_;refine g6 ?_;refine St.ee (Ev.Ea (Rr:=mH) (sz:=3) (.mk rfl) O underlying200 trivial wR (by decide) (by decide)) ?_;refine St.slot 26 (.agg #[iv b.rule,iv b.lex,b.kv.1]) rfl rfl ?_;refine St.al (λb10=> ?_);refine g7 ?_;refine St.ee (Ev.build (bH.aY rfl rfl) (λw=>Ge rfl g.2 w)) ?_;refine St.slot 29 (.agg #[iv 0,(.slice none 0 0),iv 0,iv 0,(.slice none 0 0),iv (w:Nat),g.1]) rfl rfl ?_;refine St.al (λj=> ?_);refine g9 ?_;refine St.ee (Ev.build (bH.aY rfl rfl) (λw=>B7 rfl rfl w)) ?_;refine St.slot 34 (.agg #[iv b.rule,iv b.lex,(.slice none 0 0)]) rfl rfl ?_;refine g2 ?_;refine St.PZ (m:=3) (us:=[iv b.rule,iv b.lex,(.slice none 0 0)]) (L':=[iv 0,(.slice none 0 0),iv b.rule,iv b.lex,(.slice none 0 0),iv (w:Nat),g.1]) (ai.mk rfl) (ai.mk rfl) pt rfl rfl rfl rfl ?_;refine g10 ?_;refine St.cq (λh39=> ?_) (λh39=> ?_)
 ·have P:((⟨its.map cE,R,X⟩:cr).fy e w).rule<0:=by rw[F];exact h39
  obtain⟨hlk,A8,_⟩:=M.lex e w Y G P;rw[F]at A8
  have A8:b.lex<X.length:=A8
  obtain⟨Q,Wm⟩:=aE (show b.lex.toNat<X.length by omega)
  have SX:X.getD b.lex.toNat 0=Q:=by rw[aw,Wm];rfl
  refine go ?_;refine St.da (aW j (.cells [iv 0,(.slice none 0 0),iv b.rule,iv b.lex,(.slice none 0 0),iv (w:Nat),g.1].toArray 196 (0,0))::(bE (kK 71 196) L)) mixed (λnp ns=> ?_);refine SW.gd 0 ?_;refine SW.gd 1 ?_;refine SW.gd 2 ?_;refine SW.dd 3 rfl (λ_=>Ev.qy (.mk rfl) bI trivial rfl) ?_;refine SW.gd 4 ?_;refine SW.gd 5 ?_;refine SW.dd 6 rfl (λ_=>Ev.cL (k:=b.lex.toNat) (.mk rfl) (.mk rfl) bI dL (by omega) (by omega)) ?_;refine SW.gd 7 ?_;refine SW.gd 8 ?_;refine SW.gd 9 ?_;refine SW.gd 10 ?_;refine SW.gd 12 ?_;refine SW.gd 13 ?_;refine SW.slot 53 (.pointer (some ⟨j,0,none⟩)) rfl rfl ?_;refine SW.t2 11 14 ?_ ?_
  focus
   refine St.fp rfl (.ar rfl) bI dL eQ rfl rfl (by simp[Value.cells]) rfl rfl (λH=> ?_);refine g2 ?_;refine SW.go ?_;refine SW.t1 14 ?_;refine St.cJ (.mk rfl) (.mk rfl) dL rfl (by rfl) ?_;refine g2 ?_;refine SW.go ?_;refine SW.gd 15 ?_;refine SW.gd 16 ?_;refine SW.slot 55 (.pointer (some ⟨j,1,none⟩)) rfl rfl ?_;refine SW.t1 17 ?_;refine St.cJ (.mk rfl) (.mk rfl) fE rfl (by rfl) ?_;refine St.mK j (L':=[iv Q,.slice (some ⟨H,0,none⟩) 1 1,iv b.rule,iv b.lex,(.slice none 0 0),iv (w:Nat),g.1]) rfl ?_;refine g2 ?_;refine SW.go ?_;refine SW.dn ?_
  rotate_left
  focus
   refine St.cJ (.mk rfl) (.mk rfl) dL rfl (by rfl) ?_;refine g2 ?_;refine SW.go ?_;refine SW.t1 11 ?_;refine St.fp rfl (.ar rfl) bI dL eQ rfl rfl (by simp[Value.cells]) rfl rfl (λH=> ?_);refine g2 ?_;refine SW.go ?_;refine SW.gd 15 ?_;refine SW.gd 16 ?_;refine SW.slot 55 (.pointer (some ⟨j,1,none⟩)) rfl rfl ?_;refine SW.t1 17 ?_;refine St.cJ (.mk rfl) (.mk rfl) fE rfl (by rfl) ?_;refine St.mK j (L':=[iv Q,.slice (some ⟨H,0,none⟩) 1 1,iv b.rule,iv b.lex,(.slice none 0 0),iv (w:Nat),g.1]) rfl ?_;refine g2 ?_;refine SW.go ?_;refine SW.dn ?_
  all_goals
   refine g2 ?_;refine St.aM (.slice (some ⟨H,0,none⟩) 1 1) (show _=([1000+b.lex]:List Int).length from rfl) (show _=rows aI [1000+b.lex]from rfl) ?_;refine St.bR (.slice (some ⟨H,0,none⟩) 1 1) aI [1000+b.lex] rfl rfl (λz hz=>by rw[bO]at hz;subst hz;show aa _;unfold aa;omega) ?_;refine St.fact (br (.mk b.rule b.lex bT [])) (λρ _ _=>qc _ _ _) ?_;refine St.eY (hS (⟨⟨Q,⟨.slice (some ⟨H,0,none⟩) 1 1,rfl⟩,[1000+b.lex],.mk b.rule b.lex bT []⟩,w,g,ranks⟩)) (chL (⟨⟨Q,⟨.slice (some ⟨H,0,none⟩) 1 1,rfl⟩,[1000+b.lex],.mk b.rule b.lex bT []⟩,w,g,ranks⟩)) (λρ h=>h) ?_;refine g8 ?_;refine St.rV [_,_] (row (.slice (some ⟨l,0,none⟩) m0 p) 194 3 (L).length (rows fM (L))::aB (hS (⟨⟨Q,⟨.slice (some ⟨H,0,none⟩) 1 1,rfl⟩,[1000+b.lex],.mk b.rule b.lex bT []⟩,w,g,ranks⟩))::(bE (kK 71 196) L)) ?_;exact⟨L,⟨⟨Q,⟨.slice (some ⟨H,0,none⟩) 1 1,rfl⟩,[1000+b.lex],.mk b.rule b.lex bT []⟩,w,g,ranks⟩,true,by rw[EA P];unfold XA;rw[F];show(_,some (⟨⟨X.getD b.lex.toNat 0,_,_⟩,_,_⟩:jH))=_;rw[SX];rfl,rfl,rfl⟩
 ·have P:¬((⟨its.map cE,R,X⟩:cr).fy e w).rule<0:=by rw[F];show ¬b.rule<0;omega
  have Cx:=M.rule e w Y G P
  rw[F]at Cx;obtain⟨hrx,hk3,S,hkb⟩:=Cx
  have hrx:b.rule<R.length:=hrx
  have hk3:b.kids.length≤3:=hk3
  have S:∀k∈b.kids,k<(⟨its.map cE,R,X⟩:cr).its.length∧l3 (⟨its.map cE,R,X⟩:cr) k<l3 (⟨its.map cE,R,X⟩:cr) e:=S
  have hkb:nZ (⟨its.map cE,R,X⟩:cr) b.kids+1≤Dh (⟨its.map cE,R,X⟩:cr) e:=hkb
  have hbd:=M.bd e Y
  obtain⟨xr,hxr⟩:=aE (show b.rule.toNat<R.length by omega)
  have SX:R.getD b.rule.toNat 0=xr:=by rw[aw,hxr];rfl
  refine g3 ?_;refine St.da (aW j (.cells [iv 0,(.slice none 0 0),iv b.rule,iv b.lex,(.slice none 0 0),iv (w:Nat),g.1].toArray 196 (0,0))::(bE (kK 71 196) L)) mixed (λnp ns=> ?_);refine SW.gd 0 ?_;refine SW.gd 1 ?_;refine SW.gd 2 ?_;refine SW.dd 3 rfl (λ_=>Ev.qy (.mk rfl) bI trivial rfl) ?_;refine SW.gd 4 ?_;refine SW.gd 5 ?_;refine SW.dd 6 rfl (λ_=>Ev.cL (k:=b.rule.toNat) (.mk rfl) (.mk rfl) bI dL (by omega) (by omega)) ?_;refine SW.gd 7 ?_;refine SW.gd 8 ?_;refine SW.gd 9 ?_;refine SW.gd 11 ?_;refine SW.gd 12 ?_;refine SW.slot 69 (.pointer (some ⟨j,0,none⟩)) rfl rfl ?_;refine SW.t2 10 13 ?_ ?_
  focus
   refine St.fp rfl (.ar rfl) bI dL eQ rfl rfl (by simp[Value.cells]) rfl rfl (λs=> ?_);refine g2 ?_;refine SW.go ?_;refine SW.t1 13 ?_;refine St.cJ (.mk rfl) (.mk rfl) dL rfl (by rfl) ?_;refine g2 ?_;refine SW.go ?_;refine SW.gd 14 ?_;refine SW.gd 15 ?_;refine SW.slot 71 (.pointer (some ⟨j,1,none⟩)) rfl rfl ?_;refine SW.t1 16 ?_;refine St.cJ (.mk rfl) (.mk rfl) fE rfl (by rfl) ?_;refine St.mK j (L':=[iv xr,.slice (some ⟨s,0,none⟩) 1 1,iv b.rule,iv b.lex,(.slice none 0 0),iv (w:Nat),g.1]) rfl ?_;refine g2 ?_;refine SW.go ?_;refine SW.dn ?_
  rotate_left
  focus
   refine St.cJ (.mk rfl) (.mk rfl) dL rfl (by rfl) ?_;refine g2 ?_;refine SW.go ?_;refine SW.t1 10 ?_;refine St.fp rfl (.ar rfl) bI dL eQ rfl rfl (by simp[Value.cells]) rfl rfl (λs=> ?_);refine g2 ?_;refine SW.go ?_;refine SW.gd 14 ?_;refine SW.gd 15 ?_;refine SW.slot 71 (.pointer (some ⟨j,1,none⟩)) rfl rfl ?_;refine SW.t1 16 ?_;refine St.cJ (.mk rfl) (.mk rfl) fE rfl (by rfl) ?_;refine St.mK j (L':=[iv xr,.slice (some ⟨s,0,none⟩) 1 1,iv b.rule,iv b.lex,(.slice none 0 0),iv (w:Nat),g.1]) rfl ?_;refine g2 ?_;refine SW.go ?_;refine SW.dn ?_
  all_goals
   refine g11 ?_;refine St.aM (.slice (some ⟨s,0,none⟩) 1 1) (show _=([b.rule]:List Int).length from rfl) (show _=rows aI [b.rule]from rfl) ?_;refine St.e9 69 3 ?_;refine St.aM (.slice none 0 0) (show _=([]:List dE).length from rfl) (show _=rows dC []from rfl) ?_;refine St.dN br ?_
   have abN:=JR M Y G P
   have acT:FR (⟨its.map cE,R,X⟩:cr) e w=U2 b.rule b.lex ⟨xr,⟨.slice (some ⟨s,0,none⟩) 1 1,rfl⟩,[b.rule],bT,[]⟩:=by unfold FR;rw[F];show(⟨R.getD b.rule.toNat 0,_,_⟩:jq)=_;rw[SX];rfl
   rw[acT]at abN;refine St.lH (ι:=Nat×List jJ×AcD) (λ⟨k,i,a⟩ T=>(75,iv k)::T) (λ⟨k,i,a⟩=>(row a.cv.1 3 1 (a.code).length (rows aI (a.code))::row a.kv.1 69 3 (a.ts).length (rows dC (a.ts))::aW j (.cells [iv a.wt,a.cv.1,iv b.rule,iv b.lex,a.kv.1,iv (w:Nat),g.1].toArray 196 (0,0))::aB (aF br a.ts)::row (.slice (some ⟨l,0,none⟩) m0 p) 194 3 (i).length (rows fM (i))::aB (fO K [rv.1,xv.1,eC.1,(.slice (some ⟨l,0,none⟩) m0 p)])::aB (sl aI rv.1 R)::aB (sl aI xv.1 X)::aB (sl eB eC.1 its)::aB (aF cj its)::aB (sl aI g.1 (bW ranks))::aB (sl mH y.wv.1 y.cV)::aB (sl aI b.kv.1 (bW b.kids))::aW b8 (.cells [iv 0,(.slice none 0 0),iv 0,iv 0,(.slice none 0 0),iv 0,(.slice none 0 0)].toArray 196 (0,0))::aW b10 (.cells [iv b.rule,iv b.lex,b.kv.1].toArray 200 (0,0))::(bE (kK 71 196) i))) (λ⟨k,i,a⟩=>k≤b.kids.length∧jm (⟨its.map cE,R,X⟩:cr) (i.map fi)∧xj (1+nZ (⟨its.map cE,R,X⟩:cr) (b.kids.take k)) k (U2 b.rule b.lex a)∧vG (fh (⟨its.map cE,R,X⟩:cr) f) ((b.kids.zip ranks).drop k) (i.map fi) (U2 b.rule b.lex a)=vG (fh (⟨its.map cE,R,X⟩:cr) f) (b.kids.zip ranks) (L.map fi) (FR (⟨its.map cE,R,X⟩:cr) e w)) (λ⟨k,i,a⟩=>b.kids.length-k) ⟨0,L,⟨xr,⟨.slice (some ⟨s,0,none⟩) 1 1,rfl⟩,[b.rule],bT,[]⟩⟩ (aD.cons 0 rfl (aD.cons 3 rfl (aD.cons 8 rfl (aD.cons 11 rfl (aD.cons 73 rfl (aD.cons 74 rfl aD.nil)))))) ⟨aO _,J3,abN,by rw[acT];rfl⟩ ?_;rintro ⟨k,i,a⟩ ⟨hk,tc,I,t⟩
   dsimp only at hk tc I t⊢
   have am5:a.code.length≤1+nZ (⟨its.map cE,R,X⟩:cr) (b.kids.take k):=I.len
   have am6: -(1000000*(a.code.length:Int))≤a.wt∧a.wt≤1000000*(a.code.length:Int):=I.wt
   have ajG:(a.ts.map cx).length≤k:=I.n
   rw[aN]at ajG;refine g6 ?_;refine St.cq (λh76=> ?_) (λh76=> ?_)
   ·obtain⟨q,Z⟩:=aE (show k<b.kids.length by omega)
    obtain⟨rr,J1⟩:=aE (show k<ranks.length by omega);obtain⟨Lv,J0⟩:=S q (ae Z)
    have We:=hrk rr (ae J1)
    have Lv:q<its.length:=by have h:q<(its.map cE).length:=Lv;rwa[aN]at h
    have Gy:=(Cu M f).ok q rr (i.map fi) (by show q<(its.map cE).length;rw[aN];exact Lv) (by omega) (by omega) tc
    have hbt:=B9 (B:=(⟨its.map cE,R,X⟩:cr)) Z
    have hbl:nZ (⟨its.map cE,R,X⟩:cr) (b.kids.take (k+1))≤nZ (⟨its.map cE,R,X⟩:cr) b.kids:=RE _ _
    refine g8 ?_;refine St.ee (Ev.ld1 (.mk rfl) (gT Z) gG trivial rfl) ?_;refine g11 ?_;refine St.ee (Ev.ld1 (.mk rfl) (gT J1) gG trivial rfl) ?_;refine St.pQ (ds:=[fO K [rv.1,xv.1,eC.1,(.slice (some ⟨l,0,none⟩) m0 p)],sl aI rv.1 R,sl aI xv.1 X,sl eB eC.1 its,aF cj its]) (L:=[row (.slice (some ⟨l,0,none⟩) m0 p) 194 3 (i).length (rows fM (i))]) (X:=bE (kK 71 196) i) (post:=λv L' X'=>∃(A:List jJ) (d:xL) (o:Bool),fh (⟨its.map cE,R,X⟩:cr) f (i.map fi) q rr=(A.map fi,if o then some (mV d)else none)∧v= .tuple #[kU d,.bool o]∧L'=[row (.slice (some ⟨l,0,none⟩) m0 p) 194 3 (A).length (rows fM (A)),aB (oL d)]∧X'=bE (kK 71 196) A) ((SE q rr i Lv (by omega) (by omega) tc).mono (λv H' ⟨A,d,o,a1,a2,a3⟩=>⟨[_,_],_,a3,A,d,o,a1,a2,rfl,rfl⟩)) Zq (.eh rfl rfl rfl) rfl ?_;rintro v87 _ _ ⟨A,d,o,hgq,rfl,rfl,rfl⟩;refine St.dQ ?_;rw[hgq]at Gy;obtain⟨H7,_,AX⟩:=Gy
    have H7:jm (⟨its.map cE,R,X⟩:cr) (A.map fi):=H7
    refine g3 ?_;refine St.al (λML=> ?_);refine g11 ?_;refine St.cond _ rfl (λU=> ?_) (λU=> ?_)
    ·skip
     obtain rfl:o=false:=by simpa using U
     rw[G4 Z J1,vH,hgq]at t;refine g2 ?_;refine St.ee (Ev.build (bH.nil) (λw=>RA w)) ?_;refine St.slot 92 (.agg #[iv 0,(.slice none 0 0),iv 0,iv 0,(.slice none 0 0),iv 0,(.slice none 0 0)]) rfl rfl ?_;refine go ?_;refine St.fk aI ?_;refine St.fact (br (.mk 0 0 bT [])) (λρ _ _=>qc _ _ _) ?_;refine St.eY (hS zCh) [sl aI (.slice none 0 0) [],br (.mk 0 0 bT []),sl aI (.slice none 0 0) []] (λρ h=>h) ?_;refine g10 ?_;refine St.rV [_,_] (row (.slice (some ⟨l,0,none⟩) m0 p) 194 3 (A).length (rows fM (A))::aB (hS zCh)::(bE (kK 71 196) A)) ?_;exact⟨A,zCh,false,by rw[yV P,F];show(match vG (fh (⟨its.map cE,R,X⟩:cr) f) (b.kids.zip ranks) (L.map fi) (FR (⟨its.map cE,R,X⟩:cr) e w)with|(st,none)=>(st,none)|(st,some x)=>(st,some (⟨x,w,ranks⟩:jH)))=_;rw[←t];rfl,rfl,rfl⟩
    ·skip
     obtain rfl:o=true:=by simpa using U
     have AX:=AX (mV d) rfl
     have anC:d.code.length≤Dh (⟨its.map cE,R,X⟩:cr) q:=AX.len
     have anD: -(1000000*(d.code.length:Int))≤d.wt∧d.wt≤1000000*(d.code.length:Int):=AX.wt
     refine St.eY (sl aI d.cv.1 d.code) [oL d] (λρ h=>h (oL d) (aP ..) _ (aP ..)) ?_;refine St.eY (br d.tree) [oL d] (λρ h=>h (oL d) (aP ..) _ (cN _ (aP ..))) ?_;refine g12 ?_;refine St.slot 100 (.pointer (some ⟨j,0,none⟩)) rfl rfl ?_;refine St.cJ (.mk rfl) (.mk rfl) dL rfl (by rfl) ?_;refine g9 ?_;refine St.yI (.mk rfl) (.mk rfl) bI dL eQ xO (zR _ _) (by omega) (by omega) rfl rfl trivial rfl (λTk amG=> ?_);refine St.aeZ Tk 1 rfl ?_;refine St.aM Tk (show _=(a.code++d.code).length by rw[bN]) (show _=rows aI (a.code++d.code) by unfold rows;rw[Bx]) ?_;refine St.bZ Tk (λaaD _=> ?_);refine g2 ?_;refine St.slot 108 (.pointer (some ⟨j,1,none⟩)) rfl rfl ?_;refine St.cJ (.mk rfl) (.mk rfl) fE aaD (by rfl) ?_;refine g8 ?_;refine St.ee (Ev.iV 3 (.mk rfl) IB trivial pt rfl rfl) ?_;refine St.slot 114 (uM d.tree) rfl rfl ?_;refine St.fp rfl (.ar rfl) zw pt Ls rfl rfl (by simp[Value.cells]) rfl rfl (λamU=> ?_);refine St.aj (.mk rfl) (.mk rfl) zw pt Ls Vm (by intro u hu;exact dC.one d.tree u hu) (by omega) (by omega) rfl rfl rfl rfl (λV amI=> ?_);refine St.aM V (show _=(a.ts++ [d.tree]).length by rw[bN];rfl) (show _=rows dC (a.ts++ [d.tree]) by rw[ax];rfl) ?_;refine St.bZ V (λS6 _=> ?_);refine St.eY (aF br (a.ts++ [d.tree])) [aF br a.ts,br d.tree] (λρ h u hu=>by rcases cD.1 hu with hu|hu;exact h (aF br a.ts) (aP ..) u hu;rw[bO]at hu;subst hu;exact h (br d.tree) (cN _ (aP ..))) ?_;refine g3 ?_;refine St.slot 119 (.pointer (some ⟨j,4,none⟩)) rfl rfl ?_;refine St.cJ (.mk rfl) (.mk rfl) Xk S6 (by rfl) ?_;refine g8 ?_;refine St.aH ⟨k+1,A,⟨a.wt+d.wt,⟨Tk,aaD⟩,a.code++d.code,⟨V,S6⟩,a.ts++ [d.tree]⟩⟩ ⟨by omega,H7,by rw[Dt,B9 Z,←qi];exact Du I AX,by rw[Dt,←t,G4 Z J1,vH,hgq];rfl⟩
   ·obtain rfl:k=b.kids.length:=by omega
    rw[j6 (by rw[List.length_zip];omega)]at t;rw[jl]at I
    obtain⟨⟨C,E⟩,hv1⟩:∃z,z=a.cv:=⟨_,rfl⟩
    obtain⟨⟨J,W⟩,Wh⟩:∃z,z=a.kv:=⟨_,rfl⟩
    rw[←hv1,←Wh];refine St.bR C aI a.code rfl rfl (λz hz=>by have:=I.cd z hz;show aa _;unfold aa;omega) ?_;refine St.bR J dC a.ts rfl rfl (λz hz=> ?_) ?_
    ·have h:=(I.kids (cx z) (eN hz)).2
     rw[lA]at h
     have h: -1≤z.rule∧z.rule≤1000∧0≤z.lex∧z.lex≤1000:=h
     exact⟨by show aa _;unfold aa;omega,by show aa _;unfold aa;omega⟩
    refine St.eY (br (.mk b.rule b.lex ⟨J,W⟩ a.ts)) [sl dC J a.ts,aF br a.ts] (λρ h=>ot.mk (x:= .mk b.rule b.lex ⟨J,W⟩ a.ts) (h _ (aP ..)) (λy hy=>h (aF br a.ts) (cN _ (aP ..)) y hy)) ?_;refine St.eY (hS (⟨⟨a.wt,⟨C,E⟩,a.code,.mk b.rule b.lex ⟨J,W⟩ a.ts⟩,w,g,ranks⟩)) (chL (⟨⟨a.wt,⟨C,E⟩,a.code,.mk b.rule b.lex ⟨J,W⟩ a.ts⟩,w,g,ranks⟩)) (λρ h=>h) ?_;refine g8 ?_;refine St.sA (.mk rfl) (.mk rfl) ji ?_ (h1:=(by simp only[List.all_cons,List.all_nil,Bool.and_true,Bool.and_eq_true];exact⟨rfl,E,rfl,rfl,W,rfl,g.2⟩));refine g4 ?_;refine St.rV [_,_] (row (.slice (some ⟨l,0,none⟩) m0 p) 194 3 (i).length (rows fM (i))::aB (hS (⟨⟨a.wt,⟨C,E⟩,a.code,.mk b.rule b.lex ⟨J,W⟩ a.ts⟩,w,g,ranks⟩))::(bE (kK 71 196) i)) ?_;exact⟨i,⟨⟨a.wt,⟨C,E⟩,a.code,.mk b.rule b.lex ⟨J,W⟩ a.ts⟩,w,g,ranks⟩,true,by rw[yV P,F];show(match vG (fh (⟨its.map cE,R,X⟩:cr) f) (b.kids.zip ranks) (L.map fi) (FR (⟨its.map cE,R,X⟩:cr) e w)with|(st,none)=>(st,none)|(st,some x)=>(st,some (⟨x,w,ranks⟩:jH)))=_;rw[←t];show(_,some (⟨U2 b.rule b.lex a,w,ranks⟩:jH))=_;unfold U2;rw[←Fm];rfl,rfl,rfl⟩
end Go.Proofs.YtblifkgpebebmaaGreatDoor
