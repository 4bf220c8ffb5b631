/-
  Laws of walks through programs, and facts on grammars, trees and queries.
  Conditions: none.
-/
import Derived.Test.YtblifkgpebebmaaGreatDoorGB7
import Derived.Shelf.SlSortCmp.NoneTotal
set_option maxHeartbeats 4000000
set_option maxRecDepth 20000
set_option linter.unusedVariables false
set_option linter.unusedSimpArgs false
namespace Go.Proofs.YtblifkgpebebmaaGreatDoor
open Go Go.J Tryz
def jF:Rp dD:=⟨1,by decide,λx=>[x.nv.1],λ_=>True,λ_=>rfl,λx u h=>by simp at h;subst h;exact x.nv.2⟩
instance (x:dD):j7 jF x [x.nv.1]:=⟨rfl⟩
def Af (mt:Nat→Nat→Option Nat)(r:sm)(M:List e8)(j:Nat):List Bool:=if(j:Int)<r.kids then M.map λy=>(dT mt r.graph (rX r.graph ((j:Int)+1)).toNat y).isSome else []
structure wE (f:kz)(g:fj)(mt:Nat→Nat→Option Nat):Prop where
 nr:f.nr=g.rules.length
 nl:f.nl=g.aN.length
 kids:f.kids=g.rules.map (·.kids)
 al:f.rJ.length=g.rules.length
 at_:∀(r:Nat) (x:rF) (rr:sm),f.rJ[r]?=some x→g.rules[r]?=some rr→∀j,j<3→(x.at_ j).2=Af mt rr (HV g) j
theorem Em (g:fj):(HV g).length=g.rules.length+g.aN.length:=by unfold HV;rw[bR,aO,aO]
theorem wE.ln {f:kz}{g:fj}{mt:Nat→Nat→Option Nat}(h:wE f g mt)(e:g.rules.length≤1000)(i:g.aN.length≤1000)(hk:∀r∈g.rules,r.kids≤3):yA f:=by
 refine⟨by rw[h.nr];exact e,by rw[h.nl];exact i,by rw[h.kids,aO,h.nr],by rw[h.al,h.nr],λk hm=> ?_,λr x k j hx a d=> ?_⟩
 ·rw[h.kids]at hm
  obtain⟨rr,c,rfl⟩:=dC.1 hm;exact hk rr c
 ·rw[h.kids,bQ]at a
  cases b:g.rules[r]? with
  |none=>rw[b]at a;cases a
  |some rr=>
   rw[b]at a;obtain rfl:=Option.some.inj a
   have m:=hk rr (aZ b)
   have l:(j:Int)<rr.kids:=d
   rw[h.at_ r x rr hx b j (by omega)];unfold Af;rw[aC d,aO,Em,h.nr,h.nl]
theorem zJ {f:kz}{g:fj}{mt:Nat→Nat→Option Nat}(h:wE f g mt)(top:Int):pq f.nr f.nl top=Hb g top:=by unfold pq Hb;rw[h.nr,h.nl]
theorem ME {f:kz}{g:fj}{mt:Nat→Nat→Option Nat}(h:wE f g mt)(hk:∀r∈g.rules,r.kids≤3):q9 f=VZ g mt:=by
 funext rule a top
 unfold q9 VZ;rw[zJ h]
 rcases Decidable.em (0≤Hb g top)with h1|h1
 case inr=>rw[fI h1];simp only[Bool.false_and]
 rcases Decidable.em (1≤a)with d|d
 case inr=>rw[fI d];simp only[Bool.false_and,Bool.and_false]
 rw[eB h1,eB d]
 rcases eP rule g.rules.length with b|b
 case inr=>
  have e:f.kids.getD rule 0=0:=by rw[aw,ij (by rw[h.kids,aO];exact b)];rfl
  rw[e,fI (show ¬((a:Int)≤0) by omega),fI (show ¬rule<g.rules.length by omega)]
  simp only[Bool.false_and,Bool.and_false]
 obtain⟨rr,c⟩:=aE b;obtain⟨x,hx⟩:=aE (show rule<f.rJ.length by rw[h.al];exact b)
 have k:f.kids.getD rule 0=rr.kids:=by rw[h.kids,aw,bQ,c];rfl
 have e2:g.rules.getD rule oP=rr:=by rw[aw,c];rfl
 have l:f.rJ.getD rule Va=x:=by rw[aw,hx];rfl
 rw[k,e2,l,eB b]
 rcases Decidable.em ((a:Int)≤rr.kids)with i|i
 case inr=>rw[fI i];simp only[Bool.false_and,Bool.and_false]
 rw[eB i]
 have n:=hk rr (aZ c)
 obtain⟨j,rfl⟩:∃j,a=j+1:=⟨a-1,by omega⟩
 have m:=h.at_ rule x rr hx c j (by omega)
 have hp:=JL (nr:=f.nr) (nl:=f.nl) (top:=top) (by rw[zJ h];exact h1)
 rw[zJ h]at hp
 show(true&&true&&true&&((x.at_ j).2.getD (Hb g top).toNat false))=(true&&true&&true&&true&&_)
 rw[m];unfold Af;rw[aC (show(j:Int)<rr.kids by omega)]
 simp only[Bool.true_and]
 rw[aw,aw,bQ];obtain⟨y,hy⟩:=aE (show(Hb g top).toNat<(HV g).length by rw[Em,←h.nr,←h.nl];exact hp);rw[hy]
 show(dT mt rr.graph (rX rr.graph ((j:Int)+1)).toNat y).isSome=(dT mt rr.graph (rX rr.graph ((j+1:Nat):Int)).toNat y).isSome
 rw[show((j+1:Nat):Int)=(j:Int)+1 by push_cast;rfl]
def DY (s:List Bool):Nat:=s.countP λb=> !b
theorem Pr {s:List Bool}{o:Nat}(h:s[o]?=some false):DY (s.set o true)+1=DY s:=by
 unfold DY
 induction s generalizing o with
 |nil=>cases h
 |cons b s a=>
  cases o with
  |zero=>obtain rfl:=Option.some.inj h;rw[sG,s7,s7];simp
  |succ o=>
   rw[wm,s7,s7]
   have:=a (o:=o) h
   omega
theorem Pq (n:Nat):DY (List.replicate n false)=n:=by
 unfold DY
 induction n with
 |zero=>rfl
 |succ n a=>rw[List.replicate_succ,s7,a];rfl
abbrev Ca:aV×List Bool:=(bT,[])
def bG (a:TypeId)(p:aV×List Bool):List ak:=[row p.1.1 a 1 p.2.length (rows eK p.2)]
def bD (p:aV×List Bool):du:=sl eK p.1.1 p.2
theorem Vc {c:Ctx}(b:TypeId)(a:aV×List Bool)(H:List ak)(w:World)(h:Mm c (bG b a++H) w):Mm c (aB (bD a)::H) w:=by
 obtain⟨ρ,k⟩:=h.out;exact k.bS eK a.2 rfl rfl (λ_ _=>trivial)
def yP (P:List (aV×List Bool)):rF:=⟨(P.getD 0 Ca).1,(P.getD 1 Ca).1,(P.getD 2 Ca).1,(P.getD 0 Ca).2,(P.getD 1 Ca).2,(P.getD 2 Ca).2⟩
theorem MG (P:List (aV×List Bool)){j:Nat}(h:j<3):(yP P).at_ j=P.getD j Ca:=by
 rcases j with _|_|_|j
 ·rfl
 ·rfl
 ·rfl
 ·omega
theorem Ou {l:List Bool}{k:Nat}{x:Bool}(h:l[k]?=some x):(rows eK l)[k*1+0]?=some (.bool x):=by
 have:=eO eK l k 0 x h (by decide)
 exact this
theorem LM (l:List Bool)(k:Nat)(x:Bool):(rows eK l).set (k*1+0) (.bool x)=rows eK (l.set k x):=by
 rw[gZ,j5];exact BX (Rr:=eK) rfl rfl l k
theorem yk (a:Nat)(b c:aV)(T:List eo)(d:ir T)(nf:Nat)(e:nf≤100)(x y:dD)(hx:e9 T.length nf (ax x))(hy:e9 T.length nf (ax y))(f:x.nodes.length≤60)(g:y.nodes.length≤60)(node:Nat)(i:node<x.nodes.length):
 eE prog 119 ([bA x,iv (node:Nat),bA y]++ [Value.pointer (some ⟨a,0,none⟩)]).toArray [fM a [b.1,c.1],sl bI b.1 (dg T),sl bI c.1 (de T),tz,aG x,aG y] (.bool (dT (hC T) (ax x) node (ax y)).isSome):=(Kd a b c T d nf e x y hx hy f g node i).mono λ_ _ h=>h.1
theorem Qh (g:gW)(s t:aV)(T:List eo)(hT:ir T)(nf:Nat)(Kn:nf≤100)(hrn:g.rules.length≤40)(hxn:g.aN.length≤100)(hru:∀r∈g.rules,(1≤r.kids∧r.kids≤3)∧e9 T.length nf (ax r.graph)∧r.graph.nodes.length≤60)(WW:∀x∈g.aN,e9 T.length nf (ax x.graph)∧x.graph.nodes.length≤60)(J3:e9 T.length nf (ax g.start)∧g.start.nodes.length≤60)
 (GG:∀r∈g.rules,∀k:Int,0≤k→k≤r.kids→0≤rX (ax r.graph) k):dz prog 88 #[fG g,kB s t] ([sl cT g.rv.1 g.rules,aF bz g.rules,sl e7 g.xv.1 g.aN,aF eR g.aN,aG g.start,sl bI s.1 (dg T),sl bI t.1 (de T),tz].map aB) (λv H'=>∃f:kz,v=Kc f∧wE f (bZ g) (hC T)∧H'=[aB (hY f)]):=by
 refine dz.body (args:=[fG g,kB s t]) 196 func88 rfl ntmps88 rfl (λc=> ?_);refine St.cast (H':=[aB (sl cT g.rv.1 g.rules),aB (aF bz g.rules),aB (sl e7 g.xv.1 g.aN),aB (aF eR g.aN),aB (aG g.start),aB (sl bI s.1 (dg T)),aB (sl bI t.1 (de T)),aB (tz)]) rfl ?_
 have hrn:g.rules.length≤40:=hrn
 have YK:=zD T
 have Cz:∀(i:Nat) (r:ca),g.rules[i]?=some r→(1≤r.kids∧r.kids≤3)∧e9 T.length nf (ax r.graph)∧r.graph.nodes.length≤60:=λi r h=>by have h1:=hru r (aZ h);exact h1
 have WV:∀(i:Nat) (x:eZ),g.aN[i]?=some x→e9 T.length nf (ax x.graph)∧x.graph.nodes.length≤60:=λi x h=>WW x (aZ h)
 refine g2 ?_;refine St.dJ (.mk rfl) rfl (λb2=> ?_);refine St.dJ (.mk rfl) rfl (λR=> ?_);refine St.al (λb4=> ?_);refine g10 ?_;refine St.ee (Ev.build (bH.aX rfl rfl) (λw=>Gf rfl rfl w)) ?_;refine St.slot 33 (.agg #[iv (g.rules.length:Nat),iv (g.aN.length:Nat),(.slice none 0 0),(.slice none 0 0),(.slice none 0 0),(.slice none 0 0)]) rfl rfl ?_;refine St.al (λb5=> ?_);refine g18 ?_;refine St.dw 30 1 ?_;refine St.aM (.slice none 0 0) (show _=([]:List dD).length from rfl) (show _=rows jF []from rfl) ?_;refine St.dN aG ?_;refine St.lH (ι:=Nat×aV×List dD) (λ⟨i,v,M⟩ T=>(37,iv i)::(6,v.1)::T) (λ⟨i,v,M⟩=>(row v.1 30 1 (M).length (rows jF (M))::aB (aF aG (M))::aW b2 (.cells (jG g).toArray 32 (0,0))::aW R (.cells [s.1,t.1].toArray 100 (0,0))::aW b4 (.cells [iv 0,iv 0,(.slice none 0 0),(.slice none 0 0),(.slice none 0 0),(.slice none 0 0)].toArray 174 (0,0))::aW b5 (.cells [iv (g.rules.length:Nat),iv (g.aN.length:Nat),bT.1,bT.1,bT.1,bT.1].toArray 174 (0,0))::aB (sl cT g.rv.1 g.rules)::aB (aF bz g.rules)::aB (sl e7 g.xv.1 g.aN)::aB (aF eR g.aN)::aB (aG g.start)::aB (sl bI s.1 (dg T))::aB (sl bI t.1 (de T))::aB tz::[])) (λ⟨i,v,M⟩=>i≤g.rules.length∧M.map ax=(g.rules.take i).map (λr=>mA (ax r.graph))∧(∀y∈M,e9 T.length nf (ax y)∧y.nodes.length≤60)) (λ⟨i,v,M⟩=>g.rules.length-i) ⟨0,bT,[]⟩ (aD.cons 2 rfl (aD.cons 3 rfl (aD.cons 4 rfl (aD.cons 5 rfl (aD.cons 35 rfl (aD.cons 36 rfl aD.nil)))))) ⟨aP _,rfl,λ_ h=>by cases h⟩ ?_;rintro ⟨i,v,M⟩ ⟨hi,U,C⟩
 dsimp only at hi U C⊢
 have hMl:M.length=i:=by have:=congrArg List.length U;rw[aO,aO,eU]at this;omega
 refine g6 ?_;refine St.cq (λh38=> ?_) (λh38=> ?_)
 ·obtain⟨r,D⟩:=aE (show i<g.rules.length by omega)
  obtain⟨hk,H5,AA⟩:=Cz i r D
  have Wg:=gO H5 Kn
  refine St.cL bz g.rules (x:=r) (aZ D) ?_;refine St.ea (aG r.graph) [bz r] (λρ h=>h (bz r) (aQ ..) (aG r.graph) (aQ ..)) ?_;refine g7 ?_;refine St.ee (Ev.js (.mk rfl) D uR trivial kV j7.eq) ?_;refine St.al (λb8=> ?_);refine St.sA (.mk rfl) (.mk rfl) kV ?_ (h1:=(eY.2 λu hu=>cT.one r u hu));refine g5 ?_;refine St.ee (Ev.iU 1 (.mk rfl) mm trivial jU rfl rfl) ?_;refine St.slot 43 (bA r.graph) rfl rfl ?_;refine St.ae (pz r.graph T.length nf Kn H5 (by omega) (GG r (aZ D) 0 (by omega) (by omega))) Md (.ar rfl) rfl ?_;rintro v44 _ rfl;refine St.ao ?_;refine St.bL (mA (ax r.graph)) v44 (λmy hm=> ?_);obtain⟨rfl,Ug⟩:=hm;obtain⟨m1,m2⟩:=qR H5 (by rw[cy];exact AA);rw[←Ug]at m1 m2;rw[cy]at m2;refine St.gV rfl (.ar rfl) Bp jU Tu rfl rfl (by intro u hu;simp only[List.mem_cons,List.not_mem_nil,or_false]at hu;subst hu;rfl) rfl rfl (λb45=> ?_);refine St.aj (.mk rfl) (.mk rfl) Bp jU Tu ZB (by intro u hu;have SN:u∈[my.nv.1]:=hu;rw[bP.1 SN];exact my.nv.2) (by omega) (by omega) rfl rfl rfl rfl (λv46 anR=> ?_);refine St.aM v46 (show _=(M++ [my]).length from cS) (show _=rows jF (M++ [my]) by rw[ay];rfl) ?_;refine St.ba v46 (λh46 _=> ?_);refine St.ea (aF aG (M++ [my])) [aF aG M,aG my] (λρ h x hx=>by rcases cG.1 hx with hx|hx;exact h _ (aQ ..) x hx;rw[bP.1 hx];exact h _ (cO _ (aQ ..))) ?_;refine g9 ?_;refine St.aH ⟨i+1,⟨v46,h46⟩,M++ [my]⟩ ⟨by omega,by rw[cP,U,ag D,cP];show _++ [ax my]=_++ [mA (ax r.graph)];rw[Ug],λy hy=>by rcases cG.1 hy with hy|hy;exact C y hy;rw[bP.1 hy];exact⟨m1,m2⟩⟩
 ·obtain rfl:i=g.rules.length:=by omega
  rw[jY]at U;refine g15 ?_;refine St.lH (ι:=Nat×aV×List dD) (λ⟨i,v,M⟩ T=>(51,iv i)::(6,v.1)::T) (λ⟨i,v,M⟩=>(row v.1 30 1 (M).length (rows jF (M))::aB (aF aG (M))::aW b2 (.cells (jG g).toArray 32 (0,0))::aW R (.cells [s.1,t.1].toArray 100 (0,0))::aW b4 (.cells [iv 0,iv 0,(.slice none 0 0),(.slice none 0 0),(.slice none 0 0),(.slice none 0 0)].toArray 174 (0,0))::aW b5 (.cells [iv (g.rules.length:Nat),iv (g.aN.length:Nat),bT.1,bT.1,bT.1,bT.1].toArray 174 (0,0))::aB (sl cT g.rv.1 g.rules)::aB (aF bz g.rules)::aB (sl e7 g.xv.1 g.aN)::aB (aF eR g.aN)::aB (aG g.start)::aB (sl bI s.1 (dg T))::aB (sl bI t.1 (de T))::aB tz::[])) (λ⟨i,v,M⟩=>i≤g.aN.length∧M.map ax=g.rules.map (λr=>mA (ax r.graph))++(g.aN.take i).map (λx=>ax x.graph)∧(∀y∈M,e9 T.length nf (ax y)∧y.nodes.length≤60)) (λ⟨i,v,M⟩=>g.aN.length-i) ⟨0,v,M⟩ (aD.cons 2 rfl (aD.cons 3 rfl (aD.cons 4 rfl (aD.cons 5 rfl (aD.cons 49 rfl (aD.cons 50 rfl aD.nil)))))) ⟨aP _,by rw[U,A9,lh,gu],C⟩ ?_;rintro ⟨i,v,M⟩ ⟨hi,U,C⟩
  dsimp only at hi U C⊢
  have hMl:M.length=g.rules.length+i:=by have:=congrArg List.length U;rw[aO,bR,aO,aO,eU]at this;omega
  refine g6 ?_;refine St.cq (λh52=> ?_) (λh52=> ?_)
  ·obtain⟨x,hx⟩:=aE (show i<g.aN.length by omega)
   obtain⟨H5,AA⟩:=WV i x hx;refine St.cL eR g.aN (x:=x) (aZ hx) ?_;refine St.ea (aG x.graph) [eR x] (λρ h=>h (eR x) (aQ ..) (aG x.graph) (aQ ..)) ?_;refine g7 ?_;refine St.ee (Ev.js (.mk rfl) hx zw trivial nT j7.eq) ?_;refine St.al (λb10=> ?_);refine St.sA (.mk rfl) (.mk rfl) nT ?_ (h1:=(eY.2 λu hu=>e7.one x u hu));refine g5 ?_;refine St.ee (Ev.iU 1 (.mk rfl) mm trivial jU rfl rfl) ?_;refine St.slot 57 (bA x.graph) rfl rfl ?_;refine St.gV rfl (.ar rfl) Bp jU Tu rfl rfl (by intro u hu;simp only[List.mem_cons,List.not_mem_nil,or_false]at hu;subst hu;rfl) rfl rfl (λb58=> ?_);refine St.aj (.mk rfl) (.mk rfl) Bp jU Tu ZB (by intro u hu;have SN:u∈[x.graph.nv.1]:=hu;rw[bP.1 SN];exact x.graph.nv.2) (by omega) (by omega) rfl rfl rfl rfl (λv59 anU=> ?_);refine St.aM v59 (show _=(M++ [x.graph]).length from cS) (show _=rows jF (M++ [x.graph]) by rw[ay];rfl) ?_;refine St.ba v59 (λh59 _=> ?_);refine St.ea (aF aG (M++ [x.graph])) [aF aG M,aG x.graph] (λρ h x hx=>by rcases cG.1 hx with hx|hx;exact h _ (aQ ..) x hx;rw[bP.1 hx];exact h _ (cO _ (aQ ..))) ?_;refine g9 ?_;refine St.aH ⟨i+1,⟨v59,h59⟩,M++ [x.graph]⟩ ⟨by omega,by rw[cP,U,ag hx,cP,dq];rfl,λy hy=>by rcases cG.1 hy with hy|hy;exact C y hy;rw[bP.1 hy];exact⟨H5,AA⟩⟩
  ·obtain rfl:i=g.aN.length:=by omega
   rw[jY]at U
   have hMg:M.map ax=HV (bZ g):=by rw[U];unfold HV bZ;simp only[List.map_map];rfl
   obtain⟨⟨mv,hmv⟩,Wi⟩:∃z,z=v:=⟨v,rfl⟩
   subst Wi;refine St.bS mv jF M rfl rfl (λ_ _=>trivial) ?_;refine St.vW R ?_;refine g7 ?_;refine St.ee (Ev.func (.ar rfl)) ?_;refine g13 ?_;refine St.dw 3 1 ?_;refine St.aM (.slice none 0 0) (show _=([]:List Int).length from rfl) (show _=rows aJ []from rfl) ?_;refine St.dw 234 3 ?_;refine St.aM (.slice none 0 0) (show _=([]:List rF).length from rfl) (show _=rows sN []from rfl) ?_;refine St.dN na ?_;refine St.lH (ι:=Nat×aV×List Int×aV×List rF) (λ⟨i,kv,l,av,d⟩ T=>(65,iv i)::T) (λ⟨i,kv,l,av,d⟩=>(row kv.1 3 1 (l).length (rows aJ (l))::row av.1 234 3 (d).length (rows sN (d))::aB (aF na d)::aW b5 (.cells [iv (g.rules.length:Nat),iv (g.aN.length:Nat),kv.1,av.1,bT.1,bT.1].toArray 174 (0,0))::aB (sl cT g.rv.1 g.rules)::aB (aF bz g.rules)::aB (sl e7 g.xv.1 g.aN)::aB (aF eR g.aN)::aB (aG g.start)::aB (sl bI s.1 (dg T))::aB (sl bI t.1 (de T))::aB tz::aW b2 (.cells (jG g).toArray 32 (0,0))::aW b4 (.cells [iv 0,iv 0,(.slice none 0 0),(.slice none 0 0),(.slice none 0 0),(.slice none 0 0)].toArray 174 (0,0))::aB (fM R [s.1,t.1])::aB (sl jF mv M)::aB (aF aG M)::[])) (λ⟨i,kv,l,av,d⟩=>i≤g.rules.length∧l=(g.rules.take i).map (·.kids)∧d.length=i∧∀(k:Nat) (x:rF) (r:ca),d[k]?=some x→g.rules[k]?=some r→∀j,j<3→(x.at_ j).2=Af (hC T) (lK r) (M.map ax) (j)) (λ⟨i,kv,l,av,d⟩=>g.rules.length-i) ⟨0,bT,[],bT,[]⟩ (aD.cons 2 rfl (aD.cons 4 rfl (aD.cons 5 rfl (aD.cons 6 rfl (aD.cons 11 rfl (aD.cons 63 rfl (aD.cons 64 rfl aD.nil))))))) ⟨aP _,rfl,rfl,λ_ _ _ h=>by cases h⟩ ?_;rintro ⟨i,kv,l,av,d⟩ ⟨hi,P,V,hAL⟩
   dsimp only at hi P V hAL⊢
   have hKl:l.length=i:=by rw[P,aO,eU];omega
   refine g6 ?_;refine St.cq (λh66=> ?_) (λh66=> ?_)
   ·obtain⟨r,D⟩:=aE (show i<g.rules.length by omega)
    obtain⟨hk,H5,AA⟩:=Cz i r D
    have Wg:=gO H5 Kn
    refine St.cL bz g.rules (x:=r) (aZ D) ?_;refine St.ea (aG r.graph) [bz r] (λρ h=>h (bz r) (aQ ..) (aG r.graph) (aQ ..)) ?_;refine g7 ?_;refine St.ee (Ev.js (.mk rfl) D uR trivial kV j7.eq) ?_;refine St.al (λb13=> ?_);refine St.sA (.mk rfl) (.mk rfl) kV ?_ (h1:=(eY.2 λu hu=>cT.one r u hu));refine g4 ?_;refine St.al (λQQ=> ?_);refine St.mN QQ ([Ca,Ca,Ca].map λp:aV×List Bool=>p.1.1) rfl ?_;refine St.dw 4 1 ?_;refine St.dw 4 1 ?_;refine St.dw 4 1 ?_;refine St.mj [row (.slice none 0 0) 4 1 0 [],row (.slice none 0 0) 4 1 0 [],row (.slice none 0 0) 4 1 0 []] [] (bF (bG 4) ([Ca,Ca,Ca])) (List.Perm.refl _) ?_;refine g11 ?_;refine St.lH (ι:=Nat×List (aV×List Bool)) (λ⟨k,Q⟩ T=>(71,iv k)::T) (λ⟨k,Q⟩=>(aW QQ (.cells ((Q).map λp=>p.1.1).toArray 234 (0,0))::aW b13 (.cells (zW r).toArray 110 (0,0))::row kv.1 3 1 (l).length (rows aJ (l))::row av.1 234 3 (d).length (rows sN (d))::aB (aF na d)::aW b5 (.cells [iv (g.rules.length:Nat),iv (g.aN.length:Nat),kv.1,av.1,bT.1,bT.1].toArray 174 (0,0))::aB (aG r.graph)::aB (sl cT g.rv.1 g.rules)::aB (aF bz g.rules)::aB (sl e7 g.xv.1 g.aN)::aB (aF eR g.aN)::aB (aG g.start)::aB (sl bI s.1 (dg T))::aB (sl bI t.1 (de T))::aB tz::aW b2 (.cells (jG g).toArray 32 (0,0))::aW b4 (.cells [iv 0,iv 0,(.slice none 0 0),(.slice none 0 0),(.slice none 0 0),(.slice none 0 0)].toArray 174 (0,0))::aB (fM R [s.1,t.1])::aB (sl jF mv M)::aB (aF aG M)::bF (bG 4) (Q))) (λ⟨k,Q⟩=>(k:Int)≤r.kids∧Q.length=3∧∀j,j<3→(Q.getD j Ca).2=if j<k then Af (hC T) (lK r) (M.map ax) (j)else []) (λ⟨k,Q⟩=>3-k) ⟨0,[Ca,Ca,Ca]⟩ (aD.cons 2 rfl (aD.cons 4 rfl (aD.cons 5 rfl (aD.cons 6 rfl (aD.cons 11 rfl (aD.cons 13 rfl (aD.cons 14 rfl (aD.cons 63 rfl (aD.cons 64 rfl (aD.cons 65 rfl (aD.cons 70 rfl aD.nil))))))))))) ⟨by omega,rfl,λj S=>by rw[aA (Nat.not_lt_zero _)];rcases j with _|_|_|j;rfl;rfl;rfl;omega⟩ ?_;rintro ⟨k,Q⟩ ⟨hk3,F,hQ⟩
    dsimp only at hk3 F hQ⊢
    refine g6 ?_;refine St.cq (λh72=> ?_) (λh72=> ?_)
    ·obtain⟨nd,Km⟩:∃nd:Nat,nd=(rX (ax r.graph) ((k:Int)+1)).toNat:=⟨_,rfl⟩
     have anG:=GG r (aZ D) ((k:Int)+1) (by omega) (by omega)
     have aj1:=zo H5 ((k:Int)+1)
     rw[←Km,cy]at aj1
     have hLk:Af (hC T) (lK r) (M.map ax) (k)=M.map (λy:dD=>(dT (hC T) (ax r.graph) nd (ax y)).isSome):=by unfold Af;rw[aC (show(k:Int)<(lK r).kids from h72),kH,show(lK r).graph=ax r.graph from rfl,←Km];rfl
     refine g13 ?_;refine St.ee (Ev.iU 1 (.mk rfl) mm trivial jU rfl rfl) ?_;refine St.slot 75 (bA r.graph) rfl rfl ?_;refine g2 ?_;refine St.slot 77 (iv ((k:Int)+1)) rfl rfl ?_;refine St.ee (Ev.call (nF r.graph 0 ((k:Int)+1) (by have:=H5.pos;rw[cy]at this;omega) (λn hn=>⟨(Wg n hn).1,by have:=(Wg n hn).2;omega⟩)) Ib (.ek rfl rfl rfl)) ?_;refine St.slot 78 (iv (nd:Nat)) rfl (congrArg iv (by rw[zp];omega)) ?_;refine g11 ?_;refine St.lH (ι:=Nat×List (aV×List Bool)) (λ⟨m,Q⟩ T=>(81,iv m)::T) (λ⟨m,Q⟩=>(aW QQ (.cells ((Q).map λp=>p.1.1).toArray 234 (0,0))::aW b13 (.cells (zW r).toArray 110 (0,0))::row kv.1 3 1 (l).length (rows aJ (l))::row av.1 234 3 (d).length (rows sN (d))::aB (aF na d)::aW b5 (.cells [iv (g.rules.length:Nat),iv (g.aN.length:Nat),kv.1,av.1,bT.1,bT.1].toArray 174 (0,0))::aB (aG r.graph)::aB (sl cT g.rv.1 g.rules)::aB (aF bz g.rules)::aB (sl e7 g.xv.1 g.aN)::aB (aF eR g.aN)::aB (aG g.start)::aB (sl bI s.1 (dg T))::aB (sl bI t.1 (de T))::aB tz::aW b2 (.cells (jG g).toArray 32 (0,0))::aW b4 (.cells [iv 0,iv 0,(.slice none 0 0),(.slice none 0 0),(.slice none 0 0),(.slice none 0 0)].toArray 174 (0,0))::aB (fM R [s.1,t.1])::aB (sl jF mv M)::aB (aF aG M)::bF (bG 4) (Q))) (λ⟨m,Q⟩=>m≤M.length∧Q.length=3∧∀j,j<3→(Q.getD j Ca).2=if j<k then Af (hC T) (lK r) (M.map ax) (j)else if j=k then(M.take m).map (λy:dD=>(dT (hC T) (ax r.graph) nd (ax y)).isSome)else []) (λ⟨m,Q⟩=>M.length-m) ⟨0,Q⟩ (aD.cons 2 rfl (aD.cons 4 rfl (aD.cons 5 rfl (aD.cons 6 rfl (aD.cons 11 rfl (aD.cons 13 rfl (aD.cons 14 rfl (aD.cons 15 rfl (aD.cons 16 rfl (aD.cons 63 rfl (aD.cons 64 rfl (aD.cons 65 rfl (aD.cons 70 rfl (aD.cons 71 rfl (aD.cons 79 rfl (aD.cons 80 rfl aD.nil)))))))))))))))) ⟨aP _,F,λj S=>by rw[hQ j S];split;rfl;split;rfl;rfl⟩ ?_;rintro ⟨m,Q⟩ ⟨hm,F,hQ⟩
     dsimp only at hm F hQ⊢
     refine g6 ?_;refine St.cq (λh82=> ?_) (λh82=> ?_)
     ·obtain⟨y,hy⟩:=aE (show m<M.length by omega)
      obtain⟨hgy,hly⟩:=C y (aZ hy);obtain⟨q,hq⟩:=aE (show k<Q.length by omega)
      have hqd:Q.getD k Ca=q:=by rw[aw,hq];rfl
      have J0:q.2=(M.take m).map (λy:dD=>(dT (hC T) (ax r.graph) nd (ax y)).isSome):=by rw[←hqd,hQ k (by omega),aA (Nat.lt_irrefl _),aC rfl]
      have ab8:q.2.length=m:=by rw[J0,aO,eU];omega
      refine St.ea (aG y) [aF aG M] (λρ h=>h _ (aQ ..) y (aZ hy)) ?_;refine g7 ?_;refine St.ee (Ev.js (.mk rfl) hy mm trivial jU j7.eq) ?_;refine St.al (λb18=> ?_);refine St.sA (.mk rfl) (.mk rfl) jU ?_ (h1:=(by simp only[jF,List.all_cons,List.all_nil,Bool.and_true];exact y.nv.2));refine g2 ?_;refine St.tail (bF (bG 4) (Q)) (row q.1.1 4 1 (q.2).length (rows eK (q.2))::bF (bG 4) (Q.eraseIdx k)) (nK _ hq) ?_;refine St.dc (aW QQ (.cells ((Q).map λp=>p.1.1).toArray 234 (0,0))::row q.1.1 4 1 (q.2).length (rows eK (q.2))::bF (bG 4) (Q.eraseIdx k)) mixed (λnp ns=> ?_);refine SW.gd 0 ?_;refine SW.gd 1 ?_;refine SW.dd 2 rfl (λ_=>Ev.HG (k:=k) (.mk rfl) (.mk rfl) zx qW rfl (by omega)) ?_;refine SW.gd 4 ?_;refine SW.gd 5 ?_;refine SW.dd 6 rfl (λ_=>Ev.iU 1 (.mk rfl) mm trivial jU rfl rfl) ?_;refine SW.slot 91 (bA r.graph) rfl rfl ?_;refine SW.gd 7 ?_;refine SW.gd 8 ?_;refine SW.slot 93 (bA y) rfl rfl ?_;refine SW.dd 9 rfl (λ_=>Ev.ei (yk R s t T hT nf Kn r.graph y H5 hgy AA hly nd (by omega)) UB (.mk rfl) (.ek rfl rfl rfl)) ?_;refine SW.t2 3 10 ?_ ?_
      focus
       refine St.ee (Ev.ke (.mk rfl) jl trivial (show(Q.map λp=>p.1.1)[k]?=some q.1.1 by rw[bQ,hq];rfl)) ?_;refine g2 ?_;refine SW.go ?_;refine SW.t1 10 ?_;refine St.gV rfl (.ar rfl) jl Bk Qc rfl rfl (by simp[Value.cells]) rfl rfl (λb95=> ?_);refine g2 ?_;refine SW.go ?_;refine SW.t1 11 ?_;refine St.aj (.mk rfl) (.mk rfl) jl Bk Qc YD (by simp[Value.oneCell',Value.cells]) (by omega) (by omega) rfl rfl rfl rfl (λX akI=> ?_);refine St.aM X (show _=(q.2++ [(dT (hC T) (ax r.graph) nd (ax y)).isSome]).length from cS) (show _=rows eK (q.2++ [(dT (hC T) (ax r.graph) nd (ax y)).isSome]) by rw[ay];rfl) ?_;refine St.ba X (λS2 _=> ?_);refine g2 ?_;refine SW.go ?_;refine SW.dd 12 rfl (λ_=>Ev.HG (k:=k) (.mk rfl) (.mk rfl) zx qW rfl (by omega)) ?_;refine SW.t1 13 ?_;refine St.Jc ((Q.set k (⟨X,S2⟩,q.2++ [(dT (hC T) (ax r.graph) nd (ax y)).isSome])).map λp=>p.1.1) (.mk rfl) (.mk rfl) (by rw[jm]) qW S2 (by rw[aO];omega) ?_;refine g2 ?_;refine SW.go ?_;refine SW.dn ?_
      rotate_left
      focus
       refine St.gV rfl (.ar rfl) jl Bk Qc rfl rfl (by simp[Value.cells]) rfl rfl (λb95=> ?_);refine g2 ?_;refine SW.go ?_;refine SW.t1 3 ?_;refine St.ee (Ev.ke (.mk rfl) jl trivial (show(Q.map λp=>p.1.1)[k]?=some q.1.1 by rw[bQ,hq];rfl)) ?_;refine g2 ?_;refine SW.go ?_;refine SW.t1 11 ?_;refine St.aj (.mk rfl) (.mk rfl) jl Bk Qc YD (by simp[Value.oneCell',Value.cells]) (by omega) (by omega) rfl rfl rfl rfl (λX akI=> ?_);refine St.aM X (show _=(q.2++ [(dT (hC T) (ax r.graph) nd (ax y)).isSome]).length from cS) (show _=rows eK (q.2++ [(dT (hC T) (ax r.graph) nd (ax y)).isSome]) by rw[ay];rfl) ?_;refine St.ba X (λS2 _=> ?_);refine g2 ?_;refine SW.go ?_;refine SW.dd 12 rfl (λ_=>Ev.HG (k:=k) (.mk rfl) (.mk rfl) zx qW rfl (by omega)) ?_;refine SW.t1 13 ?_;refine St.Jc ((Q.set k (⟨X,S2⟩,q.2++ [(dT (hC T) (ax r.graph) nd (ax y)).isSome])).map λp=>p.1.1) (.mk rfl) (.mk rfl) (by rw[jm]) qW S2 (by rw[aO];omega) ?_;refine g2 ?_;refine SW.go ?_;refine SW.dn ?_
      all_goals
       refine g7 ?_;refine St.mj [row (⟨X,S2⟩:aV).1 4 1 (q.2++ [(dT (hC T) (ax r.graph) nd (ax y)).isSome]).length (rows eK (q.2++ [(dT (hC T) (ax r.graph) nd (ax y)).isSome]))] (bF (bG 4) (Q.eraseIdx k)) (bF (bG 4) (Q.set k (⟨X,S2⟩,q.2++ [(dT (hC T) (ax r.graph) nd (ax y)).isSome]))) (sR (bG 4) (⟨X,S2⟩,q.2++ [(dT (hC T) (ax r.graph) nd (ax y)).isSome]) (by omega)) ?_;refine St.aH ⟨m+1,Q.set k (⟨X,S2⟩,q.2++ [(dT (hC T) (ax r.graph) nd (ax y)).isSome])⟩ ⟨by omega,by rw[cn];exact F,λj S=>by rw[aw];by_cases h2:j=k;subst h2;rw[fT (by omega),aA (Nat.lt_irrefl _),aC rfl,ag hy,cP];show q.2++_=_;rw[J0];rfl;rw[ik (λh=>h2 h.symm),←aw,hQ j S,aA h2,aA h2]⟩
     ·obtain rfl:m=M.length:=by omega
      rw[jY]at hQ;refine g11 ?_;refine St.aH ⟨k+1,Q⟩ ⟨by push_cast;omega,F,λj S=>by rw[hQ j S];by_cases h1:j<k;rw[aC h1,aC (by omega)];rw[aA h1];by_cases h2:j=k;subst h2;rw[aC rfl,aC (by omega),hLk];rw[aA h2,aA (by omega)]⟩
    ·have hkr:r.kids=(k:Int):=by omega
     refine g11 ?_;refine St.gV rfl (.ar rfl) bJ dK eT rfl rfl (by simp[Value.cells]) rfl rfl (λYq=> ?_);refine St.aj (.mk rfl) (.mk rfl) bJ dK eT xT (by simp[Value.oneCell',Value.cells]) (by omega) (by omega) rfl rfl rfl rfl (λv105 amI=> ?_);refine St.aM v105 (show _=(l++ [r.kids]).length from cS) (show _=rows aJ (l++ [r.kids]) by rw[ay];rfl) ?_;refine St.ba v105 (λRx _=> ?_);refine go ?_;refine St.cI (.mk rfl) (.mk rfl) fD Rx (by rfl) ?_;refine g2 ?_
     obtain⟨J,K,L,rfl⟩:∃J K L,Q=[J,K,L]:=by match Q,F with| [a,b,c2],_=>exact⟨a,b,c2,rfl⟩
     refine g4 ?_;refine St.slot 109 (.agg #[J.1.1,K.1.1,L.1.1]) rfl rfl ?_;refine St.gV rfl (.ar rfl) underlying170 Jj VG rfl rfl (by intro u hu;simp only[List.mem_cons,List.not_mem_nil,or_false]at hu;subst hu;rfl) rfl rfl (λYr=> ?_);refine St.aj (.mk rfl) (.mk rfl) underlying170 Jj VG Z9 (by intro u hu;have SN:u∈[J.1.1,K.1.1,L.1.1]:=hu;simp only[List.mem_cons,List.not_mem_nil,or_false]at SN;rcases SN with rfl|rfl|rfl;exact J.1.2;exact K.1.2;exact L.1.2) (by omega) (by omega) rfl rfl rfl rfl (λTi amK=> ?_);refine St.aM Ti (show _=(d++ [yP [J,K,L]]).length from cS) (show _=rows sN (d++ [yP [J,K,L]]) by rw[ay];rfl) ?_;refine St.ba Ti (λaaD _=> ?_);refine St.TB (f:=bG 4) bD [J,K,L] (λa H w h=>Vc 4 a H w h) ?_;refine St.ea (na (yP [J,K,L])) [aF bD [J,K,L]] (λρ h=>by have h0:=h _ (aQ ..);intro e he;rcases cK.1 he with rfl|he;exact h0 J (by simp);rcases cK.1 he with rfl|he;exact h0 K (by simp);rcases cK.1 he with rfl|he;exact h0 L (by simp);cases he) ?_;refine St.ea (aF na (d++ [yP [J,K,L]])) [aF na d,na (yP [J,K,L])] (λρ h x hx=>by rcases cG.1 hx with hx|hx;exact h _ (aQ ..) x hx;rw[bP.1 hx];exact h _ (cO _ (aQ ..))) ?_;refine go ?_;refine St.cI (.mk rfl) (.mk rfl) ae3 aaD (by rfl) ?_;refine g8 ?_;refine St.aH ⟨i+1,⟨v105,Rx⟩,l++ [r.kids],⟨Ti,aaD⟩,d++ [yP [J,K,L]]⟩ ⟨by omega,by rw[P,ag D,cP];rfl,by rw[bR,V];rfl,λk2 x r2 hx J1 j S=>by rcases Nat.lt_trichotomy k2 i with h1|h1|h1;exact hAL k2 x r2 (by rw[oa (by omega)]at hx;exact hx) J1 j S;subst h1;rw[lg (by omega),V,fh]at hx;obtain rfl:=Option.some.inj hx;rw[D]at J1;obtain rfl:=Option.some.inj J1;rw[MG _ S,hQ j S];split;rfl;(unfold Af;rw[aA (show ¬(j:Int)<(lK r).kids from by show ¬(j:Int)<r.kids;omega)]);rw[ij (by rw[bR,V];simp only[List.length_cons,List.length_nil];omega)]at hx;cases hx⟩
   ·obtain rfl:i=g.rules.length:=by omega
    rw[jY]at P
    obtain⟨⟨G,QW⟩,Wi⟩:∃z,z=kv:=⟨kv,rfl⟩
    subst Wi
    obtain⟨⟨E,QT⟩,hv3⟩:∃z,z=av:=⟨av,rfl⟩
    subst hv3;refine St.bS G aJ l rfl rfl (λz hz=>by rw[P]at hz;obtain⟨r,D,rfl⟩:=dC.1 hz;have:=(hru r D).1;show aa r.kids;unfold aa;omega) ?_;refine St.bS E sN d rfl rfl (λ_ _=>trivial) ?_
    have hFO:∀s2 f2:aV,wE ⟨g.rules.length,g.aN.length,⟨G,QW⟩,⟨E,QT⟩,s2,f2,l,d⟩ (bZ g) (hC T):=λs2 f2=>⟨(aO _).symm,(aO _).symm,by show l=(g.rules.map lK).map _;rw[P,kH];rfl,by show d.length=(g.rules.map lK).length;rw[V,aO],λk x rr hx Wf j S=>by have Wf:(g.rules.map lK)[k]?=some rr:=Wf;rw[bQ]at Wf;obtain⟨r,D,rfl⟩:=dp.1 Wf;rw[hAL k x r hx D j S,hMg]⟩
    refine g14 ?_;refine St.dw 4 1 ?_;refine St.aM (.slice none 0 0) (show _=([]:List Bool).length from rfl) (show _=rows eK []from rfl) ?_;refine St.lH (ι:=Nat×aV×List Bool) (λ⟨m,sv,N⟩ T=>(116,iv m)::T) (λ⟨m,sv,N⟩=>(row sv.1 4 1 (N).length (rows eK (N))::aW b5 (.cells [iv (g.rules.length:Nat),iv (g.aN.length:Nat),(⟨G,QW⟩:aV).1,(⟨E,QT⟩:aV).1,sv.1,bT.1].toArray 174 (0,0))::aB (sl aJ G l)::aB (sl sN E d)::aB (aF na d)::aB (sl cT g.rv.1 g.rules)::aB (aF bz g.rules)::aB (sl e7 g.xv.1 g.aN)::aB (aF eR g.aN)::aB (aG g.start)::aB (sl bI s.1 (dg T))::aB (sl bI t.1 (de T))::aB tz::aW b2 (.cells (jG g).toArray 32 (0,0))::aW b4 (.cells [iv 0,iv 0,(.slice none 0 0),(.slice none 0 0),(.slice none 0 0),(.slice none 0 0)].toArray 174 (0,0))::aB (fM R [s.1,t.1])::aB (sl jF mv M)::aB (aF aG M)::[])) (λ⟨m,sv,N⟩=>m≤M.length∧N.length=m) (λ⟨m,sv,N⟩=>M.length-m) ⟨0,bT,[]⟩ (aD.cons 2 rfl (aD.cons 4 rfl (aD.cons 5 rfl (aD.cons 6 rfl (aD.cons 11 rfl (aD.cons 114 rfl (aD.cons 115 rfl aD.nil))))))) ⟨aP _,rfl⟩ ?_;rintro ⟨m,sv,N⟩ ⟨hm,hSl⟩
    dsimp only at hm hSl⊢
    refine g6 ?_;refine St.cq (λWI=> ?_) (λWI=> ?_)
    ·obtain⟨y,hy⟩:=aE (show m<M.length by omega)
     obtain⟨hgy,hly⟩:=C y (aZ hy);refine St.ea (aG y) [aF aG M] (λρ h=>h _ (aQ ..) y (aZ hy)) ?_;refine g7 ?_;refine St.ee (Ev.js (.mk rfl) hy mm trivial jU j7.eq) ?_;refine St.al (λb20=> ?_);refine St.sA (.mk rfl) (.mk rfl) jU ?_ (h1:=(by simp only[jF,List.all_cons,List.all_nil,Bool.and_true];exact y.nv.2));refine g2 ?_;refine St.dc [row sv.1 4 1 (N).length (rows eK (N)),aW b5 (.cells [iv (g.rules.length:Nat),iv (g.aN.length:Nat),(⟨G,QW⟩:aV).1,(⟨E,QT⟩:aV).1,sv.1,bT.1].toArray 174 (0,0))] mixed (λnp ns=> ?_);refine SW.gd 0 ?_;refine SW.gd 2 ?_;refine SW.gd 3 ?_;refine SW.dd 4 rfl (λ_=>Ev.iU 1 (.mk rfl) mm trivial jU rfl rfl) ?_;refine SW.slot 124 (bA g.start) rfl rfl ?_;refine SW.gd 5 ?_;refine SW.slot 125 (bA y) rfl rfl ?_;refine SW.dd 6 rfl (λ_=>Ev.ei (yk R s t T hT nf Kn g.start y J3.1 hgy J3.2 hly 0 (by have:=J3.1.pos;rw[cy]at this;exact this)) UB (.mk rfl) (.ek rfl rfl rfl)) ?_;refine SW.t2 1 7 ?_ ?_
     focus
      refine g3 ?_;refine SW.go ?_;refine SW.t1 7 ?_;refine St.gV rfl (.ar rfl) jl Bk Qc rfl rfl (by simp[Value.cells]) rfl rfl (λafX=> ?_);refine g2 ?_;refine SW.go ?_;refine SW.t1 8 ?_;refine St.aj (.mk rfl) (.mk rfl) jl Bk Qc YD (by simp[Value.oneCell',Value.cells]) (by omega) (by omega) rfl rfl rfl rfl (λLi ac6=> ?_);refine St.aM Li (show _=(N++ [(dT (hC T) (ax g.start) 0 (ax y)).isSome]).length from cS) (show _=rows eK (N++ [(dT (hC T) (ax g.start) 0 (ax y)).isSome]) by rw[ay];rfl) ?_;refine St.ba Li (λS1 _=> ?_);refine g2 ?_;refine SW.go ?_;refine SW.gd 9 ?_;refine SW.t1 10 ?_;refine St.cI (.mk rfl) (.mk rfl) qW S1 (by rfl) ?_;refine g2 ?_;refine SW.go ?_;refine SW.dn ?_
     rotate_left
     focus
      refine St.gV rfl (.ar rfl) jl Bk Qc rfl rfl (by simp[Value.cells]) rfl rfl (λafX=> ?_);refine g2 ?_;refine SW.go ?_;refine SW.t1 1 ?_;refine g3 ?_;refine SW.go ?_;refine SW.t1 8 ?_;refine St.aj (.mk rfl) (.mk rfl) jl Bk Qc YD (by simp[Value.oneCell',Value.cells]) (by omega) (by omega) rfl rfl rfl rfl (λLi ac6=> ?_);refine St.aM Li (show _=(N++ [(dT (hC T) (ax g.start) 0 (ax y)).isSome]).length from cS) (show _=rows eK (N++ [(dT (hC T) (ax g.start) 0 (ax y)).isSome]) by rw[ay];rfl) ?_;refine St.ba Li (λS1 _=> ?_);refine g2 ?_;refine SW.go ?_;refine SW.gd 9 ?_;refine SW.t1 10 ?_;refine St.cI (.mk rfl) (.mk rfl) qW S1 (by rfl) ?_;refine g2 ?_;refine SW.go ?_;refine SW.dn ?_
     all_goals
      refine g7 ?_;refine St.aH ⟨m+1,⟨Li,S1⟩,N++ [(dT (hC T) (ax g.start) 0 (ax y)).isSome]⟩ ⟨by omega,by rw[bR,hSl];rfl⟩
    ·obtain rfl:m=M.length:=by omega
     refine g15 ?_;refine St.dw 171 1 ?_;refine St.aM (.slice none 0 0) (show _=([]:List aV).length from rfl) (show _=rows bN []from rfl) ?_;refine St.lH (ι:=Nat×aV×List aV) (λ⟨i,fv,O⟩ T=>(134,iv i)::T) (λ⟨i,fv,O⟩=>(row fv.1 171 1 O.length (rows bN O)::aW b5 (.cells [iv (g.rules.length:Nat),iv (g.aN.length:Nat),(⟨G,QW⟩:aV).1,(⟨E,QT⟩:aV).1,sv.1,fv.1].toArray 174 (0,0))::aB (sl aJ G l)::aB (sl sN E d)::aB (aF na d)::aB (sl cT g.rv.1 g.rules)::aB (aF bz g.rules)::aB (sl e7 g.xv.1 g.aN)::aB (aF eR g.aN)::aB (aG g.start)::aB (sl bI s.1 (dg T))::aB (sl bI t.1 (de T))::aB tz::aW b2 (.cells (jG g).toArray 32 (0,0))::aW b4 (.cells [iv 0,iv 0,(.slice none 0 0),(.slice none 0 0),(.slice none 0 0),(.slice none 0 0)].toArray 174 (0,0))::aB (fM R [s.1,t.1])::aB (sl jF mv M)::aB (aF aG M)::[])) (λ⟨i,fv,O⟩=>i≤g.rules.length∧O.length=i) (λ⟨i,fv,O⟩=>g.rules.length-i) ⟨0,bT,[]⟩ (aD.cons 4 rfl (aD.cons 5 rfl (aD.cons 6 rfl (aD.cons 133 rfl aD.nil)))) ⟨aP _,rfl⟩ ?_;rintro ⟨i,fv,O⟩ ⟨hi,hFl⟩
     dsimp only at hi hFl⊢
     refine g6 ?_;refine St.cq (λah5=> ?_) (λah5=> ?_)
     ·refine g14 ?_
      refine St.sV (m:=M.length) (.mk rfl) (.mk rfl) jl Bk Qc YD rfl rfl (by omega) rfl rfl (λCS=> ?_);refine St.aM (.slice (some ⟨CS,0,none⟩) M.length M.length) (show _=(List.replicate M.length false).length by rw[kG]) (show _=rows eK (List.replicate M.length false)from(zU (Rr:=eK) rfl _).symm) ?_;refine g7 ?_;refine St.gV rfl (.ar rfl) bJ dK eT rfl rfl (by simp[Value.cells]) rfl rfl (λYu=> ?_);refine St.aM (.slice (some ⟨Yu,0,none⟩) 1 1) (show _=[i].length from rfl) (show _=rows aJ (bW [i])from rfl) ?_;refine g4 ?_;refine St.lH (ι:=List Bool×aV×List Nat) (λ⟨B,wv,W⟩ T=>(23,wv.1)::T) (λ⟨B,wv,W⟩=>(row (.slice (some ⟨CS,0,none⟩) M.length M.length) 4 1 B.length (rows eK B)::row wv.1 3 1 W.length (rows aJ (bW W))::row fv.1 171 1 O.length (rows bN O)::aW b5 (.cells [iv (g.rules.length:Nat),iv (g.aN.length:Nat),(⟨G,QW⟩:aV).1,(⟨E,QT⟩:aV).1,sv.1,fv.1].toArray 174 (0,0))::aB (sl aJ G l)::aB (sl sN E d)::aB (aF na d)::aB (sl cT g.rv.1 g.rules)::aB (aF bz g.rules)::aB (sl e7 g.xv.1 g.aN)::aB (aF eR g.aN)::aB (aG g.start)::aB (sl bI s.1 (dg T))::aB (sl bI t.1 (de T))::aB tz::aW b2 (.cells (jG g).toArray 32 (0,0))::aW b4 (.cells [iv 0,iv 0,(.slice none 0 0),(.slice none 0 0),(.slice none 0 0),(.slice none 0 0)].toArray 174 (0,0))::aB (fM R [s.1,t.1])::aB (sl jF mv M)::aB (aF aG M)::[])) (λ⟨B,wv,W⟩=>B.length=M.length∧(∀z∈W,z<g.rules.length)∧DY B+W.length≤M.length+1) (λ⟨B,wv,W⟩=>DY B+W.length) ⟨List.replicate M.length false,⟨.slice (some ⟨Yu,0,none⟩) 1 1,rfl⟩,[i]⟩ (aD.cons 4 rfl (aD.cons 5 rfl (aD.cons 6 rfl (aD.cons 22 rfl (aD.cons 133 rfl (aD.cons 134 rfl aD.nil)))))) ⟨kG ..,λz hz=>by rw[bP.1 hz];omega,by rw[Pq];exact aR _⟩ ?_;rintro ⟨B,wv,W⟩ ⟨hsl,hW,hb⟩
      dsimp only at hsl hW hb⊢
      refine g8 ?_;refine St.cq (λaaG=> ?_) (λaaG=> ?_)
      ·obtain⟨A,at_,rfl⟩:∃A at_,W=A++ [at_]:=⟨W.dropLast,W.getLast (by intro h;subst h;simp at aaG),(List.dropLast_concat_getLast _).symm⟩
       have ajK:=hW at_ (by simp)
       have hWl:(A++ [at_]).length=A.length+1:=cS.symm
       obtain⟨Y,YO⟩:=aE (show at_<d.length by omega);obtain⟨ra,Wc⟩:=aE ajK;obtain⟨hka,_,_⟩:=Cz at_ ra Wc
       have Uk:(Y.at_ 0).2.length=M.length:=by rw[hAL at_ Y ra YO Wc 0 (by omega)];unfold Af;rw[aC (show((0:Nat):Int)<(lK ra).kids from by show((0:Nat):Int)<ra.kids;omega),aO,aO]
       refine St.cL na d (x:=Y) (aZ YO) ?_;refine St.ea (sl eK (Y.at_ 0).1.1 (Y.at_ 0).2) [na Y] (λρ h=>IV Y 0 ρ (h _ (aQ ..))) ?_;refine g8 ?_;refine St.slot 147 (iv ((A.length+1:Nat):Int)) rfl (congrArg iv (by rw[hWl])) ?_;refine go ?_;refine St.slot 148 (iv (A.length:Nat)) rfl (congrArg iv (by push_cast;omega)) ?_;refine St.ee (Ev.dZ (k:=A.length) (.mk rfl) (.mk rfl) bJ dK (by omega) (by omega)) ?_;refine St.ee (Ev.ct (.mk rfl) gD trivial (by omega) (gU (gQ (show(A++ [at_])[A.length]?=some at_ by simp)))) ?_;refine g8 ?_;refine St.slot 153 (iv ((A.length+1:Nat):Int)) rfl (congrArg iv (by rw[hWl])) ?_;refine go ?_;refine St.slot 154 (iv (A.length:Nat)) rfl (congrArg iv (by push_cast;omega)) ?_;refine St.ee (Ev.pG (h:=A.length) (.mk rfl) (.mk rfl) bJ dK (by omega) (by omega)) ?_;refine St.DI wv.1 A.length (by omega) ?_;refine St.ba (pH wv.1 1 0 A.length) (λah6 _=> ?_);refine St.aM (pH wv.1 1 0 A.length) rfl (show _=rows aJ (bW A) by rw[kf,←dY A];exact uI aJ _ _) ?_;refine g8 ?_;refine St.JW E (by omega) (λbs os cs Nd=> ?_);refine go ?_;refine St.ee (Ev.xg (j:=0) Nd (.mk rfl) (.mk rfl) zx qW (by omega) (by omega)) ?_;refine St.ee (Ev.ld1 (.mk rfl) YO jl trivial (Y.cell (by omega))) ?_;refine g5 ?_
       obtain⟨B0,hB0⟩:∃B0,B0=DY B+A.length:=⟨_,rfl⟩
       have hB1:B0≤M.length:=by omega
       refine St.lH (ι:=Nat×List Bool×aV×List Nat) (λ⟨o,B,wv,W⟩ T=>(163,iv o)::(23,wv.1)::T) (λ⟨o,B,wv,W⟩=>(row (.slice (some ⟨CS,0,none⟩) M.length M.length) 4 1 B.length (rows eK B)::row wv.1 3 1 W.length (rows aJ (bW W))::row fv.1 171 1 O.length (rows bN O)::aW b5 (.cells [iv (g.rules.length:Nat),iv (g.aN.length:Nat),(⟨G,QW⟩:aV).1,(⟨E,QT⟩:aV).1,sv.1,fv.1].toArray 174 (0,0))::aB (sl aJ G l)::aB (sl sN E d)::aB (aF na d)::aB (sl eK (Y.at_ 0).1.1 (Y.at_ 0).2)::aB (sl cT g.rv.1 g.rules)::aB (aF bz g.rules)::aB (sl e7 g.xv.1 g.aN)::aB (aF eR g.aN)::aB (aG g.start)::aB (sl bI s.1 (dg T))::aB (sl bI t.1 (de T))::aB tz::aW b2 (.cells (jG g).toArray 32 (0,0))::aW b4 (.cells [iv 0,iv 0,(.slice none 0 0),(.slice none 0 0),(.slice none 0 0),(.slice none 0 0)].toArray 174 (0,0))::aB (fM R [s.1,t.1])::aB (sl jF mv M)::aB (aF aG M)::[])) (λ⟨o,B,wv,W⟩=>o≤M.length∧B.length=M.length∧(∀z∈W,z<g.rules.length)∧DY B+W.length≤B0) (λ⟨o,B,wv,W⟩=>M.length-o) ⟨0,B,⟨pH wv.1 1 0 A.length,ah6⟩,A⟩ (aD.cons 4 rfl (aD.cons 5 rfl (aD.cons 6 rfl (aD.cons 22 rfl (aD.cons 133 rfl (aD.cons 134 rfl (aD.cons 161 rfl (aD.cons 162 rfl aD.nil)))))))) ⟨aP _,hsl,λz hz=>hW z (by simp[hz]),Nat.le_of_eq hB0.symm⟩ ?_;rintro ⟨o,I,wv2,W2⟩ ⟨ho,Nf,Z,Dg⟩
       dsimp only at ho Nf Z Dg⊢
       refine g6 ?_;refine St.cq (λah8=> ?_) (λah8=> ?_)
       ·obtain⟨bo,hbo⟩:=aE (show o<(Y.at_ 0).2.length by omega)
        obtain⟨so,hso⟩:=aE (show o<I.length by omega);refine g17 ?_;refine St.gt _ rfl rfl (λhg=>Ev.move (.mk rfl)) rfl ?_;refine St.gt _ rfl rfl (λhg=>Ev.move (.mk rfl)) rfl ?_;refine St.gt _ rfl rfl (λhg=>Ev.dZ (k:=o) (ah.gv rfl hg) (ah.gv rfl hg) jl Bk (by first|omega|(simp only[eM]at hg;omega)) (by omega)) rfl ?_;refine St.gt _ rfl rfl (λhg=>Ev.ct (ah.gv rfl hg) ID trivial (by omega) (Ou hso)) rfl ?_;refine St.gt _ rfl rfl (λhg=>Ev.not (ah.gv rfl hg)) rfl ?_;refine g3 ?_;refine St.cond _ rfl (λaaI=> ?_) (λaaI=> ?_)
        ·skip
         obtain rfl:so=false:=by cases so;rfl;simp at aaI
         have hu:=Pr hso
         refine g5 ?_;refine St.cJ (.mk rfl) (.mk rfl) Bk rfl (by omega) (by decide) ?_;refine St.aM (.slice (some ⟨CS,0,none⟩) M.length M.length) (show _=(I.set o true).length by rw[cn]) (show _=rows eK (I.set o true)from LM _ _ _) ?_;refine g10 ?_;refine St.cq (λah9=> ?_) (λah9=> ?_)
         ·refine g3 ?_
          refine St.gV rfl (.ar rfl) bJ dK eT rfl rfl (by simp[Value.cells]) rfl rfl (λamZ=> ?_);refine St.aj (.mk rfl) (.mk rfl) bJ dK eT xT (by simp[Value.oneCell',Value.cells]) (by omega) (by omega) rfl rfl rfl rfl (λXz amR=> ?_);refine St.aM Xz (show _=(W2++ [o]).length by rw[bR];rfl) (show _=rows aJ (bW (W2++ [o])) by rw[kf,ay];rfl) ?_;refine St.ba Xz (λaiA _=> ?_);refine g9 ?_;refine St.aH ⟨o+1,I.set o true,⟨Xz,aiA⟩,W2++ [o]⟩ ⟨by omega,by rw[cn];exact Nf,λz hz=>by rcases cG.1 hz with hz|hz;exact Z z hz;rw[bP.1 hz];omega,by dsimp only;rw[bR];simp only[List.length_cons,List.length_nil];omega⟩
         ·refine g8 ?_
          refine St.aH ⟨o+1,I.set o true,wv2,W2⟩ ⟨by omega,by rw[cn];exact Nf,Z,by first|omega|(dsimp only;omega)⟩
        ·skip
         skip
         refine g8 ?_;refine St.aH ⟨o+1,I,wv2,W2⟩ ⟨by omega,Nf,Z,Dg⟩
       ·skip
        refine g6 ?_;refine St.sM ⟨I,wv2,W2⟩ ⟨Nf,Z,by first|omega|(dsimp only;omega)⟩ (by dsimp only;omega) (by repeat(first|exact Sub.nil|refine Sub.cons (by first|rfl|exact congrArg (λz=>some (iv z)) (by first|omega|(dsimp only;omega))|exact congrArg (λz=>some (Value.bool z)) (by first|assumption|exact ig (by assumption))) ?_)) (λ_ hw=>hw.sub)
      ·skip
       refine g9 ?_;refine St.gV rfl (.ar rfl) underlying172 qW VE rfl rfl (by simp[Value.cells]) rfl rfl (λam0=> ?_);refine St.aj (.mk rfl) (.mk rfl) underlying172 qW VE Z6 (by simp[Value.oneCell',Value.cells]) (by omega) (by omega) rfl rfl rfl rfl (λQ3 amS=> ?_);refine St.aM Q3 (show _=(O++ [(⟨.slice (some ⟨CS,0,none⟩) M.length M.length,rfl⟩:aV)]).length from cS) (show _=rows bN (O++ [(⟨.slice (some ⟨CS,0,none⟩) M.length M.length,rfl⟩:aV)]) by rw[ay];rfl) ?_;refine St.ba Q3 (λaaJ _=> ?_);refine go ?_;refine St.cI (.mk rfl) (.mk rfl) ae4 aaJ (by rfl) ?_;refine g8 ?_;refine St.aH ⟨i+1,⟨Q3,aaJ⟩,O++ [(⟨.slice (some ⟨CS,0,none⟩) M.length M.length,rfl⟩:aV)]⟩ ⟨by omega,by rw[bR,hFl];rfl⟩
     ·skip
      refine g8 ?_;refine St.sA (.mk rfl) (.mk rfl) Jh ?_ (h1:=(by simp only[List.all_cons,List.all_nil,Bool.and_true,Bool.and_eq_true];exact⟨rfl,rfl,QW,QT,sv.2,fv.2⟩));refine g3 ?_;refine St.ea (hY ⟨g.rules.length,g.aN.length,⟨G,QW⟩,⟨E,QT⟩,sv,fv,l,d⟩) [sl aJ G l,sl sN E d,aF na d] (λρ h=>h) ?_;refine St.rV [_] [aB (hY ⟨g.rules.length,g.aN.length,⟨G,QW⟩,⟨E,QT⟩,sv,fv,l,d⟩)] ?_;exact⟨⟨g.rules.length,g.aN.length,⟨G,QW⟩,⟨E,QT⟩,sv,fv,l,d⟩,rfl,hFO sv fv,rfl⟩
end Go.Proofs.YtblifkgpebebmaaGreatDoor
namespace Go.Proofs
open Go.Shelf
def Tryz.sU:Go.Shelf.Ren:=⟨λ|6=>125|14=>147|15=>148|20=>160|21=>161|22=>162|23=>163|24=>164|25=>165|26=>166|27=>167|28=>168|29=>169|46=>179|47=>180|48=>181|49=>182|50=>183|57=>185|n=>n,λ|0=>0|3=>3|4=>4|5=>5|9=>9|22=>58|24=>3|25=>208|39=>218|45=>282|46=>283|50=>112|53=>289|55=>157|66=>298|70=>302|76=>304|77=>305|n=>n,λ|n=>n⟩
theorem Tryz.yy:Go.Proofs.SlLaysF.n6 Tryz.prog Tryz.sU:={
 mixed:=by kernel_rfl
 f6:=⟨Tryz.f125.name,by decide,Tryz.func125.trans (congrArg some (by kernel_rfl))⟩
 f14:=⟨Tryz.f147.name,by decide,Tryz.func147.trans (congrArg some (by kernel_rfl))⟩
 f15:=Tryz.func148.trans (congrArg some (by kernel_rfl))
 f20:=⟨Tryz.f160.name,by decide,Tryz.func160.trans (congrArg some (by kernel_rfl))⟩
 f21:=⟨Tryz.f161.name,by decide,Tryz.func161.trans (congrArg some (by kernel_rfl))⟩
 f22:=⟨Tryz.f162.name,by decide,Tryz.func162.trans (congrArg some (by kernel_rfl))⟩
 f23:=⟨Tryz.f163.name,by decide,Tryz.func163.trans (congrArg some (by kernel_rfl))⟩
 f24:=⟨Tryz.f164.name,by decide,Tryz.func164.trans (congrArg some (by kernel_rfl))⟩
 f25:=⟨Tryz.f165.name,by decide,Tryz.func165.trans (congrArg some (by kernel_rfl))⟩
 f26:=⟨Tryz.f166.name,by decide,Tryz.func166.trans (congrArg some (by kernel_rfl))⟩
 f27:=⟨Tryz.f167.name,by decide,Tryz.func167.trans (congrArg some (by kernel_rfl))⟩
 f28:=Tryz.func168.trans (congrArg some (by kernel_rfl))
 f29:=Tryz.func169.trans (congrArg some (by kernel_rfl))
 f46:=⟨Tryz.f179.name,by decide,Tryz.func179.trans (congrArg some (by kernel_rfl))⟩
 f47:=Tryz.func180.trans (congrArg some (by kernel_rfl))
 f48:=Tryz.func181.trans (congrArg some (by kernel_rfl))
 f49:=⟨Tryz.f182.name,by decide,Tryz.func182.trans (congrArg some (by kernel_rfl))⟩
 f50:=⟨Tryz.f183.name,by decide,Tryz.func183.trans (congrArg some (by kernel_rfl))⟩
 f57:=⟨Tryz.f185.name,by decide,Tryz.func185.trans (congrArg some (by kernel_rfl))⟩
 t0:=YX
 a0:=Tryz.isAgg0
 z0:=Tryz.sizeOf0
 v0:=Tryz.zeroValue0
 t3:=gD
 a3:=Tryz.isAgg3
 z3:=Tryz.sizeOf3
 v3:=Tryz.zeroValue3
 t4:=ID
 a4:=Tryz.isAgg4
 z4:=Tryz.sizeOf4
 v4:=Tryz.zeroValue4
 t5:=GI
 a5:=Tryz.isAgg5
 z5:=Tryz.sizeOf5
 v5:=Tryz.zeroValue5
 t9:=vt
 a9:=Tryz.isAgg9
 z9:=Tryz.sizeOf9
 v9:=Tryz.zeroValue9
 t22:=bJ
 a22:=Tryz.isAgg58
 z22:=Tryz.sizeOf58
 v22:=Tryz.zeroValue58
 a24:=Tryz.isAgg3
 z24:=Tryz.sizeOf3
 t25:=Tryz.underlying208
 a25:=Tryz.isAgg208
 z25:=Tryz.sizeOf208
 v25:=Tryz.zeroValue208
 t39:=Bo
 a39:=Tryz.isAgg218
 z39:=Tryz.sizeOf218
 v39:=Tryz.zeroValue218
 t45:=Tryz.underlying282
 a45:=Tryz.isAgg282
 z45:=Tryz.sizeOf282
 v45:=Tryz.zeroValue282
 t46:=Tryz.underlying283
 a46:=Tryz.isAgg283
 z46:=Tryz.sizeOf283
 v46:=Tryz.zeroValue283
 t50:=Tryz.underlying112
 a50:=Tryz.isAgg112
 z50:=Tryz.sizeOf112
 v50:=Tryz.zeroValue112
 t53:=Tryz.underlying289
 a53:=Tryz.isAgg289
 z53:=Tryz.sizeOf289
 v53:=Tryz.zeroValue289
 t55:=lf
 a55:=Tryz.isAgg157
 z55:=Tryz.sizeOf157
 v55:=Tryz.zeroValue157
 t66:=Tryz.underlying298
 a66:=Tryz.isAgg298
 z66:=Tryz.sizeOf298
 v66:=Tryz.zeroValue298
 t70:=Tryz.underlying302
 a70:=Tryz.isAgg302
 z70:=Tryz.sizeOf302
 v70:=Tryz.zeroValue302
 t76:=Tryz.underlying304
 a76:=Tryz.isAgg304
 z76:=Tryz.sizeOf304
 v76:=Tryz.zeroValue304
 t77:=Tryz.underlying305
 a77:=Tryz.isAgg305
 z77:=Tryz.sizeOf305
 v77:=Tryz.zeroValue305}
end Go.Proofs
namespace Go.J
open Go Go.Proofs Go.Shelf Go.RowKit Go.Lib Go.Sort
theorem Start.AV {ds:List du}{W:World}(hd:∀d∈ds,d.f (J.all W)):Start (ds.map J.aB) (J.all W) W:=
 ⟨rfl,⟨rfl,λ_=>aR _⟩,rfl,aR _,λ_ _ _=>rfl,λ_ _ h=>h,Ro.le_refl _,λ_ _ _=>rfl,λE c=>by
  obtain⟨d,e,rfl⟩:=dC.1 c;exact dA.2 (hd d e),
  (λE c b a=>by
   obtain⟨d,hd,rfl⟩:=dC.1 c
   rw[jw]at a;cases a),
  by
   refine sF.2 (wc (R:=λ_ _=>True) ?_ (List.pairwise_of_forall λ_ _=>trivial));intro d g _ _ _ b a
   rw[jw]at a;cases a⟩
theorem eE.Zz {P:Program}{f:FuncId}{args:Array Value}{ds:List du}{v:Value}{W:World}(h:eE P f args ds v)(hd:∀d∈ds,d.f (J.all W)):
 Calls P f args W λe w'=>e= .returned v∧∃q a,w'=grow (W.drewN q) a:=by
 refine(h W (J.all W) (Start.AV hd)).mono ?_;rintro e w' ⟨u,H',rfl,rfl,hm⟩;obtain⟨jq,hm⟩:=hm.out;refine⟨rfl,w'.drawn-W.drawn,w'.heap.extract W.heap.size w'.heap.size,?_⟩
 have h1:=hm.os
 have b:=And.intro hm.tape.1 (hm.tape.2 trivial)
 have c:=hm.output
 have l:=hm.size
 have g:∀k,k<W.heap.size→w'.heap[k]?=W.heap[k]?:=λk hk=>hm.AD k hk (jA ds k)
 clear hm
 cases w' with
 |mk m n o a p=>
  cases W with
  |mk heap tape drawn os out=>
   simp only at h1 b c l g
   simp only[grow,World.drewN,World.mk.injEq]
   refine⟨?_,b.1,by omega,h1,c⟩
   apply Array.ext_getElem?
   intro i;rw[Array.getElem?_append]
   split
   ·rename_i j;exact g i j
   ·rename_i j
    rw[Array.getElem?_extract]
    split
    ·congr 1;omega
    ·rename_i r
     rw[Array.getElem?_eq_none (by omega)]
section
variable {P:Program}{QP:Ren}{α:Type}[Inhabited α]
theorem pV (enc:α→Value)(w:World)(g0 m k:Nat)(a:Array α)(os:Array Obj)(hk:k≠g0)(b:k<w.heap.size):(sortWorld enc w g0 0 m a os).heap[k]?=w.heap[k]?:=by
 unfold sortWorld grow putRow mapBlock
 simp only[]
 rw[Array.getElem?_append_left (by simpa using b),Array.getElem?_modify];rw[aA (λe=>hk e.symm)];rfl
theorem zb (enc:α→Value)(w:World)(g0 m:Nat)(b:Array α)(os:Array Obj){cur:Array Value}{e:TypeId}{fr:Nat×Nat}(c:w.heap[g0]?=some (.cells cur e fr)):
 (sortWorld enc w g0 0 m b os).heap[g0]?=some (.cells (putCells enc 0 b cur) e fr):=by
 have d:=(wC.1 c).1
 have a:(Sort.ahead w m).heap[g0]?=some (.cells cur e fr):=c
 unfold sortWorld grow putRow mapBlock
 simp only[]
 rw[Array.getElem?_append_left (by simpa using d),Array.getElem?_modify,aC rfl,a];rfl
theorem Start.sorted {ds:List du}{enc:α→Value}{v:Value}{e:TypeId}{d:List α}{w:World}{ρ:Ro}(st:Start (ds.map aB++ [row v e 1 d.length (d.map enc)]) ρ w){g0 cap:Nat}{cur:Array Value}
 (f:v= .slice (some ⟨g0,0,none⟩) d.length cap) (h:w.heap[g0]?=some (.cells cur e (0,0))) (q:d.length≤cap) (r:cap≤maxLen) (A:cur.size=cap*1) (B:cur.toList.take (d.length*1)=d.map enc):
 Holds enc w g0 0 d.toArray∧g0<w.heap.size∧(∀(m:Nat) (os:Array Obj) (c:Array α),Ro.le ρ (J.all (sortWorld enc w g0 0 m c os)))∧
  ∀(n:Nat) (a:Array α) (os:Array Obj),a.size=d.length→Mm ⟨w,ρ,jo (ds.map aB++ [row v e 1 d.length (d.map enc)]),True⟩ [row v e 1 d.length (a.toList.map enc)] (sortWorld enc w g0 0 n a os):=by
 have hblk:=(wC.1 h).1
 have u:ρ g0=Option.none:=(st.own _ (mr _ (C6 _)) g0 (by rw[eI,f];rfl)).1
 have x:∀j (g:j<d.length),cur[j]?=some (enc d[j]):=λj g=>by
  have:=congrArg (λl=>l[j]?) B
  simp only[List.getElem?_take,List.getElem?_map,List.getElem?_eq_getElem g,Option.map_some]at this
  rw[aC (by omega)]at this
  simpa using this
 have hle:∀(m:Nat) (os:Array Obj) (c:Array α),Ro.le ρ (J.all (sortWorld enc w g0 0 m c os)):=λm os c k o hk=>by
  have y:=st.fits k o hk
  have C:k≠g0:=by rintro rfl;rw[u]at hk;cases hk
  show(sortWorld enc w g0 0 m c os).heap[k]?=some o
  rw[pV enc w g0 m k c os C (wC.1 y).1,y]
 refine⟨λj g=> ?_,hblk,hle,λn a os D=>Mm.mk (ρ:=ρ) ⟨rfl,⟨rfl,?_⟩,rfl,?_,?_,?_,Ro.le_refl _,λ_ _ _=>rfl,?_,?_,GC ..⟩⟩
 ·have F:j<d.length:=by simpa using g
  refine⟨?_,?_⟩
  ·rw[World.cell?,h]
   simp only[Option.isSome_none,Bool.false_eq_true,if_false,Nat.zero_add]
   rw[x j F,getElem!_pos d.toArray j g]
   simp
  ·rw[World.frozen?,h];simp
 ·intro _;show w.drawn≤w.drawn+n;omega
 ·unfold sortWorld grow;simp
 ·intro k hk G
  refine pV enc w g0 n k a os ?_ hk;rintro rfl;exact G ⟨_,mr _ (C6 _),by rw[eI,f];rfl⟩
 ·exact λk o hk=>hle n os a k o hk
 ·intro E s
  rw[bP.1 s];refine eN.2 ⟨by simp[D],.inr ⟨g0,cap,putCells enc 0 a cur,f,aP _,zb enc w g0 n a os h,q,r,by simp[putCells,A],?_⟩⟩
  apply pZ
  intro i
  simp only[putCells,List.getElem?_take,Array.getElem?_toList,Array.getElem?_mapIdx,List.getElem?_map]
  by_cases H:i<d.length
  ·have t:i<a.size:=by omega
   rw[aC (by omega),x i H]
   simp only[Option.map_some,Nat.zero_le,true_and,Nat.zero_add,Nat.sub_zero]
   rw[aC t,getElem!_pos a i t,Dd t];rfl
  ·rw[aA (by omega),Array.getElem?_eq_none (by omega)];rfl
 ·intro E s b p
  rw[bP.1 s]at p
  have z:b=g0:=by rw[eI,f]at p;simp[Value.ownBlock]at p;exact p.symm
  exact⟨z▸u,.inr ⟨_,mr _ (C6 _),by rw[eI,f,z];rfl⟩⟩
theorem Start.stays {ds:List du}{E:ak}{w:World}{ρ:Ro}(st:Start (ds.map aB++ [E]) ρ w):Mm ⟨w,ρ,jo (ds.map aB++ [E]),True⟩ [E] w:=Mm.mk (ez.perm st jX).left
theorem Aq (L:SlLaysF.n6 P QP)(enc:α→Value)(h1:OneCell enc)(cf:α→α→Int)(hO:SWO (ltOf cf))(g:Nat)(k:Array Value)
 (H:∀args w,(callFunc g args).run P w= .ok (.enter g args) w) (ds:List du) (I:∀x y,eE P g (#[enc x,enc y]++k) ds (.int .i64 (cf x y))) (v:Value) (e:TypeId) (d:List α) (hlen:d.length<4611686018427387904):
 dz P (QP.f 6) #[v,.func (.func g) #[] k] (ds.map aB++ [row v e 1 d.length (d.map enc)])
  (λu H'=>u= .tuple #[]∧∃c:List α,c.Perm d∧c.Pairwise (λa b=>ltOf cf b a=false)∧H'=[row v e 1 d.length (c.map enc)]):=by
 intro w ρ st
 have J:=eN.1 (st.dM _ (mr _ (C6 _)))
 have o:∀x∈ds,x.f ρ:=λx hx=>dA.1 (st.dM _ (kW _ (eQ hx)))
 have none:∀(p:Option Addr) (cap:Nat),v= .slice p 0 cap→d=[]→Calls P (QP.f 6) #[v,.func (.func g) #[] k] w λq w'=>∃l H',q= .returned l∧
  (l= .tuple #[]∧∃c:List α,c.Perm d∧c.Pairwise (λa b=>ltOf cf b a=false)∧H'=[row v e 1 d.length (c.map enc)])∧Mm ⟨w,ρ,jo (ds.map aB++ [row v e 1 d.length (d.map enc)]),True⟩ H' w':=by
  intro p cap h K
  have F:=AnyF.slices_SortFunc_none (P:=P) (ρ:=QP) {L with} p cap (.func (.func g) #[] k) w
  rw[←h]at F;refine F.mono ?_;rintro M w' ⟨rfl,rfl⟩;exact⟨_,_,rfl,⟨rfl,d,.refl _,(by rw[K];exact .nil),rfl⟩,st.stays⟩
 rcases J.2 with⟨h,N⟩|⟨g0,cap,cur,h,_,O,r,s,Q,R⟩
 ·exact none _ _ h (lG N)
 ·by_cases hz:d.length=0
  ·rw[hz]at h;exact none _ _ h (lG hz)
  ·obtain⟨hH,hblk,hle,t⟩:=Start.sorted st h O r s Q R
   have z:CmpLays1 P g k enc cf g0 0 d.toArray.size w:=λm os S _ x y=>(I x y).Zz λx hx=>x.mono _ _ (hle m os S) (o x hx)
   have main:=Any.slices_SortFunc L enc h1 cf hO g k g0 0 cap d.toArray w H z hH hblk (by simpa using hlen)
   have A:v= .slice (some ⟨g0,0,Option.none⟩) d.toArray.size cap:=by rw[h];simp
   rw[←A]at main;refine main.mono ?_;rintro M w' ⟨rfl,c,n,os,⟨B,_,hp⟩,C,rfl⟩
   have T:c.size=d.length:=by simpa using B
   have D:c.toList.Perm d:=by
    have U:c.extract 0 d.toArray.size=c:=by rw[←B];simp
    have e2:d.toArray.extract 0 d.toArray.size=d.toArray:=by simp
    rw[U,e2]at hp
    simpa using hp
   refine⟨_,_,rfl,⟨rfl,c.toList,D,?_,rfl⟩,t n c os T⟩;rw[List.pairwise_iff_getElem];intro i j V W E
   have X:i<c.size:=by simpa using V
   have G:j<c.size:=by simpa using W
   have:=C i j (aP _) E (by rw[←B];exact G)
   rw[getElem!_pos c i X,getElem!_pos c j G]at this
   simpa using this
end
section
variable {P:Program}{QP:Ren}
theorem DQ (L:SlLaysF.n6 P QP)(fv v:Value)(e:TypeId)(D:du):dz P (QP.f 6) #[v,fv] ([D].map aB++ [row v e 1 0 []]) (λu H'=>u= .tuple #[]∧H'=[row v e 1 0 []]):=by
 intro w ρ st
 have g:=eN.1 (st.dM (row v e 1 0 []) (mr _ (C6 _)))
 have none:∀(p:Option Addr) (cap:Nat),v= .slice p 0 cap→Calls P (QP.f 6) #[v,fv] w λc w'=>∃a H',c= .returned a∧(a= .tuple #[]∧H'=[row v e 1 0 []])∧Mm ⟨w,ρ,jo ([D].map aB++ [row v e 1 0 []]),True⟩ H' w':=by
  intro p cap b
  have d:=AnyF.slices_SortFunc_none (P:=P) (ρ:=QP) {L with} p cap fv w
  rw[←b]at d;refine d.mono ?_;rintro h w' ⟨rfl,rfl⟩;exact⟨_,_,rfl,⟨rfl,rfl⟩,st.stays⟩
 rcases g.2 with⟨b,_⟩|⟨g0,cap,cur,b,_⟩
 ·exact none _ _ b
 ·exact none _ _ b
theorem DR (L:SlLaysF.n6 P QP){m:Nat}(enc:Nat→Value)(h1:∀i,i<m→(enc i).oneCell'=true)(cf:Nat→Nat→Int)(n:∀a,a<m→¬cf a a<0)(o:∀a b c,a<m→b<m→c<m→cf a b<0→cf b c<0→cf a c<0)
 (p:∀a b c,a<m→b<m→c<m→¬cf a b<0→¬cf b c<0→¬cf a c<0) (g:Nat) (q:aI P g) (caps:List Value) (D:du)
 (r:∀a b,a<m→b<m→eE P g ([enc a,enc b]++caps).toArray [D] (iv (cf a b))) (v:Value) (e:TypeId) (hm:m<4611686018427387904):
 dz P (QP.f 6) #[v,.func (.func g) #[] caps.toArray] ([D].map aB++ [row v e 1 m ((List.range m).map enc)]) (λu H'=>u= .tuple #[]∧∃l:List Nat,l.Perm (List.range m)∧l.Pairwise (λa b=>¬cf b a<0)∧H'=[row v e 1 m (l.map enc)]):=by
 rcases Nat.eq_zero_or_pos m with rfl|s
 ·exact(DQ L (.func (.func g) #[] caps.toArray) v e D).mono λu H' ⟨h1,j⟩=>⟨h1,[],List.Perm.refl _,List.Pairwise.nil,j⟩
 ·haveI:Inhabited {i:Nat//i<m}:=⟨⟨0,s⟩⟩
  let d:List {i:Nat//i<m}:=(List.range m).attach.map λx=>⟨x.1,dt.1 x.2⟩
  have t:d.length=m:=by simp[d]
  have k:d.map (λx=>x.1)=List.range m:=by simp[d,List.map_map,Function.comp_def]
  have A:d.map (λx=>enc x.1)=(List.range m).map enc:=by rw[←k];simp[List.map_map,Function.comp_def]
  have hO:SWO (ltOf λ(x y:{i:Nat//i<m})=>cf x.1 y.1):=by
   refine⟨λx=>fI (n x.1 x.2),λx y z h1 j=>eB (o _ _ _ x.2 y.2 z.2 (fJ h1) (fJ j)),λx y z h1 j=>fI (p _ _ _ x.2 y.2 z.2 (iX h1) (iX j))⟩
  have main:=Aq L (λx:{i:Nat//i<m}=>enc x.1) (λx=>h1 x.1 x.2) (λx y=>cf x.1 y.1) hO g caps.toArray (λargs w=>q.run) [D] (λx y=>by have:=r x.1 y.1 x.2 y.2;simpa using this) v e d (by omega)
  rw[t,A]at main;refine main.mono ?_;rintro u H' ⟨hu,B,hp,C,hH⟩;refine⟨hu,B.map (λx=>x.1),?_,?_,?_⟩
  ·have:=hp.map (λx=>x.1);rw[k]at this;exact this
  ·rw[sF]
   exact C.imp λh=>iX h
  ·rw[hH];simp[List.map_map,Function.comp_def]
end
end Go.J
namespace Go.Proofs.YtblifkgpebebmaaGreatDoor
open Go Go.J Tryz
def xG:dL:=⟨0,0,0,⟨bT,[]⟩,bT,[],bT,[]⟩
def Un (o:List Nat)(w:ri):ri:=⟨w.rule,w.lex,w.kv,w.kids.map (pB o)⟩
def AB (o:List Nat)(x:dL):dL:=⟨x.frm,x.tqo,x.cw,x.gr,x.wv,x.cW.map (Un o),x.tv,x.bf⟩
def mX (w:ri):du:=sl aJ w.kv.1 (bW w.kids)
def cj (x:dL):du:=iP [aG x.gr,sl mK x.wv.1 x.cW,aF mX x.cW]
theorem TR (its:List dL):((l9 (its.map cH)).map λi=>AB (l9 (its.map cH)) (its.getD i xG)).map cH=gn (its.map cH):=by
 unfold gn;rw[kH]
 refine C1 λi _=> ?_
 have e:(its.map cH).getD i gh=cH (its.getD i xG):=by
  simp only[List.getD_eq_getElem?_getD,List.getElem?_map]
  cases its[i]? with
  |none=>rfl
  |some x=>rfl
 rw[e]
 show cH (AB _ _)=_
 unfold AB cH
 simp only[List.map_map]
 congr 1
theorem D0 {o:List Nat}(hd:o.Nodup){k i:Nat}(hk:o[k]?=some i):o.idxOf i=k:=by
 have a:=ai hk
 have b:o[k]=i:=by rw[bU a]at hk;exact Option.some.inj hk
 rw[←b];exact hd.idxOf_getElem k a
def OL (n k:Nat):List Int:=bW (List.range k)++List.replicate (n-k) 0
theorem VP {n k:Nat}(h:k<n):(OL n k).set k (k:Int)=OL n (k+1):=by
 unfold OL;rw[lJ _ _ (by rw[dY,jV];exact aR _),dY,jV,fh,ua,kf,dq,show n-k=(n-(k+1))+1 by omega,List.replicate_succ,sG];rfl
theorem VO (n:Nat):OL n n=bW (List.range n):=by unfold OL;rw[fh];simp
def KG (o:List Nat)(k:Nat):List Int:=(List.range o.length).map λi=>if o.idxOf i<k then(o.idxOf i:Int)else 0
theorem Qi (o:List Nat):KG o 0=List.replicate o.length 0:=by
 unfold KG
 refine pZ λj=> ?_
 rw[bQ,s9]
 rcases eP j o.length with a|a
 ·rw[nY a,aC a];rfl
 ·rw[ij (by simpa using a),aA (by omega)];rfl
theorem Qj {o:List Nat}(hd:o.Nodup){k i:Nat}(hk:o[k]?=some i)(f:i<o.length):(KG o k).set i (k:Int)=KG o (k+1):=by
 have a:=ai hk
 have b:o.idxOf i=k:=by
  have m:o[k]=i:=by rw[bU a]at hk;exact Option.some.inj hk
  rw[←m];exact hd.idxOf_getElem k a
 refine pZ λj=> ?_
 unfold KG
 by_cases e:j=i
 ·subst e
  rw[fT (by rw[aO,jV];exact f),bQ,nY f]
  show some _=some _
  dsimp only
  rw[b,aC (by omega)]
 ·rw[ik (λh=>e h.symm),bQ,bQ]
  rcases eP j o.length with d|d
  ·rw[nY d]
   show some _=some _
   dsimp only
   have p:o.idxOf j≠k:=λg=>by
    have:o.idxOf j<o.length:=by rw[g];exact a
    have n:=List.getElem_idxOf this
    have l:o[k]?=some j:=by rw[←g,bU this,n]
    rw[hk]at l;exact e (Option.some.inj l).symm
   congr 1
   try dsimp only
   by_cases c:o.idxOf j<k
   ·rw[aC c,aC (by omega)]
   ·rw[aA c,aA (by omega)]
  ·rw[ij (by simpa using d)];rfl
theorem VQ {o:List Nat}{i:Nat}(a:i<o.length)(hm:i∈o):(KG o o.length)[i]?=some ((pB o i:Nat):Int):=by
 unfold KG pB;rw[bQ,nY a]
 show some _=some _
 dsimp only
 rw[aC (List.idxOf_lt_length_iff.2 hm)]
def I2 (o:List Nat)(its:List dL)(k:Nat):List dL:=((o.take k).map λi=>AB o (its.getD i xG))++List.replicate (o.length-k) xG
theorem VK {o:List Nat}{its:List dL}{k:Nat}(h:k≤o.length):(I2 o its k).length=o.length:=by unfold I2;rw[bR,aO,eU,kG];omega
theorem M1 {o:List Nat}{its:List dL}{k i:Nat}{x:dL}(hk:o[k]?=some i)(hx:its[i]?=some x):(I2 o its k).set k (AB o x)=I2 o its (k+1):=by
 have a:=ai hk
 unfold I2;rw[lJ _ _ (by rw[aO,eU];omega),aO,eU,ko (by omega),fh,ag hk,cP,dq,show o.length-k=(o.length-(k+1))+1 by omega,List.replicate_succ,sG]
 have e:its.getD i xG=x:=by rw[aw,hx];rfl
 rw[fK,lh,e];rfl
def T2 (o:List Nat)(its:List dL)(k:Nat):List dL:=its.zipIdx.map λp=>if o.idxOf p.2<k then AB o p.1 else p.1
theorem M9 (o:List Nat)(its:List dL)(k:Nat):(T2 o its k).length=its.length:=by unfold T2;rw[aO,List.length_zipIdx]
theorem B4 (o:List Nat)(its:List dL)(k i:Nat):(T2 o its k)[i]?=(its[i]?).map λx=>if o.idxOf i<k then AB o x else x:=by
 unfold T2;rw[bQ,List.getElem?_zipIdx]
 cases its[i]? with
 |none=>rfl
 |some x=>simp
theorem Qm (o:List Nat)(its:List dL):T2 o its 0=its:=pZ λi=>by
 rw[B4]
 cases its[i]? with
 |none=>rfl
 |some x=>simp
theorem VS {o:List Nat}(hd:o.Nodup){its:List dL}{k i:Nat}{x:dL}(hk:o[k]?=some i)(hx:its[i]?=some x):(T2 o its k).set i (AB o x)=T2 o its (k+1):=by
 have a:=ai hk
 have f:o.idxOf i=k:=by
  have g:o[k]=i:=by rw[bU a]at hk;exact Option.some.inj hk
  rw[←g];exact hd.idxOf_getElem k a
 refine pZ λj=> ?_
 by_cases e:j=i
 ·subst e
  rw[fT (by rw[M9];exact ai hx),B4,hx]
  show some _=some _
  dsimp only
  rw[aC (by omega)]
 ·rw[ik (λh=>e h.symm),B4,B4]
  cases m:its[j]? with
  |none=>rfl
  |some y=>
   show some _=some _
   dsimp only
   congr 1
   have n:o.idxOf j≠k:=λb=>by
    have:o.idxOf j<o.length:=by rw[b];exact a
    have l:=List.getElem_idxOf this
    have d:o[k]?=some j:=by rw[←b,bU this,l]
    rw[hk]at d;exact e (Option.some.inj d).symm
   by_cases c:o.idxOf j<k
   ·rw[aC c,aC (by omega)]
   ·rw[aA c,aA (by omega)]
theorem VR {o:List Nat}{its:List dL}(h:∀i,i<its.length→i∈o):T2 o its o.length=its.map (AB o):=pZ λi=>by
 rw[B4,bQ]
 cases a:its[i]? with
 |none=>rfl
 |some x=>
  show some _=some _
  dsimp only
  rw[aC (List.idxOf_lt_length_iff.2 (h i (ai a)))]
theorem P5 (o:List Nat)(l:List ri):rows mK (l.map (Un o))=rows mK l:=by
 unfold rows
 rw[List.flatMap_map];rfl
theorem WH {α:Type}(f:α→List ak)(X:List ak){l:List α}{i:Nat}{x:α}(h:l[i]?=some x):(bF f l++X).Perm (f x++(bF f (l.eraseIdx i)++X)):=by
 rw[←dq];exact(nK f h).append_right X
theorem aaB {α:Type}(f:α→List ak)(X:List ak){l:List α}{i:Nat}(x:α)(h:i<l.length):(f x++(bF f (l.eraseIdx i)++X)).Perm (bF f (l.set i x)++X):=by
 rw[←dq];exact(sR f x h).append_right X
def W2 (o:List Nat)(l:List ri)(m:Nat):List ri:=(l.take m).map (Un o)++l.drop m
theorem Qp (o:List Nat)(l:List ri):W2 o l 0=l:=rfl
theorem Yk {o:List Nat}{l:List ri}{m:Nat}{w:ri}(h:l[m]?=some w):(W2 o l m)[m]?=some w:=by
 have:=ai h
 unfold W2
 rw[lg (by rw[aO,eU];omega),aO,eU,ko (by omega),fh,A6];simpa using h
theorem VV {o:List Nat}{l:List ri}{m:Nat}(h:m≤l.length):(W2 o l m).length=l.length:=by unfold W2;rw[bR,aO,eU,A7];omega
theorem VW {o:List Nat}{l:List ri}{m:Nat}{w:ri}(h:l[m]?=some w):(W2 o l m).set m (Un o w)=W2 o l (m+1):=by
 have a:=ai h
 unfold W2
 rw[lJ _ _ (by rw[aO,eU];omega),aO,eU,ko (by omega),fh,ag h,bO h,sG,cP,dq];rfl
theorem VU (o:List Nat)(l:List ri):W2 o l l.length=l.map (Un o):=by unfold W2;simp
def K2 (o l:List Nat)(d:Nat):List Nat:=(l.take d).map (pB o)++l.drop d
theorem Qe (o l:List Nat):K2 o l 0=l:=rfl
theorem Yi {o l:List Nat}{d k:Nat}(h:l[d]?=some k):(K2 o l d)[d]?=some k:=by
 have:=ai h
 unfold K2
 rw[lg (by rw[aO,eU];omega),aO,eU,ko (by omega),fh,A6];simpa using h
theorem VN {o l:List Nat}{d k:Nat}(h:l[d]?=some k):(K2 o l d).set d (pB o k)=K2 o l (d+1):=by
 have a:=ai h
 unfold K2
 rw[lJ _ _ (by rw[aO,eU];omega),aO,eU,ko (by omega),fh,ag h,bO h,sG,cP,dq];rfl
theorem VM (o l:List Nat):K2 o l l.length=l.map (pB o):=by unfold K2;simp
theorem En (l:List Nat)(d k:Nat):(bW l).set d (k:Int)=bW (l.set d k):=by unfold bW;rw[jm]
theorem Wr {c:Ctx}(p b:TypeId){x:dL}(hw:∀w∈x.cW,mK.wf w∧∀k∈w.kids,aa (k:Int))(H:List ak)(w:World)(h:Mm c (ep p b x++H) w):Mm c (aB (iP [sl mK x.wv.1 x.cW,aF mX x.cW])::H) w:=by
 obtain⟨ρ,k⟩:=h.out
 have h1:=k.bS mK x.cW rfl rfl (λy hy=>(hw y hy).1)
 obtain⟨n,e⟩:=h1.out
 have f:=(e.perm (List.Perm.swap _ _ _)).drop
 have g:Mm c (bF (jH b) x.cW++(aB (sl mK x.wv.1 x.cW)::H)) w:=Mm.mk (f.perm qi.symm)
 have gen:∀(l:List ri) (H:List ak),(∀y∈l,∀k∈y.kids,aa (k:Int))→Mm c (bF (jH b) l++H) w→Mm c (aB (aF mX l)::H) w:=by
  intro l
  induction l with
  |nil=>exact λH _ h=>h.fact (aF mX []) λρ _ x hx=>by cases hx
  |cons a l q=>
   intro H o h;rw[iy,dq]at h;obtain⟨ρ,k⟩:=h.out
   have h1:=k.bS aJ (bW a.kids) rfl (dY _).symm (λz hz=>by obtain⟨z2,i,rfl⟩:=dC.1 hz;exact o a (by simp) z2 i)
   obtain⟨n,e⟩:=h1.out
   have e:ez c (aB (mX a)::(bF (jH b) l++H)) n w:=e
   have r:Mm c (bF (jH b) l++(aB (mX a)::H)) w:=Mm.mk (e.perm qi.symm)
   have g:=q _ (λy hy=>o y (by simp[hy])) r
   have j:Mm c (aB (aF mX (a::l))::aB (aF mX l)::aB (mX a)::H) w:=g.fact _ (λρ hm x hx=>by
    rcases cK.1 hx with rfl|hx
    ·exact dA.1 (hm.dM (aB (mX x)) (by simp))
    ·exact dA.1 (hm.dM (aB (aF mX l)) (by simp)) x hx)
   obtain⟨m,k⟩:=j.out
   have f:ez c (aB (aF mX l)::aB (mX a)::aB (aF mX (a::l))::H) m w:=k.perm ((List.Perm.swap _ _ _).trans ((List.Perm.swap _ _ _).cons _))
   exact Mm.mk f.drop.drop
 have j:=gen x.cW _ (λy hy=>(hw y hy).2) g
 have s:Mm c (aB (iP [sl mK x.wv.1 x.cW,aF mX x.cW])::aB (aF mX x.cW)::aB (sl mK x.wv.1 x.cW)::H) w:=j.fact _ (λρ hm d hd=>by
  rcases cK.1 hd with rfl|hd
  ·exact dA.1 (hm.dM (aB (sl mK x.wv.1 x.cW)) (by simp))
  ·rw[bP.1 hd];exact dA.1 (hm.dM (aB (aF mX x.cW)) (by simp)))
 obtain⟨m,k⟩:=s.out
 have f:ez c (aB (aF mX x.cW)::aB (sl mK x.wv.1 x.cW)::aB (iP [sl mK x.wv.1 x.cW,aF mX x.cW])::H) m w:=k.perm ((List.Perm.swap _ _ _).trans ((List.Perm.swap _ _ _).cons _))
 exact Mm.mk f.drop.drop
theorem Mm.aeU {c:Ctx}{α:Type}{f:α→List ak}{g:α→du}{w:World}:∀(l:List α) (H:List ak),(∀a∈l,∀H,Mm c (f a++H) w→Mm c (aB (g a)::H) w)→Mm c (bF f l++H) w→Mm c (aB (aF g l)::H) w
 | [],H,_,h=>h.fact (aF g []) λρ _ x hx=>by cases hx
 |a::l,H,d,h=>by
  rw[iy,dq]at h
  have h1:=d a (by simp) _ h
  obtain⟨p,e⟩:=h1.out
  have i:Mm c (bF f l++(aB (g a)::H)) w:=Mm.mk (e.perm qi.symm)
  have j:=Mm.aeU l _ (λb m=>d b (by simp[m])) i
  have n:Mm c (aB (aF g (a::l))::aB (aF g l)::aB (g a)::H) w:=j.fact _ (λρ hm x hx=>by
   rcases cK.1 hx with rfl|hx
   ·exact dA.1 (hm.dM (aB (g x)) (by simp))
   ·exact dA.1 (hm.dM (aB (aF g l)) (by simp)) x hx)
  obtain⟨ρ,k⟩:=n.out
  have o:ez c (aB (aF g l)::aB (g a)::aB (aF g (a::l))::H) ρ w:=k.perm ((List.Perm.swap _ _ _).trans ((List.Perm.swap _ _ _).cons _))
  exact Mm.mk o.drop.drop
theorem St.XT {n:Nat}{F:Fr}{c:Ctx}{H H':List ak}{T:Act→World→Prop}(e f:TypeId)(l:List dL)(hw:∀x∈l,∀w∈x.cW,mK.wf w∧∀k∈w.kids,aa (k:Int))[g:jE (bF (ep e f) l) [] H H'](h:St n F (Mm c (aB (aF (λx:dL=>iP [sl mK x.wv.1 x.cW,aF mX x.cW]) l)::H')) T):St n F (Mm c H) T:=by
 obtain⟨L,a,b⟩:=g.eq
 refine h.o6 λw d=> ?_
 rw[b,gu];refine Mm.aeU l L (λx hx H h=>Wr e f (hw x hx) H w h) ?_;obtain⟨ρ,k⟩:=d.out;refine Mm.mk (k.perm ?_);rw[a];exact jX
theorem Hy (a b:Nat)(u:aV)(its:List dL)(hd:((its.map cH).map λx=>fa x.ed).Nodup)(v:Value)(o:its.length≤1000):
 dz prog 125 #[v,.func (.func 126) #[] [Value.pointer (some ⟨a,0,none⟩)].toArray] ([iP [pe a (.pointer (some ⟨b,0,none⟩)),pe b u.1,sl eD u.1 its,aF (λx:dL=>aG x.gr) its]].map aB++ [row v 3 1 its.length (rows aJ (bW (List.range its.length)))]) (λr H'=>r= .tuple #[]∧H'=[row v 3 1 its.length (rows aJ (bW (l9 (its.map cH))))]):=by
 have d:∀i,i<its.length→∃x,its[i]?=some x∧(its.map cH).getD i gh=cH x:=λi c=>by
  obtain⟨x,hx⟩:=aE c;exact⟨x,hx,by rw[aw,bQ,hx];rfl⟩
 have e:∀l:List Nat,rows aJ (bW l)=l.map λi=>iv (i:Nat):=λl=>by rw[jR,bW,kH];rfl
 have main:=DR Tryz.yy (m:=its.length) (λi=>iv (i:Nat)) (λ_ _=>rfl) (λi j=>xU ((its.map cH).getD i gh).ed ((its.map cH).getD j gh).ed) (λ_ _=>Ii _) (λ_ _ _ _ _ _=>BD) (λ_ _ _ _ _ _=>ya) 126 ZM [Value.pointer (some ⟨a,0,none⟩)] (iP [pe a (.pointer (some ⟨b,0,none⟩)),pe b u.1,sl eD u.1 its,aF (λx:dL=>aG x.gr) its]) (λi j c f=>by
  obtain⟨x,hx,ex⟩:=d i c;obtain⟨y,hy,g⟩:=d j f;rw[ex,g]
  exact(Hw a b u its i j x y hx hy).all) v 3 (by omega)
 rw[e];refine main.mono ?_;rintro r H' ⟨h1,l,hp,h,k⟩;refine⟨h1,?_⟩
 have n:l=l9 (its.map cH):=OV hd (by rw[aO];exact hp) h
 rw[k,n,e]
theorem LY (a n:Nat)(u:aV)(its:List dL)(hd:((its.map cH).map λx=>fa x.ed).Nodup)(V:its.length≤1000)(hw:∀x∈its,x.cW.length≤3000000000000∧∀w∈x.cW,mK.wf w∧w.kids.length≤1000∧∀k∈w.kids,k<its.length):
 dz prog 91 #[.pointer (some ⟨a,0,none⟩)] ([aF (λx:dL=>aG x.gr) its].map aB++([aW a (.cells [u.1,iv (n:Nat),(.slice none 0 0)].toArray 120 (0,0)),row u.1 186 6 its.length (rows eD its)]++bF (ep 200 3) (its))) (λv H'=>∃(Q:aV) (E:List dL),E.map cH=gn (its.map cH)∧H'=[aW a (.cells [Q.1,iv (n:Nat),(.slice none 0 0)].toArray 120 (0,0)),aB (sl eD Q.1 E),aB (aF cj E)]):=by
 refine dz.body (args:=[.pointer (some ⟨a,0,none⟩)]) 101 func91 rfl ntmps91 rfl (λc=> ?_);refine St.cast (H':=(aB (aF (λx:dL=>aG x.gr) its)::aW a (.cells [u.1,iv (n:Nat),(.slice none 0 0)].toArray 120 (0,0))::row u.1 186 6 its.length (rows eD its)::bF (ep 200 3) (its))) rfl ?_;refine go ?_;refine St.bS u.1 eD its rfl rfl (λ_ _=>trivial) ?_
 obtain⟨o,F⟩:∃o,o=(l9 (its.map cH)):=⟨_,rfl⟩
 have t:o.Perm (List.range its.length):=by rw[F,show its.length=(its.map cH).length from(aO _).symm];exact ji _ _
 have A:o.length=its.length:=by rw[t.length_eq,jV]
 have r:o.Nodup:=t.nodup_iff.2 List.nodup_range
 have C:∀i,i<its.length→i∈o:=λi b=>t.mem_iff.2 (dt.2 b)
 refine go ?_;refine St.MY (.mk rfl) rfl rfl (λs=> ?_);refine g9 ?_;refine St.sV (m:=its.length) (.mk rfl) (.mk rfl) bJ dK eT xT rfl rfl (by omega) rfl rfl (λf=> ?_);refine St.aM (.slice (some ⟨f,0,none⟩) its.length its.length) rfl (show _=rows aJ (OL its.length 0) by rw[zP];rfl) ?_;refine g12 ?_;refine St.lH (ι:=Nat) (λk T=>(22,iv k)::T) (λk=>(aW a (.cells [u.1,iv (n:Nat),(.slice none 0 0)].toArray 120 (0,0))::aW s (.cells [.pointer (some ⟨a,0,none⟩)].toArray 239 (0,0))::aB (sl eD u.1 its)::aB (aF (λx:dL=>aG x.gr) its)::row (.slice (some ⟨f,0,none⟩) its.length its.length) 3 1 its.length (rows aJ (OL its.length k))::bF (ep 200 3) (its))) (λk=>k≤its.length) (λk=>its.length-k) 0 (aD.cons 1 rfl (aD.cons 2 rfl (aD.cons 21 rfl aD.nil))) (aP _) ?_;intro k hk;refine g6 ?_;refine St.cq (λW=> ?_) (λW=> ?_)
 ·skip
  refine g15 ?_;refine St.cJ (.mk rfl) (.mk rfl) dK rfl (by omega) (by decide) ?_;refine St.aM (.slice (some ⟨f,0,none⟩) its.length its.length) rfl (show _=rows aJ (OL its.length (k+1)) by rw[jB,VP (by omega)]) ?_;refine g8 ?_;refine St.aH (k+1) (by omega)
 ·obtain rfl:k=its.length:=by omega
  rw[VO];refine g8 ?_;refine St.ee (Ev.func (.ar rfl)) ?_;refine St.ZE (ds:=[iP [pe s (.pointer (some ⟨a,0,none⟩)),pe a u.1,sl eD u.1 its,aF (λx:dL=>aG x.gr) its]]) (L:=[row (.slice (some ⟨f,0,none⟩) its.length its.length) 3 1 its.length (rows aJ (bW (List.range its.length)))]) (R:=_) (Hy s a u its hd (.slice (some ⟨f,0,none⟩) its.length its.length) V) ZL (.aX rfl rfl) (iq.iP (iq.aW (iq.aW (iq.aB (iq.aB iq.nil))))) (gx.row gx.nil) (λv H' h=>h.2▸gx.row gx.nil) rfl ?_;rintro v32 _ ⟨rfl,rfl⟩;rw[←F];refine St.ao ?_;refine g6 ?_;refine St.sV (m:=its.length) (.mk rfl) (.mk rfl) bJ dK eT xT rfl rfl (by omega) rfl rfl (λB=> ?_);refine St.aM (.slice (some ⟨B,0,none⟩) its.length its.length) rfl (show _=rows aJ (KG o 0) by rw[zP,Qi,A]) ?_;refine g12 ?_;refine St.lH (ι:=Nat) (λk T=>(38,iv k)::T) (λk=>(aW a (.cells [u.1,iv (n:Nat),(.slice none 0 0)].toArray 120 (0,0))::aW s (.cells [.pointer (some ⟨a,0,none⟩)].toArray 239 (0,0))::aB (sl eD u.1 its)::aB (aF (λx:dL=>aG x.gr) its)::row (.slice (some ⟨f,0,none⟩) its.length its.length) 3 1 its.length (rows aJ (bW o))::row (.slice (some ⟨B,0,none⟩) its.length its.length) 3 1 its.length (rows aJ (KG o k))::bF (ep 200 3) (its))) (λk=>k≤its.length) (λk=>its.length-k) 0 (aD.cons 1 rfl (aD.cons 2 rfl (aD.cons 4 rfl (aD.cons 36 rfl (aD.cons 37 rfl aD.nil))))) (aP _) ?_;intro k hk;refine g6 ?_;refine St.cq (λX=> ?_) (λX=> ?_)
  ·obtain⟨i,b⟩:=aE (show k<o.length by omega)
   have D:i<its.length:=dt.1 (t.mem_iff.1 (aZ b))
   refine g8 ?_;refine St.ee (Ev.ct (.mk rfl) gD trivial (by omega) (gU (gQ b))) ?_;refine g9 ?_;refine St.cJ (.mk rfl) (.mk rfl) dK rfl (by omega) (by decide) ?_;refine St.aM (.slice (some ⟨B,0,none⟩) its.length its.length) rfl (show _=rows aJ (KG o (k+1)) by rw[jB,Qj r b (by omega)]) ?_;refine g8 ?_;refine St.aH (k+1) (by omega)
  ·obtain rfl:k=its.length:=by omega
   refine g9 ?_;refine St.nL (Rr:=eD) (g:=xG) (m:=its.length) (sz:=6) rfl (.mk rfl) (.mk rfl) nV oV GF Ma rfl rfl (by omega) rfl rfl (λj=> ?_);refine St.aM (.slice (some ⟨j,0,none⟩) its.length its.length) rfl (show _=rows eD (I2 o its 0) by unfold I2;rw[A9,lh,C7,Nat.sub_zero,A]) ?_;refine g12 ?_;refine St.Ef (ι:=Nat) (λk T=>(53,iv k)::T) (λk=>(aW a (.cells [u.1,iv (n:Nat),(.slice none 0 0)].toArray 120 (0,0))::aW s (.cells [.pointer (some ⟨a,0,none⟩)].toArray 239 (0,0))::aB (sl eD u.1 its)::aB (aF (λx:dL=>aG x.gr) its)::row (.slice (some ⟨f,0,none⟩) its.length its.length) 3 1 its.length (rows aJ (bW o))::row (.slice (some ⟨B,0,none⟩) its.length its.length) 3 1 its.length (rows aJ (KG o its.length))::row (.slice (some ⟨j,0,none⟩) its.length its.length) 186 6 its.length (rows eD (I2 o its (k)))::bF (ep 200 3) (T2 o its k))) (λk=>k≤its.length) (λk=>its.length-k) 0 (aD.cons 1 rfl (aD.cons 4 rfl (aD.cons 7 rfl (aD.cons 51 rfl (aD.cons 52 rfl aD.nil))))) (aP _) (by repeat(first|exact Sub.nil|refine Sub.cons (by first|rfl|exact congrArg (λz=>some (iv z)) (by first|omega|(dsimp only;omega))|exact congrArg (λz=>some (Value.bool z)) (by first|assumption|exact ig (by assumption))) ?_)) (λ_ hw=>by rw[Qm];exact hw.sub) ?_;intro k hk;refine g6 ?_;refine St.cq (λY=> ?_) (λY=> ?_)
   ·obtain⟨i,b⟩:=aE (show k<o.length by omega)
    have D:i<its.length:=dt.1 (t.mem_iff.1 (aZ b))
    obtain⟨x,hx⟩:=aE D;obtain⟨Lu,G⟩:=hw x (aZ hx)
    have Z:=D0 r b
    have hT:(T2 o its k)[i]?=some x:=by rw[B4,hx];show some _=some _;dsimp only;rw[aA (by omega)]
    have hI:=VK (o:=o) (its:=its) (k:=k) (by omega)
    refine g8 ?_;refine St.ee (Ev.ct (.mk rfl) gD trivial (by omega) (gU (gQ b))) ?_;refine g14 ?_;refine St.ee (Ev.Ea (Rr:=eD) (sz:=6) (.mk rfl) hx underlying186 trivial oV (by decide) (by decide)) ?_;refine go ?_;refine St.uN (Rr:=eD) (show eD.size=6 from rfl) (AB o x) (.mk rfl) (.mk rfl) oV (by omega) (by omega) ?_;rw[M1 b hx];refine g6 ?_
    have H:(I2 o its (k+1))[k]?=some (AB o x):=by rw[←M1 b hx,fT (by omega)]
    refine St.aM (.slice (some ⟨j,0,none⟩) its.length its.length) rfl (show _=rows eD (I2 o its (k+1))from rfl) ?_;refine g2 ?_;refine St.ee (Ev.ct (.mk rfl) uS trivial (by omega) (eO eD _ k 4 _ H (by decide))) ?_;refine St.slot 72 x.wv.1 rfl rfl ?_;refine St.tail (bF (ep 200 3) (T2 o its k)) (row x.wv.1 200 3 x.cW.length (rows mK x.cW)::row x.tv.1 3 1 x.bf.length (rows aJ x.bf)::(bF (jH 3) x.cW++bF (ep 200 3) ((T2 o its k).eraseIdx i))) (nK (ep 200 3) hT) ?_;refine g5 ?_;refine St.Ef (ι:=Nat) (λm T=>(74,iv m)::T) (λm=>(aW a (.cells [u.1,iv (n:Nat),(.slice none 0 0)].toArray 120 (0,0))::aW s (.cells [.pointer (some ⟨a,0,none⟩)].toArray 239 (0,0))::aB (sl eD u.1 its)::aB (aF (λx:dL=>aG x.gr) its)::row (.slice (some ⟨f,0,none⟩) its.length its.length) 3 1 its.length (rows aJ (bW o))::row (.slice (some ⟨B,0,none⟩) its.length its.length) 3 1 its.length (rows aJ (KG o its.length))::row (.slice (some ⟨j,0,none⟩) its.length its.length) 186 6 its.length (rows eD (I2 o its (k+1)))::row x.wv.1 200 3 x.cW.length (rows mK x.cW)::row x.tv.1 3 1 x.bf.length (rows aJ x.bf)::(bF (jH 3) (W2 o x.cW m)++bF (ep 200 3) ((T2 o its k).eraseIdx i)))) (λm=>m≤x.cW.length) (λm=>x.cW.length-m) 0 (aD.cons 1 rfl (aD.cons 4 rfl (aD.cons 7 rfl (aD.cons 51 rfl (aD.cons 52 rfl (aD.cons 53 rfl (aD.cons 72 rfl (aD.cons 73 rfl aD.nil)))))))) (aP _) (by repeat(first|exact Sub.nil|refine Sub.cons (by first|rfl|exact congrArg (λz=>some (iv z)) (by first|omega|(dsimp only;omega))|exact congrArg (λz=>some (Value.bool z)) (by first|assumption|exact ig (by assumption))) ?_)) (λ_ hw=>by rw[Qp];exact hw.sub) ?_;intro m hm;refine g6 ?_;refine St.cq (λI=> ?_) (λI=> ?_)
    ·obtain⟨w,p⟩:=aE (show m<x.cW.length by omega)
     obtain⟨S,U,J⟩:=G w (aZ p)
     have K:=Yk (o:=o) p
     have hWl:=VV (o:=o) (l:=x.cW) (m:=m) (by omega)
     refine g7 ?_;refine St.ee (Ev.vM (R:=mK) (.mk rfl) p underlying200 trivial wV (by omega)) ?_;refine St.slot 77 (.agg #[iv w.rule,iv w.lex,w.kv.1]) rfl rfl ?_;refine St.al (λYB=> ?_);refine g7 ?_;refine St.tail (bF (jH 3) (W2 o x.cW m)++bF (ep 200 3) ((T2 o its k).eraseIdx i)) (row w.kv.1 3 1 w.kids.length (rows aJ (bW w.kids))::(bF (jH 3) ((W2 o x.cW m).eraseIdx m)++bF (ep 200 3) ((T2 o its k).eraseIdx i))) (WH (jH 3) (bF (ep 200 3) ((T2 o its k).eraseIdx i)) K) ?_;refine g5 ?_;refine St.Ef (ι:=Nat) (λd T=>(81,iv d)::T) (λd=>(aW a (.cells [u.1,iv (n:Nat),(.slice none 0 0)].toArray 120 (0,0))::aW s (.cells [.pointer (some ⟨a,0,none⟩)].toArray 239 (0,0))::aB (sl eD u.1 its)::aB (aF (λx:dL=>aG x.gr) its)::row (.slice (some ⟨f,0,none⟩) its.length its.length) 3 1 its.length (rows aJ (bW o))::row (.slice (some ⟨B,0,none⟩) its.length its.length) 3 1 its.length (rows aJ (KG o its.length))::row (.slice (some ⟨j,0,none⟩) its.length its.length) 186 6 its.length (rows eD (I2 o its (k+1)))::row x.wv.1 200 3 x.cW.length (rows mK x.cW)::row x.tv.1 3 1 x.bf.length (rows aJ x.bf)::aW YB (.cells [iv w.rule,iv w.lex,w.kv.1].toArray 200 (0,0))::row w.kv.1 3 1 w.kids.length (rows aJ (bW (K2 o w.kids d)))::(bF (jH 3) ((W2 o x.cW m).eraseIdx m)++bF (ep 200 3) ((T2 o its k).eraseIdx i)))) (λd=>d≤w.kids.length) (λd=>w.kids.length-d) 0 (aD.cons 1 rfl (aD.cons 4 rfl (aD.cons 7 rfl (aD.cons 11 rfl (aD.cons 51 rfl (aD.cons 52 rfl (aD.cons 53 rfl (aD.cons 72 rfl (aD.cons 73 rfl (aD.cons 74 rfl (aD.cons 79 rfl (aD.cons 80 rfl aD.nil)))))))))))) (aP _) (by repeat(first|exact Sub.nil|refine Sub.cons (by first|rfl|exact congrArg (λz=>some (iv z)) (by first|omega|(dsimp only;omega))|exact congrArg (λz=>some (Value.bool z)) (by first|assumption|exact ig (by assumption))) ?_)) (λ_ hw=>by rw[Qe];exact hw.sub) ?_;intro d hdd;refine g6 ?_;refine St.cq (λh82=> ?_) (λh82=> ?_)
     ·obtain⟨q,M⟩:=aE (show d<w.kids.length by omega)
      have hql:=J q (aZ M)
      have N:=Yi (o:=o) M
      refine g8 ?_;refine St.ee (Ev.ct (.mk rfl) gD trivial (by omega) (gU (gQ N))) ?_;refine g4 ?_;refine St.lA w.kv.1 (by omega) (λbs cs Nd=> ?_);refine St.dc (row w.kv.1 3 1 w.kids.length (rows aJ (bW (K2 o w.kids d)))::(bF (jH 3) ((W2 o x.cW m).eraseIdx m)++bF (ep 200 3) ((T2 o its k).eraseIdx i))) mixed (λnp ns=> ?_);refine SW.gd 0 ?_;refine SW.gd 1 ?_;refine SW.gd 2 ?_;refine SW.gd 3 ?_;refine SW.gd 4 ?_;refine SW.gd 5 ?_;refine SW.dd 6 rfl (λ_=>Ev.ct (.mk rfl) gD trivial (by omega) (gU (by rw[←A];exact VQ (by omega) (C q hql)))) ?_;refine SW.dd 7 rfl (λ_=>Ev.n9 (k:=d) Nd (.mk rfl) (.mk rfl) bJ dK (by omega) (by omega)) ?_;refine SW.t1 8 ?_;refine St.cJ (.mk rfl) (.mk rfl) dK rfl (by omega) (by decide) ?_;refine St.aM w.kv.1 rfl (show _=rows aJ (bW (K2 o w.kids (d+1))) by rw[jB,En,VN M]) ?_;refine g2 ?_;refine SW.go ?_;refine SW.dn ?_;refine g7 ?_;refine St.aH (d+1) (by omega)
     ·obtain rfl:d=w.kids.length:=by omega
      rw[VM];refine St.mj [row w.kv.1 3 1 w.kids.length (rows aJ (bW (w.kids.map (pB o))))] (bF (jH 3) ((W2 o x.cW m).eraseIdx m)++bF (ep 200 3) ((T2 o its k).eraseIdx i)) (bF (jH 3) (W2 o x.cW (m+1))++bF (ep 200 3) ((T2 o its k).eraseIdx i)) (by have:=aaB (jH 3) (bF (ep 200 3) ((T2 o its k).eraseIdx i)) (Un o w) (show m<(W2 o x.cW m).length by omega);rw[VW p]at this;unfold jH Un at this;dsimp only at this;rw[aO]at this;exact this) ?_;refine g11 ?_;refine St.aH (m+1) (by omega)
    ·obtain rfl:m=x.cW.length:=by omega
     rw[VU];refine St.mj [row x.wv.1 200 3 x.cW.length (rows mK x.cW),row x.tv.1 3 1 x.bf.length (rows aJ x.bf)] (bF (jH 3) (x.cW.map (Un o))++bF (ep 200 3) ((T2 o its k).eraseIdx i)) (bF (ep 200 3) (T2 o its (k+1))) (by have:=sR (ep 200 3) (AB o x) (show i<(T2 o its k).length by rw[M9];exact D);rw[VS r b hx]at this;unfold ep AB at this;dsimp only at this;rw[aO,P5]at this;exact this) ?_;refine g11 ?_;refine St.aH (k+1) (by omega)
   ·obtain rfl:k=its.length:=by omega
    have O:T2 o its its.length=its.map (AB o):=by rw[←A];exact VR C
    rw[O];refine St.XT 200 3 (its.map (AB o)) (λy hy w U=>by obtain⟨x,hx,rfl⟩:=dC.1 hy;obtain⟨w1,S,rfl⟩:=dC.1 U;have:=(hw x hx).2 w1 S;exact⟨this.1,λk hk=>by obtain⟨k1,hk1,rfl⟩:=dC.1 hk;have h9:pB o k1≤o.length:=List.idxOf_le_length;unfold aa;omega⟩) ?_
    have P:I2 o its its.length=o.map λi=>AB o (its.getD i xG):=by unfold I2;rw[←A,fh,jY];exact gu _
    rw[P];refine St.bS (.slice (some ⟨j,0,none⟩) its.length its.length) eD (o.map λi=>AB o (its.getD i xG)) rfl (by rw[aO,A]) (λ_ _=>trivial) ?_
    refine St.ea (aF cj (o.map λi=>AB o (its.getD i xG))) [aF (λx:dL=>aG x.gr) its,aF (λx:dL=>iP [sl mK x.wv.1 x.cW,aF mX x.cW]) (its.map (AB o))] (λρ h y hy=>by
     have h1:=h _ (aQ ..)
     have h2:=h _ (cO _ (aQ ..))
     obtain⟨i,b,rfl⟩:=dC.1 hy
     have D:i<its.length:=dt.1 (t.mem_iff.1 b)
     obtain⟨x,hx⟩:=aE D
     have SR:its.getD i xG=x:=by rw[aw,hx];rfl
     rw[SR]
     have h3:=h2 (AB o x) (eQ (aZ hx))
     intro e he
     rcases cK.1 he with rfl|he
     ·exact h1 x (aZ hx)
     ·exact h3 e he) ?_
    refine g10 ?_;refine St.cI (.mk rfl) (.mk rfl) PS rfl (by rfl) ?_;refine go ?_;refine St.eH ?_;refine St.rV [] [aW a (.cells [(.slice (some ⟨j,0,none⟩) its.length its.length),iv (n:Nat),(.slice none 0 0)].toArray 120 (0,0)),aB (sl eD (.slice (some ⟨j,0,none⟩) its.length its.length) (o.map λi=>AB o (its.getD i xG))),aB (aF cj (o.map λi=>AB o (its.getD i xG)))] ?_;exact⟨⟨(.slice (some ⟨j,0,none⟩) its.length its.length),rfl⟩,_,by rw[F];exact TR its,rfl⟩
theorem yo {q:List jI}{i:Nat}(h:i<q.length):q.getD i Ih∈q:=by
 rw[aw,bU h];exact iG h
theorem oS (q:List jI)(i j:Nat):(xL q i j).length=q.length:=by unfold xL;rw[cn,cn]
theorem zk {q:List jI}{i j:Nat}(a:i<q.length)(b:j<q.length){u:jI}(h:u∈xL q i j):u∈q:=by
 rcases lI h with h|rfl
 ·rcases lI h with h|rfl
  ·exact h
  ·exact yo b
 ·exact yo a
theorem Sa {q:List jI}{i n:Nat}(h:¬n≤2*i+1):p5 q i n<n:=by unfold p5;split<;>omega
theorem yg:∀(f:Nat) (q:List jI) (i n:Nat),n≤q.length→∀u∈oE f q i n,u∈q
 |0,_,_,_,_,_,h=>h
 |f+1,q,i,n,a,u,h=>by
  rw[oE]at h
  split at h
  ·exact h
  ·rename_i h1
   split at h
   ·exact h
   ·have hk:=Sa (q:=q) h1
    exact zk (by omega) (by omega) (yg f _ _ n (by rw[oS];exact a) u h)
theorem tN:∀(f:Nat) (q:List jI) (i n:Nat),(oE f q i n).length=q.length
 |0,_,_,_=>rfl
 |f+1,q,i,n=>by
  rw[oE]
  split
  ·rfl
  ·split
   ·rfl
   ·rw[tN f,oS]
theorem Jt:∀(f:Nat) (q:List jI) (j:Nat),j<q.length→∀u∈Jr f q j,u∈q
 |0,_,_,_,_,h=>h
 |f+1,q,j,a,u,h=>by
  rw[Jr]at h
  split at h
  ·exact h
  ·exact zk (by omega) a (Jt f _ _ (by rw[oS];omega) u h)
theorem Js:∀(f:Nat) (q:List jI) (j:Nat),(Jr f q j).length=q.length
 |0,_,_=>rfl
 |f+1,q,j=>by
  rw[Jr]
  split
  ·rfl
  ·rw[Js f,oS]
theorem ER (n:Nat):∀(k:Nat) (q:List jI),(ti n k q).length=q.length
 |0,_=>rfl
 |k+1,q=>by rw[ti,ER n k,tN]
theorem ES (n:Nat):∀(k:Nat) (q:List jI),n≤q.length→∀u∈ti n k q,u∈q
 |0,_,_,_,h=>h
 |k+1,q,a,u,h=>yg _ _ _ _ a u (ES n k _ (by rw[tN];exact a) u (by rwa[ti]at h))
theorem FH (q:List jI)(x:jI):(Am q x).length=q.length+1:=by unfold Am;rw[Js,bR,pb]
theorem Oe {q:List jI}{x u:jI}(h:u∈Am q x):u∈q∨u=x:=by
 have:=Jt _ _ _ (by rw[bR,pb];omega) u h
 rcases cG.1 this with h|h
 ·exact .inl h
 ·exact .inr (bP.1 h)
theorem FC (q:List jI):(pC q).length=q.length:=by unfold pC;rw[tN,oS]
theorem FD {q:List jI}(a:0<q.length){u:jI}(h:u∈pC q):u∈q:=zk a (by omega) (yg _ _ _ _ (by rw[oS];omega) u h)
section
variable {B:cr}{f:Nat}{get:eC→Nat→Nat→eC×Option jr}
theorem gN {st:eC}{e:Nat}{x:wF}(h:st[e]?=some x):st.getD e nq=x:=by rw[aw,h];rfl
theorem qz {st:eC}{e:Nat}{x:wF}(h:st[e]?=some x)(q:List jI):DB st e q=st.set e ⟨x.done,q,x.begun⟩:=by unfold DB;rw[gN h]
structure VH (B:cr)(e:Nat)(vg:eC)(w:Nat)(st:eC):Prop where
 ok:jn B st
 hp:Hp B e vg st
 at_:∃x:wF,st[e]?=some x∧x.done=[]∧x.begun=true∧x.next.length≤w
theorem Qx (j:o7 B)(m:su B f get){e w:Nat}{vg st:eC}(he:e<B.its.length)(n:l6 B e<f+1)(hw:w<rO B e)(h:VH B e vg w st):
 VH B e vg (w+1) (AU B get e st w):=by
 obtain⟨x,hx,hd,g,q⟩:=h.at_
 have s:=j.ht e he
 obtain⟨d,a2,a3⟩:=Cg (D:=0) (ranks:=List.replicate (B.fz e w).kids.length 0) j m he n hw (kG) (λr o=>(by rw[wg o];exact aR _)) (by omega) h.ok
 have a:=a2 e (aR _)
 rw[hx]at a;unfold AU
 rcases k:n5 B get st e w (List.replicate (B.fz e w).kids.length 0)with⟨st2,_|c⟩
 ·rw[k]at d a2 a
  exact⟨d,h.hp.trans a2.hp,x,a,hd,g,by omega⟩
 ·rw[k]at d a2 a3 a
  dsimp only at a⊢
  rw[qz a,gN a]
  have p:=a3 c rfl
  have i:=d.nl e x a
  refine⟨d.set (e:=e) (y:=⟨x.done,x.next++ [c],x.begun⟩) ⟨i.done,λc2 b=> ?_,i.dl,λl=>(by rw[g]at l;cases l),?_⟩,(h.hp.trans a2.hp).trans (.set _ _),⟨x.done,x.next++ [c],x.begun⟩,?_,hd,g,?_⟩
  ·rcases cG.1 b with b|b
   ·exact i.next c2 b
   ·rw[bP]at b;subst b;exact p.mono (aP _)
  ·show(x.next++ [c]).length≤_
   rw[bR,pb];omega
  ·exact fT (fA.1 a).1
  ·show(x.next++ [c]).length≤_
   rw[bR,pb];omega
theorem Hd {α:Type}(g:α→Nat→α)(a:α)(n:Nat):(List.range (n+1)).foldl g a=g ((List.range n).foldl g a) n:=by
 rw[ua,wh];rfl
def E3 (B:cr)(get:eC→Nat→Nat→eC×Option jr)(e:Nat)(st:eC)(w:Nat):eC:=(List.range w).foldl (AU B get e) (st.set e ⟨(st.getD e nq).done,(st.getD e nq).next,true⟩)
theorem B8 (e:Nat)(st:eC)(w:Nat):E3 B get e st (w+1)=AU B get e (E3 B get e st w) w:=Hd _ _ _
theorem E0 {e:Nat}{st:eC}(h:(st.getD e nq).begun=false):yQ B get e st=DB (E3 B get e st (rO B e)) e (ti ((E3 B get e st (rO B e)).getD e nq).next.length (((E3 B get e st (rO B e)).getD e nq).next.length/2) ((E3 B get e st (rO B e)).getD e nq).next):=by
 unfold yQ;rw[aA (by rw[h];decide)];rfl
theorem E2 {e:Nat}{st:eC}(h:(st.getD e nq).begun=true):yQ B get e st=st:=by unfold yQ;rw[aC h]
theorem CV (g:o7 B)(h:su B f get){e:Nat}{st:eC}(he:e<B.its.length)(i:l6 B e<f+1)(b:jn B st)(c:(st.getD e nq).begun=false):∀w,w≤rO B e→VH B e st w (E3 B get e st w)
 |0,_=>by
  obtain⟨x,hx,d,a⟩:=b.at_ he;rw[d]at c;obtain⟨j,k⟩:=a.new c
  have hy:Qg B e ⟨x.done,x.next,true⟩:=⟨a.done,a.next,a.dl,λl=>(by cases l),a.nl⟩
  refine⟨?_,?_,⟨x.done,x.next,true⟩,?_,j,rfl,?_⟩
  ·show jn B (st.set e ⟨(st.getD e nq).done,(st.getD e nq).next,true⟩);rw[d];exact b.set hy
  ·exact .set _ _
  ·show(st.set e ⟨(st.getD e nq).done,(st.getD e nq).next,true⟩)[e]?=_;rw[d];exact fT (fA.1 hx).1
  ·show x.next.length≤0;rw[k];exact aR _
 |w+1,hw=>by rw[B8];exact Qx g h he i (by omega) (CV g h he i b c w (by omega))
structure GO (B:cr)(e:Nat)(vg st:eC):Prop where
 ok:jn B st
 hp:Hp B e vg st
 at_:∃x:wF,st[e]?=some x∧x.begun=true
theorem MN (l:o7 B)(m:su B f get){e:Nat}{st:eC}(he:e<B.its.length)(n:l6 B e<f+1)(b:jn B st):GO B e st (yQ B get e st):=by
 obtain⟨x0,o,g,_⟩:=b.at_ he
 cases d:x0.begun with
 |true=>rw[E2 (by rw[g];exact d)];exact⟨b,.refl _ _ _,x0,o,d⟩
 |false=>
  have i:(st.getD e nq).begun=false:=by rw[g];exact d
  rw[E0 i]
  have h:=CV l m he n b i (rO B e) (aR _)
  obtain⟨x,hx,hd,j,q⟩:=h.at_
  have a:=h.ok.nl e x hx
  rw[qz hx,gN hx];refine⟨h.ok.set ⟨a.done,λc p=>a.next c (ES _ _ _ (aR _) c p),a.dl,λk=>(by rw[j]at k;cases k),?_⟩,h.hp.trans (.set _ _),_,fT (fA.1 hx).1,j⟩
  show(ti _ _ _).length≤_
  rw[ER];exact a.nl
theorem Ob {st:eC}{e:Nat}{x:wF}(h:st[e]?=some x):LG st e=st.set e ⟨x.done++ [((pC x.next).getD (x.next.length-1) Ih).rk],(pC x.next).take (x.next.length-1),x.begun⟩:=by unfold LG;rw[gN h]
theorem JM {st:eC}{e:Nat}{x:wF}(h:st[e]?=some x):FB st e=(pC x.next).getD (x.next.length-1) Ih:=by unfold FB;rw[gN h]
structure Dr (B:cr)(e D:Nat)(vg:eC)(d:Nat)(st:eC):Prop where
 ok:jn B st
 hp:Hp B e vg st
 at_:∃x:wF,st[e]?=some x∧x.done.length=D∧x.begun=true∧x.next.length+4≤rO B e+3*D+d
theorem Oc {e r:Nat}{vg st:eC}{x:wF}(h:GO B e vg st)(hx:st[e]?=some x)(n:r+1+l6 B e≤262)(hd:x.done.length≤r)(d:0<x.next.length):
 Dr B e (x.done.length+1) vg 0 (LG st e)∧uc B e x.done.length (FB st e):=by
 obtain⟨o,f,g⟩:=h.at_
 rw[hx]at f;obtain rfl:=Option.some.inj f
 have a:=h.ok.nl e x hx
 have b:(pC x.next).getD (x.next.length-1) Ih∈x.next:=FD d (yo (by rw[FC];omega))
 have i:=a.next _ b
 rw[Ob hx,JM hx]
 have p:=a.nl
 have hle:(x.done++ [((pC x.next).getD (x.next.length-1) Ih).rk]).length=x.done.length+1:=by rw[bR,pb]
 have j:((pC x.next).take (x.next.length-1)).length=x.next.length-1:=by rw[eU,FC];omega
 refine⟨⟨h.ok.set ⟨λk hk=> ?_,λc m=> ?_,?_,λl=>(by rw[g]at l;cases l),?_⟩,h.hp.trans (.set _ _),_,fT (fA.1 hx).1,hle,g,?_⟩,i⟩
 ·rcases cG.1 hk with hk|hk
  ·exact a.done k hk
  ·rw[bP]at hk;subst hk;exact i.rk
 ·exact(a.next c (FD d (C5 m))).mono (by show _≤(x.done++_).length;omega)
 ·show(x.done++_).length+l6 B e≤262;rw[hle];omega
 ·show((pC x.next).take _).length≤rO B e+3*(x.done++_).length;rw[hle,j];omega
 ·show((pC x.next).take _).length+4≤_;rw[j];omega
def zM (B:cr)(get:eC→Nat→Nat→eC×Option jr)(e:Nat)(c:jI)(d:Nat)(st:eC):eC:=match n5 B get st e c.fz (c.ranks.set d (c.ranks.getD d 0+1))with
 |(st,none)=>st
 |(st,some x)=>DB st e (Am (st.getD e nq).next x)
theorem BV (e:Nat)(c:jI)(m d:Nat)(st:eC):An B get e c (m+1) d st=if 0<c.ranks.getD d 0 then zM B get e c d st else An B get e c m (d+1) (zM B get e c d st):=rfl
theorem JQ {c:jI}{e D d:Nat}(h:uc B e D c):(c.ranks.set d (c.ranks.getD d 0+1)).length=(B.fz e c.fz).kids.length∧∀r∈c.ranks.set d (c.ranks.getD d 0+1),r≤D+1:=by
 refine⟨by rw[cn];exact h.len,λr a=> ?_⟩
 rcases lI a with a|rfl
 ·have:=h.rks r a;omega
 ·rw[aw]
  cases b:c.ranks[d]? with
  |none=>show 0+1≤D+1;omega
  |some z=>have:=h.rks z (aZ b);show z+1≤D+1;omega
theorem DF (o:o7 B)(p:su B f get){e d D:Nat}{c:jI}{vg st:eC}(he:e<B.its.length)(q:l6 B e<f+1)(l:uc B e D c)(hd:d<3)(h:Dr B e (D+1) vg d st):
 Dr B e (D+1) vg (d+1) (zM B get e c d st):=by
 obtain⟨x,hx,g,i,t⟩:=h.at_;obtain⟨r,s⟩:=JQ (d:=d) l
 have u:=(h.ok.nl e x hx).dl
 obtain⟨b,a2,a3⟩:=Cg (D:=D+1) o p he q l.fz r s (by omega) h.ok
 have a:=a2 e (aR _)
 rw[hx]at a;unfold zM
 rcases m:n5 B get st e c.fz (c.ranks.set d (c.ranks.getD d 0+1))with⟨st2,_|z⟩
 ·rw[m]at b a2 a
  exact⟨b,h.hp.trans a2.hp,x,a,g,i,by omega⟩
 ·rw[m]at b a2 a3 a
  dsimp only at a⊢
  rw[qz a,gN a]
  have hz:=a3 z rfl
  have j:=b.nl e x a
  refine⟨b.set ⟨j.done,λc2 k=> ?_,j.dl,λn=>(by rw[i]at n;cases n),?_⟩,(h.hp.trans a2.hp).trans (.set _ _),_,fT (fA.1 a).1,g,i,?_⟩
  ·rcases Oe k with k|rfl
   ·exact j.next c2 k
   ·show uc B e x.done.length c2;rw[g];exact hz
  ·show(Am x.next z).length≤rO B e+3*x.done.length;rw[FH];omega
  ·show(Am x.next z).length+4≤_;rw[FH];omega
theorem uG {e D d:Nat}{vg st:eC}(h:Dr B e D vg d st):GO B e vg st:=let⟨x,hx,_,a,_⟩:=h.at_;⟨h.ok,h.hp,x,hx,a⟩
theorem JO (a:o7 B)(b:su B f get){e D:Nat}{c:jI}{vg:eC}(he:e<B.its.length)(g:l6 B e<f+1)(i:uc B e D c):∀(m d:Nat) (st:eC),m+d≤3→Dr B e (D+1) vg d st→GO B e vg (An B get e c m d st)
 |0,d,st,_,h=>uG h
 |m+1,d,st,hm,h=>by
  have j:=DF a b he g i (by omega) h
  rw[BV]
  split
  ·exact uG j
  ·exact JO a b he g i m (d+1) _ (by omega) j
theorem afE (a:o7 B){e w:Nat}(he:e<B.its.length)(hw:w<rO B e):(B.fz e w).kids.length≤3:=by
 by_cases b:(B.fz e w).rule<0
 ·rw[(a.lex e w he hw b).1];exact aP _
 ·exact(a.rule e w he hw b).2.1
theorem aeX (b:o7 B){e D:Nat}{c:jI}(he:e<B.its.length)(a:uc B e D c):c.ranks.length≤3:=by
 rw[a.len]
 by_cases d:(B.fz e c.fz).rule<0
 ·rw[(b.lex e c.fz he a.fz d).1];exact aP _
 ·exact(b.rule e c.fz he a.fz d).2.1
theorem JB (a:o7 B)(c:su B f get){e r:Nat}{vg:eC}(he:e<B.its.length)(d:l6 B e<f+1)(g:r+1+l6 B e≤262):∀(m:Nat) (st:eC),GO B e vg st→GO B e vg (u7 B get e r m st)
 |0,_,h=>h
 |m+1,st,h=>by
  rw[u7];obtain⟨x,hx,k⟩:=h.at_
  split
  ·rename_i b
   rw[gN hx]at b;obtain⟨j,i⟩:=Oc h hx g b.1 b.2;exact JB a c he d g m _ (JO a c he d i _ 0 _ (by have:=aeX a he i;omega) j)
  ·exact h
end
theorem Cw {B:cr}(a:o7 B):∀f,su B f (fk B f)
 |0=>⟨λe r st _ h=>by omega⟩
 |f+1=>⟨λe r st he b d g=>by
  have c:=Cw a f
  have h:=JB a c he b d (r+1) _ (MN a c he b g)
  obtain⟨x,hx,_⟩:=h.at_;rw[fk];refine⟨h.ok,h.hp,λy hy=> ?_⟩
  dsimp only at hy
  rw[gN hx]at hy
  exact(h.ok.nl e x hx).done y (aZ hy)⟩
end Go.Proofs.YtblifkgpebebmaaGreatDoor
namespace Go.J
open Go Go.RowKit
section
variable {P:Program}{n:Nat}{F:Fr}{c:Ctx}{H R:List ak}{ty t e:TypeId}{x:Operand}{T:Act→World→Prop}
theorem Ev.qx {b off:Nat}{d:TypeDesc}{L:List Value}{u:Value}[f:mL b H L](hx:ah F x (.pointer (some ⟨b,off,none⟩)))(ht:P.underlying t=some d)(g:(match d with| .struct _| .array _ _=>False|_=>True))(hu:L[off]?=some u):
 Ev P n F (Mm c H) (.load t x) ty u:= .of_run λa w h hw=>by
 obtain⟨ρ,hm⟩:=hw.out;obtain⟨e,fr,h1⟩:=dA.1 (hm.dM _ f.mem)
 have h1:=hm.fits _ _ h1
 simp[execOp,hx.eval h,Instr.loadAt,Instr.sureAddr,fN ht g ((cV h1).trans (by simpa using hu))]
theorem St.aeY {size m:Nat}{cs:List Value}(v:Value)(s:Nat)[tk:lU v H e size m cs R](a:size=s)(h:St n F (Mm c (row v e s m cs::R)) T):St n F (Mm c H) T:=by
 subst a
 exact h.o6 λw hw=>let⟨_,k⟩:=hw.out;Mm.mk (k.perm tk.perm)
theorem mc {ρ:Ro}{b off:Nat}:∀(us:List Value) (j:Nat) (L:List Value) (w:World),ez c (aW b (.cells L.toArray e (0,0))::R) ρ w→off+j+us.length≤L.length→(∀u∈us,u.oneCell'=true)→
 ∃w',(storeCells ⟨b,off,none⟩ us j).run P w= .ok () w'∧ez c (aW b (.cells (sX L (off+j) us).toArray e (0,0))::R) ρ w'
 | [],j,L,w,hm,_,_=>⟨w,rfl,hm⟩
 |u::us,j,L,w,hm,a,h1=>by
  rw[fU]at a;obtain⟨c1,f1,d⟩:=xS (off:=off+j) (u:=u) hm (by omega);obtain⟨w',f,g⟩:=mc (off:=off) us (j+1) (L.set (off+j) u) _ d (by rw[cn];omega) (λz hz=>h1 z (by simp[hz]));refine⟨w',?_,by rw[sX];exact g⟩;rw[storeCells]
  simp[run_store P w _ u _ (h1 u (by simp)),c1,f1,Addr.add_lit,f]
variable {y:Operand}{Q:Exit→Act→World→Prop}{ops:Array Oper}{rest:List Oper}{pos:String}{after:Array Edge}{ty:TypeId}
theorem St.PO {b off m:Nat}{L L' us:List Value}[tk:l3 b H (.cells L.toArray e (0,0)) R](hx:ah F x (.pointer (some ⟨b,off,none⟩)))(hy:ah F y (.agg us.toArray))(f:(P.info? t).map (·.size)=some m)(g:us.length=m)(h1:us.all (·.oneCell')=true)
 (j:Nat.ble (off+m) L.length=true) (k:sX L off us=L') (h:St n F (Mm c (aW b (.cells L'.toArray e (0,0))::R)) (wpList P ops Q rest)):
 St n F (Mm c H) (wpList P ops Q ({dst:=none,op:= .store t x y,type:=ty,pos:=pos,after:=after,guard:=none}::rest)):=by
 subst k;refine St.lq (K:=λu H'=>H'=aW b (.cells (sX L off us).toArray e (0,0))::R) ?_ ?_
 ·intro a w ρ d hm
  have l:=hm.perm tk.perm
  obtain⟨w',o,p⟩:=mc (P:=P) (off:=off) us 0 L w l (by have:=dR j;omega) (λu hu=>eY.1 h1 u hu);obtain⟨i,q,r⟩:=dp.1 f;refine⟨.skip,w',ρ,_,?_,⟨_,.inr ⟨rfl,rfl⟩,rfl⟩,p⟩
  simp[execOp,hx.eval d,hy.eval d,Instr.storeAt,Instr.sureAddr,storeVar,sizeOf,typeInfo,q,r,bK,g,o]
 ·rintro _ _ rfl
  exact h
end
end Go.J
namespace Go.Proofs.YtblifkgpebebmaaGreatDoor
open Go Go.J Tryz
structure AcD where
 wt:Int
 cv:aV
 code:List Int
 kv:aV
 ts:List dE
def Tz (r l:Int)(a:AcD):jr:=⟨a.wt,a.code,.mk r l (a.ts.map cx)⟩
theorem Du (r l:Int)(a:AcD)(k:xQ)(u v:aV):Tz r l ⟨a.wt+k.wt,u,a.code++k.code,v,a.ts++ [k.tree]⟩=MB (Tz r l a) (ma k):=by unfold Tz MB ma;rw[cP];rfl
theorem G7 {l m:List Nat}{k a b:Nat}(h:l[k]?=some a)(c:m[k]?=some b):(l.zip m).drop k=(a,b)::(l.zip m).drop (k+1):=bO (by rw[List.getElem?_zip_eq_some];exact⟨h,c⟩)
theorem qc (r l:Int)(ρ:Ro):(bx (.mk r l bT [])).f ρ:=oq.mk (x:= .mk r l bT []) (sZ dB ρ) (λy hy=>by cases hy)
theorem sb {R X:List Int}{its:List dL}{L:List jK}(h:jn (⟨its.map cH,R,X⟩:cr) (L.map fm)):L.length=its.length:=by
 have:=h.len;rw[aO]at this;rw[this];exact aO _
theorem U3 {R X:List Int}{its:List dL}{e:Nat}{y:dL}(h:its[e]?=some y):(⟨its.map cH,R,X⟩:cr).its.getD e gh=cH y:=by
 show(its.map cH).getD e gh=cH y
 rw[aw,bQ,h];rfl
theorem U4 {R X:List Int}{its:List dL}{e w:Nat}{y:dL}{a:ri}(h:its[e]?=some y)(b:y.cW[w]?=some a):(⟨its.map cH,R,X⟩:cr).fz e w=wyE a:=by
 unfold cr.fz;rw[U3 h]
 show(y.cW.map wyE).getD w wy0=wyE a
 rw[aw,bQ,b];rfl
theorem Cb {R X:List Int}{its:List dL}{e:Nat}{y:dL}(h:its[e]?=some y):rO (⟨its.map cH,R,X⟩:cr) e=y.cW.length:=by
 unfold rO;rw[U3 h];exact aO _
def Jy:xQ:=⟨0,bT,[],.mk 0 0 bT []⟩
def zCh:ku:=⟨Jy,0,bT,[]⟩
def VI (c a m0 b:Nat)(rv xv eF:aV)(R X:List Int)(its:List dL)(f:Nat):Prop:=∀(e r:Nat) (L:List jK),e<its.length→l6 (⟨its.map cH,R,X⟩:cr) e<f→r+1+l6 (⟨its.map cH,R,X⟩:cr) e≤262→jn (⟨its.map cH,R,X⟩:cr) (L.map fm)→
 dz prog 52 #[.pointer (some ⟨c,0,none⟩),iv (e:Nat),iv (r:Nat)] ([fM c [rv.1,xv.1,eF.1,(.slice (some ⟨a,0,none⟩) m0 b)],sl aJ rv.1 R,sl aJ xv.1 X,sl eD eF.1 its,aF cj its].map aB++(row (.slice (some ⟨a,0,none⟩) m0 b) 194 3 (L).length (rows fL (L))::bF (kK 71 196) L)) (λv H'=>∃(L':List jK) (k:xQ) (o:Bool),fk (⟨its.map cH,R,X⟩:cr) f (L.map fm) e r=(L'.map fm,if o then some (ma k)else none)∧v= .tuple #[kU k,.bool o]∧H'=row (.slice (some ⟨a,0,none⟩) m0 b) 194 3 (L').length (rows fL (L'))::aB (oK k)::bF (kK 71 196) L')
theorem wJ (K l m0 p:Nat)(rv xv eF:aV)(R X:List Int)(its:List dL)(M:o7 (⟨its.map cH,R,X⟩:cr))(f:Nat)(S9:VI K l m0 p rv xv eF R X its f)(e w D:Nat)(g:aV)(ranks:List Nat)(L:List jK)(he:e<its.length)(S5:l6 (⟨its.map cH,R,X⟩:cr) e<f+1)(hw:w<rO (⟨its.map cH,R,X⟩:cr) e)(N:ranks.length=((⟨its.map cH,R,X⟩:cr).fz e w).kids.length)(hrk:∀r∈ranks,r≤D)(hD:D+l6 (⟨its.map cH,R,X⟩:cr) e≤262)(J3:jn (⟨its.map cH,R,X⟩:cr) (L.map fm)):
 dz prog 93 #[.pointer (some ⟨K,0,none⟩),iv (e:Nat),iv (w:Nat),g.1] ([fM K [rv.1,xv.1,eF.1,(.slice (some ⟨l,0,none⟩) m0 p)],sl aJ rv.1 R,sl aJ xv.1 X,sl eD eF.1 its,aF cj its,sl aJ g.1 (bW ranks)].map aB++(row (.slice (some ⟨l,0,none⟩) m0 p) 194 3 (L).length (rows fL (L))::bF (kK 71 196) L)) (λv H'=>∃(L':List jK) (c:ku) (o:Bool),n5 (⟨its.map cH,R,X⟩:cr) (fk (⟨its.map cH,R,X⟩:cr) f) (L.map fm) e w ranks=(L'.map fm,if o then some (iR c)else none)∧v= .tuple #[E9 c,.bool o]∧H'=row (.slice (some ⟨l,0,none⟩) m0 p) 194 3 (L').length (rows fL (L'))::aB (hS c)::bF (kK 71 196) L'):=by
 refine dz.body (args:=[.pointer (some ⟨K,0,none⟩),iv (e:Nat),iv (w:Nat),g.1]) 122 func93 rfl ntmps93 rfl (λc=> ?_);refine go ?_;refine St.cast (H':=(aB (fM K [rv.1,xv.1,eF.1,(.slice (some ⟨l,0,none⟩) m0 p)])::aB (sl aJ rv.1 R)::aB (sl aJ xv.1 X)::aB (sl eD eF.1 its)::aB (aF cj its)::aB (sl aJ g.1 (bW ranks))::row (.slice (some ⟨l,0,none⟩) m0 p) 194 3 (L).length (rows fL (L))::bF (kK 71 196) L)) rfl ?_;obtain⟨y,hy⟩:=aE he;rw[Cb hy]at hw;obtain⟨b,O⟩:=aE hw
 have F:=U4 (R:=R) (X:=X) hy O
 rw[F]at N
 have N:ranks.length=b.kids.length:=N
 have hnk:(bW b.kids).length=b.kids.length:=dY _
 have hnr:(bW ranks).length=ranks.length:=dY _
 have G:w<rO (⟨its.map cH,R,X⟩:cr) e:=by rw[Cb hy];exact hw
 have Y:e<(⟨its.map cH,R,X⟩:cr).its.length:=by show e<(its.map cH).length;rw[aO];exact he
 have SK:=M.sz e w Y G
 rw[F]at SK
 have SK: -1≤b.rule∧b.rule≤1000∧0≤b.lex∧b.lex≤1000:=SK
 have hwb:w<1200000000000:=by have:=M.nw e Y;omega
 refine St.cL cj its (x:=y) (aZ hy) ?_;refine St.ea (sl mK y.wv.1 y.cW) [cj y] (λρ h=>h (cj y) (aQ ..) _ (cO _ (aQ ..))) ?_;refine St.ea (sl aJ b.kv.1 (bW b.kids)) [cj y] (λρ h=>h (cj y) (aQ ..) (aF mX y.cW) (cO _ (cO _ (aQ ..))) b (aZ O)) ?_;refine go ?_;refine St.al (λb8=> ?_);refine g8 ?_;refine St.ee (Ev.qx (.mk rfl) nV trivial rfl) ?_;refine g6 ?_;refine St.ee (Ev.Ea (Rr:=mK) (sz:=3) (.mk rfl) O underlying200 trivial wV (by decide) (by decide)) ?_;refine St.slot 26 (.agg #[iv b.rule,iv b.lex,b.kv.1]) rfl rfl ?_;refine St.al (λb10=> ?_);refine g7 ?_;refine St.ee (Ev.build (bH.aX rfl rfl) (λw=>Gh rfl g.2 w)) ?_;refine St.slot 29 (.agg #[iv 0,(.slice none 0 0),iv 0,iv 0,(.slice none 0 0),iv (w:Nat),g.1]) rfl rfl ?_;refine St.al (λj=> ?_);refine g9 ?_;refine St.ee (Ev.build (bH.aX rfl rfl) (λw=>BA rfl rfl w)) ?_;refine St.slot 34 (.agg #[iv b.rule,iv b.lex,(.slice none 0 0)]) rfl rfl ?_;refine g2 ?_;refine St.PO (m:=3) (us:=[iv b.rule,iv b.lex,(.slice none 0 0)]) (L':=[iv 0,(.slice none 0 0),iv b.rule,iv b.lex,(.slice none 0 0),iv (w:Nat),g.1]) (ah.mk rfl) (ah.mk rfl) pw rfl rfl rfl rfl ?_;refine g10 ?_;refine St.cq (λh39=> ?_) (λh39=> ?_)
 ·have P:((⟨its.map cH,R,X⟩:cr).fz e w).rule<0:=by rw[F];exact h39
  obtain⟨hlk,AA,_⟩:=M.lex e w Y G P;rw[F]at AA
  have AA:b.lex<X.length:=AA
  obtain⟨Q,Wn⟩:=aE (show b.lex.toNat<X.length by omega)
  have SR:X.getD b.lex.toNat 0=Q:=by rw[aw,Wn];rfl
  refine go ?_;refine St.dc (aW j (.cells [iv 0,(.slice none 0 0),iv b.rule,iv b.lex,(.slice none 0 0),iv (w:Nat),g.1].toArray 196 (0,0))::(bF (kK 71 196) L)) mixed (λnp ns=> ?_);refine SW.gd 0 ?_;refine SW.gd 1 ?_;refine SW.gd 2 ?_;refine SW.dd 3 rfl (λ_=>Ev.qx (.mk rfl) bJ trivial rfl) ?_;refine SW.gd 4 ?_;refine SW.gd 5 ?_;refine SW.dd 6 rfl (λ_=>Ev.cE (k:=b.lex.toNat) (.mk rfl) (.mk rfl) bJ dK (by omega) (by omega)) ?_;refine SW.gd 7 ?_;refine SW.gd 8 ?_;refine SW.gd 9 ?_;refine SW.gd 10 ?_;refine SW.gd 12 ?_;refine SW.gd 13 ?_;refine SW.slot 53 (.pointer (some ⟨j,0,none⟩)) rfl rfl ?_;refine SW.t2 11 14 ?_ ?_
  focus
   refine St.gV rfl (.ar rfl) bJ dK eT rfl rfl (by simp[Value.cells]) rfl rfl (λH=> ?_);refine g2 ?_;refine SW.go ?_;refine SW.t1 14 ?_;refine St.cI (.mk rfl) (.mk rfl) dK rfl (by rfl) ?_;refine g2 ?_;refine SW.go ?_;refine SW.gd 15 ?_;refine SW.gd 16 ?_;refine SW.slot 55 (.pointer (some ⟨j,1,none⟩)) rfl rfl ?_;refine SW.t1 17 ?_;refine St.cI (.mk rfl) (.mk rfl) fD rfl (by rfl) ?_;refine St.mN j (L':=[iv Q,.slice (some ⟨H,0,none⟩) 1 1,iv b.rule,iv b.lex,(.slice none 0 0),iv (w:Nat),g.1]) rfl ?_;refine g2 ?_;refine SW.go ?_;refine SW.dn ?_
  rotate_left
  focus
   refine St.cI (.mk rfl) (.mk rfl) dK rfl (by rfl) ?_;refine g2 ?_;refine SW.go ?_;refine SW.t1 11 ?_;refine St.gV rfl (.ar rfl) bJ dK eT rfl rfl (by simp[Value.cells]) rfl rfl (λH=> ?_);refine g2 ?_;refine SW.go ?_;refine SW.gd 15 ?_;refine SW.gd 16 ?_;refine SW.slot 55 (.pointer (some ⟨j,1,none⟩)) rfl rfl ?_;refine SW.t1 17 ?_;refine St.cI (.mk rfl) (.mk rfl) fD rfl (by rfl) ?_;refine St.mN j (L':=[iv Q,.slice (some ⟨H,0,none⟩) 1 1,iv b.rule,iv b.lex,(.slice none 0 0),iv (w:Nat),g.1]) rfl ?_;refine g2 ?_;refine SW.go ?_;refine SW.dn ?_
  all_goals
   refine g2 ?_;refine St.aM (.slice (some ⟨H,0,none⟩) 1 1) (show _=([1000+b.lex]:List Int).length from rfl) (show _=rows aJ [1000+b.lex]from rfl) ?_;refine St.bS (.slice (some ⟨H,0,none⟩) 1 1) aJ [1000+b.lex] rfl rfl (λz hz=>by rw[bP]at hz;subst hz;show aa _;unfold aa;omega) ?_;refine St.fact (bx (.mk b.rule b.lex bT [])) (λρ _ _=>qc _ _ _) ?_;refine St.ea (hS (⟨⟨Q,⟨.slice (some ⟨H,0,none⟩) 1 1,rfl⟩,[1000+b.lex],.mk b.rule b.lex bT []⟩,w,g,ranks⟩)) (chL (⟨⟨Q,⟨.slice (some ⟨H,0,none⟩) 1 1,rfl⟩,[1000+b.lex],.mk b.rule b.lex bT []⟩,w,g,ranks⟩)) (λρ h=>h) ?_;refine g8 ?_;refine St.rV [_,_] (row (.slice (some ⟨l,0,none⟩) m0 p) 194 3 (L).length (rows fL (L))::aB (hS (⟨⟨Q,⟨.slice (some ⟨H,0,none⟩) 1 1,rfl⟩,[1000+b.lex],.mk b.rule b.lex bT []⟩,w,g,ranks⟩))::(bF (kK 71 196) L)) ?_;exact⟨L,⟨⟨Q,⟨.slice (some ⟨H,0,none⟩) 1 1,rfl⟩,[1000+b.lex],.mk b.rule b.lex bT []⟩,w,g,ranks⟩,true,by rw[EA P];unfold XB;rw[F];show(_,some (⟨⟨X.getD b.lex.toNat 0,_,_⟩,_,_⟩:jI))=_;rw[SR];rfl,rfl,rfl⟩
 ·have P:¬((⟨its.map cH,R,X⟩:cr).fz e w).rule<0:=by rw[F];show ¬b.rule<0;omega
  have Cz:=M.rule e w Y G P
  rw[F]at Cz;obtain⟨hrx,hk3,S,hkb⟩:=Cz
  have hrx:b.rule<R.length:=hrx
  have hk3:b.kids.length≤3:=hk3
  have S:∀k∈b.kids,k<(⟨its.map cH,R,X⟩:cr).its.length∧l6 (⟨its.map cH,R,X⟩:cr) k<l6 (⟨its.map cH,R,X⟩:cr) e:=S
  have hkb:nb (⟨its.map cH,R,X⟩:cr) b.kids+1≤Df (⟨its.map cH,R,X⟩:cr) e:=hkb
  have hbd:=M.bd e Y
  obtain⟨xr,hxr⟩:=aE (show b.rule.toNat<R.length by omega)
  have SR:R.getD b.rule.toNat 0=xr:=by rw[aw,hxr];rfl
  refine g3 ?_;refine St.dc (aW j (.cells [iv 0,(.slice none 0 0),iv b.rule,iv b.lex,(.slice none 0 0),iv (w:Nat),g.1].toArray 196 (0,0))::(bF (kK 71 196) L)) mixed (λnp ns=> ?_);refine SW.gd 0 ?_;refine SW.gd 1 ?_;refine SW.gd 2 ?_;refine SW.dd 3 rfl (λ_=>Ev.qx (.mk rfl) bJ trivial rfl) ?_;refine SW.gd 4 ?_;refine SW.gd 5 ?_;refine SW.dd 6 rfl (λ_=>Ev.cE (k:=b.rule.toNat) (.mk rfl) (.mk rfl) bJ dK (by omega) (by omega)) ?_;refine SW.gd 7 ?_;refine SW.gd 8 ?_;refine SW.gd 9 ?_;refine SW.gd 11 ?_;refine SW.gd 12 ?_;refine SW.slot 69 (.pointer (some ⟨j,0,none⟩)) rfl rfl ?_;refine SW.t2 10 13 ?_ ?_
  focus
   refine St.gV rfl (.ar rfl) bJ dK eT rfl rfl (by simp[Value.cells]) rfl rfl (λs=> ?_);refine g2 ?_;refine SW.go ?_;refine SW.t1 13 ?_;refine St.cI (.mk rfl) (.mk rfl) dK rfl (by rfl) ?_;refine g2 ?_;refine SW.go ?_;refine SW.gd 14 ?_;refine SW.gd 15 ?_;refine SW.slot 71 (.pointer (some ⟨j,1,none⟩)) rfl rfl ?_;refine SW.t1 16 ?_;refine St.cI (.mk rfl) (.mk rfl) fD rfl (by rfl) ?_;refine St.mN j (L':=[iv xr,.slice (some ⟨s,0,none⟩) 1 1,iv b.rule,iv b.lex,(.slice none 0 0),iv (w:Nat),g.1]) rfl ?_;refine g2 ?_;refine SW.go ?_;refine SW.dn ?_
  rotate_left
  focus
   refine St.cI (.mk rfl) (.mk rfl) dK rfl (by rfl) ?_;refine g2 ?_;refine SW.go ?_;refine SW.t1 10 ?_;refine St.gV rfl (.ar rfl) bJ dK eT rfl rfl (by simp[Value.cells]) rfl rfl (λs=> ?_);refine g2 ?_;refine SW.go ?_;refine SW.gd 14 ?_;refine SW.gd 15 ?_;refine SW.slot 71 (.pointer (some ⟨j,1,none⟩)) rfl rfl ?_;refine SW.t1 16 ?_;refine St.cI (.mk rfl) (.mk rfl) fD rfl (by rfl) ?_;refine St.mN j (L':=[iv xr,.slice (some ⟨s,0,none⟩) 1 1,iv b.rule,iv b.lex,(.slice none 0 0),iv (w:Nat),g.1]) rfl ?_;refine g2 ?_;refine SW.go ?_;refine SW.dn ?_
  all_goals
   refine g11 ?_;refine St.aM (.slice (some ⟨s,0,none⟩) 1 1) (show _=([b.rule]:List Int).length from rfl) (show _=rows aJ [b.rule]from rfl) ?_;refine St.dw 69 3 ?_;refine St.aM (.slice none 0 0) (show _=([]:List dE).length from rfl) (show _=rows dB []from rfl) ?_;refine St.dN bx ?_
   have abM:=JR M Y G P
   have acS:FT (⟨its.map cH,R,X⟩:cr) e w=Tz b.rule b.lex ⟨xr,⟨.slice (some ⟨s,0,none⟩) 1 1,rfl⟩,[b.rule],bT,[]⟩:=by unfold FT;rw[F];show(⟨R.getD b.rule.toNat 0,_,_⟩:jr)=_;rw[SR];rfl
   rw[acS]at abM;refine St.lH (ι:=Nat×List jK×AcD) (λ⟨k,i,a⟩ T=>(75,iv k)::T) (λ⟨k,i,a⟩=>(row a.cv.1 3 1 (a.code).length (rows aJ (a.code))::row a.kv.1 69 3 (a.ts).length (rows dB (a.ts))::aW j (.cells [iv a.wt,a.cv.1,iv b.rule,iv b.lex,a.kv.1,iv (w:Nat),g.1].toArray 196 (0,0))::aB (aF bx a.ts)::row (.slice (some ⟨l,0,none⟩) m0 p) 194 3 (i).length (rows fL (i))::aB (fM K [rv.1,xv.1,eF.1,(.slice (some ⟨l,0,none⟩) m0 p)])::aB (sl aJ rv.1 R)::aB (sl aJ xv.1 X)::aB (sl eD eF.1 its)::aB (aF cj its)::aB (sl aJ g.1 (bW ranks))::aB (sl mK y.wv.1 y.cW)::aB (sl aJ b.kv.1 (bW b.kids))::aW b8 (.cells [iv 0,(.slice none 0 0),iv 0,iv 0,(.slice none 0 0),iv 0,(.slice none 0 0)].toArray 196 (0,0))::aW b10 (.cells [iv b.rule,iv b.lex,b.kv.1].toArray 200 (0,0))::(bF (kK 71 196) i))) (λ⟨k,i,a⟩=>k≤b.kids.length∧jn (⟨its.map cH,R,X⟩:cr) (i.map fm)∧y5 (1+nb (⟨its.map cH,R,X⟩:cr) (b.kids.take k)) k (Tz b.rule b.lex a)∧vJ (fk (⟨its.map cH,R,X⟩:cr) f) ((b.kids.zip ranks).drop k) (i.map fm) (Tz b.rule b.lex a)=vJ (fk (⟨its.map cH,R,X⟩:cr) f) (b.kids.zip ranks) (L.map fm) (FT (⟨its.map cH,R,X⟩:cr) e w)) (λ⟨k,i,a⟩=>b.kids.length-k) ⟨0,L,⟨xr,⟨.slice (some ⟨s,0,none⟩) 1 1,rfl⟩,[b.rule],bT,[]⟩⟩ (aD.cons 0 rfl (aD.cons 3 rfl (aD.cons 8 rfl (aD.cons 11 rfl (aD.cons 73 rfl (aD.cons 74 rfl aD.nil)))))) ⟨aP _,J3,abM,by rw[acS];rfl⟩ ?_;rintro ⟨k,i,a⟩ ⟨hk,th,I,t⟩
   dsimp only at hk th I t⊢
   have am7:a.code.length≤1+nb (⟨its.map cH,R,X⟩:cr) (b.kids.take k):=I.len
   have am8: -(1000000*(a.code.length:Int))≤a.wt∧a.wt≤1000000*(a.code.length:Int):=I.wt
   have ajJ:(a.ts.map cx).length≤k:=I.n
   rw[aO]at ajJ;refine g6 ?_;refine St.cq (λh76=> ?_) (λh76=> ?_)
   ·obtain⟨q,Z⟩:=aE (show k<b.kids.length by omega)
    obtain⟨rr,J1⟩:=aE (show k<ranks.length by omega);obtain⟨Ls,J0⟩:=S q (aZ Z)
    have Wf:=hrk rr (aZ J1)
    have Ls:q<its.length:=by have h:q<(its.map cH).length:=Ls;rwa[aO]at h
    have H4:=(Cw M f).ok q rr (i.map fm) (by show q<(its.map cH).length;rw[aO];exact Ls) (by omega) (by omega) th
    have hbt:=BC (B:=(⟨its.map cH,R,X⟩:cr)) Z
    have hbl:nb (⟨its.map cH,R,X⟩:cr) (b.kids.take (k+1))≤nb (⟨its.map cH,R,X⟩:cr) b.kids:=R4 _ _
    refine g8 ?_;refine St.ee (Ev.ld1 (.mk rfl) (gQ Z) gD trivial rfl) ?_;refine g11 ?_;refine St.ee (Ev.ld1 (.mk rfl) (gQ J1) gD trivial rfl) ?_;refine St.pQ (ds:=[fM K [rv.1,xv.1,eF.1,(.slice (some ⟨l,0,none⟩) m0 p)],sl aJ rv.1 R,sl aJ xv.1 X,sl eD eF.1 its,aF cj its]) (L:=[row (.slice (some ⟨l,0,none⟩) m0 p) 194 3 (i).length (rows fL (i))]) (X:=bF (kK 71 196) i) (post:=λv L' X'=>∃(A:List jK) (d:xQ) (o:Bool),fk (⟨its.map cH,R,X⟩:cr) f (i.map fm) q rr=(A.map fm,if o then some (ma d)else none)∧v= .tuple #[kU d,.bool o]∧L'=[row (.slice (some ⟨l,0,none⟩) m0 p) 194 3 (A).length (rows fL (A)),aB (oK d)]∧X'=bF (kK 71 196) A) ((S9 q rr i Ls (by omega) (by omega) th).mono (λv H' ⟨A,d,o,a1,a2,a3⟩=>⟨[_,_],_,a3,A,d,o,a1,a2,rfl,rfl⟩)) Zo (.ek rfl rfl rfl) rfl ?_;rintro v87 _ _ ⟨A,d,o,hgq,rfl,rfl,rfl⟩;refine St.dQ ?_;rw[hgq]at H4;obtain⟨HE,_,AZ⟩:=H4
    have HE:jn (⟨its.map cH,R,X⟩:cr) (A.map fm):=HE
    refine g3 ?_;refine St.al (λQQ=> ?_);refine g11 ?_;refine St.cond _ rfl (λU=> ?_) (λU=> ?_)
    ·skip
     obtain rfl:o=false:=by simpa using U
     rw[G7 Z J1,vK,hgq]at t;refine g2 ?_;refine St.ee (Ev.build (bH.nil) (λw=>Qz w)) ?_;refine St.slot 92 (.agg #[iv 0,(.slice none 0 0),iv 0,iv 0,(.slice none 0 0),iv 0,(.slice none 0 0)]) rfl rfl ?_;refine go ?_;refine St.fp aJ ?_;refine St.fact (bx (.mk 0 0 bT [])) (λρ _ _=>qc _ _ _) ?_;refine St.ea (hS zCh) [sl aJ (.slice none 0 0) [],bx (.mk 0 0 bT []),sl aJ (.slice none 0 0) []] (λρ h=>h) ?_;refine g10 ?_;refine St.rV [_,_] (row (.slice (some ⟨l,0,none⟩) m0 p) 194 3 (A).length (rows fL (A))::aB (hS zCh)::(bF (kK 71 196) A)) ?_;exact⟨A,zCh,false,by rw[yZ P,F];show(match vJ (fk (⟨its.map cH,R,X⟩:cr) f) (b.kids.zip ranks) (L.map fm) (FT (⟨its.map cH,R,X⟩:cr) e w)with|(st,none)=>(st,none)|(st,some x)=>(st,some (⟨x,w,ranks⟩:jI)))=_;rw[←t];rfl,rfl,rfl⟩
    ·skip
     obtain rfl:o=true:=by simpa using U
     have AZ:=AZ (ma d) rfl
     have anC:d.code.length≤Df (⟨its.map cH,R,X⟩:cr) q:=AZ.len
     have anD: -(1000000*(d.code.length:Int))≤d.wt∧d.wt≤1000000*(d.code.length:Int):=AZ.wt
     refine St.ea (sl aJ d.cv.1 d.code) [oK d] (λρ h=>h (oK d) (aQ ..) _ (aQ ..)) ?_;refine St.ea (bx d.tree) [oK d] (λρ h=>h (oK d) (aQ ..) _ (cO _ (aQ ..))) ?_;refine g12 ?_;refine St.slot 100 (.pointer (some ⟨j,0,none⟩)) rfl rfl ?_;refine St.cI (.mk rfl) (.mk rfl) dK rfl (by rfl) ?_;refine g9 ?_;refine St.yO (.mk rfl) (.mk rfl) bJ dK eT xT (zT _ _) (by omega) (by omega) rfl rfl trivial rfl (λTh amJ=> ?_);refine St.aeY Th 1 rfl ?_;refine St.aM Th (show _=(a.code++d.code).length by rw[bR]) (show _=rows aJ (a.code++d.code) by unfold rows;rw[Bx]) ?_;refine St.ba Th (λaaC _=> ?_);refine g2 ?_;refine St.slot 108 (.pointer (some ⟨j,1,none⟩)) rfl rfl ?_;refine St.cI (.mk rfl) (.mk rfl) fD aaC (by rfl) ?_;refine g8 ?_;refine St.ee (Ev.iU 3 (.mk rfl) IE trivial pw rfl rfl) ?_;refine St.slot 114 (uP d.tree) rfl rfl ?_;refine St.gV rfl (.ar rfl) zy pw Lq rfl rfl (by simp[Value.cells]) rfl rfl (λamW=> ?_);refine St.aj (.mk rfl) (.mk rfl) zy pw Lq Vk (by intro u hu;exact dB.one d.tree u hu) (by omega) (by omega) rfl rfl rfl rfl (λV amL=> ?_);refine St.aM V (show _=(a.ts++ [d.tree]).length by rw[bR];rfl) (show _=rows dB (a.ts++ [d.tree]) by rw[ay];rfl) ?_;refine St.ba V (λRz _=> ?_);refine St.ea (aF bx (a.ts++ [d.tree])) [aF bx a.ts,bx d.tree] (λρ h u hu=>by rcases cG.1 hu with hu|hu;exact h (aF bx a.ts) (aQ ..) u hu;rw[bP]at hu;subst hu;exact h (bx d.tree) (cO _ (aQ ..))) ?_;refine g3 ?_;refine St.slot 119 (.pointer (some ⟨j,4,none⟩)) rfl rfl ?_;refine St.cI (.mk rfl) (.mk rfl) Xl Rz (by rfl) ?_;refine g8 ?_;refine St.aH ⟨k+1,A,⟨a.wt+d.wt,⟨Th,aaC⟩,a.code++d.code,⟨V,Rz⟩,a.ts++ [d.tree]⟩⟩ ⟨by omega,HE,by rw[Du,BC Z,←qh];exact Dv I AZ,by rw[Du,←t,G7 Z J1,vK,hgq];rfl⟩
   ·obtain rfl:k=b.kids.length:=by omega
    rw[j6 (by rw[List.length_zip];omega)]at t;rw[jY]at I
    obtain⟨⟨C,E⟩,hv1⟩:∃z,z=a.cv:=⟨_,rfl⟩
    obtain⟨⟨J,W⟩,Wi⟩:∃z,z=a.kv:=⟨_,rfl⟩
    rw[←hv1,←Wi];refine St.bS C aJ a.code rfl rfl (λz hz=>by have:=I.cd z hz;show aa _;unfold aa;omega) ?_;refine St.bS J dB a.ts rfl rfl (λz hz=> ?_) ?_
    ·have h:=(I.kids (cx z) (eQ hz)).2
     rw[lC]at h
     have h: -1≤z.rule∧z.rule≤1000∧0≤z.lex∧z.lex≤1000:=h
     exact⟨by show aa _;unfold aa;omega,by show aa _;unfold aa;omega⟩
    refine St.ea (bx (.mk b.rule b.lex ⟨J,W⟩ a.ts)) [sl dB J a.ts,aF bx a.ts] (λρ h=>oq.mk (x:= .mk b.rule b.lex ⟨J,W⟩ a.ts) (h _ (aQ ..)) (λy hy=>h (aF bx a.ts) (cO _ (aQ ..)) y hy)) ?_;refine St.ea (hS (⟨⟨a.wt,⟨C,E⟩,a.code,.mk b.rule b.lex ⟨J,W⟩ a.ts⟩,w,g,ranks⟩)) (chL (⟨⟨a.wt,⟨C,E⟩,a.code,.mk b.rule b.lex ⟨J,W⟩ a.ts⟩,w,g,ranks⟩)) (λρ h=>h) ?_;refine g8 ?_;refine St.sA (.mk rfl) (.mk rfl) jk ?_ (h1:=(by simp only[List.all_cons,List.all_nil,Bool.and_true,Bool.and_eq_true];exact⟨rfl,E,rfl,rfl,W,rfl,g.2⟩));refine g4 ?_;refine St.rV [_,_] (row (.slice (some ⟨l,0,none⟩) m0 p) 194 3 (i).length (rows fL (i))::aB (hS (⟨⟨a.wt,⟨C,E⟩,a.code,.mk b.rule b.lex ⟨J,W⟩ a.ts⟩,w,g,ranks⟩))::(bF (kK 71 196) i)) ?_;exact⟨i,⟨⟨a.wt,⟨C,E⟩,a.code,.mk b.rule b.lex ⟨J,W⟩ a.ts⟩,w,g,ranks⟩,true,by rw[yZ P,F];show(match vJ (fk (⟨its.map cH,R,X⟩:cr) f) (b.kids.zip ranks) (L.map fm) (FT (⟨its.map cH,R,X⟩:cr) e w)with|(st,none)=>(st,none)|(st,some x)=>(st,some (⟨x,w,ranks⟩:jI)))=_;rw[←t];show(_,some (⟨Tz b.rule b.lex a,w,ranks⟩:jI))=_;unfold Tz;rw[←Fq];rfl,rfl,rfl⟩
end Go.Proofs.YtblifkgpebebmaaGreatDoor
