/-
  Laws of walks through programs, and facts on grammars, trees and queries.
  Conditions: none.
-/
import Derived.Test.YtblifkgpebebmaaGreatDoorGC7
import Derived.Shelf.SlSortCmp.NoneTotal
set_option maxHeartbeats 4000000
set_option maxRecDepth 20000
set_option linter.unusedVariables false
set_option linter.unusedSimpArgs false
namespace Go.Proofs.YtblifkgpebebmaaGreatDoor
open Go Go.J Tryz
def jC:Rp dD:=⟨1,by decide,λx=>[x.nv.1],λ_=>True,λ_=>rfl,λx u h=>by simp at h;subst h;exact x.nv.2⟩
instance (x:dD):j5 jC x [x.nv.1]:=⟨rfl⟩
def An (mt:Nat→Nat→Option Nat)(r:sq)(M:List e8)(j:Nat):List Bool:=if(j:Int)<r.kids then M.map λy=>(dU mt r.graph (rS r.graph ((j:Int)+1)).toNat y).isSome else []
structure wI (f:kz)(g:fj)(mt:Nat→Nat→Option Nat):Prop where
 nr:f.nr=g.rules.length
 nl:f.nl=g.aL.length
 kids:f.kids=g.rules.map (·.kids)
 al:f.rK.length=g.rules.length
 at_:∀(r:Nat) (x:rG) (rr:sq),f.rK[r]?=some x→g.rules[r]?=some rr→∀j,j<3→(x.at_ j).2=An mt rr (Hc g) j
theorem FA (g:fj):(Hc g).length=g.rules.length+g.aL.length:=by unfold Hc;rw[bQ,aO,aO]
theorem wI.ln {f:kz}{g:fj}{mt:Nat→Nat→Option Nat}(h:wI f g mt)(e:g.rules.length≤1000)(i:g.aL.length≤1000)(hk:∀r∈g.rules,r.kids≤3):yE f:=by
 refine⟨by rw[h.nr];exact e,by rw[h.nl];exact i,by rw[h.kids,aO,h.nr],by rw[h.al,h.nr],λk hm=> ?_,λr x k j hx a d=> ?_⟩
 ·rw[h.kids]at hm
  obtain⟨rr,c,rfl⟩:=cz.1 hm;exact hk rr c
 ·rw[h.kids,bP]at a
  cases b:g.rules[r]? with
  |none=>rw[b]at a;cases a
  |some rr=>
   rw[b]at a;obtain rfl:=Option.some.inj a
   have m:=hk rr (ae b)
   have l:(j:Int)<rr.kids:=d
   rw[h.at_ r x rr hx b j (by omega)];unfold An;rw[aC d,aO,FA,h.nr,h.nl]
theorem zP {f:kz}{g:fj}{mt:Nat→Nat→Option Nat}(h:wI f g mt)(top:Int):pq f.nr f.nl top=Hj g top:=by unfold pq Hj;rw[h.nr,h.nl]
theorem MM {f:kz}{g:fj}{mt:Nat→Nat→Option Nat}(h:wI f g mt)(hk:∀r∈g.rules,r.kids≤3):q8 f=Vi g mt:=by
 funext rule a top
 unfold q8 Vi;rw[zP h]
 rcases Decidable.em (0≤Hj g top)with h1|h1
 case inr=>rw[fL h1];simp only[Bool.false_and]
 rcases Decidable.em (1≤a)with d|d
 case inr=>rw[fL d];simp only[Bool.false_and,Bool.and_false]
 rw[eB h1,eB d]
 rcases eO rule g.rules.length with b|b
 case inr=>
  have e:f.kids.getD rule 0=0:=by rw[ar,ib (by rw[h.kids,aO];exact b)];rfl
  rw[e,fL (show ¬((a:Int)≤0) by omega),fL (show ¬rule<g.rules.length by omega)]
  simp only[Bool.false_and,Bool.and_false]
 obtain⟨rr,c⟩:=aE b;obtain⟨x,hx⟩:=aE (show rule<f.rK.length by rw[h.al];exact b)
 have k:f.kids.getD rule 0=rr.kids:=by rw[h.kids,ar,bP,c];rfl
 have e2:g.rules.getD rule oS=rr:=by rw[ar,c];rfl
 have l:f.rK.getD rule Vj=x:=by rw[ar,hx];rfl
 rw[k,e2,l,eB b]
 rcases Decidable.em ((a:Int)≤rr.kids)with i|i
 case inr=>rw[fL i];simp only[Bool.false_and,Bool.and_false]
 rw[eB i]
 have n:=hk rr (ae c)
 obtain⟨j,rfl⟩:∃j,a=j+1:=⟨a-1,by omega⟩
 have m:=h.at_ rule x rr hx c j (by omega)
 have hp:=JT (nr:=f.nr) (nl:=f.nl) (top:=top) (by rw[zP h];exact h1)
 rw[zP h]at hp
 show(true&&true&&true&&((x.at_ j).2.getD (Hj g top).toNat false))=(true&&true&&true&&true&&_)
 rw[m];unfold An;rw[aC (show(j:Int)<rr.kids by omega)]
 simp only[Bool.true_and]
 rw[ar,ar,bP];obtain⟨y,hy⟩:=aE (show(Hj g top).toNat<(Hc g).length by rw[FA,←h.nr,←h.nl];exact hp);rw[hy]
 show(dU mt rr.graph (rS rr.graph ((j:Int)+1)).toNat y).isSome=(dU mt rr.graph (rS rr.graph ((j+1:Nat):Int)).toNat y).isSome
 rw[show((j+1:Nat):Int)=(j:Int)+1 by push_cast;rfl]
def Dh (s:List Bool):Nat:=s.countP λb=> !b
theorem Q0 {s:List Bool}{o:Nat}(h:s[o]?=some false):Dh (s.set o true)+1=Dh s:=by
 unfold Dh
 induction s generalizing o with
 |nil=>cases h
 |cons b s a=>
  cases o with
  |zero=>obtain rfl:=Option.some.inj h;rw[sF,rz,rz];simp
  |succ o=>
   rw[wq,rz,rz]
   have:=a (o:=o) h
   omega
theorem Pz (n:Nat):Dh (List.replicate n false)=n:=by
 unfold Dh
 induction n with
 |zero=>rfl
 |succ n a=>rw[List.replicate_succ,rz,a];rfl
abbrev Cl:aV×List Bool:=(bR,[])
def bG (a:TypeId)(p:aV×List Bool):List ak:=[row p.1.1 a 1 p.2.length (rows eK p.2)]
def bD (p:aV×List Bool):du:=sl eK p.1.1 p.2
theorem Vl {c:Ctx}(b:TypeId)(a:aV×List Bool)(H:List ak)(w:World)(h:Mm c (bG b a++H) w):Mm c (aB (bD a)::H) w:=by
 obtain⟨ρ,k⟩:=h.out;exact k.bS eK a.2 rfl rfl (λ_ _=>trivial)
def yU (P:List (aV×List Bool)):rG:=⟨(P.getD 0 Cl).1,(P.getD 1 Cl).1,(P.getD 2 Cl).1,(P.getD 0 Cl).2,(P.getD 1 Cl).2,(P.getD 2 Cl).2⟩
theorem MO (P:List (aV×List Bool)){j:Nat}(h:j<3):(yU P).at_ j=P.getD j Cl:=by
 rcases j with _|_|_|j
 ·rfl
 ·rfl
 ·rfl
 ·omega
theorem P7 {l:List Bool}{k:Nat}{x:Bool}(h:l[k]?=some x):(rows eK l)[k*1+0]?=some (.bool x):=by
 have:=eN eK l k 0 x h (by decide)
 exact this
theorem LU (l:List Bool)(k:Nat)(x:Bool):(rows eK l).set (k*1+0) (.bool x)=rows eK (l.set k x):=by
 rw[gW,j3];exact Bh (Rr:=eK) rfl rfl l k
theorem yt (a:Nat)(b c:aV)(T:List ek)(d:im T)(nf:Nat)(e:nf≤100)(x y:dD)(hx:e9 T.length nf (ay x))(hy:e9 T.length nf (ay y))(f:x.nodes.length≤60)(g:y.nodes.length≤60)(node:Nat)(i:node<x.nodes.length):
 eC prog 119 ([bA x,iv (node:Nat),bA y]++ [Value.pointer (some ⟨a,0,none⟩)]).toArray [fP a [b.1,c.1],sl bH b.1 (dg T),sl bH c.1 (de T),tz,aG x,aG y] (.bool (dU (gz T) (ay x) node (ay y)).isSome):=(Kk a b c T d nf e x y hx hy f g node i).mono λ_ _ h=>h.1
theorem Qp (g:gQ)(s t:aV)(T:List ek)(hT:im T)(nf:Nat)(Ku:nf≤100)(hrn:g.rules.length≤40)(hxn:g.aL.length≤100)(hru:∀r∈g.rules,(1≤r.kids∧r.kids≤3)∧e9 T.length nf (ay r.graph)∧r.graph.nodes.length≤60)(We:∀x∈g.aL,e9 T.length nf (ay x.graph)∧x.graph.nodes.length≤60)(JC:e9 T.length nf (ay g.start)∧g.start.nodes.length≤60)
 (GN:∀r∈g.rules,∀k:Int,0≤k→k≤r.kids→0≤rS (ay r.graph) k):dz prog 88 #[fG g,kB s t] ([sl cT g.rv.1 g.rules,aF bx g.rules,sl e7 g.xv.1 g.aL,aF eQ g.aL,aG g.start,sl bH s.1 (dg T),sl bH t.1 (de T),tz].map aB) (λv H'=>∃f:kz,v=Kj f∧wI f (cE g) (gz T)∧H'=[aB (hY f)]):=by
 refine dz.body (args:=[fG g,kB s t]) 196 func88 rfl ntmps88 rfl (λc=> ?_);refine St.cast (H':=[aB (sl cT g.rv.1 g.rules),aB (aF bx g.rules),aB (sl e7 g.xv.1 g.aL),aB (aF eQ g.aL),aB (aG g.start),aB (sl bH s.1 (dg T)),aB (sl bH t.1 (de T)),aB (tz)]) rfl ?_
 have hrn:g.rules.length≤40:=hrn
 have YT:=zJ T
 have D8:∀(i:Nat) (r:ca),g.rules[i]?=some r→(1≤r.kids∧r.kids≤3)∧e9 T.length nf (ay r.graph)∧r.graph.nodes.length≤60:=λi r h=>by have h1:=hru r (ae h);exact h1
 have Wd:∀(i:Nat) (x:eY),g.aL[i]?=some x→e9 T.length nf (ay x.graph)∧x.graph.nodes.length≤60:=λi x h=>We x (ae h)
 refine g2 ?_;refine St.dJ (.mk rfl) rfl (λb2=> ?_);refine St.dJ (.mk rfl) rfl (λR=> ?_);refine St.al (λb4=> ?_);refine g10 ?_;refine St.ee (Ev.build (bF.aX rfl rfl) (λw=>Gn rfl rfl w)) ?_;refine St.slot 33 (.agg #[iv (g.rules.length:Nat),iv (g.aL.length:Nat),(.slice none 0 0),(.slice none 0 0),(.slice none 0 0),(.slice none 0 0)]) rfl rfl ?_;refine St.al (λb5=> ?_);refine g18 ?_;refine St.dw 30 1 ?_;refine St.aM (.slice none 0 0) (show _=([]:List dD).length from rfl) (show _=rows jC []from rfl) ?_;refine St.dN aG ?_;refine St.lH (ι:=Nat×aV×List dD) (λ⟨i,v,M⟩ T=>(37,iv i)::(6,v.1)::T) (λ⟨i,v,M⟩=>(row v.1 30 1 (M).length (rows jC (M))::aB (aF aG (M))::aW b2 (.cells (jD g).toArray 32 (0,0))::aW R (.cells [s.1,t.1].toArray 100 (0,0))::aW b4 (.cells [iv 0,iv 0,(.slice none 0 0),(.slice none 0 0),(.slice none 0 0),(.slice none 0 0)].toArray 174 (0,0))::aW b5 (.cells [iv (g.rules.length:Nat),iv (g.aL.length:Nat),bR.1,bR.1,bR.1,bR.1].toArray 174 (0,0))::aB (sl cT g.rv.1 g.rules)::aB (aF bx g.rules)::aB (sl e7 g.xv.1 g.aL)::aB (aF eQ g.aL)::aB (aG g.start)::aB (sl bH s.1 (dg T))::aB (sl bH t.1 (de T))::aB tz::[])) (λ⟨i,v,M⟩=>i≤g.rules.length∧M.map ay=(g.rules.take i).map (λr=>mC (ay r.graph))∧(∀y∈M,e9 T.length nf (ay y)∧y.nodes.length≤60)) (λ⟨i,v,M⟩=>g.rules.length-i) ⟨0,bR,[]⟩ (aD.cons 2 rfl (aD.cons 3 rfl (aD.cons 4 rfl (aD.cons 5 rfl (aD.cons 35 rfl (aD.cons 36 rfl aD.nil)))))) ⟨aP _,rfl,λ_ h=>by cases h⟩ ?_;rintro ⟨i,v,M⟩ ⟨hi,U,C⟩
 dsimp only at hi U C⊢
 have hMl:M.length=i:=by have:=congrArg List.length U;rw[aO,aO,eX]at this;omega
 refine g6 ?_;refine St.cq (λh38=> ?_) (λh38=> ?_)
 ·obtain⟨r,D⟩:=aE (show i<g.rules.length by omega)
  obtain⟨hk,HF,AG⟩:=D8 i r D
  have Wo:=gK HF Ku
  refine St.cK bx g.rules (x:=r) (ae D) ?_;refine St.eZ (aG r.graph) [bx r] (λρ h=>h (bx r) (aQ ..) (aG r.graph) (aQ ..)) ?_;refine g7 ?_;refine St.ee (Ev.jq (.mk rfl) D uS trivial kU j5.eq) ?_;refine St.al (λb8=> ?_);refine St.sA (.mk rfl) (.mk rfl) kU ?_ (h1:=(eW.2 λu hu=>cT.one r u hu));refine g5 ?_;refine St.ee (Ev.iT 1 (.mk rfl) mo trivial jR rfl rfl) ?_;refine St.slot 43 (bA r.graph) rfl rfl ?_;refine St.ag (py r.graph T.length nf Ku HF (by omega) (GN r (ae D) 0 (by omega) (by omega))) Mk (.au rfl) rfl ?_;rintro v44 _ rfl;refine St.ao ?_;refine St.bL (mC (ay r.graph)) v44 (λmy hm=> ?_);obtain⟨rfl,Uo⟩:=hm;obtain⟨m1,m2⟩:=qP HF (by rw[dA];exact AG);rw[←Uo]at m1 m2;rw[dA]at m2;refine St.gX rfl (.au rfl) Bz jR U2 rfl rfl (by intro u hu;simp only[List.mem_cons,List.not_mem_nil,or_false]at hu;subst hu;rfl) rfl rfl (λb45=> ?_);refine St.aj (.mk rfl) (.mk rfl) Bz jR U2 ZJ (by intro u hu;have SV:u∈[my.nv.1]:=hu;rw[bO.1 SV];exact my.nv.2) (by omega) (by omega) rfl rfl rfl rfl (λv46 anZ=> ?_);refine St.aM v46 (show _=(M++ [my]).length from cS) (show _=rows jC (M++ [my]) by rw[bB];rfl) ?_;refine St.bZ v46 (λh46 _=> ?_);refine St.eZ (aF aG (M++ [my])) [aF aG M,aG my] (λρ h x hx=>by rcases cD.1 hx with hx|hx;exact h _ (aQ ..) x hx;rw[bO.1 hx];exact h _ (cO _ (aQ ..))) ?_;refine g9 ?_;refine St.aH ⟨i+1,⟨v46,h46⟩,M++ [my]⟩ ⟨by omega,by rw[cP,U,aa D,cP];show _++ [ay my]=_++ [mC (ay r.graph)];rw[Uo],λy hy=>by rcases cD.1 hy with hy|hy;exact C y hy;rw[bO.1 hy];exact⟨m1,m2⟩⟩
 ·obtain rfl:i=g.rules.length:=by omega
  rw[kH]at U;refine g15 ?_;refine St.lH (ι:=Nat×aV×List dD) (λ⟨i,v,M⟩ T=>(51,iv i)::(6,v.1)::T) (λ⟨i,v,M⟩=>(row v.1 30 1 (M).length (rows jC (M))::aB (aF aG (M))::aW b2 (.cells (jD g).toArray 32 (0,0))::aW R (.cells [s.1,t.1].toArray 100 (0,0))::aW b4 (.cells [iv 0,iv 0,(.slice none 0 0),(.slice none 0 0),(.slice none 0 0),(.slice none 0 0)].toArray 174 (0,0))::aW b5 (.cells [iv (g.rules.length:Nat),iv (g.aL.length:Nat),bR.1,bR.1,bR.1,bR.1].toArray 174 (0,0))::aB (sl cT g.rv.1 g.rules)::aB (aF bx g.rules)::aB (sl e7 g.xv.1 g.aL)::aB (aF eQ g.aL)::aB (aG g.start)::aB (sl bH s.1 (dg T))::aB (sl bH t.1 (de T))::aB tz::[])) (λ⟨i,v,M⟩=>i≤g.aL.length∧M.map ay=g.rules.map (λr=>mC (ay r.graph))++(g.aL.take i).map (λx=>ay x.graph)∧(∀y∈M,e9 T.length nf (ay y)∧y.nodes.length≤60)) (λ⟨i,v,M⟩=>g.aL.length-i) ⟨0,v,M⟩ (aD.cons 2 rfl (aD.cons 3 rfl (aD.cons 4 rfl (aD.cons 5 rfl (aD.cons 49 rfl (aD.cons 50 rfl aD.nil)))))) ⟨aP _,by rw[U,sg,lI,gx],C⟩ ?_;rintro ⟨i,v,M⟩ ⟨hi,U,C⟩
  dsimp only at hi U C⊢
  have hMl:M.length=g.rules.length+i:=by have:=congrArg List.length U;rw[aO,bQ,aO,aO,eX]at this;omega
  refine g6 ?_;refine St.cq (λh52=> ?_) (λh52=> ?_)
  ·obtain⟨x,hx⟩:=aE (show i<g.aL.length by omega)
   obtain⟨HF,AG⟩:=Wd i x hx;refine St.cK eQ g.aL (x:=x) (ae hx) ?_;refine St.eZ (aG x.graph) [eQ x] (λρ h=>h (eQ x) (aQ ..) (aG x.graph) (aQ ..)) ?_;refine g7 ?_;refine St.ee (Ev.jq (.mk rfl) hx A2 trivial nW j5.eq) ?_;refine St.al (λb10=> ?_);refine St.sA (.mk rfl) (.mk rfl) nW ?_ (h1:=(eW.2 λu hu=>e7.one x u hu));refine g5 ?_;refine St.ee (Ev.iT 1 (.mk rfl) mo trivial jR rfl rfl) ?_;refine St.slot 57 (bA x.graph) rfl rfl ?_;refine St.gX rfl (.au rfl) Bz jR U2 rfl rfl (by intro u hu;simp only[List.mem_cons,List.not_mem_nil,or_false]at hu;subst hu;rfl) rfl rfl (λb58=> ?_);refine St.aj (.mk rfl) (.mk rfl) Bz jR U2 ZJ (by intro u hu;have SV:u∈[x.graph.nv.1]:=hu;rw[bO.1 SV];exact x.graph.nv.2) (by omega) (by omega) rfl rfl rfl rfl (λv59 an2=> ?_);refine St.aM v59 (show _=(M++ [x.graph]).length from cS) (show _=rows jC (M++ [x.graph]) by rw[bB];rfl) ?_;refine St.bZ v59 (λh59 _=> ?_);refine St.eZ (aF aG (M++ [x.graph])) [aF aG M,aG x.graph] (λρ h x hx=>by rcases cD.1 hx with hx|hx;exact h _ (aQ ..) x hx;rw[bO.1 hx];exact h _ (cO _ (aQ ..))) ?_;refine g9 ?_;refine St.aH ⟨i+1,⟨v59,h59⟩,M++ [x.graph]⟩ ⟨by omega,by rw[cP,U,aa hx,cP,dq];rfl,λy hy=>by rcases cD.1 hy with hy|hy;exact C y hy;rw[bO.1 hy];exact⟨HF,AG⟩⟩
  ·obtain rfl:i=g.aL.length:=by omega
   rw[kH]at U
   have hMg:M.map ay=Hc (cE g):=by rw[U];unfold Hc cE;simp only[List.map_map];rfl
   obtain⟨⟨mv,hmv⟩,Wq⟩:∃z,z=v:=⟨v,rfl⟩
   subst Wq;refine St.bS mv jC M rfl rfl (λ_ _=>trivial) ?_;refine St.vZ R ?_;refine g7 ?_;refine St.ee (Ev.func (.au rfl)) ?_;refine g13 ?_;refine St.dw 3 1 ?_;refine St.aM (.slice none 0 0) (show _=([]:List Int).length from rfl) (show _=rows aJ []from rfl) ?_;refine St.dw 234 3 ?_;refine St.aM (.slice none 0 0) (show _=([]:List rG).length from rfl) (show _=rows sM []from rfl) ?_;refine St.dN nh ?_;refine St.lH (ι:=Nat×aV×List Int×aV×List rG) (λ⟨i,kv,l,av,d⟩ T=>(65,iv i)::T) (λ⟨i,kv,l,av,d⟩=>(row kv.1 3 1 (l).length (rows aJ (l))::row av.1 234 3 (d).length (rows sM (d))::aB (aF nh d)::aW b5 (.cells [iv (g.rules.length:Nat),iv (g.aL.length:Nat),kv.1,av.1,bR.1,bR.1].toArray 174 (0,0))::aB (sl cT g.rv.1 g.rules)::aB (aF bx g.rules)::aB (sl e7 g.xv.1 g.aL)::aB (aF eQ g.aL)::aB (aG g.start)::aB (sl bH s.1 (dg T))::aB (sl bH t.1 (de T))::aB tz::aW b2 (.cells (jD g).toArray 32 (0,0))::aW b4 (.cells [iv 0,iv 0,(.slice none 0 0),(.slice none 0 0),(.slice none 0 0),(.slice none 0 0)].toArray 174 (0,0))::aB (fP R [s.1,t.1])::aB (sl jC mv M)::aB (aF aG M)::[])) (λ⟨i,kv,l,av,d⟩=>i≤g.rules.length∧l=(g.rules.take i).map (·.kids)∧d.length=i∧∀(k:Nat) (x:rG) (r:ca),d[k]?=some x→g.rules[k]?=some r→∀j,j<3→(x.at_ j).2=An (gz T) (lL r) (M.map ay) (j)) (λ⟨i,kv,l,av,d⟩=>g.rules.length-i) ⟨0,bR,[],bR,[]⟩ (aD.cons 2 rfl (aD.cons 4 rfl (aD.cons 5 rfl (aD.cons 6 rfl (aD.cons 11 rfl (aD.cons 63 rfl (aD.cons 64 rfl aD.nil))))))) ⟨aP _,rfl,rfl,λ_ _ _ h=>by cases h⟩ ?_;rintro ⟨i,kv,l,av,d⟩ ⟨hi,P,V,hAL⟩
   dsimp only at hi P V hAL⊢
   have hKl:l.length=i:=by rw[P,aO,eX];omega
   refine g6 ?_;refine St.cq (λh66=> ?_) (λh66=> ?_)
   ·obtain⟨r,D⟩:=aE (show i<g.rules.length by omega)
    obtain⟨hk,HF,AG⟩:=D8 i r D
    have Wo:=gK HF Ku
    refine St.cK bx g.rules (x:=r) (ae D) ?_;refine St.eZ (aG r.graph) [bx r] (λρ h=>h (bx r) (aQ ..) (aG r.graph) (aQ ..)) ?_;refine g7 ?_;refine St.ee (Ev.jq (.mk rfl) D uS trivial kU j5.eq) ?_;refine St.al (λb13=> ?_);refine St.sA (.mk rfl) (.mk rfl) kU ?_ (h1:=(eW.2 λu hu=>cT.one r u hu));refine g4 ?_;refine St.al (λQY=> ?_);refine St.mP QY ([Cl,Cl,Cl].map λp:aV×List Bool=>p.1.1) rfl ?_;refine St.dw 4 1 ?_;refine St.dw 4 1 ?_;refine St.dw 4 1 ?_;refine St.mm [row (.slice none 0 0) 4 1 0 [],row (.slice none 0 0) 4 1 0 [],row (.slice none 0 0) 4 1 0 []] [] (bE (bG 4) ([Cl,Cl,Cl])) (List.Perm.refl _) ?_;refine g11 ?_;refine St.lH (ι:=Nat×List (aV×List Bool)) (λ⟨k,Q⟩ T=>(71,iv k)::T) (λ⟨k,Q⟩=>(aW QY (.cells ((Q).map λp=>p.1.1).toArray 234 (0,0))::aW b13 (.cells (zd r).toArray 110 (0,0))::row kv.1 3 1 (l).length (rows aJ (l))::row av.1 234 3 (d).length (rows sM (d))::aB (aF nh d)::aW b5 (.cells [iv (g.rules.length:Nat),iv (g.aL.length:Nat),kv.1,av.1,bR.1,bR.1].toArray 174 (0,0))::aB (aG r.graph)::aB (sl cT g.rv.1 g.rules)::aB (aF bx g.rules)::aB (sl e7 g.xv.1 g.aL)::aB (aF eQ g.aL)::aB (aG g.start)::aB (sl bH s.1 (dg T))::aB (sl bH t.1 (de T))::aB tz::aW b2 (.cells (jD g).toArray 32 (0,0))::aW b4 (.cells [iv 0,iv 0,(.slice none 0 0),(.slice none 0 0),(.slice none 0 0),(.slice none 0 0)].toArray 174 (0,0))::aB (fP R [s.1,t.1])::aB (sl jC mv M)::aB (aF aG M)::bE (bG 4) (Q))) (λ⟨k,Q⟩=>(k:Int)≤r.kids∧Q.length=3∧∀j,j<3→(Q.getD j Cl).2=if j<k then An (gz T) (lL r) (M.map ay) (j)else []) (λ⟨k,Q⟩=>3-k) ⟨0,[Cl,Cl,Cl]⟩ (aD.cons 2 rfl (aD.cons 4 rfl (aD.cons 5 rfl (aD.cons 6 rfl (aD.cons 11 rfl (aD.cons 13 rfl (aD.cons 14 rfl (aD.cons 63 rfl (aD.cons 64 rfl (aD.cons 65 rfl (aD.cons 70 rfl aD.nil))))))))))) ⟨by omega,rfl,λj S=>by rw[aA (Nat.not_lt_zero _)];rcases j with _|_|_|j;rfl;rfl;rfl;omega⟩ ?_;rintro ⟨k,Q⟩ ⟨hk3,F,hQ⟩
    dsimp only at hk3 F hQ⊢
    refine g6 ?_;refine St.cq (λh72=> ?_) (λh72=> ?_)
    ·obtain⟨nd,Kt⟩:∃nd:Nat,nd=(rS (ay r.graph) ((k:Int)+1)).toNat:=⟨_,rfl⟩
     have anO:=GN r (ae D) ((k:Int)+1) (by omega) (by omega)
     have akA:=zw HF ((k:Int)+1)
     rw[←Kt,dA]at akA
     have hLk:An (gz T) (lL r) (M.map ay) (k)=M.map (λy:dD=>(dU (gz T) (ay r.graph) nd (ay y)).isSome):=by unfold An;rw[aC (show(k:Int)<(lL r).kids from h72),kG,show(lL r).graph=ay r.graph from rfl,←Kt];rfl
     refine g13 ?_;refine St.ee (Ev.iT 1 (.mk rfl) mo trivial jR rfl rfl) ?_;refine St.slot 75 (bA r.graph) rfl rfl ?_;refine g2 ?_;refine St.slot 77 (iv ((k:Int)+1)) rfl rfl ?_;refine St.ee (Ev.call (nH r.graph 0 ((k:Int)+1) (by have:=HF.pos;rw[dA]at this;omega) (λn hn=>⟨(Wo n hn).1,by have:=(Wo n hn).2;omega⟩)) Il (.ej rfl rfl rfl)) ?_;refine St.slot 78 (iv (nd:Nat)) rfl (congrArg iv (by rw[zx];omega)) ?_;refine g11 ?_;refine St.lH (ι:=Nat×List (aV×List Bool)) (λ⟨m,Q⟩ T=>(81,iv m)::T) (λ⟨m,Q⟩=>(aW QY (.cells ((Q).map λp=>p.1.1).toArray 234 (0,0))::aW b13 (.cells (zd r).toArray 110 (0,0))::row kv.1 3 1 (l).length (rows aJ (l))::row av.1 234 3 (d).length (rows sM (d))::aB (aF nh d)::aW b5 (.cells [iv (g.rules.length:Nat),iv (g.aL.length:Nat),kv.1,av.1,bR.1,bR.1].toArray 174 (0,0))::aB (aG r.graph)::aB (sl cT g.rv.1 g.rules)::aB (aF bx g.rules)::aB (sl e7 g.xv.1 g.aL)::aB (aF eQ g.aL)::aB (aG g.start)::aB (sl bH s.1 (dg T))::aB (sl bH t.1 (de T))::aB tz::aW b2 (.cells (jD g).toArray 32 (0,0))::aW b4 (.cells [iv 0,iv 0,(.slice none 0 0),(.slice none 0 0),(.slice none 0 0),(.slice none 0 0)].toArray 174 (0,0))::aB (fP R [s.1,t.1])::aB (sl jC mv M)::aB (aF aG M)::bE (bG 4) (Q))) (λ⟨m,Q⟩=>m≤M.length∧Q.length=3∧∀j,j<3→(Q.getD j Cl).2=if j<k then An (gz T) (lL r) (M.map ay) (j)else if j=k then(M.take m).map (λy:dD=>(dU (gz T) (ay r.graph) nd (ay y)).isSome)else []) (λ⟨m,Q⟩=>M.length-m) ⟨0,Q⟩ (aD.cons 2 rfl (aD.cons 4 rfl (aD.cons 5 rfl (aD.cons 6 rfl (aD.cons 11 rfl (aD.cons 13 rfl (aD.cons 14 rfl (aD.cons 15 rfl (aD.cons 16 rfl (aD.cons 63 rfl (aD.cons 64 rfl (aD.cons 65 rfl (aD.cons 70 rfl (aD.cons 71 rfl (aD.cons 79 rfl (aD.cons 80 rfl aD.nil)))))))))))))))) ⟨aP _,F,λj S=>by rw[hQ j S];split;rfl;split;rfl;rfl⟩ ?_;rintro ⟨m,Q⟩ ⟨hm,F,hQ⟩
     dsimp only at hm F hQ⊢
     refine g6 ?_;refine St.cq (λh82=> ?_) (λh82=> ?_)
     ·obtain⟨y,hy⟩:=aE (show m<M.length by omega)
      obtain⟨hgy,hly⟩:=C y (ae hy);obtain⟨q,hq⟩:=aE (show k<Q.length by omega)
      have hqd:Q.getD k Cl=q:=by rw[ar,hq];rfl
      have J9:q.2=(M.take m).map (λy:dD=>(dU (gz T) (ay r.graph) nd (ay y)).isSome):=by rw[←hqd,hQ k (by omega),aA (Nat.lt_irrefl _),aC rfl]
      have acG:q.2.length=m:=by rw[J9,aO,eX];omega
      refine St.eZ (aG y) [aF aG M] (λρ h=>h _ (aQ ..) y (ae hy)) ?_;refine g7 ?_;refine St.ee (Ev.jq (.mk rfl) hy mo trivial jR j5.eq) ?_;refine St.al (λb18=> ?_);refine St.sA (.mk rfl) (.mk rfl) jR ?_ (h1:=(by simp only[jC,List.all_cons,List.all_nil,Bool.and_true];exact y.nv.2));refine g2 ?_;refine St.tail (bE (bG 4) (Q)) (row q.1.1 4 1 (q.2).length (rows eK (q.2))::bE (bG 4) (Q.eraseIdx k)) (nN _ hq) ?_;refine St.dc (aW QY (.cells ((Q).map λp=>p.1.1).toArray 234 (0,0))::row q.1.1 4 1 (q.2).length (rows eK (q.2))::bE (bG 4) (Q.eraseIdx k)) mixed (λnp ns=> ?_);refine SW.gd 0 ?_;refine SW.gd 1 ?_;refine SW.dd 2 rfl (λ_=>Ev.HO (k:=k) (.mk rfl) (.mk rfl) A3 qV rfl (by omega)) ?_;refine SW.gd 4 ?_;refine SW.gd 5 ?_;refine SW.dd 6 rfl (λ_=>Ev.iT 1 (.mk rfl) mo trivial jR rfl rfl) ?_;refine SW.slot 91 (bA r.graph) rfl rfl ?_;refine SW.gd 7 ?_;refine SW.gd 8 ?_;refine SW.slot 93 (bA y) rfl rfl ?_;refine SW.dd 9 rfl (λ_=>Ev.eh (yt R s t T hT nf Ku r.graph y HF hgy AG hly nd (by omega)) UK (.mk rfl) (.ej rfl rfl rfl)) ?_;refine SW.t2 3 10 ?_ ?_
      focus
       refine St.ee (Ev.ke (.mk rfl) jj trivial (show(Q.map λp=>p.1.1)[k]?=some q.1.1 by rw[bP,hq];rfl)) ?_;refine g2 ?_;refine SW.go ?_;refine SW.t1 10 ?_;refine St.gX rfl (.au rfl) jj Bt Qk rfl rfl (by simp[Value.cells]) rfl rfl (λb95=> ?_);refine g2 ?_;refine SW.go ?_;refine SW.t1 11 ?_;refine St.aj (.mk rfl) (.mk rfl) jj Bt Qk YL (by simp[Value.oneCell',Value.cells]) (by omega) (by omega) rfl rfl rfl rfl (λX akR=> ?_);refine St.aM X (show _=(q.2++ [(dU (gz T) (ay r.graph) nd (ay y)).isSome]).length from cS) (show _=rows eK (q.2++ [(dU (gz T) (ay r.graph) nd (ay y)).isSome]) by rw[bB];rfl) ?_;refine St.bZ X (λS9 _=> ?_);refine g2 ?_;refine SW.go ?_;refine SW.dd 12 rfl (λ_=>Ev.HO (k:=k) (.mk rfl) (.mk rfl) A3 qV rfl (by omega)) ?_;refine SW.t1 13 ?_;refine St.Jl ((Q.set k (⟨X,S9⟩,q.2++ [(dU (gz T) (ay r.graph) nd (ay y)).isSome])).map λp=>p.1.1) (.mk rfl) (.mk rfl) (by rw[jk]) qV S9 (by rw[aO];omega) ?_;refine g2 ?_;refine SW.go ?_;refine SW.dn ?_
      rotate_left
      focus
       refine St.gX rfl (.au rfl) jj Bt Qk rfl rfl (by simp[Value.cells]) rfl rfl (λb95=> ?_);refine g2 ?_;refine SW.go ?_;refine SW.t1 3 ?_;refine St.ee (Ev.ke (.mk rfl) jj trivial (show(Q.map λp=>p.1.1)[k]?=some q.1.1 by rw[bP,hq];rfl)) ?_;refine g2 ?_;refine SW.go ?_;refine SW.t1 11 ?_;refine St.aj (.mk rfl) (.mk rfl) jj Bt Qk YL (by simp[Value.oneCell',Value.cells]) (by omega) (by omega) rfl rfl rfl rfl (λX akR=> ?_);refine St.aM X (show _=(q.2++ [(dU (gz T) (ay r.graph) nd (ay y)).isSome]).length from cS) (show _=rows eK (q.2++ [(dU (gz T) (ay r.graph) nd (ay y)).isSome]) by rw[bB];rfl) ?_;refine St.bZ X (λS9 _=> ?_);refine g2 ?_;refine SW.go ?_;refine SW.dd 12 rfl (λ_=>Ev.HO (k:=k) (.mk rfl) (.mk rfl) A3 qV rfl (by omega)) ?_;refine SW.t1 13 ?_;refine St.Jl ((Q.set k (⟨X,S9⟩,q.2++ [(dU (gz T) (ay r.graph) nd (ay y)).isSome])).map λp=>p.1.1) (.mk rfl) (.mk rfl) (by rw[jk]) qV S9 (by rw[aO];omega) ?_;refine g2 ?_;refine SW.go ?_;refine SW.dn ?_
      all_goals
       refine g7 ?_;refine St.mm [row (⟨X,S9⟩:aV).1 4 1 (q.2++ [(dU (gz T) (ay r.graph) nd (ay y)).isSome]).length (rows eK (q.2++ [(dU (gz T) (ay r.graph) nd (ay y)).isSome]))] (bE (bG 4) (Q.eraseIdx k)) (bE (bG 4) (Q.set k (⟨X,S9⟩,q.2++ [(dU (gz T) (ay r.graph) nd (ay y)).isSome]))) (sP (bG 4) (⟨X,S9⟩,q.2++ [(dU (gz T) (ay r.graph) nd (ay y)).isSome]) (by omega)) ?_;refine St.aH ⟨m+1,Q.set k (⟨X,S9⟩,q.2++ [(dU (gz T) (ay r.graph) nd (ay y)).isSome])⟩ ⟨by omega,by rw[cn];exact F,λj S=>by rw[ar];by_cases h2:j=k;subst h2;rw[fV (by omega),aA (Nat.lt_irrefl _),aC rfl,aa hy,cP];show q.2++_=_;rw[J9];rfl;rw[ic (λh=>h2 h.symm),←ar,hQ j S,aA h2,aA h2]⟩
     ·obtain rfl:m=M.length:=by omega
      rw[kH]at hQ;refine g11 ?_;refine St.aH ⟨k+1,Q⟩ ⟨by push_cast;omega,F,λj S=>by rw[hQ j S];by_cases h1:j<k;rw[aC h1,aC (by omega)];rw[aA h1];by_cases h2:j=k;subst h2;rw[aC rfl,aC (by omega),hLk];rw[aA h2,aA (by omega)]⟩
    ·have hkr:r.kids=(k:Int):=by omega
     refine g11 ?_;refine St.gX rfl (.au rfl) bJ dK eS rfl rfl (by simp[Value.cells]) rfl rfl (λYy=> ?_);refine St.aj (.mk rfl) (.mk rfl) bJ dK eS xW (by simp[Value.oneCell',Value.cells]) (by omega) (by omega) rfl rfl rfl rfl (λv105 amR=> ?_);refine St.aM v105 (show _=(l++ [r.kids]).length from cS) (show _=rows aJ (l++ [r.kids]) by rw[bB];rfl) ?_;refine St.bZ v105 (λS5 _=> ?_);refine go ?_;refine St.cH (.mk rfl) (.mk rfl) fE S5 (by rfl) ?_;refine g2 ?_
     obtain⟨J,K,L,rfl⟩:∃J K L,Q=[J,K,L]:=by match Q,F with| [a,b,c2],_=>exact⟨a,b,c2,rfl⟩
     refine g4 ?_;refine St.slot 109 (.agg #[J.1.1,K.1.1,L.1.1]) rfl rfl ?_;refine St.gX rfl (.au rfl) underlying170 Jr VO rfl rfl (by intro u hu;simp only[List.mem_cons,List.not_mem_nil,or_false]at hu;subst hu;rfl) rfl rfl (λYz=> ?_);refine St.aj (.mk rfl) (.mk rfl) underlying170 Jr VO ZH (by intro u hu;have SV:u∈[J.1.1,K.1.1,L.1.1]:=hu;simp only[List.mem_cons,List.not_mem_nil,or_false]at SV;rcases SV with rfl|rfl|rfl;exact J.1.2;exact K.1.2;exact L.1.2) (by omega) (by omega) rfl rfl rfl rfl (λTs amT=> ?_);refine St.aM Ts (show _=(d++ [yU [J,K,L]]).length from cS) (show _=rows sM (d++ [yU [J,K,L]]) by rw[bB];rfl) ?_;refine St.bZ Ts (λaaK _=> ?_);refine St.TJ (f:=bG 4) bD [J,K,L] (λa H w h=>Vl 4 a H w h) ?_;refine St.eZ (nh (yU [J,K,L])) [aF bD [J,K,L]] (λρ h=>by have h0:=h _ (aQ ..);intro e he;rcases cJ.1 he with rfl|he;exact h0 J (by simp);rcases cJ.1 he with rfl|he;exact h0 K (by simp);rcases cJ.1 he with rfl|he;exact h0 L (by simp);cases he) ?_;refine St.eZ (aF nh (d++ [yU [J,K,L]])) [aF nh d,nh (yU [J,K,L])] (λρ h x hx=>by rcases cD.1 hx with hx|hx;exact h _ (aQ ..) x hx;rw[bO.1 hx];exact h _ (cO _ (aQ ..))) ?_;refine go ?_;refine St.cH (.mk rfl) (.mk rfl) afA aaK (by rfl) ?_;refine g8 ?_;refine St.aH ⟨i+1,⟨v105,S5⟩,l++ [r.kids],⟨Ts,aaK⟩,d++ [yU [J,K,L]]⟩ ⟨by omega,by rw[P,aa D,cP];rfl,by rw[bQ,V];rfl,λk2 x r2 hx JA j S=>by rcases Nat.lt_trichotomy k2 i with h1|h1|h1;exact hAL k2 x r2 (by rw[oc (by omega)]at hx;exact hx) JA j S;subst h1;rw[lp (by omega),V,ff]at hx;obtain rfl:=Option.some.inj hx;rw[D]at JA;obtain rfl:=Option.some.inj JA;rw[MO _ S,hQ j S];split;rfl;(unfold An;rw[aA (show ¬(j:Int)<(lL r).kids from by show ¬(j:Int)<r.kids;omega)]);rw[ib (by rw[bQ,V];simp only[List.length_cons,List.length_nil];omega)]at hx;cases hx⟩
   ·obtain rfl:i=g.rules.length:=by omega
    rw[kH]at P
    obtain⟨⟨G,Qe⟩,Wq⟩:∃z,z=kv:=⟨kv,rfl⟩
    subst Wq
    obtain⟨⟨E,Qb⟩,hv3⟩:∃z,z=av:=⟨av,rfl⟩
    subst hv3;refine St.bS G aJ l rfl rfl (λz hz=>by rw[P]at hz;obtain⟨r,D,rfl⟩:=cz.1 hz;have:=(hru r D).1;show aZ r.kids;unfold aZ;omega) ?_;refine St.bS E sM d rfl rfl (λ_ _=>trivial) ?_
    have hFO:∀s2 f2:aV,wI ⟨g.rules.length,g.aL.length,⟨G,Qe⟩,⟨E,Qb⟩,s2,f2,l,d⟩ (cE g) (gz T):=λs2 f2=>⟨(aO _).symm,(aO _).symm,by show l=(g.rules.map lL).map _;rw[P,kG];rfl,by show d.length=(g.rules.map lL).length;rw[V,aO],λk x rr hx Wn j S=>by have Wn:(g.rules.map lL)[k]?=some rr:=Wn;rw[bP]at Wn;obtain⟨r,D,rfl⟩:=dp.1 Wn;rw[hAL k x r hx D j S,hMg]⟩
    refine g14 ?_;refine St.dw 4 1 ?_;refine St.aM (.slice none 0 0) (show _=([]:List Bool).length from rfl) (show _=rows eK []from rfl) ?_;refine St.lH (ι:=Nat×aV×List Bool) (λ⟨m,sv,N⟩ T=>(116,iv m)::T) (λ⟨m,sv,N⟩=>(row sv.1 4 1 (N).length (rows eK (N))::aW b5 (.cells [iv (g.rules.length:Nat),iv (g.aL.length:Nat),(⟨G,Qe⟩:aV).1,(⟨E,Qb⟩:aV).1,sv.1,bR.1].toArray 174 (0,0))::aB (sl aJ G l)::aB (sl sM E d)::aB (aF nh d)::aB (sl cT g.rv.1 g.rules)::aB (aF bx g.rules)::aB (sl e7 g.xv.1 g.aL)::aB (aF eQ g.aL)::aB (aG g.start)::aB (sl bH s.1 (dg T))::aB (sl bH t.1 (de T))::aB tz::aW b2 (.cells (jD g).toArray 32 (0,0))::aW b4 (.cells [iv 0,iv 0,(.slice none 0 0),(.slice none 0 0),(.slice none 0 0),(.slice none 0 0)].toArray 174 (0,0))::aB (fP R [s.1,t.1])::aB (sl jC mv M)::aB (aF aG M)::[])) (λ⟨m,sv,N⟩=>m≤M.length∧N.length=m) (λ⟨m,sv,N⟩=>M.length-m) ⟨0,bR,[]⟩ (aD.cons 2 rfl (aD.cons 4 rfl (aD.cons 5 rfl (aD.cons 6 rfl (aD.cons 11 rfl (aD.cons 114 rfl (aD.cons 115 rfl aD.nil))))))) ⟨aP _,rfl⟩ ?_;rintro ⟨m,sv,N⟩ ⟨hm,hSl⟩
    dsimp only at hm hSl⊢
    refine g6 ?_;refine St.cq (λWS=> ?_) (λWS=> ?_)
    ·obtain⟨y,hy⟩:=aE (show m<M.length by omega)
     obtain⟨hgy,hly⟩:=C y (ae hy);refine St.eZ (aG y) [aF aG M] (λρ h=>h _ (aQ ..) y (ae hy)) ?_;refine g7 ?_;refine St.ee (Ev.jq (.mk rfl) hy mo trivial jR j5.eq) ?_;refine St.al (λb20=> ?_);refine St.sA (.mk rfl) (.mk rfl) jR ?_ (h1:=(by simp only[jC,List.all_cons,List.all_nil,Bool.and_true];exact y.nv.2));refine g2 ?_;refine St.dc [row sv.1 4 1 (N).length (rows eK (N)),aW b5 (.cells [iv (g.rules.length:Nat),iv (g.aL.length:Nat),(⟨G,Qe⟩:aV).1,(⟨E,Qb⟩:aV).1,sv.1,bR.1].toArray 174 (0,0))] mixed (λnp ns=> ?_);refine SW.gd 0 ?_;refine SW.gd 2 ?_;refine SW.gd 3 ?_;refine SW.dd 4 rfl (λ_=>Ev.iT 1 (.mk rfl) mo trivial jR rfl rfl) ?_;refine SW.slot 124 (bA g.start) rfl rfl ?_;refine SW.gd 5 ?_;refine SW.slot 125 (bA y) rfl rfl ?_;refine SW.dd 6 rfl (λ_=>Ev.eh (yt R s t T hT nf Ku g.start y JC.1 hgy JC.2 hly 0 (by have:=JC.1.pos;rw[dA]at this;exact this)) UK (.mk rfl) (.ej rfl rfl rfl)) ?_;refine SW.t2 1 7 ?_ ?_
     focus
      refine g3 ?_;refine SW.go ?_;refine SW.t1 7 ?_;refine St.gX rfl (.au rfl) jj Bt Qk rfl rfl (by simp[Value.cells]) rfl rfl (λaf5=> ?_);refine g2 ?_;refine SW.go ?_;refine SW.t1 8 ?_;refine St.aj (.mk rfl) (.mk rfl) jj Bt Qk YL (by simp[Value.oneCell',Value.cells]) (by omega) (by omega) rfl rfl rfl rfl (λLp adD=> ?_);refine St.aM Lp (show _=(N++ [(dU (gz T) (ay g.start) 0 (ay y)).isSome]).length from cS) (show _=rows eK (N++ [(dU (gz T) (ay g.start) 0 (ay y)).isSome]) by rw[bB];rfl) ?_;refine St.bZ Lp (λS8 _=> ?_);refine g2 ?_;refine SW.go ?_;refine SW.gd 9 ?_;refine SW.t1 10 ?_;refine St.cH (.mk rfl) (.mk rfl) qV S8 (by rfl) ?_;refine g2 ?_;refine SW.go ?_;refine SW.dn ?_
     rotate_left
     focus
      refine St.gX rfl (.au rfl) jj Bt Qk rfl rfl (by simp[Value.cells]) rfl rfl (λaf5=> ?_);refine g2 ?_;refine SW.go ?_;refine SW.t1 1 ?_;refine g3 ?_;refine SW.go ?_;refine SW.t1 8 ?_;refine St.aj (.mk rfl) (.mk rfl) jj Bt Qk YL (by simp[Value.oneCell',Value.cells]) (by omega) (by omega) rfl rfl rfl rfl (λLp adD=> ?_);refine St.aM Lp (show _=(N++ [(dU (gz T) (ay g.start) 0 (ay y)).isSome]).length from cS) (show _=rows eK (N++ [(dU (gz T) (ay g.start) 0 (ay y)).isSome]) by rw[bB];rfl) ?_;refine St.bZ Lp (λS8 _=> ?_);refine g2 ?_;refine SW.go ?_;refine SW.gd 9 ?_;refine SW.t1 10 ?_;refine St.cH (.mk rfl) (.mk rfl) qV S8 (by rfl) ?_;refine g2 ?_;refine SW.go ?_;refine SW.dn ?_
     all_goals
      refine g7 ?_;refine St.aH ⟨m+1,⟨Lp,S8⟩,N++ [(dU (gz T) (ay g.start) 0 (ay y)).isSome]⟩ ⟨by omega,by rw[bQ,hSl];rfl⟩
    ·obtain rfl:m=M.length:=by omega
     refine g15 ?_;refine St.dw 171 1 ?_;refine St.aM (.slice none 0 0) (show _=([]:List aV).length from rfl) (show _=rows bT []from rfl) ?_;refine St.lH (ι:=Nat×aV×List aV) (λ⟨i,fv,O⟩ T=>(134,iv i)::T) (λ⟨i,fv,O⟩=>(row fv.1 171 1 O.length (rows bT O)::aW b5 (.cells [iv (g.rules.length:Nat),iv (g.aL.length:Nat),(⟨G,Qe⟩:aV).1,(⟨E,Qb⟩:aV).1,sv.1,fv.1].toArray 174 (0,0))::aB (sl aJ G l)::aB (sl sM E d)::aB (aF nh d)::aB (sl cT g.rv.1 g.rules)::aB (aF bx g.rules)::aB (sl e7 g.xv.1 g.aL)::aB (aF eQ g.aL)::aB (aG g.start)::aB (sl bH s.1 (dg T))::aB (sl bH t.1 (de T))::aB tz::aW b2 (.cells (jD g).toArray 32 (0,0))::aW b4 (.cells [iv 0,iv 0,(.slice none 0 0),(.slice none 0 0),(.slice none 0 0),(.slice none 0 0)].toArray 174 (0,0))::aB (fP R [s.1,t.1])::aB (sl jC mv M)::aB (aF aG M)::[])) (λ⟨i,fv,O⟩=>i≤g.rules.length∧O.length=i) (λ⟨i,fv,O⟩=>g.rules.length-i) ⟨0,bR,[]⟩ (aD.cons 4 rfl (aD.cons 5 rfl (aD.cons 6 rfl (aD.cons 133 rfl aD.nil)))) ⟨aP _,rfl⟩ ?_;rintro ⟨i,fv,O⟩ ⟨hi,hFl⟩
     dsimp only at hi hFl⊢
     refine g6 ?_;refine St.cq (λaiE=> ?_) (λaiE=> ?_)
     ·refine g14 ?_
      refine St.sS (m:=M.length) (.mk rfl) (.mk rfl) jj Bt Qk YL rfl rfl (by omega) rfl rfl (λCd=> ?_);refine St.aM (.slice (some ⟨Cd,0,none⟩) M.length M.length) (show _=(List.replicate M.length false).length by rw[kF]) (show _=rows eK (List.replicate M.length false)from(za (Rr:=eK) rfl _).symm) ?_;refine g7 ?_;refine St.gX rfl (.au rfl) bJ dK eS rfl rfl (by simp[Value.cells]) rfl rfl (λZ2=> ?_);refine St.aM (.slice (some ⟨Z2,0,none⟩) 1 1) (show _=[i].length from rfl) (show _=rows aJ (bW [i])from rfl) ?_;refine g4 ?_;refine St.lH (ι:=List Bool×aV×List Nat) (λ⟨B,wv,W⟩ T=>(23,wv.1)::T) (λ⟨B,wv,W⟩=>(row (.slice (some ⟨Cd,0,none⟩) M.length M.length) 4 1 B.length (rows eK B)::row wv.1 3 1 W.length (rows aJ (bW W))::row fv.1 171 1 O.length (rows bT O)::aW b5 (.cells [iv (g.rules.length:Nat),iv (g.aL.length:Nat),(⟨G,Qe⟩:aV).1,(⟨E,Qb⟩:aV).1,sv.1,fv.1].toArray 174 (0,0))::aB (sl aJ G l)::aB (sl sM E d)::aB (aF nh d)::aB (sl cT g.rv.1 g.rules)::aB (aF bx g.rules)::aB (sl e7 g.xv.1 g.aL)::aB (aF eQ g.aL)::aB (aG g.start)::aB (sl bH s.1 (dg T))::aB (sl bH t.1 (de T))::aB tz::aW b2 (.cells (jD g).toArray 32 (0,0))::aW b4 (.cells [iv 0,iv 0,(.slice none 0 0),(.slice none 0 0),(.slice none 0 0),(.slice none 0 0)].toArray 174 (0,0))::aB (fP R [s.1,t.1])::aB (sl jC mv M)::aB (aF aG M)::[])) (λ⟨B,wv,W⟩=>B.length=M.length∧(∀z∈W,z<g.rules.length)∧Dh B+W.length≤M.length+1) (λ⟨B,wv,W⟩=>Dh B+W.length) ⟨List.replicate M.length false,⟨.slice (some ⟨Z2,0,none⟩) 1 1,rfl⟩,[i]⟩ (aD.cons 4 rfl (aD.cons 5 rfl (aD.cons 6 rfl (aD.cons 22 rfl (aD.cons 133 rfl (aD.cons 134 rfl aD.nil)))))) ⟨kF ..,λz hz=>by rw[bO.1 hz];omega,by rw[Pz];exact aR _⟩ ?_;rintro ⟨B,wv,W⟩ ⟨hsl,hW,hb⟩
      dsimp only at hsl hW hb⊢
      refine g8 ?_;refine St.cq (λaaN=> ?_) (λaaN=> ?_)
      ·obtain⟨A,at_,rfl⟩:∃A at_,W=A++ [at_]:=⟨W.dropLast,W.getLast (by intro h;subst h;simp at aaN),(List.dropLast_concat_getLast _).symm⟩
       have ajT:=hW at_ (by simp)
       have hWl:(A++ [at_]).length=A.length+1:=cS.symm
       obtain⟨Y,YX⟩:=aE (show at_<d.length by omega);obtain⟨ra,Wk⟩:=aE ajT;obtain⟨hka,_,_⟩:=D8 at_ ra Wk
       have Us:(Y.at_ 0).2.length=M.length:=by rw[hAL at_ Y ra YX Wk 0 (by omega)];unfold An;rw[aC (show((0:Nat):Int)<(lL ra).kids from by show((0:Nat):Int)<ra.kids;omega),aO,aO]
       refine St.cK nh d (x:=Y) (ae YX) ?_;refine St.eZ (sl eK (Y.at_ 0).1.1 (Y.at_ 0).2) [nh Y] (λρ h=>Ie Y 0 ρ (h _ (aQ ..))) ?_;refine g8 ?_;refine St.slot 147 (iv ((A.length+1:Nat):Int)) rfl (congrArg iv (by rw[hWl])) ?_;refine go ?_;refine St.slot 148 (iv (A.length:Nat)) rfl (congrArg iv (by push_cast;omega)) ?_;refine St.ee (Ev.dZ (k:=A.length) (.mk rfl) (.mk rfl) bJ dK (by omega) (by omega)) ?_;refine St.ee (Ev.cu (.mk rfl) gV trivial (by omega) (gP (gO (show(A++ [at_])[A.length]?=some at_ by simp)))) ?_;refine g8 ?_;refine St.slot 153 (iv ((A.length+1:Nat):Int)) rfl (congrArg iv (by rw[hWl])) ?_;refine go ?_;refine St.slot 154 (iv (A.length:Nat)) rfl (congrArg iv (by push_cast;omega)) ?_;refine St.ee (Ev.pI (h:=A.length) (.mk rfl) (.mk rfl) bJ dK (by omega) (by omega)) ?_;refine St.DS wv.1 A.length (by omega) ?_;refine St.bZ (pJ wv.1 1 0 A.length) (λaiF _=> ?_);refine St.aM (pJ wv.1 1 0 A.length) rfl (show _=rows aJ (bW A) by rw[kf,←dY A];exact uJ aJ _ _) ?_;refine g8 ?_;refine St.Jf E (by omega) (λbs os cs Nk=> ?_);refine go ?_;refine St.ee (Ev.xk (j:=0) Nk (.mk rfl) (.mk rfl) A3 qV (by omega) (by omega)) ?_;refine St.ee (Ev.ld1 (.mk rfl) YX jj trivial (Y.cell (by omega))) ?_;refine g5 ?_
       obtain⟨B0,hB0⟩:∃B0,B0=Dh B+A.length:=⟨_,rfl⟩
       have hB1:B0≤M.length:=by omega
       refine St.lH (ι:=Nat×List Bool×aV×List Nat) (λ⟨o,B,wv,W⟩ T=>(163,iv o)::(23,wv.1)::T) (λ⟨o,B,wv,W⟩=>(row (.slice (some ⟨Cd,0,none⟩) M.length M.length) 4 1 B.length (rows eK B)::row wv.1 3 1 W.length (rows aJ (bW W))::row fv.1 171 1 O.length (rows bT O)::aW b5 (.cells [iv (g.rules.length:Nat),iv (g.aL.length:Nat),(⟨G,Qe⟩:aV).1,(⟨E,Qb⟩:aV).1,sv.1,fv.1].toArray 174 (0,0))::aB (sl aJ G l)::aB (sl sM E d)::aB (aF nh d)::aB (sl eK (Y.at_ 0).1.1 (Y.at_ 0).2)::aB (sl cT g.rv.1 g.rules)::aB (aF bx g.rules)::aB (sl e7 g.xv.1 g.aL)::aB (aF eQ g.aL)::aB (aG g.start)::aB (sl bH s.1 (dg T))::aB (sl bH t.1 (de T))::aB tz::aW b2 (.cells (jD g).toArray 32 (0,0))::aW b4 (.cells [iv 0,iv 0,(.slice none 0 0),(.slice none 0 0),(.slice none 0 0),(.slice none 0 0)].toArray 174 (0,0))::aB (fP R [s.1,t.1])::aB (sl jC mv M)::aB (aF aG M)::[])) (λ⟨o,B,wv,W⟩=>o≤M.length∧B.length=M.length∧(∀z∈W,z<g.rules.length)∧Dh B+W.length≤B0) (λ⟨o,B,wv,W⟩=>M.length-o) ⟨0,B,⟨pJ wv.1 1 0 A.length,aiF⟩,A⟩ (aD.cons 4 rfl (aD.cons 5 rfl (aD.cons 6 rfl (aD.cons 22 rfl (aD.cons 133 rfl (aD.cons 134 rfl (aD.cons 161 rfl (aD.cons 162 rfl aD.nil)))))))) ⟨aP _,hsl,λz hz=>hW z (by simp[hz]),Nat.le_of_eq hB0.symm⟩ ?_;rintro ⟨o,I,wv2,W2⟩ ⟨ho,Nl,Z,Dr⟩
       dsimp only at ho Nl Z Dr⊢
       refine g6 ?_;refine St.cq (λaiH=> ?_) (λaiH=> ?_)
       ·obtain⟨bo,hbo⟩:=aE (show o<(Y.at_ 0).2.length by omega)
        obtain⟨so,hso⟩:=aE (show o<I.length by omega);refine g17 ?_;refine St.gt _ rfl rfl (λhg=>Ev.move (.mk rfl)) rfl ?_;refine St.gt _ rfl rfl (λhg=>Ev.move (.mk rfl)) rfl ?_;refine St.gt _ rfl rfl (λhg=>Ev.dZ (k:=o) (ai.gv rfl hg) (ai.gv rfl hg) jj Bt (by first|omega|(simp only[fJ]at hg;omega)) (by omega)) rfl ?_;refine St.gt _ rfl rfl (λhg=>Ev.cu (ai.gv rfl hg) IL trivial (by omega) (P7 hso)) rfl ?_;refine St.gt _ rfl rfl (λhg=>Ev.not (ai.gv rfl hg)) rfl ?_;refine g3 ?_;refine St.cond _ rfl (λaaP=> ?_) (λaaP=> ?_)
        ·skip
         obtain rfl:so=false:=by cases so;rfl;simp at aaP
         have hu:=Q0 hso
         refine g5 ?_;refine St.cI (.mk rfl) (.mk rfl) Bt rfl (by omega) (by decide) ?_;refine St.aM (.slice (some ⟨Cd,0,none⟩) M.length M.length) (show _=(I.set o true).length by rw[cn]) (show _=rows eK (I.set o true)from LU _ _ _) ?_;refine g10 ?_;refine St.cq (λaiI=> ?_) (λaiI=> ?_)
         ·refine g3 ?_
          refine St.gX rfl (.au rfl) bJ dK eS rfl rfl (by simp[Value.cells]) rfl rfl (λam8=> ?_);refine St.aj (.mk rfl) (.mk rfl) bJ dK eS xW (by simp[Value.oneCell',Value.cells]) (by omega) (by omega) rfl rfl rfl rfl (λY8 am0=> ?_);refine St.aM Y8 (show _=(W2++ [o]).length by rw[bQ];rfl) (show _=rows aJ (bW (W2++ [o])) by rw[kf,bB];rfl) ?_;refine St.bZ Y8 (λaiJ _=> ?_);refine g9 ?_;refine St.aH ⟨o+1,I.set o true,⟨Y8,aiJ⟩,W2++ [o]⟩ ⟨by omega,by rw[cn];exact Nl,λz hz=>by rcases cD.1 hz with hz|hz;exact Z z hz;rw[bO.1 hz];omega,by dsimp only;rw[bQ];simp only[List.length_cons,List.length_nil];omega⟩
         ·refine g8 ?_
          refine St.aH ⟨o+1,I.set o true,wv2,W2⟩ ⟨by omega,by rw[cn];exact Nl,Z,by first|omega|(dsimp only;omega)⟩
        ·skip
         skip
         refine g8 ?_;refine St.aH ⟨o+1,I,wv2,W2⟩ ⟨by omega,Nl,Z,Dr⟩
       ·skip
        refine g6 ?_;refine St.sL ⟨I,wv2,W2⟩ ⟨Nl,Z,by first|omega|(dsimp only;omega)⟩ (by dsimp only;omega) (by repeat(first|exact Sub.nil|refine Sub.cons (by first|rfl|exact congrArg (λz=>some (iv z)) (by first|omega|(dsimp only;omega))|exact congrArg (λz=>some (Value.bool z)) (by first|assumption|exact iZ (by assumption))) ?_)) (λ_ hw=>hw.sub)
      ·skip
       refine g9 ?_;refine St.gX rfl (.au rfl) underlying172 qV VM rfl rfl (by simp[Value.cells]) rfl rfl (λam9=> ?_);refine St.aj (.mk rfl) (.mk rfl) underlying172 qV VM ZE (by simp[Value.oneCell',Value.cells]) (by omega) (by omega) rfl rfl rfl rfl (λQC am1=> ?_);refine St.aM QC (show _=(O++ [(⟨.slice (some ⟨Cd,0,none⟩) M.length M.length,rfl⟩:aV)]).length from cS) (show _=rows bT (O++ [(⟨.slice (some ⟨Cd,0,none⟩) M.length M.length,rfl⟩:aV)]) by rw[bB];rfl) ?_;refine St.bZ QC (λaaQ _=> ?_);refine go ?_;refine St.cH (.mk rfl) (.mk rfl) afB aaQ (by rfl) ?_;refine g8 ?_;refine St.aH ⟨i+1,⟨QC,aaQ⟩,O++ [(⟨.slice (some ⟨Cd,0,none⟩) M.length M.length,rfl⟩:aV)]⟩ ⟨by omega,by rw[bQ,hFl];rfl⟩
     ·skip
      refine g8 ?_;refine St.sA (.mk rfl) (.mk rfl) Jp ?_ (h1:=(by simp only[List.all_cons,List.all_nil,Bool.and_true,Bool.and_eq_true];exact⟨rfl,rfl,Qe,Qb,sv.2,fv.2⟩));refine g3 ?_;refine St.eZ (hY ⟨g.rules.length,g.aL.length,⟨G,Qe⟩,⟨E,Qb⟩,sv,fv,l,d⟩) [sl aJ G l,sl sM E d,aF nh d] (λρ h=>h) ?_;refine St.rV [_] [aB (hY ⟨g.rules.length,g.aL.length,⟨G,Qe⟩,⟨E,Qb⟩,sv,fv,l,d⟩)] ?_;exact⟨⟨g.rules.length,g.aL.length,⟨G,Qe⟩,⟨E,Qb⟩,sv,fv,l,d⟩,rfl,hFO sv fv,rfl⟩
end Go.Proofs.YtblifkgpebebmaaGreatDoor
namespace Go.Proofs
open Go.Shelf
def Tryz.sR:Go.Shelf.Ren:=⟨λ|6=>125|14=>147|15=>148|20=>160|21=>161|22=>162|23=>163|24=>164|25=>165|26=>166|27=>167|28=>168|29=>169|46=>179|47=>180|48=>181|49=>182|50=>183|57=>185|n=>n,λ|0=>0|3=>3|4=>4|5=>5|9=>9|22=>58|24=>3|25=>208|39=>218|45=>282|46=>283|50=>112|53=>289|55=>157|66=>298|70=>302|76=>304|77=>305|n=>n,λ|n=>n⟩
theorem Tryz.zC:Go.Proofs.SlLaysF.n6 Tryz.prog Tryz.sR:={
 mixed:=by kernel_rfl
 f6:=⟨Tryz.f125.name,by decide,Tryz.func125.trans (congrArg some (by kernel_rfl))⟩
 f14:=⟨Tryz.f147.name,by decide,Tryz.func147.trans (congrArg some (by kernel_rfl))⟩
 f15:=Tryz.func148.trans (congrArg some (by kernel_rfl))
 f20:=⟨Tryz.f160.name,by decide,Tryz.func160.trans (congrArg some (by kernel_rfl))⟩
 f21:=⟨Tryz.f161.name,by decide,Tryz.func161.trans (congrArg some (by kernel_rfl))⟩
 f22:=⟨Tryz.f162.name,by decide,Tryz.func162.trans (congrArg some (by kernel_rfl))⟩
 f23:=⟨Tryz.f163.name,by decide,Tryz.func163.trans (congrArg some (by kernel_rfl))⟩
 f24:=⟨Tryz.f164.name,by decide,Tryz.func164.trans (congrArg some (by kernel_rfl))⟩
 f25:=⟨Tryz.f165.name,by decide,Tryz.func165.trans (congrArg some (by kernel_rfl))⟩
 f26:=⟨Tryz.f166.name,by decide,Tryz.func166.trans (congrArg some (by kernel_rfl))⟩
 f27:=⟨Tryz.f167.name,by decide,Tryz.func167.trans (congrArg some (by kernel_rfl))⟩
 f28:=Tryz.func168.trans (congrArg some (by kernel_rfl))
 f29:=Tryz.func169.trans (congrArg some (by kernel_rfl))
 f46:=⟨Tryz.f179.name,by decide,Tryz.func179.trans (congrArg some (by kernel_rfl))⟩
 f47:=Tryz.func180.trans (congrArg some (by kernel_rfl))
 f48:=Tryz.func181.trans (congrArg some (by kernel_rfl))
 f49:=⟨Tryz.f182.name,by decide,Tryz.func182.trans (congrArg some (by kernel_rfl))⟩
 f50:=⟨Tryz.f183.name,by decide,Tryz.func183.trans (congrArg some (by kernel_rfl))⟩
 f57:=⟨Tryz.f185.name,by decide,Tryz.func185.trans (congrArg some (by kernel_rfl))⟩
 t0:=Yf
 a0:=Tryz.isAgg0
 z0:=Tryz.sizeOf0
 v0:=Tryz.zeroValue0
 t3:=gV
 a3:=Tryz.isAgg3
 z3:=Tryz.sizeOf3
 v3:=Tryz.zeroValue3
 t4:=IL
 a4:=Tryz.isAgg4
 z4:=Tryz.sizeOf4
 v4:=Tryz.zeroValue4
 t5:=GP
 a5:=Tryz.isAgg5
 z5:=Tryz.sizeOf5
 v5:=Tryz.zeroValue5
 t9:=xQ
 a9:=Tryz.isAgg9
 z9:=Tryz.sizeOf9
 v9:=Tryz.zeroValue9
 t22:=bJ
 a22:=Tryz.isAgg58
 z22:=Tryz.sizeOf58
 v22:=Tryz.zeroValue58
 a24:=Tryz.isAgg3
 z24:=Tryz.sizeOf3
 t25:=Tryz.underlying208
 a25:=Tryz.isAgg208
 z25:=Tryz.sizeOf208
 v25:=Tryz.zeroValue208
 t39:=Bx
 a39:=Tryz.isAgg218
 z39:=Tryz.sizeOf218
 v39:=Tryz.zeroValue218
 t45:=Tryz.underlying282
 a45:=Tryz.isAgg282
 z45:=Tryz.sizeOf282
 v45:=Tryz.zeroValue282
 t46:=Tryz.underlying283
 a46:=Tryz.isAgg283
 z46:=Tryz.sizeOf283
 v46:=Tryz.zeroValue283
 t50:=Tryz.underlying112
 a50:=Tryz.isAgg112
 z50:=Tryz.sizeOf112
 v50:=Tryz.zeroValue112
 t53:=Tryz.underlying289
 a53:=Tryz.isAgg289
 z53:=Tryz.sizeOf289
 v53:=Tryz.zeroValue289
 t55:=lj
 a55:=Tryz.isAgg157
 z55:=Tryz.sizeOf157
 v55:=Tryz.zeroValue157
 t66:=Tryz.underlying298
 a66:=Tryz.isAgg298
 z66:=Tryz.sizeOf298
 v66:=Tryz.zeroValue298
 t70:=Tryz.underlying302
 a70:=Tryz.isAgg302
 z70:=Tryz.sizeOf302
 v70:=Tryz.zeroValue302
 t76:=Tryz.underlying304
 a76:=Tryz.isAgg304
 z76:=Tryz.sizeOf304
 v76:=Tryz.zeroValue304
 t77:=Tryz.underlying305
 a77:=Tryz.isAgg305
 z77:=Tryz.sizeOf305
 v77:=Tryz.zeroValue305}
end Go.Proofs
namespace Go.J
open Go Go.Proofs Go.Shelf Go.RowKit Go.Lib Go.Sort
theorem Start.Ab {ds:List du}{W:World}(hd:∀d∈ds,d.f (J.all W)):Start (ds.map J.aB) (J.all W) W:=
 ⟨rfl,⟨rfl,λ_=>aR _⟩,rfl,aR _,λ_ _ _=>rfl,λ_ _ h=>h,Ro.le_refl _,λ_ _ _=>rfl,λE c=>by
  obtain⟨d,e,rfl⟩:=cz.1 c;exact dB.2 (hd d e),
  (λE c b a=>by
   obtain⟨d,hd,rfl⟩:=cz.1 c
   rw[jv]at a;cases a),
  by
   refine sD.2 (wi (R:=λ_ _=>True) ?_ (List.pairwise_of_forall λ_ _=>trivial));intro d g _ _ _ b a
   rw[jv]at a;cases a⟩
theorem eC.aaG {P:Program}{f:FuncId}{args:Array Value}{ds:List du}{v:Value}{W:World}(h:eC P f args ds v)(hd:∀d∈ds,d.f (J.all W)):
 Calls P f args W λe w'=>e= .returned v∧∃q a,w'=grow (W.drewN q) a:=by
 refine(h W (J.all W) (Start.Ab hd)).mono ?_;rintro e w' ⟨u,H',rfl,rfl,hm⟩;obtain⟨jn,hm⟩:=hm.out;refine⟨rfl,w'.drawn-W.drawn,w'.heap.extract W.heap.size w'.heap.size,?_⟩
 have h1:=hm.os
 have b:=And.intro hm.tape.1 (hm.tape.2 trivial)
 have c:=hm.output
 have l:=hm.size
 have g:∀k,k<W.heap.size→w'.heap[k]?=W.heap[k]?:=λk hk=>hm.AJ k hk (j7 ds k)
 clear hm
 cases w' with
 |mk m n o a p=>
  cases W with
  |mk heap tape drawn os out=>
   simp only at h1 b c l g
   simp only[grow,World.drewN,World.mk.injEq]
   refine⟨?_,b.1,by omega,h1,c⟩
   apply Array.ext_getElem?
   intro i;rw[Array.getElem?_append]
   split
   ·rename_i j;exact g i j
   ·rename_i j
    rw[Array.getElem?_extract]
    split
    ·congr 1;omega
    ·rename_i r
     rw[Array.getElem?_eq_none (by omega)]
section
variable {P:Program}{QX:Ren}{α:Type}[Inhabited α]
theorem pX (enc:α→Value)(w:World)(g0 m k:Nat)(a:Array α)(os:Array Obj)(hk:k≠g0)(b:k<w.heap.size):(sortWorld enc w g0 0 m a os).heap[k]?=w.heap[k]?:=by
 unfold sortWorld grow putRow mapBlock
 simp only[]
 rw[Array.getElem?_append_left (by simpa using b),Array.getElem?_modify];rw[aA (λe=>hk e.symm)];rfl
theorem zi (enc:α→Value)(w:World)(g0 m:Nat)(b:Array α)(os:Array Obj){cur:Array Value}{e:TypeId}{fr:Nat×Nat}(c:w.heap[g0]?=some (.cells cur e fr)):
 (sortWorld enc w g0 0 m b os).heap[g0]?=some (.cells (putCells enc 0 b cur) e fr):=by
 have d:=(wG.1 c).1
 have a:(Sort.ahead w m).heap[g0]?=some (.cells cur e fr):=c
 unfold sortWorld grow putRow mapBlock
 simp only[]
 rw[Array.getElem?_append_left (by simpa using d),Array.getElem?_modify,aC rfl,a];rfl
theorem Start.sorted {ds:List du}{enc:α→Value}{v:Value}{e:TypeId}{d:List α}{w:World}{ρ:Ro}(st:Start (ds.map aB++ [row v e 1 d.length (d.map enc)]) ρ w){g0 cap:Nat}{cur:Array Value}
 (f:v= .slice (some ⟨g0,0,none⟩) d.length cap) (h:w.heap[g0]?=some (.cells cur e (0,0))) (q:d.length≤cap) (z:cap≤maxLen) (A:cur.size=cap*1) (B:cur.toList.take (d.length*1)=d.map enc):
 Holds enc w g0 0 d.toArray∧g0<w.heap.size∧(∀(m:Nat) (os:Array Obj) (c:Array α),Ro.le ρ (J.all (sortWorld enc w g0 0 m c os)))∧
  ∀(n:Nat) (a:Array α) (os:Array Obj),a.size=d.length→Mm ⟨w,ρ,jm (ds.map aB++ [row v e 1 d.length (d.map enc)]),True⟩ [row v e 1 d.length (a.toList.map enc)] (sortWorld enc w g0 0 n a os):=by
 have hblk:=(wG.1 h).1
 have t:ρ g0=Option.none:=(st.own _ (mz _ (CH _)) g0 (by rw[eI,f];rfl)).1
 have u:∀j (g:j<d.length),cur[j]?=some (enc d[j]):=λj g=>by
  have:=congrArg (λl=>l[j]?) B
  simp only[List.getElem?_take,List.getElem?_map,List.getElem?_eq_getElem g,Option.map_some]at this
  rw[aC (by omega)]at this
  simpa using this
 have hle:∀(m:Nat) (os:Array Obj) (c:Array α),Ro.le ρ (J.all (sortWorld enc w g0 0 m c os)):=λm os c k o hk=>by
  have x:=st.fits k o hk
  have C:k≠g0:=by rintro rfl;rw[t]at hk;cases hk
  show(sortWorld enc w g0 0 m c os).heap[k]?=some o
  rw[pX enc w g0 m k c os C (wG.1 x).1,x]
 refine⟨λj g=> ?_,hblk,hle,λn a os D=>Mm.mk (ρ:=ρ) ⟨rfl,⟨rfl,?_⟩,rfl,?_,?_,?_,Ro.le_refl _,λ_ _ _=>rfl,?_,?_,GK ..⟩⟩
 ·have F:j<d.length:=by simpa using g
  refine⟨?_,?_⟩
  ·rw[World.cell?,h]
   simp only[Option.isSome_none,Bool.false_eq_true,if_false,Nat.zero_add]
   rw[u j F,getElem!_pos d.toArray j g]
   simp
  ·rw[World.frozen?,h];simp
 ·intro _;show w.drawn≤w.drawn+n;omega
 ·unfold sortWorld grow;simp
 ·intro k hk G
  refine pX enc w g0 n k a os ?_ hk;rintro rfl;exact G ⟨_,mz _ (CH _),by rw[eI,f];rfl⟩
 ·exact λk o hk=>hle n os a k o hk
 ·intro E r
  rw[bO.1 r];refine eM.2 ⟨by simp[D],.inr ⟨g0,cap,putCells enc 0 a cur,f,aP _,zi enc w g0 n a os h,q,z,by simp[putCells,A],?_⟩⟩
  apply pa
  intro i
  simp only[putCells,List.getElem?_take,Array.getElem?_toList,Array.getElem?_mapIdx,List.getElem?_map]
  by_cases H:i<d.length
  ·have s:i<a.size:=by omega
   rw[aC (by omega),u i H]
   simp only[Option.map_some,Nat.zero_le,true_and,Nat.zero_add,Nat.sub_zero]
   rw[aC s,getElem!_pos a i s,Dn s];rfl
  ·rw[aA (by omega),Array.getElem?_eq_none (by omega)];rfl
 ·intro E r b p
  rw[bO.1 r]at p
  have y:b=g0:=by rw[eI,f]at p;simp[Value.ownBlock]at p;exact p.symm
  exact⟨y▸t,.inr ⟨_,mz _ (CH _),by rw[eI,f,y];rfl⟩⟩
theorem Start.stays {ds:List du}{E:ak}{w:World}{ρ:Ro}(st:Start (ds.map aB++ [E]) ρ w):Mm ⟨w,ρ,jm (ds.map aB++ [E]),True⟩ [E] w:=Mm.mk (ew.perm st jV).left
theorem Az (L:SlLaysF.n6 P QX)(enc:α→Value)(h1:OneCell enc)(cf:α→α→Int)(hO:SWO (ltOf cf))(g:Nat)(k:Array Value)
 (G:∀args w,(callFunc g args).run P w= .ok (.enter g args) w) (ds:List du) (H:∀x y,eC P g (#[enc x,enc y]++k) ds (.int .i64 (cf x y))) (v:Value) (e:TypeId) (d:List α) (hlen:d.length<4611686018427387904):
 dz P (QX.f 6) #[v,.func (.func g) #[] k] (ds.map aB++ [row v e 1 d.length (d.map enc)])
  (λu H'=>u= .tuple #[]∧∃c:List α,c.Perm d∧c.Pairwise (λa b=>ltOf cf b a=false)∧H'=[row v e 1 d.length (c.map enc)]):=by
 intro w ρ st
 have I:=eM.1 (st.dM _ (mz _ (CH _)))
 have o:∀x∈ds,x.f ρ:=λx hx=>dB.1 (st.dM _ (kV _ (eP hx)))
 have none:∀(p:Option Addr) (cap:Nat),v= .slice p 0 cap→d=[]→Calls P (QX.f 6) #[v,.func (.func g) #[] k] w λq w'=>∃l H',q= .returned l∧
  (l= .tuple #[]∧∃c:List α,c.Perm d∧c.Pairwise (λa b=>ltOf cf b a=false)∧H'=[row v e 1 d.length (c.map enc)])∧Mm ⟨w,ρ,jm (ds.map aB++ [row v e 1 d.length (d.map enc)]),True⟩ H' w':=by
  intro p cap h J
  have E:=AnyF.slices_SortFunc_none (P:=P) (ρ:=QX) {L with} p cap (.func (.func g) #[] k) w
  rw[←h]at E;refine E.mono ?_;rintro K w' ⟨rfl,rfl⟩;exact⟨_,_,rfl,⟨rfl,d,.refl _,(by rw[J];exact .nil),rfl⟩,st.stays⟩
 rcases I.2 with⟨h,M⟩|⟨g0,cap,cur,h,_,N,r,O,Q,R⟩
 ·exact none _ _ h (lG M)
 ·by_cases hz:d.length=0
  ·rw[hz]at h;exact none _ _ h (lG hz)
  ·obtain⟨hH,hblk,hle,s⟩:=Start.sorted st h N r O Q R
   have t:CmpLays1 P g k enc cf g0 0 d.toArray.size w:=λm os S _ x y=>(H x y).aaG λx hx=>x.mono _ _ (hle m os S) (o x hx)
   have main:=Any.slices_SortFunc L enc h1 cf hO g k g0 0 cap d.toArray w G t hH hblk (by simpa using hlen)
   have z:v= .slice (some ⟨g0,0,Option.none⟩) d.toArray.size cap:=by rw[h];simp
   rw[←z]at main;refine main.mono ?_;rintro K w' ⟨rfl,c,n,os,⟨A,_,hp⟩,B,rfl⟩
   have T:c.size=d.length:=by simpa using A
   have C:c.toList.Perm d:=by
    have U:c.extract 0 d.toArray.size=c:=by rw[←A];simp
    have e2:d.toArray.extract 0 d.toArray.size=d.toArray:=by simp
    rw[U,e2]at hp
    simpa using hp
   refine⟨_,_,rfl,⟨rfl,c.toList,C,?_,rfl⟩,s n c os T⟩;rw[List.pairwise_iff_getElem];intro i j V W D
   have X:i<c.size:=by simpa using V
   have F:j<c.size:=by simpa using W
   have:=B i j (aP _) D (by rw[←A];exact F)
   rw[getElem!_pos c i X,getElem!_pos c j F]at this
   simpa using this
end
section
variable {P:Program}{QX:Ren}
theorem DZ (L:SlLaysF.n6 P QX)(fv v:Value)(e:TypeId)(D:du):dz P (QX.f 6) #[v,fv] ([D].map aB++ [row v e 1 0 []]) (λu H'=>u= .tuple #[]∧H'=[row v e 1 0 []]):=by
 intro w ρ st
 have g:=eM.1 (st.dM (row v e 1 0 []) (mz _ (CH _)))
 have none:∀(p:Option Addr) (cap:Nat),v= .slice p 0 cap→Calls P (QX.f 6) #[v,fv] w λc w'=>∃a H',c= .returned a∧(a= .tuple #[]∧H'=[row v e 1 0 []])∧Mm ⟨w,ρ,jm ([D].map aB++ [row v e 1 0 []]),True⟩ H' w':=by
  intro p cap b
  have d:=AnyF.slices_SortFunc_none (P:=P) (ρ:=QX) {L with} p cap fv w
  rw[←b]at d;refine d.mono ?_;rintro h w' ⟨rfl,rfl⟩;exact⟨_,_,rfl,⟨rfl,rfl⟩,st.stays⟩
 rcases g.2 with⟨b,_⟩|⟨g0,cap,cur,b,_⟩
 ·exact none _ _ b
 ·exact none _ _ b
theorem Da (L:SlLaysF.n6 P QX){m:Nat}(enc:Nat→Value)(h1:∀i,i<m→(enc i).oneCell'=true)(cf:Nat→Nat→Int)(n:∀a,a<m→¬cf a a<0)(o:∀a b c,a<m→b<m→c<m→cf a b<0→cf b c<0→cf a c<0)
 (p:∀a b c,a<m→b<m→c<m→¬cf a b<0→¬cf b c<0→¬cf a c<0) (g:Nat) (q:aI P g) (caps:List Value) (D:du)
 (r:∀a b,a<m→b<m→eC P g ([enc a,enc b]++caps).toArray [D] (iv (cf a b))) (v:Value) (e:TypeId) (hm:m<4611686018427387904):
 dz P (QX.f 6) #[v,.func (.func g) #[] caps.toArray] ([D].map aB++ [row v e 1 m ((List.range m).map enc)]) (λu H'=>u= .tuple #[]∧∃l:List Nat,l.Perm (List.range m)∧l.Pairwise (λa b=>¬cf b a<0)∧H'=[row v e 1 m (l.map enc)]):=by
 rcases Nat.eq_zero_or_pos m with rfl|s
 ·exact(DZ L (.func (.func g) #[] caps.toArray) v e D).mono λu H' ⟨h1,j⟩=>⟨h1,[],List.Perm.refl _,List.Pairwise.nil,j⟩
 ·haveI:Inhabited {i:Nat//i<m}:=⟨⟨0,s⟩⟩
  let d:List {i:Nat//i<m}:=(List.range m).attach.map λx=>⟨x.1,dt.1 x.2⟩
  have t:d.length=m:=by simp[d]
  have k:d.map (λx=>x.1)=List.range m:=by simp[d,List.map_map,Function.comp_def]
  have A:d.map (λx=>enc x.1)=(List.range m).map enc:=by rw[←k];simp[List.map_map,Function.comp_def]
  have hO:SWO (ltOf λ(x y:{i:Nat//i<m})=>cf x.1 y.1):=by
   refine⟨λx=>fL (n x.1 x.2),λx y z h1 j=>eB (o _ _ _ x.2 y.2 z.2 (fM h1) (fM j)),λx y z h1 j=>fL (p _ _ _ x.2 y.2 z.2 (iV h1) (iV j))⟩
  have main:=Az L (λx:{i:Nat//i<m}=>enc x.1) (λx=>h1 x.1 x.2) (λx y=>cf x.1 y.1) hO g caps.toArray (λargs w=>q.run) [D] (λx y=>by have:=r x.1 y.1 x.2 y.2;simpa using this) v e d (by omega)
  rw[t,A]at main;refine main.mono ?_;rintro u H' ⟨hu,B,hp,C,hH⟩;refine⟨hu,B.map (λx=>x.1),?_,?_,?_⟩
  ·have:=hp.map (λx=>x.1);rw[k]at this;exact this
  ·rw[sD]
   exact C.imp λh=>iV h
  ·rw[hH];simp[List.map_map,Function.comp_def]
end
end Go.J
namespace Go.Proofs.YtblifkgpebebmaaGreatDoor
open Go Go.J Tryz
def xJ:dL:=⟨0,0,0,⟨bR,[]⟩,bR,[],bR,[]⟩
def Uv (o:List Nat)(w:rf):rf:=⟨w.rule,w.lex,w.kv,w.kids.map (pD o)⟩
def AH (o:List Nat)(x:dL):dL:=⟨x.frm,x.tqo,x.cx,x.gr,x.wv,x.cW.map (Uv o),x.tv,x.ba⟩
def mY (w:rf):du:=sl aJ w.kv.1 (bW w.kids)
def cj (x:dL):du:=iK [aG x.gr,sl mM x.wv.1 x.cW,aF mY x.cW]
theorem Ta (its:List dL):((lA (its.map cF)).map λi=>AH (lA (its.map cF)) (its.getD i xJ)).map cF=gm (its.map cF):=by
 unfold gm;rw[kG]
 refine CF λi _=> ?_
 have e:(its.map cF).getD i gg=cF (its.getD i xJ):=by
  simp only[List.getD_eq_getElem?_getD,List.getElem?_map]
  cases its[i]? with
  |none=>rfl
  |some x=>rfl
 rw[e]
 show cF (AH _ _)=_
 unfold AH cF
 simp only[List.map_map]
 congr 1
theorem D9 {o:List Nat}(hd:o.Nodup){k i:Nat}(hk:o[k]?=some i):o.idxOf i=k:=by
 have a:=ah hk
 have b:o[k]=i:=by rw[bU a]at hk;exact Option.some.inj hk
 rw[←b];exact hd.idxOf_getElem k a
def OL (n k:Nat):List Int:=bW (List.range k)++List.replicate (n-k) 0
theorem VY {n k:Nat}(h:k<n):(OL n k).set k (k:Int)=OL n (k+1):=by
 unfold OL;rw[lK _ _ (by rw[dY,jT];exact aR _),dY,jT,ff,ub,kf,dq,show n-k=(n-(k+1))+1 by omega,List.replicate_succ,sF];rfl
theorem VX (n:Nat):OL n n=bW (List.range n):=by unfold OL;rw[ff];simp
def KO (o:List Nat)(k:Nat):List Int:=(List.range o.length).map λi=>if o.idxOf i<k then(o.idxOf i:Int)else 0
theorem Qq (o:List Nat):KO o 0=List.replicate o.length 0:=by
 unfold KO
 refine pa λj=> ?_
 rw[bP,s8]
 rcases eO j o.length with a|a
 ·rw[nc a,aC a];rfl
 ·rw[ib (by simpa using a),aA (by omega)];rfl
theorem Qs {o:List Nat}(hd:o.Nodup){k i:Nat}(hk:o[k]?=some i)(f:i<o.length):(KO o k).set i (k:Int)=KO o (k+1):=by
 have a:=ah hk
 have b:o.idxOf i=k:=by
  have m:o[k]=i:=by rw[bU a]at hk;exact Option.some.inj hk
  rw[←m];exact hd.idxOf_getElem k a
 refine pa λj=> ?_
 unfold KO
 by_cases e:j=i
 ·subst e
  rw[fV (by rw[aO,jT];exact f),bP,nc f]
  show some _=some _
  dsimp only
  rw[b,aC (by omega)]
 ·rw[ic (λh=>e h.symm),bP,bP]
  rcases eO j o.length with d|d
  ·rw[nc d]
   show some _=some _
   dsimp only
   have p:o.idxOf j≠k:=λg=>by
    have:o.idxOf j<o.length:=by rw[g];exact a
    have n:=List.getElem_idxOf this
    have l:o[k]?=some j:=by rw[←g,bU this,n]
    rw[hk]at l;exact e (Option.some.inj l).symm
   congr 1
   try dsimp only
   by_cases c:o.idxOf j<k
   ·rw[aC c,aC (by omega)]
   ·rw[aA c,aA (by omega)]
  ·rw[ib (by simpa using d)];rfl
theorem VZ {o:List Nat}{i:Nat}(a:i<o.length)(hm:i∈o):(KO o o.length)[i]?=some ((pD o i:Nat):Int):=by
 unfold KO pD;rw[bP,nc a]
 show some _=some _
 dsimp only
 rw[aC (List.idxOf_lt_length_iff.2 hm)]
def I2 (o:List Nat)(its:List dL)(k:Nat):List dL:=((o.take k).map λi=>AH o (its.getD i xJ))++List.replicate (o.length-k) xJ
theorem VT {o:List Nat}{its:List dL}{k:Nat}(h:k≤o.length):(I2 o its k).length=o.length:=by unfold I2;rw[bQ,aO,eX,kF];omega
theorem M9 {o:List Nat}{its:List dL}{k i:Nat}{x:dL}(hk:o[k]?=some i)(hx:its[i]?=some x):(I2 o its k).set k (AH o x)=I2 o its (k+1):=by
 have a:=ah hk
 unfold I2;rw[lK _ _ (by rw[aO,eX];omega),aO,eX,ko (by omega),ff,aa hk,cP,dq,show o.length-k=(o.length-(k+1))+1 by omega,List.replicate_succ,sF]
 have e:its.getD i xJ=x:=by rw[ar,hx];rfl
 rw[fN,lI,e];rfl
def T2 (o:List Nat)(its:List dL)(k:Nat):List dL:=its.zipIdx.map λp=>if o.idxOf p.2<k then AH o p.1 else p.1
theorem MG (o:List Nat)(its:List dL)(k:Nat):(T2 o its k).length=its.length:=by unfold T2;rw[aO,List.length_zipIdx]
theorem BC (o:List Nat)(its:List dL)(k i:Nat):(T2 o its k)[i]?=(its[i]?).map λx=>if o.idxOf i<k then AH o x else x:=by
 unfold T2;rw[bP,List.getElem?_zipIdx]
 cases its[i]? with
 |none=>rfl
 |some x=>simp
theorem Qv (o:List Nat)(its:List dL):T2 o its 0=its:=pa λi=>by
 rw[BC]
 cases its[i]? with
 |none=>rfl
 |some x=>simp
theorem Vb {o:List Nat}(hd:o.Nodup){its:List dL}{k i:Nat}{x:dL}(hk:o[k]?=some i)(hx:its[i]?=some x):(T2 o its k).set i (AH o x)=T2 o its (k+1):=by
 have a:=ah hk
 have f:o.idxOf i=k:=by
  have g:o[k]=i:=by rw[bU a]at hk;exact Option.some.inj hk
  rw[←g];exact hd.idxOf_getElem k a
 refine pa λj=> ?_
 by_cases e:j=i
 ·subst e
  rw[fV (by rw[MG];exact ah hx),BC,hx]
  show some _=some _
  dsimp only
  rw[aC (by omega)]
 ·rw[ic (λh=>e h.symm),BC,BC]
  cases m:its[j]? with
  |none=>rfl
  |some y=>
   show some _=some _
   dsimp only
   congr 1
   have n:o.idxOf j≠k:=λb=>by
    have:o.idxOf j<o.length:=by rw[b];exact a
    have l:=List.getElem_idxOf this
    have d:o[k]?=some j:=by rw[←b,bU this,l]
    rw[hk]at d;exact e (Option.some.inj d).symm
   by_cases c:o.idxOf j<k
   ·rw[aC c,aC (by omega)]
   ·rw[aA c,aA (by omega)]
theorem Va {o:List Nat}{its:List dL}(h:∀i,i<its.length→i∈o):T2 o its o.length=its.map (AH o):=pa λi=>by
 rw[BC,bP]
 cases a:its[i]? with
 |none=>rfl
 |some x=>
  show some _=some _
  dsimp only
  rw[aC (List.idxOf_lt_length_iff.2 (h i (ah a)))]
theorem PE (o:List Nat)(l:List rf):rows mM (l.map (Uv o))=rows mM l:=by
 unfold rows
 rw[List.flatMap_map];rfl
theorem WQ {α:Type}(f:α→List ak)(X:List ak){l:List α}{i:Nat}{x:α}(h:l[i]?=some x):(bE f l++X).Perm (f x++(bE f (l.eraseIdx i)++X)):=by
 rw[←dq];exact(nN f h).append_right X
theorem aaI {α:Type}(f:α→List ak)(X:List ak){l:List α}{i:Nat}(x:α)(h:i<l.length):(f x++(bE f (l.eraseIdx i)++X)).Perm (bE f (l.set i x)++X):=by
 rw[←dq];exact(sP f x h).append_right X
def W2 (o:List Nat)(l:List rf)(m:Nat):List rf:=(l.take m).map (Uv o)++l.drop m
theorem Qy (o:List Nat)(l:List rf):W2 o l 0=l:=rfl
theorem Ys {o:List Nat}{l:List rf}{m:Nat}{w:rf}(h:l[m]?=some w):(W2 o l m)[m]?=some w:=by
 have:=ah h
 unfold W2
 rw[lp (by rw[aO,eX];omega),aO,eX,ko (by omega),ff,AD];simpa using h
theorem Ve {o:List Nat}{l:List rf}{m:Nat}(h:m≤l.length):(W2 o l m).length=l.length:=by unfold W2;rw[bQ,aO,eX,AE];omega
theorem Vf {o:List Nat}{l:List rf}{m:Nat}{w:rf}(h:l[m]?=some w):(W2 o l m).set m (Uv o w)=W2 o l (m+1):=by
 have a:=ah h
 unfold W2
 rw[lK _ _ (by rw[aO,eX];omega),aO,eX,ko (by omega),ff,aa h,bN h,sF,cP,dq];rfl
theorem Vd (o:List Nat)(l:List rf):W2 o l l.length=l.map (Uv o):=by unfold W2;simp
def K2 (o l:List Nat)(d:Nat):List Nat:=(l.take d).map (pD o)++l.drop d
theorem Qm (o l:List Nat):K2 o l 0=l:=rfl
theorem Yq {o l:List Nat}{d k:Nat}(h:l[d]?=some k):(K2 o l d)[d]?=some k:=by
 have:=ah h
 unfold K2
 rw[lp (by rw[aO,eX];omega),aO,eX,ko (by omega),ff,AD];simpa using h
theorem VW {o l:List Nat}{d k:Nat}(h:l[d]?=some k):(K2 o l d).set d (pD o k)=K2 o l (d+1):=by
 have a:=ah h
 unfold K2
 rw[lK _ _ (by rw[aO,eX];omega),aO,eX,ko (by omega),ff,aa h,bN h,sF,cP,dq];rfl
theorem VV (o l:List Nat):K2 o l l.length=l.map (pD o):=by unfold K2;simp
theorem FB (l:List Nat)(d k:Nat):(bW l).set d (k:Int)=bW (l.set d k):=by unfold bW;rw[jk]
theorem Wz {c:Ctx}(p b:TypeId){x:dL}(hw:∀w∈x.cW,mM.wf w∧∀k∈w.kids,aZ (k:Int))(H:List ak)(w:World)(h:Mm c (eo p b x++H) w):Mm c (aB (iK [sl mM x.wv.1 x.cW,aF mY x.cW])::H) w:=by
 obtain⟨ρ,k⟩:=h.out
 have h1:=k.bS mM x.cW rfl rfl (λy hy=>(hw y hy).1)
 obtain⟨n,e⟩:=h1.out
 have f:=(e.perm (List.Perm.swap _ _ _)).drop
 have g:Mm c (bE (jE b) x.cW++(aB (sl mM x.wv.1 x.cW)::H)) w:=Mm.mk (f.perm qj.symm)
 have gen:∀(l:List rf) (H:List ak),(∀y∈l,∀k∈y.kids,aZ (k:Int))→Mm c (bE (jE b) l++H) w→Mm c (aB (aF mY l)::H) w:=by
  intro l
  induction l with
  |nil=>exact λH _ h=>h.fact (aF mY []) λρ _ x hx=>by cases hx
  |cons a l q=>
   intro H o h;rw[iu,dq]at h;obtain⟨ρ,k⟩:=h.out
   have h1:=k.bS aJ (bW a.kids) rfl (dY _).symm (λz hz=>by obtain⟨z2,i,rfl⟩:=cz.1 hz;exact o a (by simp) z2 i)
   obtain⟨n,e⟩:=h1.out
   have e:ew c (aB (mY a)::(bE (jE b) l++H)) n w:=e
   have r:Mm c (bE (jE b) l++(aB (mY a)::H)) w:=Mm.mk (e.perm qj.symm)
   have g:=q _ (λy hy=>o y (by simp[hy])) r
   have j:Mm c (aB (aF mY (a::l))::aB (aF mY l)::aB (mY a)::H) w:=g.fact _ (λρ hm x hx=>by
    rcases cJ.1 hx with rfl|hx
    ·exact dB.1 (hm.dM (aB (mY x)) (by simp))
    ·exact dB.1 (hm.dM (aB (aF mY l)) (by simp)) x hx)
   obtain⟨m,k⟩:=j.out
   have f:ew c (aB (aF mY l)::aB (mY a)::aB (aF mY (a::l))::H) m w:=k.perm ((List.Perm.swap _ _ _).trans ((List.Perm.swap _ _ _).cons _))
   exact Mm.mk f.drop.drop
 have j:=gen x.cW _ (λy hy=>(hw y hy).2) g
 have s:Mm c (aB (iK [sl mM x.wv.1 x.cW,aF mY x.cW])::aB (aF mY x.cW)::aB (sl mM x.wv.1 x.cW)::H) w:=j.fact _ (λρ hm d hd=>by
  rcases cJ.1 hd with rfl|hd
  ·exact dB.1 (hm.dM (aB (sl mM x.wv.1 x.cW)) (by simp))
  ·rw[bO.1 hd];exact dB.1 (hm.dM (aB (aF mY x.cW)) (by simp)))
 obtain⟨m,k⟩:=s.out
 have f:ew c (aB (aF mY x.cW)::aB (sl mM x.wv.1 x.cW)::aB (iK [sl mM x.wv.1 x.cW,aF mY x.cW])::H) m w:=k.perm ((List.Perm.swap _ _ _).trans ((List.Perm.swap _ _ _).cons _))
 exact Mm.mk f.drop.drop
theorem Mm.ae1 {c:Ctx}{α:Type}{f:α→List ak}{g:α→du}{w:World}:∀(l:List α) (H:List ak),(∀a∈l,∀H,Mm c (f a++H) w→Mm c (aB (g a)::H) w)→Mm c (bE f l++H) w→Mm c (aB (aF g l)::H) w
 | [],H,_,h=>h.fact (aF g []) λρ _ x hx=>by cases hx
 |a::l,H,d,h=>by
  rw[iu,dq]at h
  have h1:=d a (by simp) _ h
  obtain⟨p,e⟩:=h1.out
  have i:Mm c (bE f l++(aB (g a)::H)) w:=Mm.mk (e.perm qj.symm)
  have j:=Mm.ae1 l _ (λb m=>d b (by simp[m])) i
  have n:Mm c (aB (aF g (a::l))::aB (aF g l)::aB (g a)::H) w:=j.fact _ (λρ hm x hx=>by
   rcases cJ.1 hx with rfl|hx
   ·exact dB.1 (hm.dM (aB (g x)) (by simp))
   ·exact dB.1 (hm.dM (aB (aF g l)) (by simp)) x hx)
  obtain⟨ρ,k⟩:=n.out
  have o:ew c (aB (aF g l)::aB (g a)::aB (aF g (a::l))::H) ρ w:=k.perm ((List.Perm.swap _ _ _).trans ((List.Perm.swap _ _ _).cons _))
  exact Mm.mk o.drop.drop
theorem St.Xb {n:Nat}{F:Fr}{c:Ctx}{H H':List ak}{T:Act→World→Prop}(e f:TypeId)(l:List dL)(hw:∀x∈l,∀w∈x.cW,mM.wf w∧∀k∈w.kids,aZ (k:Int))[g:jB (bE (eo e f) l) [] H H'](h:St n F (Mm c (aB (aF (λx:dL=>iK [sl mM x.wv.1 x.cW,aF mY x.cW]) l)::H')) T):St n F (Mm c H) T:=by
 obtain⟨L,a,b⟩:=g.eq
 refine h.o9 λw d=> ?_
 rw[b,gx];refine Mm.ae1 l L (λx hx H h=>Wz e f (hw x hx) H w h) ?_;obtain⟨ρ,k⟩:=d.out;refine Mm.mk (k.perm ?_);rw[a];exact jV
theorem I6 (a b:Nat)(u:aV)(its:List dL)(hd:((its.map cF).map λx=>fZ x.ed).Nodup)(v:Value)(o:its.length≤1000):
 dz prog 125 #[v,.func (.func 126) #[] [Value.pointer (some ⟨a,0,none⟩)].toArray] ([iK [pf a (.pointer (some ⟨b,0,none⟩)),pf b u.1,sl eE u.1 its,aF (λx:dL=>aG x.gr) its]].map aB++ [row v 3 1 its.length (rows aJ (bW (List.range its.length)))]) (λr H'=>r= .tuple #[]∧H'=[row v 3 1 its.length (rows aJ (bW (lA (its.map cF))))]):=by
 have d:∀i,i<its.length→∃x,its[i]?=some x∧(its.map cF).getD i gg=cF x:=λi c=>by
  obtain⟨x,hx⟩:=aE c;exact⟨x,hx,by rw[ar,bP,hx];rfl⟩
 have e:∀l:List Nat,rows aJ (bW l)=l.map λi=>iv (i:Nat):=λl=>by rw[jO,bW,kG];rfl
 have main:=Da Tryz.zC (m:=its.length) (λi=>iv (i:Nat)) (λ_ _=>rfl) (λi j=>xX ((its.map cF).getD i gg).ed ((its.map cF).getD j gg).ed) (λ_ _=>It _) (λ_ _ _ _ _ _=>BL) (λ_ _ _ _ _ _=>yf) 126 ZU [Value.pointer (some ⟨a,0,none⟩)] (iK [pf a (.pointer (some ⟨b,0,none⟩)),pf b u.1,sl eE u.1 its,aF (λx:dL=>aG x.gr) its]) (λi j c f=>by
  obtain⟨x,hx,ex⟩:=d i c;obtain⟨y,hy,g⟩:=d j f;rw[ex,g]
  exact(I5 a b u its i j x y hx hy).all) v 3 (by omega)
 rw[e];refine main.mono ?_;rintro r H' ⟨h1,l,hp,h,k⟩;refine⟨h1,?_⟩
 have n:l=lA (its.map cF):=Oc hd (by rw[aO];exact hp) h
 rw[k,n,e]
theorem Lg (a n:Nat)(u:aV)(its:List dL)(hd:((its.map cF).map λx=>fZ x.ed).Nodup)(V:its.length≤1000)(hw:∀x∈its,x.cW.length≤3000000000000∧∀w∈x.cW,mM.wf w∧w.kids.length≤1000∧∀k∈w.kids,k<its.length):
 dz prog 91 #[.pointer (some ⟨a,0,none⟩)] ([aF (λx:dL=>aG x.gr) its].map aB++([aW a (.cells [u.1,iv (n:Nat),(.slice none 0 0)].toArray 120 (0,0)),row u.1 186 6 its.length (rows eE its)]++bE (eo 200 3) (its))) (λv H'=>∃(Q:aV) (E:List dL),E.map cF=gm (its.map cF)∧H'=[aW a (.cells [Q.1,iv (n:Nat),(.slice none 0 0)].toArray 120 (0,0)),aB (sl eE Q.1 E),aB (aF cj E)]):=by
 refine dz.body (args:=[.pointer (some ⟨a,0,none⟩)]) 101 func91 rfl ntmps91 rfl (λc=> ?_);refine St.cast (H':=(aB (aF (λx:dL=>aG x.gr) its)::aW a (.cells [u.1,iv (n:Nat),(.slice none 0 0)].toArray 120 (0,0))::row u.1 186 6 its.length (rows eE its)::bE (eo 200 3) (its))) rfl ?_;refine go ?_;refine St.bS u.1 eE its rfl rfl (λ_ _=>trivial) ?_
 obtain⟨o,F⟩:∃o,o=(lA (its.map cF)):=⟨_,rfl⟩
 have t:o.Perm (List.range its.length):=by rw[F,show its.length=(its.map cF).length from(aO _).symm];exact jg _ _
 have A:o.length=its.length:=by rw[t.length_eq,jT]
 have r:o.Nodup:=t.nodup_iff.2 List.nodup_range
 have C:∀i,i<its.length→i∈o:=λi b=>t.mem_iff.2 (dt.2 b)
 refine go ?_;refine St.Mf (.mk rfl) rfl rfl (λs=> ?_);refine g9 ?_;refine St.sS (m:=its.length) (.mk rfl) (.mk rfl) bJ dK eS xW rfl rfl (by omega) rfl rfl (λf=> ?_);refine St.aM (.slice (some ⟨f,0,none⟩) its.length its.length) rfl (show _=rows aJ (OL its.length 0) by rw[zV];rfl) ?_;refine g12 ?_;refine St.lH (ι:=Nat) (λk T=>(22,iv k)::T) (λk=>(aW a (.cells [u.1,iv (n:Nat),(.slice none 0 0)].toArray 120 (0,0))::aW s (.cells [.pointer (some ⟨a,0,none⟩)].toArray 239 (0,0))::aB (sl eE u.1 its)::aB (aF (λx:dL=>aG x.gr) its)::row (.slice (some ⟨f,0,none⟩) its.length its.length) 3 1 its.length (rows aJ (OL its.length k))::bE (eo 200 3) (its))) (λk=>k≤its.length) (λk=>its.length-k) 0 (aD.cons 1 rfl (aD.cons 2 rfl (aD.cons 21 rfl aD.nil))) (aP _) ?_;intro k hk;refine g6 ?_;refine St.cq (λW=> ?_) (λW=> ?_)
 ·skip
  refine g15 ?_;refine St.cI (.mk rfl) (.mk rfl) dK rfl (by omega) (by decide) ?_;refine St.aM (.slice (some ⟨f,0,none⟩) its.length its.length) rfl (show _=rows aJ (OL its.length (k+1)) by rw[j8,VY (by omega)]) ?_;refine g8 ?_;refine St.aH (k+1) (by omega)
 ·obtain rfl:k=its.length:=by omega
  rw[VX];refine g8 ?_;refine St.ee (Ev.func (.au rfl)) ?_;refine St.ZM (ds:=[iK [pf s (.pointer (some ⟨a,0,none⟩)),pf a u.1,sl eE u.1 its,aF (λx:dL=>aG x.gr) its]]) (L:=[row (.slice (some ⟨f,0,none⟩) its.length its.length) 3 1 its.length (rows aJ (bW (List.range its.length)))]) (R:=_) (I6 s a u its hd (.slice (some ⟨f,0,none⟩) its.length its.length) V) ZT (.aX rfl rfl) (il.iK (il.aW (il.aW (il.aB (il.aB il.nil))))) (gq.row gq.nil) (λv H' h=>h.2▸gq.row gq.nil) rfl ?_;rintro v32 _ ⟨rfl,rfl⟩;rw[←F];refine St.ao ?_;refine g6 ?_;refine St.sS (m:=its.length) (.mk rfl) (.mk rfl) bJ dK eS xW rfl rfl (by omega) rfl rfl (λB=> ?_);refine St.aM (.slice (some ⟨B,0,none⟩) its.length its.length) rfl (show _=rows aJ (KO o 0) by rw[zV,Qq,A]) ?_;refine g12 ?_;refine St.lH (ι:=Nat) (λk T=>(38,iv k)::T) (λk=>(aW a (.cells [u.1,iv (n:Nat),(.slice none 0 0)].toArray 120 (0,0))::aW s (.cells [.pointer (some ⟨a,0,none⟩)].toArray 239 (0,0))::aB (sl eE u.1 its)::aB (aF (λx:dL=>aG x.gr) its)::row (.slice (some ⟨f,0,none⟩) its.length its.length) 3 1 its.length (rows aJ (bW o))::row (.slice (some ⟨B,0,none⟩) its.length its.length) 3 1 its.length (rows aJ (KO o k))::bE (eo 200 3) (its))) (λk=>k≤its.length) (λk=>its.length-k) 0 (aD.cons 1 rfl (aD.cons 2 rfl (aD.cons 4 rfl (aD.cons 36 rfl (aD.cons 37 rfl aD.nil))))) (aP _) ?_;intro k hk;refine g6 ?_;refine St.cq (λX=> ?_) (λX=> ?_)
  ·obtain⟨i,b⟩:=aE (show k<o.length by omega)
   have D:i<its.length:=dt.1 (t.mem_iff.1 (ae b))
   refine g8 ?_;refine St.ee (Ev.cu (.mk rfl) gV trivial (by omega) (gP (gO b))) ?_;refine g9 ?_;refine St.cI (.mk rfl) (.mk rfl) dK rfl (by omega) (by decide) ?_;refine St.aM (.slice (some ⟨B,0,none⟩) its.length its.length) rfl (show _=rows aJ (KO o (k+1)) by rw[j8,Qs r b (by omega)]) ?_;refine g8 ?_;refine St.aH (k+1) (by omega)
  ·obtain rfl:k=its.length:=by omega
   refine g9 ?_;refine St.nO (Rr:=eE) (g:=xJ) (m:=its.length) (sz:=6) rfl (.mk rfl) (.mk rfl) nY oY GM Mh rfl rfl (by omega) rfl rfl (λj=> ?_);refine St.aM (.slice (some ⟨j,0,none⟩) its.length its.length) rfl (show _=rows eE (I2 o its 0) by unfold I2;rw[sg,lI,AF,Nat.sub_zero,A]) ?_;refine g12 ?_;refine St.Er (ι:=Nat) (λk T=>(53,iv k)::T) (λk=>(aW a (.cells [u.1,iv (n:Nat),(.slice none 0 0)].toArray 120 (0,0))::aW s (.cells [.pointer (some ⟨a,0,none⟩)].toArray 239 (0,0))::aB (sl eE u.1 its)::aB (aF (λx:dL=>aG x.gr) its)::row (.slice (some ⟨f,0,none⟩) its.length its.length) 3 1 its.length (rows aJ (bW o))::row (.slice (some ⟨B,0,none⟩) its.length its.length) 3 1 its.length (rows aJ (KO o its.length))::row (.slice (some ⟨j,0,none⟩) its.length its.length) 186 6 its.length (rows eE (I2 o its (k)))::bE (eo 200 3) (T2 o its k))) (λk=>k≤its.length) (λk=>its.length-k) 0 (aD.cons 1 rfl (aD.cons 4 rfl (aD.cons 7 rfl (aD.cons 51 rfl (aD.cons 52 rfl aD.nil))))) (aP _) (by repeat(first|exact Sub.nil|refine Sub.cons (by first|rfl|exact congrArg (λz=>some (iv z)) (by first|omega|(dsimp only;omega))|exact congrArg (λz=>some (Value.bool z)) (by first|assumption|exact iZ (by assumption))) ?_)) (λ_ hw=>by rw[Qv];exact hw.sub) ?_;intro k hk;refine g6 ?_;refine St.cq (λY=> ?_) (λY=> ?_)
   ·obtain⟨i,b⟩:=aE (show k<o.length by omega)
    have D:i<its.length:=dt.1 (t.mem_iff.1 (ae b))
    obtain⟨x,hx⟩:=aE D;obtain⟨Nr,G⟩:=hw x (ae hx)
    have Z:=D9 r b
    have hT:(T2 o its k)[i]?=some x:=by rw[BC,hx];show some _=some _;dsimp only;rw[aA (by omega)]
    have hI:=VT (o:=o) (its:=its) (k:=k) (by omega)
    refine g8 ?_;refine St.ee (Ev.cu (.mk rfl) gV trivial (by omega) (gP (gO b))) ?_;refine g14 ?_;refine St.ee (Ev.El (Rr:=eE) (sz:=6) (.mk rfl) hx underlying186 trivial oY (by decide) (by decide)) ?_;refine go ?_;refine St.uO (Rr:=eE) (show eE.size=6 from rfl) (AH o x) (.mk rfl) (.mk rfl) oY (by omega) (by omega) ?_;rw[M9 b hx];refine g6 ?_
    have H:(I2 o its (k+1))[k]?=some (AH o x):=by rw[←M9 b hx,fV (by omega)]
    refine St.aM (.slice (some ⟨j,0,none⟩) its.length its.length) rfl (show _=rows eE (I2 o its (k+1))from rfl) ?_;refine g2 ?_;refine St.ee (Ev.cu (.mk rfl) uT trivial (by omega) (eN eE _ k 4 _ H (by decide))) ?_;refine St.slot 72 x.wv.1 rfl rfl ?_;refine St.tail (bE (eo 200 3) (T2 o its k)) (row x.wv.1 200 3 x.cW.length (rows mM x.cW)::row x.tv.1 3 1 x.ba.length (rows aJ x.ba)::(bE (jE 3) x.cW++bE (eo 200 3) ((T2 o its k).eraseIdx i))) (nN (eo 200 3) hT) ?_;refine g5 ?_;refine St.Er (ι:=Nat) (λm T=>(74,iv m)::T) (λm=>(aW a (.cells [u.1,iv (n:Nat),(.slice none 0 0)].toArray 120 (0,0))::aW s (.cells [.pointer (some ⟨a,0,none⟩)].toArray 239 (0,0))::aB (sl eE u.1 its)::aB (aF (λx:dL=>aG x.gr) its)::row (.slice (some ⟨f,0,none⟩) its.length its.length) 3 1 its.length (rows aJ (bW o))::row (.slice (some ⟨B,0,none⟩) its.length its.length) 3 1 its.length (rows aJ (KO o its.length))::row (.slice (some ⟨j,0,none⟩) its.length its.length) 186 6 its.length (rows eE (I2 o its (k+1)))::row x.wv.1 200 3 x.cW.length (rows mM x.cW)::row x.tv.1 3 1 x.ba.length (rows aJ x.ba)::(bE (jE 3) (W2 o x.cW m)++bE (eo 200 3) ((T2 o its k).eraseIdx i)))) (λm=>m≤x.cW.length) (λm=>x.cW.length-m) 0 (aD.cons 1 rfl (aD.cons 4 rfl (aD.cons 7 rfl (aD.cons 51 rfl (aD.cons 52 rfl (aD.cons 53 rfl (aD.cons 72 rfl (aD.cons 73 rfl aD.nil)))))))) (aP _) (by repeat(first|exact Sub.nil|refine Sub.cons (by first|rfl|exact congrArg (λz=>some (iv z)) (by first|omega|(dsimp only;omega))|exact congrArg (λz=>some (Value.bool z)) (by first|assumption|exact iZ (by assumption))) ?_)) (λ_ hw=>by rw[Qy];exact hw.sub) ?_;intro m hm;refine g6 ?_;refine St.cq (λI=> ?_) (λI=> ?_)
    ·obtain⟨w,p⟩:=aE (show m<x.cW.length by omega)
     obtain⟨S,U,J⟩:=G w (ae p)
     have K:=Ys (o:=o) p
     have hWl:=Ve (o:=o) (l:=x.cW) (m:=m) (by omega)
     refine g7 ?_;refine St.ee (Ev.vP (R:=mM) (.mk rfl) p underlying200 trivial wZ (by omega)) ?_;refine St.slot 77 (.agg #[iv w.rule,iv w.lex,w.kv.1]) rfl rfl ?_;refine St.al (λYJ=> ?_);refine g7 ?_;refine St.tail (bE (jE 3) (W2 o x.cW m)++bE (eo 200 3) ((T2 o its k).eraseIdx i)) (row w.kv.1 3 1 w.kids.length (rows aJ (bW w.kids))::(bE (jE 3) ((W2 o x.cW m).eraseIdx m)++bE (eo 200 3) ((T2 o its k).eraseIdx i))) (WQ (jE 3) (bE (eo 200 3) ((T2 o its k).eraseIdx i)) K) ?_;refine g5 ?_;refine St.Er (ι:=Nat) (λd T=>(81,iv d)::T) (λd=>(aW a (.cells [u.1,iv (n:Nat),(.slice none 0 0)].toArray 120 (0,0))::aW s (.cells [.pointer (some ⟨a,0,none⟩)].toArray 239 (0,0))::aB (sl eE u.1 its)::aB (aF (λx:dL=>aG x.gr) its)::row (.slice (some ⟨f,0,none⟩) its.length its.length) 3 1 its.length (rows aJ (bW o))::row (.slice (some ⟨B,0,none⟩) its.length its.length) 3 1 its.length (rows aJ (KO o its.length))::row (.slice (some ⟨j,0,none⟩) its.length its.length) 186 6 its.length (rows eE (I2 o its (k+1)))::row x.wv.1 200 3 x.cW.length (rows mM x.cW)::row x.tv.1 3 1 x.ba.length (rows aJ x.ba)::aW YJ (.cells [iv w.rule,iv w.lex,w.kv.1].toArray 200 (0,0))::row w.kv.1 3 1 w.kids.length (rows aJ (bW (K2 o w.kids d)))::(bE (jE 3) ((W2 o x.cW m).eraseIdx m)++bE (eo 200 3) ((T2 o its k).eraseIdx i)))) (λd=>d≤w.kids.length) (λd=>w.kids.length-d) 0 (aD.cons 1 rfl (aD.cons 4 rfl (aD.cons 7 rfl (aD.cons 11 rfl (aD.cons 51 rfl (aD.cons 52 rfl (aD.cons 53 rfl (aD.cons 72 rfl (aD.cons 73 rfl (aD.cons 74 rfl (aD.cons 79 rfl (aD.cons 80 rfl aD.nil)))))))))))) (aP _) (by repeat(first|exact Sub.nil|refine Sub.cons (by first|rfl|exact congrArg (λz=>some (iv z)) (by first|omega|(dsimp only;omega))|exact congrArg (λz=>some (Value.bool z)) (by first|assumption|exact iZ (by assumption))) ?_)) (λ_ hw=>by rw[Qm];exact hw.sub) ?_;intro d hdd;refine g6 ?_;refine St.cq (λh82=> ?_) (λh82=> ?_)
     ·obtain⟨q,M⟩:=aE (show d<w.kids.length by omega)
      have hql:=J q (ae M)
      have N:=Yq (o:=o) M
      refine g8 ?_;refine St.ee (Ev.cu (.mk rfl) gV trivial (by omega) (gP (gO N))) ?_;refine g4 ?_;refine St.lB w.kv.1 (by omega) (λbs cs Nk=> ?_);refine St.dc (row w.kv.1 3 1 w.kids.length (rows aJ (bW (K2 o w.kids d)))::(bE (jE 3) ((W2 o x.cW m).eraseIdx m)++bE (eo 200 3) ((T2 o its k).eraseIdx i))) mixed (λnp ns=> ?_);refine SW.gd 0 ?_;refine SW.gd 1 ?_;refine SW.gd 2 ?_;refine SW.gd 3 ?_;refine SW.gd 4 ?_;refine SW.gd 5 ?_;refine SW.dd 6 rfl (λ_=>Ev.cu (.mk rfl) gV trivial (by omega) (gP (by rw[←A];exact VZ (by omega) (C q hql)))) ?_;refine SW.dd 7 rfl (λ_=>Ev.nB (k:=d) Nk (.mk rfl) (.mk rfl) bJ dK (by omega) (by omega)) ?_;refine SW.t1 8 ?_;refine St.cI (.mk rfl) (.mk rfl) dK rfl (by omega) (by decide) ?_;refine St.aM w.kv.1 rfl (show _=rows aJ (bW (K2 o w.kids (d+1))) by rw[j8,FB,VW M]) ?_;refine g2 ?_;refine SW.go ?_;refine SW.dn ?_;refine g7 ?_;refine St.aH (d+1) (by omega)
     ·obtain rfl:d=w.kids.length:=by omega
      rw[VV];refine St.mm [row w.kv.1 3 1 w.kids.length (rows aJ (bW (w.kids.map (pD o))))] (bE (jE 3) ((W2 o x.cW m).eraseIdx m)++bE (eo 200 3) ((T2 o its k).eraseIdx i)) (bE (jE 3) (W2 o x.cW (m+1))++bE (eo 200 3) ((T2 o its k).eraseIdx i)) (by have:=aaI (jE 3) (bE (eo 200 3) ((T2 o its k).eraseIdx i)) (Uv o w) (show m<(W2 o x.cW m).length by omega);rw[Vf p]at this;unfold jE Uv at this;dsimp only at this;rw[aO]at this;exact this) ?_;refine g11 ?_;refine St.aH (m+1) (by omega)
    ·obtain rfl:m=x.cW.length:=by omega
     rw[Vd];refine St.mm [row x.wv.1 200 3 x.cW.length (rows mM x.cW),row x.tv.1 3 1 x.ba.length (rows aJ x.ba)] (bE (jE 3) (x.cW.map (Uv o))++bE (eo 200 3) ((T2 o its k).eraseIdx i)) (bE (eo 200 3) (T2 o its (k+1))) (by have:=sP (eo 200 3) (AH o x) (show i<(T2 o its k).length by rw[MG];exact D);rw[Vb r b hx]at this;unfold eo AH at this;dsimp only at this;rw[aO,PE]at this;exact this) ?_;refine g11 ?_;refine St.aH (k+1) (by omega)
   ·obtain rfl:k=its.length:=by omega
    have O:T2 o its its.length=its.map (AH o):=by rw[←A];exact Va C
    rw[O];refine St.Xb 200 3 (its.map (AH o)) (λy hy w U=>by obtain⟨x,hx,rfl⟩:=cz.1 hy;obtain⟨w1,S,rfl⟩:=cz.1 U;have:=(hw x hx).2 w1 S;exact⟨this.1,λk hk=>by obtain⟨k1,hk1,rfl⟩:=cz.1 hk;have h9:pD o k1≤o.length:=List.idxOf_le_length;unfold aZ;omega⟩) ?_
    have P:I2 o its its.length=o.map λi=>AH o (its.getD i xJ):=by unfold I2;rw[←A,ff,kH];exact gx _
    rw[P];refine St.bS (.slice (some ⟨j,0,none⟩) its.length its.length) eE (o.map λi=>AH o (its.getD i xJ)) rfl (by rw[aO,A]) (λ_ _=>trivial) ?_
    refine St.eZ (aF cj (o.map λi=>AH o (its.getD i xJ))) [aF (λx:dL=>aG x.gr) its,aF (λx:dL=>iK [sl mM x.wv.1 x.cW,aF mY x.cW]) (its.map (AH o))] (λρ h y hy=>by
     have h1:=h _ (aQ ..)
     have h2:=h _ (cO _ (aQ ..))
     obtain⟨i,b,rfl⟩:=cz.1 hy
     have D:i<its.length:=dt.1 (t.mem_iff.1 b)
     obtain⟨x,hx⟩:=aE D
     have Sa:its.getD i xJ=x:=by rw[ar,hx];rfl
     rw[Sa]
     have h3:=h2 (AH o x) (eP (ae hx))
     intro e he
     rcases cJ.1 he with rfl|he
     ·exact h1 x (ae hx)
     ·exact h3 e he) ?_
    refine g10 ?_;refine St.cH (.mk rfl) (.mk rfl) Pb rfl (by rfl) ?_;refine go ?_;refine St.eH ?_;refine St.rV [] [aW a (.cells [(.slice (some ⟨j,0,none⟩) its.length its.length),iv (n:Nat),(.slice none 0 0)].toArray 120 (0,0)),aB (sl eE (.slice (some ⟨j,0,none⟩) its.length its.length) (o.map λi=>AH o (its.getD i xJ))),aB (aF cj (o.map λi=>AH o (its.getD i xJ)))] ?_;exact⟨⟨(.slice (some ⟨j,0,none⟩) its.length its.length),rfl⟩,_,by rw[F];exact Ta its,rfl⟩
theorem yx {q:List jF}{i:Nat}(h:i<q.length):q.getD i Ir∈q:=by
 rw[ar,bU h];exact gy h
theorem oU (q:List jF)(i j:Nat):(xO q i j).length=q.length:=by unfold xO;rw[cn,cn]
theorem zr {q:List jF}{i j:Nat}(a:i<q.length)(b:j<q.length){u:jF}(h:u∈xO q i j):u∈q:=by
 rcases lJ h with h|rfl
 ·rcases lJ h with h|rfl
  ·exact h
  ·exact yx b
 ·exact yx a
theorem Sh {q:List jF}{i n:Nat}(h:¬n≤2*i+1):p7 q i n<n:=by unfold p7;split<;>omega
theorem yo:∀(f:Nat) (q:List jF) (i n:Nat),n≤q.length→∀u∈oI f q i n,u∈q
 |0,_,_,_,_,_,h=>h
 |f+1,q,i,n,a,u,h=>by
  rw[oI]at h
  split at h
  ·exact h
  ·rename_i h1
   split at h
   ·exact h
   ·have hk:=Sh (q:=q) h1
    exact zr (by omega) (by omega) (yo f _ _ n (by rw[oU];exact a) u h)
theorem tP:∀(f:Nat) (q:List jF) (i n:Nat),(oI f q i n).length=q.length
 |0,_,_,_=>rfl
 |f+1,q,i,n=>by
  rw[oI]
  split
  ·rfl
  ·split
   ·rfl
   ·rw[tP f,oU]
theorem K1:∀(f:Nat) (q:List jF) (j:Nat),j<q.length→∀u∈Jz f q j,u∈q
 |0,_,_,_,_,h=>h
 |f+1,q,j,a,u,h=>by
  rw[Jz]at h
  split at h
  ·exact h
  ·exact zr (by omega) a (K1 f _ _ (by rw[oU];omega) u h)
theorem K0:∀(f:Nat) (q:List jF) (j:Nat),(Jz f q j).length=q.length
 |0,_,_=>rfl
 |f+1,q,j=>by
  rw[Jz]
  split
  ·rfl
  ·rw[K0 f,oU]
theorem Ec (n:Nat):∀(k:Nat) (q:List jF),(tj n k q).length=q.length
 |0,_=>rfl
 |k+1,q=>by rw[tj,Ec n k,tP]
theorem Ed (n:Nat):∀(k:Nat) (q:List jF),n≤q.length→∀u∈tj n k q,u∈q
 |0,_,_,_,h=>h
 |k+1,q,a,u,h=>yo _ _ _ _ a u (Ed n k _ (by rw[tP];exact a) u (by rwa[tj]at h))
theorem FU (q:List jF)(x:jF):(Av q x).length=q.length+1:=by unfold Av;rw[K0,bQ,pc]
theorem Oq {q:List jF}{x u:jF}(h:u∈Av q x):u∈q∨u=x:=by
 have:=K1 _ _ _ (by rw[bQ,pc];omega) u h
 rcases cD.1 this with h|h
 ·exact .inl h
 ·exact .inr (bO.1 h)
theorem FN (q:List jF):(pE q).length=q.length:=by unfold pE;rw[tP,oU]
theorem FO {q:List jF}(a:0<q.length){u:jF}(h:u∈pE q):u∈q:=zr a (by omega) (yo _ _ _ _ (by rw[oU];omega) u h)
section
variable {B:ct}{f:Nat}{get:eD→Nat→Nat→eD×Option jo}
theorem gH {st:eD}{e:Nat}{x:wJ}(h:st[e]?=some x):st.getD e nz=x:=by rw[ar,h];rfl
theorem r4 {st:eD}{e:Nat}{x:wJ}(h:st[e]?=some x)(q:List jF):DK st e q=st.set e ⟨x.done,q,x.begun⟩:=by unfold DK;rw[gH h]
structure VQ (B:ct)(e:Nat)(vn:eD)(w:Nat)(st:eD):Prop where
 ok:jl B st
 hp:Hp B e vn st
 at_:∃x:wJ,st[e]?=some x∧x.done=[]∧x.begun=true∧x.next.length≤w
theorem R6 (j:oA B)(m:sx B f get){e w:Nat}{vn st:eD}(he:e<B.its.length)(n:l7 B e<f+1)(hw:w<rN B e)(h:VQ B e vn w st):
 VQ B e vn (w+1) (Aa B get e st w):=by
 obtain⟨x,hx,hd,g,q⟩:=h.at_
 have s:=j.ht e he
 obtain⟨d,a2,a3⟩:=Cq (D:=0) (ranks:=List.replicate (B.fx e w).kids.length 0) j m he n hw (kF) (λr o=>(by rw[wm o];exact aR _)) (by omega) h.ok
 have a:=a2 e (aR _)
 rw[hx]at a;unfold Aa
 rcases k:nA B get st e w (List.replicate (B.fx e w).kids.length 0)with⟨st2,_|c⟩
 ·rw[k]at d a2 a
  exact⟨d,h.hp.trans a2.hp,x,a,hd,g,by omega⟩
 ·rw[k]at d a2 a3 a
  dsimp only at a⊢
  rw[r4 a,gH a]
  have p:=a3 c rfl
  have i:=d.nl e x a
  refine⟨d.set (e:=e) (y:=⟨x.done,x.next++ [c],x.begun⟩) ⟨i.done,λc2 b=> ?_,i.dl,λl=>(by rw[g]at l;cases l),?_⟩,(h.hp.trans a2.hp).trans (.set _ _),⟨x.done,x.next++ [c],x.begun⟩,?_,hd,g,?_⟩
  ·rcases cD.1 b with b|b
   ·exact i.next c2 b
   ·rw[bO]at b;subst b;exact p.mono (aP _)
  ·show(x.next++ [c]).length≤_
   rw[bQ,pc];omega
  ·exact fV (fA.1 a).1
  ·show(x.next++ [c]).length≤_
   rw[bQ,pc];omega
theorem Hl {α:Type}(g:α→Nat→α)(a:α)(n:Nat):(List.range (n+1)).foldl g a=g ((List.range n).foldl g a) n:=by
 rw[ub,wo];rfl
def EE (B:ct)(get:eD→Nat→Nat→eD×Option jo)(e:Nat)(st:eD)(w:Nat):eD:=(List.range w).foldl (Aa B get e) (st.set e ⟨(st.getD e nz).done,(st.getD e nz).next,true⟩)
theorem BG (e:Nat)(st:eD)(w:Nat):EE B get e st (w+1)=Aa B get e (EE B get e st w) w:=Hl _ _ _
theorem EC {e:Nat}{st:eD}(h:(st.getD e nz).begun=false):yV B get e st=DK (EE B get e st (rN B e)) e (tj ((EE B get e st (rN B e)).getD e nz).next.length (((EE B get e st (rN B e)).getD e nz).next.length/2) ((EE B get e st (rN B e)).getD e nz).next):=by
 unfold yV;rw[aA (by rw[h];decide)];rfl
theorem ED {e:Nat}{st:eD}(h:(st.getD e nz).begun=true):yV B get e st=st:=by unfold yV;rw[aC h]
theorem Cg (g:oA B)(h:sx B f get){e:Nat}{st:eD}(he:e<B.its.length)(i:l7 B e<f+1)(b:jl B st)(c:(st.getD e nz).begun=false):∀w,w≤rN B e→VQ B e st w (EE B get e st w)
 |0,_=>by
  obtain⟨x,hx,d,a⟩:=b.at_ he;rw[d]at c;obtain⟨j,k⟩:=a.new c
  have hy:Qo B e ⟨x.done,x.next,true⟩:=⟨a.done,a.next,a.dl,λl=>(by cases l),a.nl⟩
  refine⟨?_,?_,⟨x.done,x.next,true⟩,?_,j,rfl,?_⟩
  ·show jl B (st.set e ⟨(st.getD e nz).done,(st.getD e nz).next,true⟩);rw[d];exact b.set hy
  ·exact .set _ _
  ·show(st.set e ⟨(st.getD e nz).done,(st.getD e nz).next,true⟩)[e]?=_;rw[d];exact fV (fA.1 hx).1
  ·show x.next.length≤0;rw[k];exact aR _
 |w+1,hw=>by rw[BG];exact R6 g h he i (by omega) (Cg g h he i b c w (by omega))
structure GW (B:ct)(e:Nat)(vn st:eD):Prop where
 ok:jl B st
 hp:Hp B e vn st
 at_:∃x:wJ,st[e]?=some x∧x.begun=true
theorem MU (l:oA B)(m:sx B f get){e:Nat}{st:eD}(he:e<B.its.length)(n:l7 B e<f+1)(b:jl B st):GW B e st (yV B get e st):=by
 obtain⟨x0,o,g,_⟩:=b.at_ he
 cases d:x0.begun with
 |true=>rw[ED (by rw[g];exact d)];exact⟨b,.refl _ _ _,x0,o,d⟩
 |false=>
  have i:(st.getD e nz).begun=false:=by rw[g];exact d
  rw[EC i]
  have h:=Cg l m he n b i (rN B e) (aR _)
  obtain⟨x,hx,hd,j,q⟩:=h.at_
  have a:=h.ok.nl e x hx
  rw[r4 hx,gH hx];refine⟨h.ok.set ⟨a.done,λc p=>a.next c (Ed _ _ _ (aR _) c p),a.dl,λk=>(by rw[j]at k;cases k),?_⟩,h.hp.trans (.set _ _),_,fV (fA.1 hx).1,j⟩
  show(tj _ _ _).length≤_
  rw[Ec];exact a.nl
theorem Ol {st:eD}{e:Nat}{x:wJ}(h:st[e]?=some x):LN st e=st.set e ⟨x.done++ [((pE x.next).getD (x.next.length-1) Ir).rk],(pE x.next).take (x.next.length-1),x.begun⟩:=by unfold LN;rw[gH h]
theorem JU {st:eD}{e:Nat}{x:wJ}(h:st[e]?=some x):FM st e=(pE x.next).getD (x.next.length-1) Ir:=by unfold FM;rw[gH h]
structure E2 (B:ct)(e D:Nat)(vn:eD)(d:Nat)(st:eD):Prop where
 ok:jl B st
 hp:Hp B e vn st
 at_:∃x:wJ,st[e]?=some x∧x.done.length=D∧x.begun=true∧x.next.length+4≤rN B e+3*D+d
theorem Om {e r:Nat}{vn st:eD}{x:wJ}(h:GW B e vn st)(hx:st[e]?=some x)(n:r+1+l7 B e≤262)(hd:x.done.length≤r)(d:0<x.next.length):
 E2 B e (x.done.length+1) vn 0 (LN st e)∧ud B e x.done.length (FM st e):=by
 obtain⟨o,f,g⟩:=h.at_
 rw[hx]at f;obtain rfl:=Option.some.inj f
 have a:=h.ok.nl e x hx
 have b:(pE x.next).getD (x.next.length-1) Ir∈x.next:=FO d (yx (by rw[FN];omega))
 have i:=a.next _ b
 rw[Ol hx,JU hx]
 have p:=a.nl
 have hle:(x.done++ [((pE x.next).getD (x.next.length-1) Ir).rk]).length=x.done.length+1:=by rw[bQ,pc]
 have j:((pE x.next).take (x.next.length-1)).length=x.next.length-1:=by rw[eX,FN];omega
 refine⟨⟨h.ok.set ⟨λk hk=> ?_,λc m=> ?_,?_,λl=>(by rw[g]at l;cases l),?_⟩,h.hp.trans (.set _ _),_,fV (fA.1 hx).1,hle,g,?_⟩,i⟩
 ·rcases cD.1 hk with hk|hk
  ·exact a.done k hk
  ·rw[bO]at hk;subst hk;exact i.rk
 ·exact(a.next c (FO d (CG m))).mono (by show _≤(x.done++_).length;omega)
 ·show(x.done++_).length+l7 B e≤262;rw[hle];omega
 ·show((pE x.next).take _).length≤rN B e+3*(x.done++_).length;rw[hle,j];omega
 ·show((pE x.next).take _).length+4≤_;rw[j];omega
def zS (B:ct)(get:eD→Nat→Nat→eD×Option jo)(e:Nat)(c:jF)(d:Nat)(st:eD):eD:=match nA B get st e c.fx (c.ranks.set d (c.ranks.getD d 0+1))with
 |(st,none)=>st
 |(st,some x)=>DK st e (Av (st.getD e nz).next x)
theorem Bf (e:Nat)(c:jF)(m d:Nat)(st:eD):Aw B get e c (m+1) d st=if 0<c.ranks.getD d 0 then zS B get e c d st else Aw B get e c m (d+1) (zS B get e c d st):=rfl
theorem JZ {c:jF}{e D d:Nat}(h:ud B e D c):(c.ranks.set d (c.ranks.getD d 0+1)).length=(B.fx e c.fx).kids.length∧∀r∈c.ranks.set d (c.ranks.getD d 0+1),r≤D+1:=by
 refine⟨by rw[cn];exact h.len,λr a=> ?_⟩
 rcases lJ a with a|rfl
 ·have:=h.rks r a;omega
 ·rw[ar]
  cases b:c.ranks[d]? with
  |none=>show 0+1≤D+1;omega
  |some z=>have:=h.rks z (ae b);show z+1≤D+1;omega
theorem DP (o:oA B)(p:sx B f get){e d D:Nat}{c:jF}{vn st:eD}(he:e<B.its.length)(q:l7 B e<f+1)(l:ud B e D c)(hd:d<3)(h:E2 B e (D+1) vn d st):
 E2 B e (D+1) vn (d+1) (zS B get e c d st):=by
 obtain⟨x,hx,g,i,t⟩:=h.at_;obtain⟨r,s⟩:=JZ (d:=d) l
 have u:=(h.ok.nl e x hx).dl
 obtain⟨b,a2,a3⟩:=Cq (D:=D+1) o p he q l.fx r s (by omega) h.ok
 have a:=a2 e (aR _)
 rw[hx]at a;unfold zS
 rcases m:nA B get st e c.fx (c.ranks.set d (c.ranks.getD d 0+1))with⟨st2,_|z⟩
 ·rw[m]at b a2 a
  exact⟨b,h.hp.trans a2.hp,x,a,g,i,by omega⟩
 ·rw[m]at b a2 a3 a
  dsimp only at a⊢
  rw[r4 a,gH a]
  have hz:=a3 z rfl
  have j:=b.nl e x a
  refine⟨b.set ⟨j.done,λc2 k=> ?_,j.dl,λn=>(by rw[i]at n;cases n),?_⟩,(h.hp.trans a2.hp).trans (.set _ _),_,fV (fA.1 a).1,g,i,?_⟩
  ·rcases Oq k with k|rfl
   ·exact j.next c2 k
   ·show ud B e x.done.length c2;rw[g];exact hz
  ·show(Av x.next z).length≤rN B e+3*x.done.length;rw[FU];omega
  ·show(Av x.next z).length+4≤_;rw[FU];omega
theorem uH {e D d:Nat}{vn st:eD}(h:E2 B e D vn d st):GW B e vn st:=let⟨x,hx,_,a,_⟩:=h.at_;⟨h.ok,h.hp,x,hx,a⟩
theorem JW (a:oA B)(b:sx B f get){e D:Nat}{c:jF}{vn:eD}(he:e<B.its.length)(g:l7 B e<f+1)(i:ud B e D c):∀(m d:Nat) (st:eD),m+d≤3→E2 B e (D+1) vn d st→GW B e vn (Aw B get e c m d st)
 |0,d,st,_,h=>uH h
 |m+1,d,st,hm,h=>by
  have j:=DP a b he g i (by omega) h
  rw[Bf]
  split
  ·exact uH j
  ·exact JW a b he g i m (d+1) _ (by omega) j
theorem afL (a:oA B){e w:Nat}(he:e<B.its.length)(hw:w<rN B e):(B.fx e w).kids.length≤3:=by
 by_cases b:(B.fx e w).rule<0
 ·rw[(a.lex e w he hw b).1];exact aP _
 ·exact(a.rule e w he hw b).2.1
theorem ae4 (b:oA B){e D:Nat}{c:jF}(he:e<B.its.length)(a:ud B e D c):c.ranks.length≤3:=by
 rw[a.len]
 by_cases d:(B.fx e c.fx).rule<0
 ·rw[(b.lex e c.fx he a.fx d).1];exact aP _
 ·exact(b.rule e c.fx he a.fx d).2.1
theorem JK (a:oA B)(c:sx B f get){e r:Nat}{vn:eD}(he:e<B.its.length)(d:l7 B e<f+1)(g:r+1+l7 B e≤262):∀(m:Nat) (st:eD),GW B e vn st→GW B e vn (u9 B get e r m st)
 |0,_,h=>h
 |m+1,st,h=>by
  rw[u9];obtain⟨x,hx,k⟩:=h.at_
  split
  ·rename_i b
   rw[gH hx]at b;obtain⟨j,i⟩:=Om h hx g b.1 b.2;exact JK a c he d g m _ (JW a c he d i _ 0 _ (by have:=ae4 a he i;omega) j)
  ·exact h
end
theorem D5 {B:ct}(a:oA B):∀f,sx B f (fh B f)
 |0=>⟨λe r st _ h=>by omega⟩
 |f+1=>⟨λe r st he b d g=>by
  have c:=D5 a f
  have h:=JK a c he b d (r+1) _ (MU a c he b g)
  obtain⟨x,hx,_⟩:=h.at_;rw[fh];refine⟨h.ok,h.hp,λy hy=> ?_⟩
  dsimp only at hy
  rw[gH hx]at hy
  exact(h.ok.nl e x hx).done y (ae hy)⟩
end Go.Proofs.YtblifkgpebebmaaGreatDoor
namespace Go.J
open Go Go.RowKit
section
variable {P:Program}{n:Nat}{F:Fr}{c:Ctx}{H R:List ak}{ty t e:TypeId}{x:Operand}{T:Act→World→Prop}
theorem Ev.qy {b off:Nat}{d:TypeDesc}{L:List Value}{u:Value}[f:mN b H L](hx:ai F x (.pointer (some ⟨b,off,none⟩)))(ht:P.underlying t=some d)(g:(match d with| .struct _| .array _ _=>False|_=>True))(hu:L[off]?=some u):
 Ev P n F (Mm c H) (.load t x) ty u:= .of_run λa w h hw=>by
 obtain⟨ρ,hm⟩:=hw.out;obtain⟨e,fr,h1⟩:=dB.1 (hm.dM _ f.mem)
 have h1:=hm.fits _ _ h1
 simp[execOp,hx.eval h,Instr.loadAt,Instr.sureAddr,fQ ht g ((cV h1).trans (by simpa using hu))]
theorem St.ae5 {size m:Nat}{cs:List Value}(v:Value)(s:Nat)[tk:lX v H e size m cs R](a:size=s)(h:St n F (Mm c (row v e s m cs::R)) T):St n F (Mm c H) T:=by
 subst a
 exact h.o9 λw hw=>let⟨_,k⟩:=hw.out;Mm.mk (k.perm tk.perm)
theorem mh {ρ:Ro}{b off:Nat}:∀(us:List Value) (j:Nat) (L:List Value) (w:World),ew c (aW b (.cells L.toArray e (0,0))::R) ρ w→off+j+us.length≤L.length→(∀u∈us,u.oneCell'=true)→
 ∃w',(storeCells ⟨b,off,none⟩ us j).run P w= .ok () w'∧ew c (aW b (.cells (sV L (off+j) us).toArray e (0,0))::R) ρ w'
 | [],j,L,w,hm,_,_=>⟨w,rfl,hm⟩
 |u::us,j,L,w,hm,a,h1=>by
  rw[fB]at a;obtain⟨c1,f1,d⟩:=xV (off:=off+j) (u:=u) hm (by omega);obtain⟨w',f,g⟩:=mh (off:=off) us (j+1) (L.set (off+j) u) _ d (by rw[cn];omega) (λz hz=>h1 z (by simp[hz]));refine⟨w',?_,by rw[sV];exact g⟩;rw[storeCells]
  simp[run_store P w _ u _ (h1 u (by simp)),c1,f1,Addr.add_lit,f]
variable {y:Operand}{Q:Exit→Act→World→Prop}{ops:Array Oper}{rest:List Oper}{pos:String}{after:Array Edge}{ty:TypeId}
theorem St.PX {b off m:Nat}{L L' us:List Value}[tk:l3 b H (.cells L.toArray e (0,0)) R](hx:ai F x (.pointer (some ⟨b,off,none⟩)))(hy:ai F y (.agg us.toArray))(f:(P.info? t).map (·.size)=some m)(g:us.length=m)(h1:us.all (·.oneCell')=true)
 (j:Nat.ble (off+m) L.length=true) (k:sV L off us=L') (h:St n F (Mm c (aW b (.cells L'.toArray e (0,0))::R)) (wpList P ops Q rest)):
 St n F (Mm c H) (wpList P ops Q ({dst:=none,op:= .store t x y,type:=ty,pos:=pos,after:=after,guard:=none}::rest)):=by
 subst k;refine St.lx (K:=λu H'=>H'=aW b (.cells (sV L off us).toArray e (0,0))::R) ?_ ?_
 ·intro a w ρ d hm
  have l:=hm.perm tk.perm
  obtain⟨w',o,p⟩:=mh (P:=P) (off:=off) us 0 L w l (by have:=dR j;omega) (λu hu=>eW.1 h1 u hu);obtain⟨i,q,r⟩:=dp.1 f;refine⟨.skip,w',ρ,_,?_,⟨_,.inr ⟨rfl,rfl⟩,rfl⟩,p⟩
  simp[execOp,hx.eval d,hy.eval d,Instr.storeAt,Instr.sureAddr,storeVar,sizeOf,typeInfo,q,r,bK,g,o]
 ·rintro _ _ rfl
  exact h
end
end Go.J
namespace Go.Proofs.YtblifkgpebebmaaGreatDoor
open Go Go.J Tryz
structure AcD where
 wt:Int
 cv:aV
 code:List Int
 kv:aV
 ts:List dE
def U7 (r l:Int)(a:AcD):jo:=⟨a.wt,a.code,.mk r l (a.ts.map cy)⟩
theorem E5 (r l:Int)(a:AcD)(k:xT)(u v:aV):U7 r l ⟨a.wt+k.wt,u,a.code++k.code,v,a.ts++ [k.tree]⟩=MI (U7 r l a) (mg k):=by unfold U7 MI mg;rw[cP];rfl
theorem GG {l m:List Nat}{k a b:Nat}(h:l[k]?=some a)(c:m[k]?=some b):(l.zip m).drop k=(a,b)::(l.zip m).drop (k+1):=bN (by rw[List.getElem?_zip_eq_some];exact⟨h,c⟩)
theorem qZ (r l:Int)(ρ:Ro):(br (.mk r l bR [])).f ρ:=ou.mk (x:= .mk r l bR []) (sX dC ρ) (λy hy=>by cases hy)
theorem sZ {R X:List Int}{its:List dL}{L:List jH}(h:jl (⟨its.map cF,R,X⟩:ct) (L.map fi)):L.length=its.length:=by
 have:=h.len;rw[aO]at this;rw[this];exact aO _
theorem UB {R X:List Int}{its:List dL}{e:Nat}{y:dL}(h:its[e]?=some y):(⟨its.map cF,R,X⟩:ct).its.getD e gg=cF y:=by
 show(its.map cF).getD e gg=cF y
 rw[ar,bP,h];rfl
theorem UC {R X:List Int}{its:List dL}{e w:Nat}{y:dL}{a:rf}(h:its[e]?=some y)(b:y.cW[w]?=some a):(⟨its.map cF,R,X⟩:ct).fx e w=wyE a:=by
 unfold ct.fx;rw[UB h]
 show(y.cW.map wyE).getD w wy0=wyE a
 rw[ar,bP,b];rfl
theorem Cm {R X:List Int}{its:List dL}{e:Nat}{y:dL}(h:its[e]?=some y):rN (⟨its.map cF,R,X⟩:ct) e=y.cW.length:=by
 unfold rN;rw[UB h];exact aO _
def K7:xT:=⟨0,bR,[],.mk 0 0 bR []⟩
def zCh:ku:=⟨K7,0,bR,[]⟩
def VR (c a m0 b:Nat)(rv xv eF:aV)(R X:List Int)(its:List dL)(f:Nat):Prop:=∀(e r:Nat) (L:List jH),e<its.length→l7 (⟨its.map cF,R,X⟩:ct) e<f→r+1+l7 (⟨its.map cF,R,X⟩:ct) e≤262→jl (⟨its.map cF,R,X⟩:ct) (L.map fi)→
 dz prog 52 #[.pointer (some ⟨c,0,none⟩),iv (e:Nat),iv (r:Nat)] ([fP c [rv.1,xv.1,eF.1,(.slice (some ⟨a,0,none⟩) m0 b)],sl aJ rv.1 R,sl aJ xv.1 X,sl eE eF.1 its,aF cj its].map aB++(row (.slice (some ⟨a,0,none⟩) m0 b) 194 3 (L).length (rows fO (L))::bE (kK 71 196) L)) (λv H'=>∃(L':List jH) (k:xT) (o:Bool),fh (⟨its.map cF,R,X⟩:ct) f (L.map fi) e r=(L'.map fi,if o then some (mg k)else none)∧v= .tuple #[kT k,.bool o]∧H'=row (.slice (some ⟨a,0,none⟩) m0 b) 194 3 (L').length (rows fO (L'))::aB (oM k)::bE (kK 71 196) L')
theorem wN (K l m0 p:Nat)(rv xv eF:aV)(R X:List Int)(its:List dL)(M:oA (⟨its.map cF,R,X⟩:ct))(f:Nat)(SG:VR K l m0 p rv xv eF R X its f)(e w D:Nat)(g:aV)(ranks:List Nat)(L:List jH)(he:e<its.length)(SC:l7 (⟨its.map cF,R,X⟩:ct) e<f+1)(hw:w<rN (⟨its.map cF,R,X⟩:ct) e)(N:ranks.length=((⟨its.map cF,R,X⟩:ct).fx e w).kids.length)(hrk:∀r∈ranks,r≤D)(hD:D+l7 (⟨its.map cF,R,X⟩:ct) e≤262)(JC:jl (⟨its.map cF,R,X⟩:ct) (L.map fi)):
 dz prog 93 #[.pointer (some ⟨K,0,none⟩),iv (e:Nat),iv (w:Nat),g.1] ([fP K [rv.1,xv.1,eF.1,(.slice (some ⟨l,0,none⟩) m0 p)],sl aJ rv.1 R,sl aJ xv.1 X,sl eE eF.1 its,aF cj its,sl aJ g.1 (bW ranks)].map aB++(row (.slice (some ⟨l,0,none⟩) m0 p) 194 3 (L).length (rows fO (L))::bE (kK 71 196) L)) (λv H'=>∃(L':List jH) (c:ku) (o:Bool),nA (⟨its.map cF,R,X⟩:ct) (fh (⟨its.map cF,R,X⟩:ct) f) (L.map fi) e w ranks=(L'.map fi,if o then some (iQ c)else none)∧v= .tuple #[EK c,.bool o]∧H'=row (.slice (some ⟨l,0,none⟩) m0 p) 194 3 (L').length (rows fO (L'))::aB (hS c)::bE (kK 71 196) L'):=by
 refine dz.body (args:=[.pointer (some ⟨K,0,none⟩),iv (e:Nat),iv (w:Nat),g.1]) 122 func93 rfl ntmps93 rfl (λc=> ?_);refine go ?_;refine St.cast (H':=(aB (fP K [rv.1,xv.1,eF.1,(.slice (some ⟨l,0,none⟩) m0 p)])::aB (sl aJ rv.1 R)::aB (sl aJ xv.1 X)::aB (sl eE eF.1 its)::aB (aF cj its)::aB (sl aJ g.1 (bW ranks))::row (.slice (some ⟨l,0,none⟩) m0 p) 194 3 (L).length (rows fO (L))::bE (kK 71 196) L)) rfl ?_;obtain⟨y,hy⟩:=aE he;rw[Cm hy]at hw;obtain⟨b,O⟩:=aE hw
 have F:=UC (R:=R) (X:=X) hy O
 rw[F]at N
 have N:ranks.length=b.kids.length:=N
 have hnk:(bW b.kids).length=b.kids.length:=dY _
 have hnr:(bW ranks).length=ranks.length:=dY _
 have G:w<rN (⟨its.map cF,R,X⟩:ct) e:=by rw[Cm hy];exact hw
 have Y:e<(⟨its.map cF,R,X⟩:ct).its.length:=by show e<(its.map cF).length;rw[aO];exact he
 have SS:=M.sz e w Y G
 rw[F]at SS
 have SS: -1≤b.rule∧b.rule≤1000∧0≤b.lex∧b.lex≤1000:=SS
 have hwb:w<1200000000000:=by have:=M.nw e Y;omega
 refine St.cK cj its (x:=y) (ae hy) ?_;refine St.eZ (sl mM y.wv.1 y.cW) [cj y] (λρ h=>h (cj y) (aQ ..) _ (cO _ (aQ ..))) ?_;refine St.eZ (sl aJ b.kv.1 (bW b.kids)) [cj y] (λρ h=>h (cj y) (aQ ..) (aF mY y.cW) (cO _ (cO _ (aQ ..))) b (ae O)) ?_;refine go ?_;refine St.al (λb8=> ?_);refine g8 ?_;refine St.ee (Ev.qy (.mk rfl) nY trivial rfl) ?_;refine g6 ?_;refine St.ee (Ev.El (Rr:=mM) (sz:=3) (.mk rfl) O underlying200 trivial wZ (by decide) (by decide)) ?_;refine St.slot 26 (.agg #[iv b.rule,iv b.lex,b.kv.1]) rfl rfl ?_;refine St.al (λb10=> ?_);refine g7 ?_;refine St.ee (Ev.build (bF.aX rfl rfl) (λw=>Gq rfl g.2 w)) ?_;refine St.slot 29 (.agg #[iv 0,(.slice none 0 0),iv 0,iv 0,(.slice none 0 0),iv (w:Nat),g.1]) rfl rfl ?_;refine St.al (λj=> ?_);refine g9 ?_;refine St.ee (Ev.build (bF.aX rfl rfl) (λw=>BI rfl rfl w)) ?_;refine St.slot 34 (.agg #[iv b.rule,iv b.lex,(.slice none 0 0)]) rfl rfl ?_;refine g2 ?_;refine St.PX (m:=3) (us:=[iv b.rule,iv b.lex,(.slice none 0 0)]) (L':=[iv 0,(.slice none 0 0),iv b.rule,iv b.lex,(.slice none 0 0),iv (w:Nat),g.1]) (ai.mk rfl) (ai.mk rfl) pw rfl rfl rfl rfl ?_;refine g10 ?_;refine St.cq (λh39=> ?_) (λh39=> ?_)
 ·have P:((⟨its.map cF,R,X⟩:ct).fx e w).rule<0:=by rw[F];exact h39
  obtain⟨hlk,AG,_⟩:=M.lex e w Y G P;rw[F]at AG
  have AG:b.lex<X.length:=AG
  obtain⟨Q,Wv⟩:=aE (show b.lex.toNat<X.length by omega)
  have Sa:X.getD b.lex.toNat 0=Q:=by rw[ar,Wv];rfl
  refine go ?_;refine St.dc (aW j (.cells [iv 0,(.slice none 0 0),iv b.rule,iv b.lex,(.slice none 0 0),iv (w:Nat),g.1].toArray 196 (0,0))::(bE (kK 71 196) L)) mixed (λnp ns=> ?_);refine SW.gd 0 ?_;refine SW.gd 1 ?_;refine SW.gd 2 ?_;refine SW.dd 3 rfl (λ_=>Ev.qy (.mk rfl) bJ trivial rfl) ?_;refine SW.gd 4 ?_;refine SW.gd 5 ?_;refine SW.dd 6 rfl (λ_=>Ev.cM (k:=b.lex.toNat) (.mk rfl) (.mk rfl) bJ dK (by omega) (by omega)) ?_;refine SW.gd 7 ?_;refine SW.gd 8 ?_;refine SW.gd 9 ?_;refine SW.gd 10 ?_;refine SW.gd 12 ?_;refine SW.gd 13 ?_;refine SW.slot 53 (.pointer (some ⟨j,0,none⟩)) rfl rfl ?_;refine SW.t2 11 14 ?_ ?_
  focus
   refine St.gX rfl (.au rfl) bJ dK eS rfl rfl (by simp[Value.cells]) rfl rfl (λH=> ?_);refine g2 ?_;refine SW.go ?_;refine SW.t1 14 ?_;refine St.cH (.mk rfl) (.mk rfl) dK rfl (by rfl) ?_;refine g2 ?_;refine SW.go ?_;refine SW.gd 15 ?_;refine SW.gd 16 ?_;refine SW.slot 55 (.pointer (some ⟨j,1,none⟩)) rfl rfl ?_;refine SW.t1 17 ?_;refine St.cH (.mk rfl) (.mk rfl) fE rfl (by rfl) ?_;refine St.mP j (L':=[iv Q,.slice (some ⟨H,0,none⟩) 1 1,iv b.rule,iv b.lex,(.slice none 0 0),iv (w:Nat),g.1]) rfl ?_;refine g2 ?_;refine SW.go ?_;refine SW.dn ?_
  rotate_left
  focus
   refine St.cH (.mk rfl) (.mk rfl) dK rfl (by rfl) ?_;refine g2 ?_;refine SW.go ?_;refine SW.t1 11 ?_;refine St.gX rfl (.au rfl) bJ dK eS rfl rfl (by simp[Value.cells]) rfl rfl (λH=> ?_);refine g2 ?_;refine SW.go ?_;refine SW.gd 15 ?_;refine SW.gd 16 ?_;refine SW.slot 55 (.pointer (some ⟨j,1,none⟩)) rfl rfl ?_;refine SW.t1 17 ?_;refine St.cH (.mk rfl) (.mk rfl) fE rfl (by rfl) ?_;refine St.mP j (L':=[iv Q,.slice (some ⟨H,0,none⟩) 1 1,iv b.rule,iv b.lex,(.slice none 0 0),iv (w:Nat),g.1]) rfl ?_;refine g2 ?_;refine SW.go ?_;refine SW.dn ?_
  all_goals
   refine g2 ?_;refine St.aM (.slice (some ⟨H,0,none⟩) 1 1) (show _=([1000+b.lex]:List Int).length from rfl) (show _=rows aJ [1000+b.lex]from rfl) ?_;refine St.bS (.slice (some ⟨H,0,none⟩) 1 1) aJ [1000+b.lex] rfl rfl (λz hz=>by rw[bO]at hz;subst hz;show aZ _;unfold aZ;omega) ?_;refine St.fact (br (.mk b.rule b.lex bR [])) (λρ _ _=>qZ _ _ _) ?_;refine St.eZ (hS (⟨⟨Q,⟨.slice (some ⟨H,0,none⟩) 1 1,rfl⟩,[1000+b.lex],.mk b.rule b.lex bR []⟩,w,g,ranks⟩)) (chL (⟨⟨Q,⟨.slice (some ⟨H,0,none⟩) 1 1,rfl⟩,[1000+b.lex],.mk b.rule b.lex bR []⟩,w,g,ranks⟩)) (λρ h=>h) ?_;refine g8 ?_;refine St.rV [_,_] (row (.slice (some ⟨l,0,none⟩) m0 p) 194 3 (L).length (rows fO (L))::aB (hS (⟨⟨Q,⟨.slice (some ⟨H,0,none⟩) 1 1,rfl⟩,[1000+b.lex],.mk b.rule b.lex bR []⟩,w,g,ranks⟩))::(bE (kK 71 196) L)) ?_;exact⟨L,⟨⟨Q,⟨.slice (some ⟨H,0,none⟩) 1 1,rfl⟩,[1000+b.lex],.mk b.rule b.lex bR []⟩,w,g,ranks⟩,true,by rw[EL P];unfold XJ;rw[F];show(_,some (⟨⟨X.getD b.lex.toNat 0,_,_⟩,_,_⟩:jF))=_;rw[Sa];rfl,rfl,rfl⟩
 ·have P:¬((⟨its.map cF,R,X⟩:ct).fx e w).rule<0:=by rw[F];show ¬b.rule<0;omega
  have D8:=M.rule e w Y G P
  rw[F]at D8;obtain⟨hrx,hk3,S,hkb⟩:=D8
  have hrx:b.rule<R.length:=hrx
  have hk3:b.kids.length≤3:=hk3
  have S:∀k∈b.kids,k<(⟨its.map cF,R,X⟩:ct).its.length∧l7 (⟨its.map cF,R,X⟩:ct) k<l7 (⟨its.map cF,R,X⟩:ct) e:=S
  have hkb:ni (⟨its.map cF,R,X⟩:ct) b.kids+1≤Dq (⟨its.map cF,R,X⟩:ct) e:=hkb
  have hbd:=M.bd e Y
  obtain⟨xr,hxr⟩:=aE (show b.rule.toNat<R.length by omega)
  have Sa:R.getD b.rule.toNat 0=xr:=by rw[ar,hxr];rfl
  refine g3 ?_;refine St.dc (aW j (.cells [iv 0,(.slice none 0 0),iv b.rule,iv b.lex,(.slice none 0 0),iv (w:Nat),g.1].toArray 196 (0,0))::(bE (kK 71 196) L)) mixed (λnp ns=> ?_);refine SW.gd 0 ?_;refine SW.gd 1 ?_;refine SW.gd 2 ?_;refine SW.dd 3 rfl (λ_=>Ev.qy (.mk rfl) bJ trivial rfl) ?_;refine SW.gd 4 ?_;refine SW.gd 5 ?_;refine SW.dd 6 rfl (λ_=>Ev.cM (k:=b.rule.toNat) (.mk rfl) (.mk rfl) bJ dK (by omega) (by omega)) ?_;refine SW.gd 7 ?_;refine SW.gd 8 ?_;refine SW.gd 9 ?_;refine SW.gd 11 ?_;refine SW.gd 12 ?_;refine SW.slot 69 (.pointer (some ⟨j,0,none⟩)) rfl rfl ?_;refine SW.t2 10 13 ?_ ?_
  focus
   refine St.gX rfl (.au rfl) bJ dK eS rfl rfl (by simp[Value.cells]) rfl rfl (λs=> ?_);refine g2 ?_;refine SW.go ?_;refine SW.t1 13 ?_;refine St.cH (.mk rfl) (.mk rfl) dK rfl (by rfl) ?_;refine g2 ?_;refine SW.go ?_;refine SW.gd 14 ?_;refine SW.gd 15 ?_;refine SW.slot 71 (.pointer (some ⟨j,1,none⟩)) rfl rfl ?_;refine SW.t1 16 ?_;refine St.cH (.mk rfl) (.mk rfl) fE rfl (by rfl) ?_;refine St.mP j (L':=[iv xr,.slice (some ⟨s,0,none⟩) 1 1,iv b.rule,iv b.lex,(.slice none 0 0),iv (w:Nat),g.1]) rfl ?_;refine g2 ?_;refine SW.go ?_;refine SW.dn ?_
  rotate_left
  focus
   refine St.cH (.mk rfl) (.mk rfl) dK rfl (by rfl) ?_;refine g2 ?_;refine SW.go ?_;refine SW.t1 10 ?_;refine St.gX rfl (.au rfl) bJ dK eS rfl rfl (by simp[Value.cells]) rfl rfl (λs=> ?_);refine g2 ?_;refine SW.go ?_;refine SW.gd 14 ?_;refine SW.gd 15 ?_;refine SW.slot 71 (.pointer (some ⟨j,1,none⟩)) rfl rfl ?_;refine SW.t1 16 ?_;refine St.cH (.mk rfl) (.mk rfl) fE rfl (by rfl) ?_;refine St.mP j (L':=[iv xr,.slice (some ⟨s,0,none⟩) 1 1,iv b.rule,iv b.lex,(.slice none 0 0),iv (w:Nat),g.1]) rfl ?_;refine g2 ?_;refine SW.go ?_;refine SW.dn ?_
  all_goals
   refine g11 ?_;refine St.aM (.slice (some ⟨s,0,none⟩) 1 1) (show _=([b.rule]:List Int).length from rfl) (show _=rows aJ [b.rule]from rfl) ?_;refine St.dw 69 3 ?_;refine St.aM (.slice none 0 0) (show _=([]:List dE).length from rfl) (show _=rows dC []from rfl) ?_;refine St.dN br ?_
   have abT:=Ja M Y G P
   have acZ:Fg (⟨its.map cF,R,X⟩:ct) e w=U7 b.rule b.lex ⟨xr,⟨.slice (some ⟨s,0,none⟩) 1 1,rfl⟩,[b.rule],bR,[]⟩:=by unfold Fg;rw[F];show(⟨R.getD b.rule.toNat 0,_,_⟩:jo)=_;rw[Sa];rfl
   rw[acZ]at abT;refine St.lH (ι:=Nat×List jH×AcD) (λ⟨k,i,a⟩ T=>(75,iv k)::T) (λ⟨k,i,a⟩=>(row a.cv.1 3 1 (a.code).length (rows aJ (a.code))::row a.kv.1 69 3 (a.ts).length (rows dC (a.ts))::aW j (.cells [iv a.wt,a.cv.1,iv b.rule,iv b.lex,a.kv.1,iv (w:Nat),g.1].toArray 196 (0,0))::aB (aF br a.ts)::row (.slice (some ⟨l,0,none⟩) m0 p) 194 3 (i).length (rows fO (i))::aB (fP K [rv.1,xv.1,eF.1,(.slice (some ⟨l,0,none⟩) m0 p)])::aB (sl aJ rv.1 R)::aB (sl aJ xv.1 X)::aB (sl eE eF.1 its)::aB (aF cj its)::aB (sl aJ g.1 (bW ranks))::aB (sl mM y.wv.1 y.cW)::aB (sl aJ b.kv.1 (bW b.kids))::aW b8 (.cells [iv 0,(.slice none 0 0),iv 0,iv 0,(.slice none 0 0),iv 0,(.slice none 0 0)].toArray 196 (0,0))::aW b10 (.cells [iv b.rule,iv b.lex,b.kv.1].toArray 200 (0,0))::(bE (kK 71 196) i))) (λ⟨k,i,a⟩=>k≤b.kids.length∧jl (⟨its.map cF,R,X⟩:ct) (i.map fi)∧yA (1+ni (⟨its.map cF,R,X⟩:ct) (b.kids.take k)) k (U7 b.rule b.lex a)∧vM (fh (⟨its.map cF,R,X⟩:ct) f) ((b.kids.zip ranks).drop k) (i.map fi) (U7 b.rule b.lex a)=vM (fh (⟨its.map cF,R,X⟩:ct) f) (b.kids.zip ranks) (L.map fi) (Fg (⟨its.map cF,R,X⟩:ct) e w)) (λ⟨k,i,a⟩=>b.kids.length-k) ⟨0,L,⟨xr,⟨.slice (some ⟨s,0,none⟩) 1 1,rfl⟩,[b.rule],bR,[]⟩⟩ (aD.cons 0 rfl (aD.cons 3 rfl (aD.cons 8 rfl (aD.cons 11 rfl (aD.cons 73 rfl (aD.cons 74 rfl aD.nil)))))) ⟨aP _,JC,abT,by rw[acZ];rfl⟩ ?_;rintro ⟨k,i,a⟩ ⟨hk,ti,I,t⟩
   dsimp only at hk ti I t⊢
   have anG:a.code.length≤1+ni (⟨its.map cF,R,X⟩:ct) (b.kids.take k):=I.len
   have anH: -(1000000*(a.code.length:Int))≤a.wt∧a.wt≤1000000*(a.code.length:Int):=I.wt
   have ajS:(a.ts.map cy).length≤k:=I.n
   rw[aO]at ajS;refine g6 ?_;refine St.cq (λh76=> ?_) (λh76=> ?_)
   ·obtain⟨q,Z⟩:=aE (show k<b.kids.length by omega)
    obtain⟨rr,JA⟩:=aE (show k<ranks.length by omega);obtain⟨M0,J9⟩:=S q (ae Z)
    have Wn:=hrk rr (ae JA)
    have M0:q<its.length:=by have h:q<(its.map cF).length:=M0;rwa[aO]at h
    have HE:=(D5 M f).ok q rr (i.map fi) (by show q<(its.map cF).length;rw[aO];exact M0) (by omega) (by omega) ti
    have hbt:=BK (B:=(⟨its.map cF,R,X⟩:ct)) Z
    have hbl:ni (⟨its.map cF,R,X⟩:ct) (b.kids.take (k+1))≤ni (⟨its.map cF,R,X⟩:ct) b.kids:=RC _ _
    refine g8 ?_;refine St.ee (Ev.ld1 (.mk rfl) (gO Z) gV trivial rfl) ?_;refine g11 ?_;refine St.ee (Ev.ld1 (.mk rfl) (gO JA) gV trivial rfl) ?_;refine St.pS (ds:=[fP K [rv.1,xv.1,eF.1,(.slice (some ⟨l,0,none⟩) m0 p)],sl aJ rv.1 R,sl aJ xv.1 X,sl eE eF.1 its,aF cj its]) (L:=[row (.slice (some ⟨l,0,none⟩) m0 p) 194 3 (i).length (rows fO (i))]) (X:=bE (kK 71 196) i) (post:=λv L' X'=>∃(A:List jH) (d:xT) (o:Bool),fh (⟨its.map cF,R,X⟩:ct) f (i.map fi) q rr=(A.map fi,if o then some (mg d)else none)∧v= .tuple #[kT d,.bool o]∧L'=[row (.slice (some ⟨l,0,none⟩) m0 p) 194 3 (A).length (rows fO (A)),aB (oM d)]∧X'=bE (kK 71 196) A) ((SG q rr i M0 (by omega) (by omega) ti).mono (λv H' ⟨A,d,o,a1,a2,a3⟩=>⟨[_,_],_,a3,A,d,o,a1,a2,rfl,rfl⟩)) Zw (.ej rfl rfl rfl) rfl ?_;rintro v87 _ _ ⟨A,d,o,hgq,rfl,rfl,rfl⟩;refine St.dQ ?_;rw[hgq]at HE;obtain⟨HL,_,Af⟩:=HE
    have HL:jl (⟨its.map cF,R,X⟩:ct) (A.map fi):=HL
    refine g3 ?_;refine St.al (λQY=> ?_);refine g11 ?_;refine St.cond _ rfl (λU=> ?_) (λU=> ?_)
    ·skip
     obtain rfl:o=false:=by simpa using U
     rw[GG Z JA,vN,hgq]at t;refine g2 ?_;refine St.ee (Ev.build (bF.nil) (λw=>R8 w)) ?_;refine St.slot 92 (.agg #[iv 0,(.slice none 0 0),iv 0,iv 0,(.slice none 0 0),iv 0,(.slice none 0 0)]) rfl rfl ?_;refine go ?_;refine St.fm aJ ?_;refine St.fact (br (.mk 0 0 bR [])) (λρ _ _=>qZ _ _ _) ?_;refine St.eZ (hS zCh) [sl aJ (.slice none 0 0) [],br (.mk 0 0 bR []),sl aJ (.slice none 0 0) []] (λρ h=>h) ?_;refine g10 ?_;refine St.rV [_,_] (row (.slice (some ⟨l,0,none⟩) m0 p) 194 3 (A).length (rows fO (A))::aB (hS zCh)::(bE (kK 71 196) A)) ?_;exact⟨A,zCh,false,by rw[ye P,F];show(match vM (fh (⟨its.map cF,R,X⟩:ct) f) (b.kids.zip ranks) (L.map fi) (Fg (⟨its.map cF,R,X⟩:ct) e w)with|(st,none)=>(st,none)|(st,some x)=>(st,some (⟨x,w,ranks⟩:jF)))=_;rw[←t];rfl,rfl,rfl⟩
    ·skip
     obtain rfl:o=true:=by simpa using U
     have Af:=Af (mg d) rfl
     have anK:d.code.length≤Dq (⟨its.map cF,R,X⟩:ct) q:=Af.len
     have anL: -(1000000*(d.code.length:Int))≤d.wt∧d.wt≤1000000*(d.code.length:Int):=Af.wt
     refine St.eZ (sl aJ d.cv.1 d.code) [oM d] (λρ h=>h (oM d) (aQ ..) _ (aQ ..)) ?_;refine St.eZ (br d.tree) [oM d] (λρ h=>h (oM d) (aQ ..) _ (cO _ (aQ ..))) ?_;refine g12 ?_;refine St.slot 100 (.pointer (some ⟨j,0,none⟩)) rfl rfl ?_;refine St.cH (.mk rfl) (.mk rfl) dK rfl (by rfl) ?_;refine g9 ?_;refine St.yT (.mk rfl) (.mk rfl) bJ dK eS xW (zZ _ _) (by omega) (by omega) rfl rfl trivial rfl (λTq amS=> ?_);refine St.ae5 Tq 1 rfl ?_;refine St.aM Tq (show _=(a.code++d.code).length by rw[bQ]) (show _=rows aJ (a.code++d.code) by unfold rows;rw[CA]) ?_;refine St.bZ Tq (λaaJ _=> ?_);refine g2 ?_;refine St.slot 108 (.pointer (some ⟨j,1,none⟩)) rfl rfl ?_;refine St.cH (.mk rfl) (.mk rfl) fE aaJ (by rfl) ?_;refine g8 ?_;refine St.ee (Ev.iT 3 (.mk rfl) IM trivial pw rfl rfl) ?_;refine St.slot 114 (uQ d.tree) rfl rfl ?_;refine St.gX rfl (.au rfl) A4 pw Ly rfl rfl (by simp[Value.cells]) rfl rfl (λam5=> ?_);refine St.aj (.mk rfl) (.mk rfl) A4 pw Ly Vt (by intro u hu;exact dC.one d.tree u hu) (by omega) (by omega) rfl rfl rfl rfl (λV amU=> ?_);refine St.aM V (show _=(a.ts++ [d.tree]).length by rw[bQ];rfl) (show _=rows dC (a.ts++ [d.tree]) by rw[bB];rfl) ?_;refine St.bZ V (λS7 _=> ?_);refine St.eZ (aF br (a.ts++ [d.tree])) [aF br a.ts,br d.tree] (λρ h u hu=>by rcases cD.1 hu with hu|hu;exact h (aF br a.ts) (aQ ..) u hu;rw[bO]at hu;subst hu;exact h (br d.tree) (cO _ (aQ ..))) ?_;refine g3 ?_;refine St.slot 119 (.pointer (some ⟨j,4,none⟩)) rfl rfl ?_;refine St.cH (.mk rfl) (.mk rfl) Xt S7 (by rfl) ?_;refine g8 ?_;refine St.aH ⟨k+1,A,⟨a.wt+d.wt,⟨Tq,aaJ⟩,a.code++d.code,⟨V,S7⟩,a.ts++ [d.tree]⟩⟩ ⟨by omega,HL,by rw[E5,BK Z,←qg];exact E6 I Af,by rw[E5,←t,GG Z JA,vN,hgq];rfl⟩
   ·obtain rfl:k=b.kids.length:=by omega
    rw[j4 (by rw[List.length_zip];omega)]at t;rw[kH]at I
    obtain⟨⟨C,E⟩,hv1⟩:∃z,z=a.cv:=⟨_,rfl⟩
    obtain⟨⟨J,W⟩,Wq⟩:∃z,z=a.kv:=⟨_,rfl⟩
    rw[←hv1,←Wq];refine St.bS C aJ a.code rfl rfl (λz hz=>by have:=I.cd z hz;show aZ _;unfold aZ;omega) ?_;refine St.bS J dC a.ts rfl rfl (λz hz=> ?_) ?_
    ·have h:=(I.kids (cy z) (eP hz)).2
     rw[lD]at h
     have h: -1≤z.rule∧z.rule≤1000∧0≤z.lex∧z.lex≤1000:=h
     exact⟨by show aZ _;unfold aZ;omega,by show aZ _;unfold aZ;omega⟩
    refine St.eZ (br (.mk b.rule b.lex ⟨J,W⟩ a.ts)) [sl dC J a.ts,aF br a.ts] (λρ h=>ou.mk (x:= .mk b.rule b.lex ⟨J,W⟩ a.ts) (h _ (aQ ..)) (λy hy=>h (aF br a.ts) (cO _ (aQ ..)) y hy)) ?_;refine St.eZ (hS (⟨⟨a.wt,⟨C,E⟩,a.code,.mk b.rule b.lex ⟨J,W⟩ a.ts⟩,w,g,ranks⟩)) (chL (⟨⟨a.wt,⟨C,E⟩,a.code,.mk b.rule b.lex ⟨J,W⟩ a.ts⟩,w,g,ranks⟩)) (λρ h=>h) ?_;refine g8 ?_;refine St.sA (.mk rfl) (.mk rfl) ji ?_ (h1:=(by simp only[List.all_cons,List.all_nil,Bool.and_true,Bool.and_eq_true];exact⟨rfl,E,rfl,rfl,W,rfl,g.2⟩));refine g4 ?_;refine St.rV [_,_] (row (.slice (some ⟨l,0,none⟩) m0 p) 194 3 (i).length (rows fO (i))::aB (hS (⟨⟨a.wt,⟨C,E⟩,a.code,.mk b.rule b.lex ⟨J,W⟩ a.ts⟩,w,g,ranks⟩))::(bE (kK 71 196) i)) ?_;exact⟨i,⟨⟨a.wt,⟨C,E⟩,a.code,.mk b.rule b.lex ⟨J,W⟩ a.ts⟩,w,g,ranks⟩,true,by rw[ye P,F];show(match vM (fh (⟨its.map cF,R,X⟩:ct) f) (b.kids.zip ranks) (L.map fi) (Fg (⟨its.map cF,R,X⟩:ct) e w)with|(st,none)=>(st,none)|(st,some x)=>(st,some (⟨x,w,ranks⟩:jF)))=_;rw[←t];show(_,some (⟨U7 b.rule b.lex a,w,ranks⟩:jF))=_;unfold U7;rw[←G2];rfl,rfl,rfl⟩
end Go.Proofs.YtblifkgpebebmaaGreatDoor
