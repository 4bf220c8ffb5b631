/-
  Laws of walks through programs, and facts on grammars, trees and queries.
  Conditions: none.
-/
import Derived.Test.YtblifkgpebebmaaGreatDoorGT7
import Derived.Shelf.SlSortCmp.NoneTotal
set_option maxHeartbeats 4000000
set_option maxRecDepth 20000
set_option linter.unusedVariables false
set_option linter.unusedSimpArgs false
namespace Go.Proofs.YtblifkgpebebmaaGreatDoor
open Go Go.J Tryz
def iW:Rp cU:=⟨1,by decide,λx=>[x.nv.1],λ_=>True,λ_=>rfl,λx u h=>by simp at h;subst h;exact x.nv.2⟩
instance (x:cU):iY iW x [x.nv.1]:=⟨rfl⟩
def Ah (mt:Nat→Nat→Option Nat)(r:CZ)(M:List dF)(j:Nat):List Bool:=if(j:Int)<r.kids then M.map λy=>(cm mt r.graph (qp r.graph ((j:Int)+1)).toNat y).isSome else []
structure wC (f:kO)(g:ob)(mt:Nat→Nat→Option Nat):Prop where
 nr:f.nr=g.rules.length
 nl:f.nl=g.aN.length
 kids:f.kids=g.rules.map (·.kids)
 al:f.qx.length=g.rules.length
 at_:∀(r:Nat) (x:qw) (rr:CZ),f.qx[r]?=some x→g.rules[r]?=some rr→∀j,j<3→(x.at_ j).2=Ah mt rr (IQ g) j
theorem G8 (g:ob):(IQ g).length=g.rules.length+g.aN.length:=by unfold IQ;rw[bA,aQ,aQ]
theorem wC.ln {f:kO}{g:ob}{mt:Nat→Nat→Option Nat}(h:wC f g mt)(hr:g.rules.length≤1000)(hl:g.aN.length≤1000)(hk:∀r∈g.rules,r.kids≤3):zF f:=by
 refine⟨by rw[h.nr];exact hr,by rw[h.nl];exact hl,by rw[h.kids,aQ,h.nr],by rw[h.al,h.nr],λk hm=> ?_,λr x k j hx l8 hj=> ?_⟩
 ·rw[h.kids]at hm
  obtain⟨rr,XJ,rfl⟩:=ct.1 hm;exact hk rr XJ
 ·rw[h.kids,bE]at l8
  cases Fe:g.rules[r]? with
  |none=>rw[Fe]at l8;cases l8
  |some rr=>
   rw[Fe]at l8;obtain rfl:=Option.some.inj l8
   have h3:=hk rr (ab Fe)
   have hj2:(j:Int)<rr.kids:=hj
   rw[h.at_ r x rr hx Fe j (by omega)];unfold Ah;rw[aB hj,aQ,G8,h.nr,h.nl]
theorem zV {f:kO}{g:ob}{mt:Nat→Nat→Option Nat}(h:wC f g mt)(top:Int):pY f.nr f.nl top=IU g top:=by unfold pY IU;rw[h.nr,h.nl]
theorem RE {f:kO}{g:ob}{mt:Nat→Nat→Option Nat}(h:wC f g mt)(hk:∀r∈g.rules,r.kids≤3):qL f=Z1 g mt:=by
 funext rule gi top
 unfold qL Z1;rw[zV h]
 rcases Decidable.em (0≤IU g top)with h1|h1
 case inr=>rw[eL h1];simp only[Bool.false_and]
 rcases Decidable.em (1≤gi)with h2|h2
 case inr=>rw[eL h2];simp only[Bool.false_and,Bool.and_false]
 rw[dH h1,dH h2]
 rcases e7 rule g.rules.length with h3|h3
 case inr=>
  have e:f.kids.getD rule 0=0:=by rw[ak,fY (by rw[h.kids,aQ];exact h3)];rfl
  rw[e,eL (show ¬((gi:Int)≤0) by omega),eL (show ¬rule<g.rules.length by omega)]
  simp only[Bool.false_and,Bool.and_false]
 obtain⟨rr,Fe⟩:=aE h3;obtain⟨x,hx⟩:=aE (show rule<f.qx.length by rw[h.al];exact h3)
 have e1:f.kids.getD rule 0=rr.kids:=by rw[h.kids,ak,bE,Fe];rfl
 have e2:g.rules.getD rule nz=rr:=by rw[ak,Fe];rfl
 have e3:f.qx.getD rule ZJ=x:=by rw[ak,hx];rfl
 rw[e1,e2,e3,dH h3]
 rcases Decidable.em ((gi:Int)≤rr.kids)with h4|h4
 case inr=>rw[eL h4];simp only[Bool.false_and,Bool.and_false]
 rw[dH h4]
 have h5:=hk rr (ab Fe)
 obtain⟨j,rfl⟩:∃j,gi=j+1:=⟨gi-1,by omega⟩
 have e4:=h.at_ rule x rr hx Fe j (by omega)
 have hp:=KY (nr:=f.nr) (nl:=f.nl) (top:=top) (by rw[zV h];exact h1)
 rw[zV h]at hp
 show(true&&true&&true&&((x.at_ j).2.getD (IU g top).toNat false))=(true&&true&&true&&true&&_)
 rw[e4];unfold Ah;rw[aB (show(j:Int)<rr.kids by omega)]
 simp only[Bool.true_and]
 rw[ak,ak,bE];obtain⟨y,hy⟩:=aE (show(IU g top).toNat<(IQ g).length by rw[G8,←h.nr,←h.nl];exact hp);rw[hy]
 show(cm mt rr.graph (qp rr.graph ((j:Int)+1)).toNat y).isSome=(cm mt rr.graph (qp rr.graph ((j+1:Nat):Int)).toNat y).isSome
 rw[show((j+1:Nat):Int)=(j:Int)+1 by push_cast;rfl]
def DY (s:List Bool):Nat:=s.countP λb=> !b
theorem RF {s:List Bool}{o:Nat}(h:s[o]?=some false):DY (s.set o true)+1=DY s:=by
 unfold DY
 induction s generalizing o with
 |nil=>cases h
 |cons b s ih=>
  cases o with
  |zero=>obtain rfl:=Option.some.inj h;rw[rE,r8,r8];simp
  |succ o=>
   rw[vd,r8,r8]
   have:=ih (o:=o) h
   omega
theorem RG (n:Nat):DY (List.replicate n false)=n:=by
 unfold DY
 induction n with
 |zero=>rfl
 |succ n ih=>rw[List.replicate_succ,r8,ih];rfl
abbrev DZ:aY×List Bool:=(bK,[])
def bG (tB:TypeId)(p:aY×List Bool):List ao:=[row p.1.1 tB 1 p.2.length (rows da p.2)]
def bD (p:aY×List Bool):df:=sl da p.1.1 p.2
theorem Zo {c:Ctx}(tB:TypeId)(a:aY×List Bool)(H:List ao)(w:World)(h:Mm c (bG tB a++H) w):Mm c (aF (bD a)::H) w:=by
 obtain⟨ρ,k⟩:=h.out;exact k.bZ da a.2 rfl rfl (λ_ _=>trivial)
def zW (P:List (aY×List Bool)):qw:=⟨(P.getD 0 DZ).1,(P.getD 1 DZ).1,(P.getD 2 DZ).1,(P.getD 0 DZ).2,(P.getD 1 DZ).2,(P.getD 2 DZ).2⟩
theorem RH (P:List (aY×List Bool)){j:Nat}(h:j<3):(zW P).at_ j=P.getD j DZ:=by
 rcases j with _|_|_|j
 ·rfl
 ·rfl
 ·rfl
 ·omega
theorem RI {l:List Bool}{k:Nat}{x:Bool}(h:l[k]?=some x):(rows da l)[k*1+0]?=some (.bool x):=by
 have:=db da l k 0 x h (by decide)
 exact this
theorem Mg (l:List Bool)(k:Nat)(x:Bool):(rows da l).set (k*1+0) (.bool x)=rows da (l.set k x):=by
 rw[fR,jK];exact B5 (Rr:=da) rfl rfl l k
theorem zX (tb:Nat)(w1 w2:aY)(T:List dz)(hT:gy T)(nf:Nat)(gl:nf≤100)(x y:cU)(hx:dP T.length nf (ar x))(hy:dP T.length nf (ar y))(kI:x.nodes.length≤60)(SU:y.nodes.length≤60)(node:Nat)(rO:node<x.nodes.length):
 dA Tryz.prog 119 ([au x,iv (node:Nat),au y]++ [Value.pointer (some ⟨tb,0,none⟩)]).toArray [fO tb [w1.1,w2.1],sl ay w1.1 (cn T),sl ay w2.1 (cr T),tz,aG x,aG y] (.bool (cm (fg T) (ar x) node (ar y)).isSome):=(MT tb w1 w2 T hT nf gl x y hx hy kI SU node rO).mono λ_ _ h=>h.1
theorem VC (g:ja)(w1 w2:aY)(T:List dz)(hT:gy T)(nf:Nat)(gl:nf≤100)(Bw:g.rules.length≤40)(hxn:g.aN.length≤100)(ZM:∀r∈g.rules,(1≤r.kids∧r.kids≤3)∧dP T.length nf (ar r.graph)∧r.graph.nodes.length≤60)(Zp:∀x∈g.aN,dP T.length nf (ar x.graph)∧x.graph.nodes.length≤60)(ei:dP T.length nf (ar g.start)∧g.start.nodes.length≤60)
 (Gs:∀r∈g.rules,∀k:Int,0≤k→k≤r.kids→0≤qp (ar r.graph) k):dt Tryz.prog 88 #[kC g,jS w1 w2] ([sl cY g.rv.1 g.rules,aI cK g.rules,sl eF g.xv.1 g.aN,aI eB g.aN,aG g.start,sl ay w1.1 (cn T),sl ay w2.1 (cr T),tz].map aF) (λv H'=>∃f:kO,v=MU f∧wC f (gG g) (fg T)∧H'=[aF (fz f)]):=by
 refine dt.body (args:=[kC g,jS w1 w2]) 196 Tryz.func88 rfl Tryz.ntmps88 rfl (λc=> ?_);refine St.cast (H':=[aF (sl cY g.rv.1 g.rules),aF (aI cK g.rules),aF (sl eF g.xv.1 g.aN),aF (aI eB g.aN),aF (aG g.start),aF (sl ay w1.1 (cn T)),aF (sl ay w2.1 (cr T)),aF (tz)]) rfl ?_
 have Bw:g.rules.length≤40:=Bw
 have qC:=Bl T
 have DX:∀(i:Nat) (r:dC),g.rules[i]?=some r→(1≤r.kids∧r.kids≤3)∧dP T.length nf (ar r.graph)∧r.graph.nodes.length≤60:=λi r h=>by have h1:=ZM r (ab h);exact h1
 have NO:∀(i:Nat) (x:fN),g.aN[i]?=some x→dP T.length nf (ar x.graph)∧x.graph.nodes.length≤60:=λi x h=>Zp x (ab h)
 refine g2 ?_;refine St.cz (.mk rfl) rfl (λb2=> ?_);refine St.cz (.mk rfl) rfl (λb3=> ?_);refine St.al (λb4=> ?_);refine g10 ?_;refine St.ee (Ev.build (bF.bH rfl rfl) (λw=>Hh rfl rfl w)) ?_;refine St.slot 33 (.agg #[iv (g.rules.length:Nat),iv (g.aN.length:Nat),(.slice none 0 0),(.slice none 0 0),(.slice none 0 0),(.slice none 0 0)]) rfl rfl ?_;refine St.al (λb5=> ?_);refine g18 ?_;refine St.dc 30 1 ?_;refine St.aO (.slice none 0 0) (show _=([]:List cU).length from rfl) (show _=rows iW []from rfl) ?_;refine St.e8 aG ?_;refine St.lH (ι:=Nat×aY×List cU) (λ⟨i,v,M⟩ T=>(37,iv i)::(6,v.1)::T) (λ⟨i,v,M⟩=>(row v.1 30 1 (M).length (rows iW (M))::aF (aI aG (M))::aX b2 (.cells (lh g).toArray 32 (0,0))::aX b3 (.cells [w1.1,w2.1].toArray 100 (0,0))::aX b4 (.cells [iv 0,iv 0,(.slice none 0 0),(.slice none 0 0),(.slice none 0 0),(.slice none 0 0)].toArray 174 (0,0))::aX b5 (.cells [iv (g.rules.length:Nat),iv (g.aN.length:Nat),bK.1,bK.1,bK.1,bK.1].toArray 174 (0,0))::aF (sl cY g.rv.1 g.rules)::aF (aI cK g.rules)::aF (sl eF g.xv.1 g.aN)::aF (aI eB g.aN)::aF (aG g.start)::aF (sl ay w1.1 (cn T))::aF (sl ay w2.1 (cr T))::aF tz::[])) (λ⟨i,v,M⟩=>i≤g.rules.length∧M.map ar=(g.rules.take i).map (λr=>lF (ar r.graph))∧(∀y∈M,dP T.length nf (ar y)∧y.nodes.length≤60)) (λ⟨i,v,M⟩=>g.rules.length-i) ⟨0,bK,[]⟩ (aC.cons 2 rfl (aC.cons 3 rfl (aC.cons 4 rfl (aC.cons 5 rfl (aC.cons 35 rfl (aC.cons 36 rfl aC.nil)))))) ⟨aR _,rfl,λ_ h=>by cases h⟩ ?_;rintro ⟨i,v,M⟩ ⟨hi,hM,XK⟩
 dsimp only at hi hM XK⊢
 have hMl:M.length=i:=by have:=congrArg List.length hM;rw[aQ,aQ,e9]at this;omega
 refine g6 ?_;refine St.cq (λHu=> ?_) (λHu=> ?_)
 ·obtain⟨r,hr⟩:=aE (show i<g.rules.length by omega)
  obtain⟨hk,uC,kI⟩:=DX i r hr
  have Zh:=fG uC gl
  refine St.cL cK g.rules (x:=r) (ab hr) ?_;refine St.eT (aG r.graph) [cK r] (λρ h=>h (cK r) (aU ..) (aG r.graph) (aU ..)) ?_;refine g7 ?_;refine St.ee (Ev.jj (.mk rfl) hr sg trivial l7 iY.eq) ?_;refine St.al (λb8=> ?_);refine St.sA (.mk rfl) (.mk rfl) l7 ?_ (h1:=(eO.2 λu hu=>cY.one r u hu));refine g5 ?_;refine St.ee (Ev.gh 1 (.mk rfl) mO trivial jb rfl rfl) ?_;refine St.slot 43 (au r.graph) rfl rfl ?_;refine St.fE (qK r.graph T.length nf gl uC (by omega) (Gs r (ab hr) 0 (by omega) (by omega))) Om (.bB rfl) rfl ?_;rintro v44 _ rfl;refine St.fk ?_;refine St.cF (lF (ar r.graph)) v44 (λmy hm=> ?_);obtain⟨rfl,XI⟩:=hm;obtain⟨m1,m2⟩:=qH uC (by rw[cP];exact kI);rw[←XI]at m1 m2;rw[cP]at m2;refine St.gb rfl (.bB rfl) BL jb Tf rfl rfl (by intro u hu;simp only[List.mem_cons,List.not_mem_nil,or_false]at hu;subst hu;rfl) rfl rfl (λb45=> ?_);refine St.aj (.mk rfl) (.mk rfl) BL jb Tf adH (by intro u hu;have zz:u∈[my.nv.1]:=hu;rw[bJ.1 zz];exact my.nv.2) (by omega) (by omega) rfl rfl rfl rfl (λv46 amS=> ?_);refine St.aO v46 (show _=(M++ [my]).length from cV) (show _=rows iW (M++ [my]) by rw[aw];rfl) ?_;refine St.bS v46 (λh46 _=> ?_);refine St.eT (aI aG (M++ [my])) [aI aG M,aG my] (λρ h x hx=>by rcases ba.1 hx with hx|hx;exact h _ (aU ..) x hx;rw[bJ.1 hx];exact h _ (cE _ (aU ..))) ?_;refine g9 ?_;refine St.aH ⟨i+1,⟨v46,h46⟩,M++ [my]⟩ ⟨by omega,by rw[cC,hM,ai hr,cC];show _++ [ar my]=_++ [lF (ar r.graph)];rw[XI],λy hy=>by rcases ba.1 hy with hy|hy;exact XK y hy;rw[bJ.1 hy];exact⟨m1,m2⟩⟩
 ·obtain rfl:i=g.rules.length:=by omega
  rw[jy]at hM;refine g15 ?_;refine St.lH (ι:=Nat×aY×List cU) (λ⟨i,v,M⟩ T=>(51,iv i)::(6,v.1)::T) (λ⟨i,v,M⟩=>(row v.1 30 1 (M).length (rows iW (M))::aF (aI aG (M))::aX b2 (.cells (lh g).toArray 32 (0,0))::aX b3 (.cells [w1.1,w2.1].toArray 100 (0,0))::aX b4 (.cells [iv 0,iv 0,(.slice none 0 0),(.slice none 0 0),(.slice none 0 0),(.slice none 0 0)].toArray 174 (0,0))::aX b5 (.cells [iv (g.rules.length:Nat),iv (g.aN.length:Nat),bK.1,bK.1,bK.1,bK.1].toArray 174 (0,0))::aF (sl cY g.rv.1 g.rules)::aF (aI cK g.rules)::aF (sl eF g.xv.1 g.aN)::aF (aI eB g.aN)::aF (aG g.start)::aF (sl ay w1.1 (cn T))::aF (sl ay w2.1 (cr T))::aF tz::[])) (λ⟨i,v,M⟩=>i≤g.aN.length∧M.map ar=g.rules.map (λr=>lF (ar r.graph))++(g.aN.take i).map (λx=>ar x.graph)∧(∀y∈M,dP T.length nf (ar y)∧y.nodes.length≤60)) (λ⟨i,v,M⟩=>g.aN.length-i) ⟨0,v,M⟩ (aC.cons 2 rfl (aC.cons 3 rfl (aC.cons 4 rfl (aC.cons 5 rfl (aC.cons 49 rfl (aC.cons 50 rfl aC.nil)))))) ⟨aR _,by rw[hM,List.take_zero,lV,fj],XK⟩ ?_;rintro ⟨i,v,M⟩ ⟨hi,hM,XK⟩
  dsimp only at hi hM XK⊢
  have hMl:M.length=g.rules.length+i:=by have:=congrArg List.length hM;rw[aQ,bA,aQ,aQ,e9]at this;omega
  refine g6 ?_;refine St.cq (λSH=> ?_) (λSH=> ?_)
  ·obtain⟨x,hx⟩:=aE (show i<g.aN.length by omega)
   obtain⟨uC,kI⟩:=NO i x hx;refine St.cL eB g.aN (x:=x) (ab hx) ?_;refine St.eT (aG x.graph) [eB x] (λρ h=>h (eB x) (aU ..) (aG x.graph) (aU ..)) ?_;refine g7 ?_;refine St.ee (Ev.jj (.mk rfl) hx yE trivial pq iY.eq) ?_;refine St.al (λX2=> ?_);refine St.sA (.mk rfl) (.mk rfl) pq ?_ (h1:=(eO.2 λu hu=>eF.one x u hu));refine g5 ?_;refine St.ee (Ev.gh 1 (.mk rfl) mO trivial jb rfl rfl) ?_;refine St.slot 57 (au x.graph) rfl rfl ?_;refine St.gb rfl (.bB rfl) BL jb Tf rfl rfl (by intro u hu;simp only[List.mem_cons,List.not_mem_nil,or_false]at hu;subst hu;rfl) rfl rfl (λb58=> ?_);refine St.aj (.mk rfl) (.mk rfl) BL jb Tf adH (by intro u hu;have zz:u∈[x.graph.nv.1]:=hu;rw[bJ.1 zz];exact x.graph.nv.2) (by omega) (by omega) rfl rfl rfl rfl (λv59 amT=> ?_);refine St.aO v59 (show _=(M++ [x.graph]).length from cV) (show _=rows iW (M++ [x.graph]) by rw[aw];rfl) ?_;refine St.bS v59 (λTy _=> ?_);refine St.eT (aI aG (M++ [x.graph])) [aI aG M,aG x.graph] (λρ h x hx=>by rcases ba.1 hx with hx|hx;exact h _ (aU ..) x hx;rw[bJ.1 hx];exact h _ (cE _ (aU ..))) ?_;refine g9 ?_;refine St.aH ⟨i+1,⟨v59,Ty⟩,M++ [x.graph]⟩ ⟨by omega,by rw[cC,hM,ai hx,cC,cg];rfl,λy hy=>by rcases ba.1 hy with hy|hy;exact XK y hy;rw[bJ.1 hy];exact⟨uC,kI⟩⟩
  ·obtain rfl:i=g.aN.length:=by omega
   rw[jy]at hM
   have hMg:M.map ar=IQ (gG g):=by rw[hM];unfold IQ gG;simp only[List.map_map];rfl
   obtain⟨⟨mv,hmv⟩,wU⟩:∃z,z=v:=⟨v,rfl⟩
   subst wU;refine St.bZ mv iW M rfl rfl (λ_ _=>trivial) ?_;refine St.Bp b3 ?_;refine g7 ?_;refine St.ee (Ev.func (.bB rfl)) ?_;refine g13 ?_;refine St.dc 3 1 ?_;refine St.aO (.slice none 0 0) (show _=([]:List Int).length from rfl) (show _=rows aL []from rfl) ?_;refine St.dc 234 3 ?_;refine St.aO (.slice none 0 0) (show _=([]:List qw).length from rfl) (show _=rows sC []from rfl) ?_;refine St.e8 nM ?_;refine St.lH (ι:=Nat×aY×List Int×aY×List qw) (λ⟨i,kv,KL,av,AL⟩ T=>(65,iv i)::T) (λ⟨i,kv,KL,av,AL⟩=>(row kv.1 3 1 (KL).length (rows aL (KL))::row av.1 234 3 (AL).length (rows sC (AL))::aF (aI nM AL)::aX b5 (.cells [iv (g.rules.length:Nat),iv (g.aN.length:Nat),kv.1,av.1,bK.1,bK.1].toArray 174 (0,0))::aF (sl cY g.rv.1 g.rules)::aF (aI cK g.rules)::aF (sl eF g.xv.1 g.aN)::aF (aI eB g.aN)::aF (aG g.start)::aF (sl ay w1.1 (cn T))::aF (sl ay w2.1 (cr T))::aF tz::aX b2 (.cells (lh g).toArray 32 (0,0))::aX b4 (.cells [iv 0,iv 0,(.slice none 0 0),(.slice none 0 0),(.slice none 0 0),(.slice none 0 0)].toArray 174 (0,0))::aF (fO b3 [w1.1,w2.1])::aF (sl iW mv M)::aF (aI aG M)::[])) (λ⟨i,kv,KL,av,AL⟩=>i≤g.rules.length∧KL=(g.rules.take i).map (·.kids)∧AL.length=i∧∀(k:Nat) (x:qw) (r:dC),AL[k]?=some x→g.rules[k]?=some r→∀j,j<3→(x.at_ j).2=Ah (fg T) (mi r) (M.map ar) (j)) (λ⟨i,kv,KL,av,AL⟩=>g.rules.length-i) ⟨0,bK,[],bK,[]⟩ (aC.cons 2 rfl (aC.cons 4 rfl (aC.cons 5 rfl (aC.cons 6 rfl (aC.cons 11 rfl (aC.cons 63 rfl (aC.cons 64 rfl aC.nil))))))) ⟨aR _,rfl,rfl,λ_ _ _ h=>by cases h⟩ ?_;rintro ⟨i,kv,KL,av,AL⟩ ⟨hi,hKL,hAl,hAL⟩
   dsimp only at hi hKL hAl hAL⊢
   have hKl:KL.length=i:=by rw[hKL,aQ,e9];omega
   refine g6 ?_;refine St.cq (λh66=> ?_) (λh66=> ?_)
   ·obtain⟨r,hr⟩:=aE (show i<g.rules.length by omega)
    obtain⟨hk,uC,kI⟩:=DX i r hr
    have Zh:=fG uC gl
    refine St.cL cK g.rules (x:=r) (ab hr) ?_;refine St.eT (aG r.graph) [cK r] (λρ h=>h (cK r) (aU ..) (aG r.graph) (aU ..)) ?_;refine g7 ?_;refine St.ee (Ev.jj (.mk rfl) hr sg trivial l7 iY.eq) ?_;refine St.al (λQA=> ?_);refine St.sA (.mk rfl) (.mk rfl) l7 ?_ (h1:=(eO.2 λu hu=>cY.one r u hu));refine g4 ?_;refine St.al (λGl=> ?_);refine St.rI Gl ([DZ,DZ,DZ].map λp:aY×List Bool=>p.1.1) rfl ?_;refine St.dc 4 1 ?_;refine St.dc 4 1 ?_;refine St.dc 4 1 ?_;refine St.mB [row (.slice none 0 0) 4 1 0 [],row (.slice none 0 0) 4 1 0 [],row (.slice none 0 0) 4 1 0 []] [] (ax (bG 4) ([DZ,DZ,DZ])) (List.Perm.refl _) ?_;refine g11 ?_;refine St.lH (ι:=Nat×List (aY×List Bool)) (λ⟨k,Q⟩ T=>(71,iv k)::T) (λ⟨k,Q⟩=>(aX Gl (.cells ((Q).map λp=>p.1.1).toArray 234 (0,0))::aX QA (.cells (xx r).toArray 110 (0,0))::row kv.1 3 1 (KL).length (rows aL (KL))::row av.1 234 3 (AL).length (rows sC (AL))::aF (aI nM AL)::aX b5 (.cells [iv (g.rules.length:Nat),iv (g.aN.length:Nat),kv.1,av.1,bK.1,bK.1].toArray 174 (0,0))::aF (aG r.graph)::aF (sl cY g.rv.1 g.rules)::aF (aI cK g.rules)::aF (sl eF g.xv.1 g.aN)::aF (aI eB g.aN)::aF (aG g.start)::aF (sl ay w1.1 (cn T))::aF (sl ay w2.1 (cr T))::aF tz::aX b2 (.cells (lh g).toArray 32 (0,0))::aX b4 (.cells [iv 0,iv 0,(.slice none 0 0),(.slice none 0 0),(.slice none 0 0),(.slice none 0 0)].toArray 174 (0,0))::aF (fO b3 [w1.1,w2.1])::aF (sl iW mv M)::aF (aI aG M)::ax (bG 4) (Q))) (λ⟨k,Q⟩=>(k:Int)≤r.kids∧Q.length=3∧∀j,j<3→(Q.getD j DZ).2=if j<k then Ah (fg T) (mi r) (M.map ar) (j)else []) (λ⟨k,Q⟩=>3-k) ⟨0,[DZ,DZ,DZ]⟩ (aC.cons 2 rfl (aC.cons 4 rfl (aC.cons 5 rfl (aC.cons 6 rfl (aC.cons 11 rfl (aC.cons 13 rfl (aC.cons 14 rfl (aC.cons 63 rfl (aC.cons 64 rfl (aC.cons 65 rfl (aC.cons 70 rfl aC.nil))))))))))) ⟨by omega,rfl,λj hj=>by rw[aA (Nat.not_lt_zero _)];rcases j with _|_|_|j;rfl;rfl;rfl;omega⟩ ?_;rintro ⟨k,Q⟩ ⟨Wn,X0,hQ⟩
    dsimp only at Wn X0 hQ⊢
    refine g6 ?_;refine St.cq (λGn=> ?_) (λGn=> ?_)
    ·obtain⟨nd,rO⟩:∃nd:Nat,nd=(qp (ar r.graph) ((k:Int)+1)).toNat:=⟨_,rfl⟩
     have amU:=Gs r (ab hr) ((k:Int)+1) (by omega) (by omega)
     have aj5:=yt uC ((k:Int)+1)
     rw[←rO,cP]at aj5
     have hLk:Ah (fg T) (mi r) (M.map ar) (k)=M.map (λy:cU=>(cm (fg T) (ar r.graph) nd (ar y)).isSome):=by unfold Ah;rw[aB (show(k:Int)<(mi r).kids from Gn),kh,show(mi r).graph=ar r.graph from rfl,←rO];rfl
     refine g13 ?_;refine St.ee (Ev.gh 1 (.mk rfl) mO trivial jb rfl rfl) ?_;refine St.slot 75 (au r.graph) rfl rfl ?_;refine g2 ?_;refine St.slot 77 (iv ((k:Int)+1)) rfl rfl ?_;refine St.ee (Ev.call (n5 r.graph 0 ((k:Int)+1) (by have:=uC.pos;rw[cP]at this;omega) (λn hn=>⟨(Zh n hn).1,by have:=(Zh n hn).2;omega⟩)) Jv (.eZ rfl rfl rfl)) ?_;refine St.slot 78 (iv (nd:Nat)) rfl (congrArg iv (by rw[zD];omega)) ?_;refine g11 ?_;refine St.lH (ι:=Nat×List (aY×List Bool)) (λ⟨m,Q⟩ T=>(81,iv m)::T) (λ⟨m,Q⟩=>(aX Gl (.cells ((Q).map λp=>p.1.1).toArray 234 (0,0))::aX QA (.cells (xx r).toArray 110 (0,0))::row kv.1 3 1 (KL).length (rows aL (KL))::row av.1 234 3 (AL).length (rows sC (AL))::aF (aI nM AL)::aX b5 (.cells [iv (g.rules.length:Nat),iv (g.aN.length:Nat),kv.1,av.1,bK.1,bK.1].toArray 174 (0,0))::aF (aG r.graph)::aF (sl cY g.rv.1 g.rules)::aF (aI cK g.rules)::aF (sl eF g.xv.1 g.aN)::aF (aI eB g.aN)::aF (aG g.start)::aF (sl ay w1.1 (cn T))::aF (sl ay w2.1 (cr T))::aF tz::aX b2 (.cells (lh g).toArray 32 (0,0))::aX b4 (.cells [iv 0,iv 0,(.slice none 0 0),(.slice none 0 0),(.slice none 0 0),(.slice none 0 0)].toArray 174 (0,0))::aF (fO b3 [w1.1,w2.1])::aF (sl iW mv M)::aF (aI aG M)::ax (bG 4) (Q))) (λ⟨m,Q⟩=>m≤M.length∧Q.length=3∧∀j,j<3→(Q.getD j DZ).2=if j<k then Ah (fg T) (mi r) (M.map ar) (j)else if j=k then(M.take m).map (λy:cU=>(cm (fg T) (ar r.graph) nd (ar y)).isSome)else []) (λ⟨m,Q⟩=>M.length-m) ⟨0,Q⟩ (aC.cons 2 rfl (aC.cons 4 rfl (aC.cons 5 rfl (aC.cons 6 rfl (aC.cons 11 rfl (aC.cons 13 rfl (aC.cons 14 rfl (aC.cons 15 rfl (aC.cons 16 rfl (aC.cons 63 rfl (aC.cons 64 rfl (aC.cons 65 rfl (aC.cons 70 rfl (aC.cons 71 rfl (aC.cons 79 rfl (aC.cons 80 rfl aC.nil)))))))))))))))) ⟨aR _,X0,λj hj=>by rw[hQ j hj];split;rfl;split;rfl;rfl⟩ ?_;rintro ⟨m,Q⟩ ⟨hm,X0,hQ⟩
     dsimp only at hm X0 hQ⊢
     refine g6 ?_;refine St.cq (λSQ=> ?_) (λSQ=> ?_)
     ·obtain⟨y,hy⟩:=aE (show m<M.length by omega)
      obtain⟨hgy,SU⟩:=XK y (ab hy);obtain⟨q,hq⟩:=aE (show k<Q.length by omega)
      have hqd:Q.getD k DZ=q:=by rw[ak,hq];rfl
      have wR:q.2=(M.take m).map (λy:cU=>(cm (fg T) (ar r.graph) nd (ar y)).isSome):=by rw[←hqd,hQ k (by omega),aA (Nat.lt_irrefl _),aB rfl]
      have afV:q.2.length=m:=by rw[wR,aQ,e9];omega
      refine St.eT (aG y) [aI aG M] (λρ h=>h _ (aU ..) y (ab hy)) ?_;refine g7 ?_;refine St.ee (Ev.jj (.mk rfl) hy mO trivial jb iY.eq) ?_;refine St.al (λb18=> ?_);refine St.sA (.mk rfl) (.mk rfl) jb ?_ (h1:=(by simp only[iW,List.all_cons,List.all_nil,Bool.and_true];exact y.nv.2));refine g2 ?_;refine St.tail (ax (bG 4) (Q)) (row q.1.1 4 1 (q.2).length (rows da (q.2))::ax (bG 4) (Q.eraseIdx k)) (mq _ hq) ?_;refine St.cx (aX Gl (.cells ((Q).map λp=>p.1.1).toArray 234 (0,0))::row q.1.1 4 1 (q.2).length (rows da (q.2))::ax (bG 4) (Q.eraseIdx k)) mixed (λnp ns=> ?_);refine SW.gd 0 ?_;refine SW.gd 1 ?_;refine SW.dd 2 rfl (λ_=>Ev.HF (k:=k) (.mk rfl) (.mk rfl) yH px rfl (by omega)) ?_;refine SW.gd 4 ?_;refine SW.gd 5 ?_;refine SW.dd 6 rfl (λ_=>Ev.gh 1 (.mk rfl) mO trivial jb rfl rfl) ?_;refine SW.slot 91 (au r.graph) rfl rfl ?_;refine SW.gd 7 ?_;refine SW.gd 8 ?_;refine SW.slot 93 (au y) rfl rfl ?_;refine SW.dd 9 rfl (λ_=>Ev.j5 (zX b3 w1 w2 T hT nf gl r.graph y uC hgy kI SU nd (by omega)) Wj (.mk rfl) (.eZ rfl rfl rfl)) ?_;refine SW.t2 3 10 ?_ ?_
      focus
       refine St.ee (Ev.kU (.mk rfl) j9 trivial (show(Q.map λp=>p.1.1)[k]?=some q.1.1 by rw[bE,hq];rfl)) ?_;refine g2 ?_;refine SW.go ?_;refine SW.t1 10 ?_;refine St.gb rfl (.bB rfl) j9 BN SD rfl rfl (by simp[Value.cells]) rfl rfl (λb95=> ?_);refine g2 ?_;refine SW.go ?_;refine SW.t1 11 ?_;refine St.aj (.mk rfl) (.mk rfl) j9 BN SD by4 (by simp[Value.oneCell',Value.cells]) (by omega) (by omega) rfl rfl rfl rfl (λRJ aj6=> ?_);refine St.aO RJ (show _=(q.2++ [(cm (fg T) (ar r.graph) nd (ar y)).isSome]).length from cV) (show _=rows da (q.2++ [(cm (fg T) (ar r.graph) nd (ar y)).isSome]) by rw[aw];rfl) ?_;refine St.bS RJ (λVD _=> ?_);refine g2 ?_;refine SW.go ?_;refine SW.dd 12 rfl (λ_=>Ev.HF (k:=k) (.mk rfl) (.mk rfl) yH px rfl (by omega)) ?_;refine SW.t1 13 ?_;refine St.JX ((Q.set k (⟨RJ,VD⟩,q.2++ [(cm (fg T) (ar r.graph) nd (ar y)).isSome])).map λp=>p.1.1) (.mk rfl) (.mk rfl) (by rw[ia]) px VD (by rw[aQ];omega) ?_;refine g2 ?_;refine SW.go ?_;refine SW.dn ?_
      rotate_left
      focus
       refine St.gb rfl (.bB rfl) j9 BN SD rfl rfl (by simp[Value.cells]) rfl rfl (λb95=> ?_);refine g2 ?_;refine SW.go ?_;refine SW.t1 3 ?_;refine St.ee (Ev.kU (.mk rfl) j9 trivial (show(Q.map λp=>p.1.1)[k]?=some q.1.1 by rw[bE,hq];rfl)) ?_;refine g2 ?_;refine SW.go ?_;refine SW.t1 11 ?_;refine St.aj (.mk rfl) (.mk rfl) j9 BN SD by4 (by simp[Value.oneCell',Value.cells]) (by omega) (by omega) rfl rfl rfl rfl (λRJ aj6=> ?_);refine St.aO RJ (show _=(q.2++ [(cm (fg T) (ar r.graph) nd (ar y)).isSome]).length from cV) (show _=rows da (q.2++ [(cm (fg T) (ar r.graph) nd (ar y)).isSome]) by rw[aw];rfl) ?_;refine St.bS RJ (λVD _=> ?_);refine g2 ?_;refine SW.go ?_;refine SW.dd 12 rfl (λ_=>Ev.HF (k:=k) (.mk rfl) (.mk rfl) yH px rfl (by omega)) ?_;refine SW.t1 13 ?_;refine St.JX ((Q.set k (⟨RJ,VD⟩,q.2++ [(cm (fg T) (ar r.graph) nd (ar y)).isSome])).map λp=>p.1.1) (.mk rfl) (.mk rfl) (by rw[ia]) px VD (by rw[aQ];omega) ?_;refine g2 ?_;refine SW.go ?_;refine SW.dn ?_
      all_goals
       refine g7 ?_;refine St.mB [row (⟨RJ,VD⟩:aY).1 4 1 (q.2++ [(cm (fg T) (ar r.graph) nd (ar y)).isSome]).length (rows da (q.2++ [(cm (fg T) (ar r.graph) nd (ar y)).isSome]))] (ax (bG 4) (Q.eraseIdx k)) (ax (bG 4) (Q.set k (⟨RJ,VD⟩,q.2++ [(cm (fg T) (ar r.graph) nd (ar y)).isSome]))) (rp (bG 4) (⟨RJ,VD⟩,q.2++ [(cm (fg T) (ar r.graph) nd (ar y)).isSome]) (by omega)) ?_;refine St.aH ⟨m+1,Q.set k (⟨RJ,VD⟩,q.2++ [(cm (fg T) (ar r.graph) nd (ar y)).isSome])⟩ ⟨by omega,by rw[cG];exact X0,λj hj=>by rw[ak];by_cases h2:j=k;subst h2;rw[eP (by omega),aA (Nat.lt_irrefl _),aB rfl,ai hy,cC];show q.2++_=_;rw[wR];rfl;rw[gX (λh=>h2 h.symm),←ak,hQ j hj,aA h2,aA h2]⟩
     ·obtain rfl:m=M.length:=by omega
      rw[jy]at hQ;refine g11 ?_;refine St.aH ⟨k+1,Q⟩ ⟨by push_cast;omega,X0,λj hj=>by rw[hQ j hj];by_cases h1:j<k;rw[aB h1,aB (by omega)];rw[aA h1];by_cases h2:j=k;subst h2;rw[aB rfl,aB (by omega),hLk];rw[aA h2,aA (by omega)]⟩
    ·have hkr:r.kids=(k:Int):=by omega
     refine g11 ?_;refine St.gb rfl (.bB rfl) cI eJ jA rfl rfl (by simp[Value.cells]) rfl rfl (λamV=> ?_);refine St.aj (.mk rfl) (.mk rfl) cI eJ jA wO (by simp[Value.oneCell',Value.cells]) (by omega) (by omega) rfl rfl rfl rfl (λv105 ak9=> ?_);refine St.aO v105 (show _=(KL++ [r.kids]).length from cV) (show _=rows aL (KL++ [r.kids]) by rw[aw];rfl) ?_;refine St.bS v105 (λV7 _=> ?_);refine go ?_;refine St.cO (.mk rfl) (.mk rfl) kY V7 (by rfl) ?_;refine g2 ?_
     obtain⟨q0,q1,q2,rfl⟩:∃q0 q1 q2,Q=[q0,q1,q2]:=by match Q,X0 with| [a,b,c2],_=>exact⟨a,b,c2,rfl⟩
     refine g4 ?_;refine St.slot 109 (.agg #[q0.1.1,q1.1.1,q2.1.1]) rfl rfl ?_;refine St.gb rfl (.bB rfl) Tryz.underlying170 Jy Wk rfl rfl (by intro u hu;simp only[List.mem_cons,List.not_mem_nil,or_false]at hu;subst hu;rfl) rfl rfl (λamW=> ?_);refine St.aj (.mk rfl) (.mk rfl) Tryz.underlying170 Jy Wk adI (by intro u hu;have zz:u∈[q0.1.1,q1.1.1,q2.1.1]:=hu;simp only[List.mem_cons,List.not_mem_nil,or_false]at zz;rcases zz with rfl|rfl|rfl;exact q0.1.2;exact q1.1.2;exact q2.1.2) (by omega) (by omega) rfl rfl rfl rfl (λVE alA=> ?_);refine St.aO VE (show _=(AL++ [zW [q0,q1,q2]]).length from cV) (show _=rows sC (AL++ [zW [q0,q1,q2]]) by rw[aw];rfl) ?_;refine St.bS VE (λaf4 _=> ?_);refine St.Tl (f:=bG 4) bD [q0,q1,q2] (λa H w h=>Zo 4 a H w h) ?_;refine St.eT (nM (zW [q0,q1,q2])) [aI bD [q0,q1,q2]] (λρ h=>by have h0:=h _ (aU ..);intro e he;rcases cD.1 he with rfl|he;exact h0 q0 (by simp);rcases cD.1 he with rfl|he;exact h0 q1 (by simp);rcases cD.1 he with rfl|he;exact h0 q2 (by simp);cases he) ?_;refine St.eT (aI nM (AL++ [zW [q0,q1,q2]])) [aI nM AL,nM (zW [q0,q1,q2])] (λρ h x hx=>by rcases ba.1 hx with hx|hx;exact h _ (aU ..) x hx;rw[bJ.1 hx];exact h _ (cE _ (aU ..))) ?_;refine go ?_;refine St.cO (.mk rfl) (.mk rfl) adJ af4 (by rfl) ?_;refine g8 ?_;refine St.aH ⟨i+1,⟨v105,V7⟩,KL++ [r.kids],⟨VE,af4⟩,AL++ [zW [q0,q1,q2]]⟩ ⟨by omega,by rw[hKL,ai hr,cC];rfl,by rw[bA,hAl];rfl,λk2 x r2 hx sU j hj=>by rcases Nat.lt_trichotomy k2 i with h1|h1|h1;exact hAL k2 x r2 (by rw[pd (by omega)]at hx;exact hx) sU j hj;subst h1;rw[mW (by omega),hAl,fJ]at hx;obtain rfl:=Option.some.inj hx;rw[hr]at sU;obtain rfl:=Option.some.inj sU;rw[RH _ hj,hQ j hj];split;rfl;(unfold Ah;rw[aA (show ¬(j:Int)<(mi r).kids from by show ¬(j:Int)<r.kids;omega)]);rw[fY (by rw[bA,hAl];simp only[List.length_cons,List.length_nil];omega)]at hx;cases hx⟩
   ·obtain rfl:i=g.rules.length:=by omega
    rw[jy]at hKL
    obtain⟨⟨oH,uD⟩,wU⟩:∃z,z=kv:=⟨kv,rfl⟩
    subst wU
    obtain⟨⟨Gx,Sc⟩,hv3⟩:∃z,z=av:=⟨av,rfl⟩
    subst hv3;refine St.bZ oH aL KL rfl rfl (λz hz=>by rw[hKL]at hz;obtain⟨r,hr,rfl⟩:=ct.1 hz;have:=(ZM r hr).1;show bP r.kids;unfold bP;omega) ?_;refine St.bZ Gx sC AL rfl rfl (λ_ _=>trivial) ?_
    have XL:∀s2 f2:aY,wC ⟨g.rules.length,g.aN.length,⟨oH,uD⟩,⟨Gx,Sc⟩,s2,f2,KL,AL⟩ (gG g) (fg T):=λs2 f2=>⟨(aQ _).symm,(aQ _).symm,by show KL=(g.rules.map mi).map _;rw[hKL,kh];rfl,by show AL.length=(g.rules.map mi).length;rw[hAl,aQ],λk x rr hx Fe j hj=>by have Fe:(g.rules.map mi)[k]?=some rr:=Fe;rw[bE]at Fe;obtain⟨r,hr,rfl⟩:=dG.1 Fe;rw[hAL k x r hx hr j hj,hMg]⟩
    refine g14 ?_;refine St.dc 4 1 ?_;refine St.aO (.slice none 0 0) (show _=([]:List Bool).length from rfl) (show _=rows da []from rfl) ?_;refine St.lH (ι:=Nat×aY×List Bool) (λ⟨m,sv,SL⟩ T=>(116,iv m)::T) (λ⟨m,sv,SL⟩=>(row sv.1 4 1 (SL).length (rows da (SL))::aX b5 (.cells [iv (g.rules.length:Nat),iv (g.aN.length:Nat),(⟨oH,uD⟩:aY).1,(⟨Gx,Sc⟩:aY).1,sv.1,bK.1].toArray 174 (0,0))::aF (sl aL oH KL)::aF (sl sC Gx AL)::aF (aI nM AL)::aF (sl cY g.rv.1 g.rules)::aF (aI cK g.rules)::aF (sl eF g.xv.1 g.aN)::aF (aI eB g.aN)::aF (aG g.start)::aF (sl ay w1.1 (cn T))::aF (sl ay w2.1 (cr T))::aF tz::aX b2 (.cells (lh g).toArray 32 (0,0))::aX b4 (.cells [iv 0,iv 0,(.slice none 0 0),(.slice none 0 0),(.slice none 0 0),(.slice none 0 0)].toArray 174 (0,0))::aF (fO b3 [w1.1,w2.1])::aF (sl iW mv M)::aF (aI aG M)::[])) (λ⟨m,sv,SL⟩=>m≤M.length∧SL.length=m) (λ⟨m,sv,SL⟩=>M.length-m) ⟨0,bK,[]⟩ (aC.cons 2 rfl (aC.cons 4 rfl (aC.cons 5 rfl (aC.cons 6 rfl (aC.cons 11 rfl (aC.cons 114 rfl (aC.cons 115 rfl aC.nil))))))) ⟨aR _,rfl⟩ ?_;rintro ⟨m,sv,SL⟩ ⟨hm,hSl⟩
    dsimp only at hm hSl⊢
    refine g6 ?_;refine St.cq (λPr=> ?_) (λPr=> ?_)
    ·obtain⟨y,hy⟩:=aE (show m<M.length by omega)
     obtain⟨hgy,SU⟩:=XK y (ab hy);refine St.eT (aG y) [aI aG M] (λρ h=>h _ (aU ..) y (ab hy)) ?_;refine g7 ?_;refine St.ee (Ev.jj (.mk rfl) hy mO trivial jb iY.eq) ?_;refine St.al (λYi=> ?_);refine St.sA (.mk rfl) (.mk rfl) jb ?_ (h1:=(by simp only[iW,List.all_cons,List.all_nil,Bool.and_true];exact y.nv.2));refine g2 ?_;refine St.cx [row sv.1 4 1 (SL).length (rows da (SL)),aX b5 (.cells [iv (g.rules.length:Nat),iv (g.aN.length:Nat),(⟨oH,uD⟩:aY).1,(⟨Gx,Sc⟩:aY).1,sv.1,bK.1].toArray 174 (0,0))] mixed (λnp ns=> ?_);refine SW.gd 0 ?_;refine SW.gd 2 ?_;refine SW.gd 3 ?_;refine SW.dd 4 rfl (λ_=>Ev.gh 1 (.mk rfl) mO trivial jb rfl rfl) ?_;refine SW.slot 124 (au g.start) rfl rfl ?_;refine SW.gd 5 ?_;refine SW.slot 125 (au y) rfl rfl ?_;refine SW.dd 6 rfl (λ_=>Ev.j5 (zX b3 w1 w2 T hT nf gl g.start y ei.1 hgy ei.2 SU 0 (by have:=ei.1.pos;rw[cP]at this;exact this)) Wj (.mk rfl) (.eZ rfl rfl rfl)) ?_;refine SW.t2 1 7 ?_ ?_
     focus
      refine g3 ?_;refine SW.go ?_;refine SW.t1 7 ?_;refine St.gb rfl (.bB rfl) j9 BN SD rfl rfl (by simp[Value.cells]) rfl rfl (λaj7=> ?_);refine g2 ?_;refine SW.go ?_;refine SW.t1 8 ?_;refine St.aj (.mk rfl) (.mk rfl) j9 BN SD by4 (by simp[Value.oneCell',Value.cells]) (by omega) (by omega) rfl rfl rfl rfl (λMh af5=> ?_);refine St.aO Mh (show _=(SL++ [(cm (fg T) (ar g.start) 0 (ar y)).isSome]).length from cV) (show _=rows da (SL++ [(cm (fg T) (ar g.start) 0 (ar y)).isSome]) by rw[aw];rfl) ?_;refine St.bS Mh (λVF _=> ?_);refine g2 ?_;refine SW.go ?_;refine SW.gd 9 ?_;refine SW.t1 10 ?_;refine St.cO (.mk rfl) (.mk rfl) px VF (by rfl) ?_;refine g2 ?_;refine SW.go ?_;refine SW.dn ?_
     rotate_left
     focus
      refine St.gb rfl (.bB rfl) j9 BN SD rfl rfl (by simp[Value.cells]) rfl rfl (λaj7=> ?_);refine g2 ?_;refine SW.go ?_;refine SW.t1 1 ?_;refine g3 ?_;refine SW.go ?_;refine SW.t1 8 ?_;refine St.aj (.mk rfl) (.mk rfl) j9 BN SD by4 (by simp[Value.oneCell',Value.cells]) (by omega) (by omega) rfl rfl rfl rfl (λMh af5=> ?_);refine St.aO Mh (show _=(SL++ [(cm (fg T) (ar g.start) 0 (ar y)).isSome]).length from cV) (show _=rows da (SL++ [(cm (fg T) (ar g.start) 0 (ar y)).isSome]) by rw[aw];rfl) ?_;refine St.bS Mh (λVF _=> ?_);refine g2 ?_;refine SW.go ?_;refine SW.gd 9 ?_;refine SW.t1 10 ?_;refine St.cO (.mk rfl) (.mk rfl) px VF (by rfl) ?_;refine g2 ?_;refine SW.go ?_;refine SW.dn ?_
     all_goals
      refine g7 ?_;refine St.aH ⟨m+1,⟨Mh,VF⟩,SL++ [(cm (fg T) (ar g.start) 0 (ar y)).isSome]⟩ ⟨by omega,by rw[bA,hSl];rfl⟩
    ·obtain rfl:m=M.length:=by omega
     refine g15 ?_;refine St.dc 171 1 ?_;refine St.aO (.slice none 0 0) (show _=([]:List aY).length from rfl) (show _=rows cN []from rfl) ?_;refine St.lH (ι:=Nat×aY×List aY) (λ⟨i,fv,FL⟩ T=>(134,iv i)::T) (λ⟨i,fv,FL⟩=>(row fv.1 171 1 FL.length (rows cN FL)::aX b5 (.cells [iv (g.rules.length:Nat),iv (g.aN.length:Nat),(⟨oH,uD⟩:aY).1,(⟨Gx,Sc⟩:aY).1,sv.1,fv.1].toArray 174 (0,0))::aF (sl aL oH KL)::aF (sl sC Gx AL)::aF (aI nM AL)::aF (sl cY g.rv.1 g.rules)::aF (aI cK g.rules)::aF (sl eF g.xv.1 g.aN)::aF (aI eB g.aN)::aF (aG g.start)::aF (sl ay w1.1 (cn T))::aF (sl ay w2.1 (cr T))::aF tz::aX b2 (.cells (lh g).toArray 32 (0,0))::aX b4 (.cells [iv 0,iv 0,(.slice none 0 0),(.slice none 0 0),(.slice none 0 0),(.slice none 0 0)].toArray 174 (0,0))::aF (fO b3 [w1.1,w2.1])::aF (sl iW mv M)::aF (aI aG M)::[])) (λ⟨i,fv,FL⟩=>i≤g.rules.length∧FL.length=i) (λ⟨i,fv,FL⟩=>g.rules.length-i) ⟨0,bK,[]⟩ (aC.cons 4 rfl (aC.cons 5 rfl (aC.cons 6 rfl (aC.cons 133 rfl aC.nil)))) ⟨aR _,rfl⟩ ?_;rintro ⟨i,fv,FL⟩ ⟨hi,Pp⟩
     dsimp only at hi Pp⊢
     refine g6 ?_;refine St.cq (λaj8=> ?_) (λaj8=> ?_)
     ·refine g14 ?_
      refine St.pg (m:=M.length) (.mk rfl) (.mk rfl) j9 BN SD by4 rfl rfl (by omega) rfl rfl (λJA=> ?_);refine St.aO (.slice (some ⟨JA,0,none⟩) M.length M.length) (show _=(List.replicate M.length false).length by rw[jI]) (show _=rows da (List.replicate M.length false)from(xj (Rr:=da) rfl _).symm) ?_;refine g7 ?_;refine St.gb rfl (.bB rfl) cI eJ jA rfl rfl (by simp[Value.cells]) rfl rfl (λaf6=> ?_);refine St.aO (.slice (some ⟨af6,0,none⟩) 1 1) (show _=[i].length from rfl) (show _=rows aL (bC [i])from rfl) ?_;refine g4 ?_;refine St.lH (ι:=List Bool×aY×List Nat) (λ⟨sn,wv,W⟩ T=>(23,wv.1)::T) (λ⟨sn,wv,W⟩=>(row (.slice (some ⟨JA,0,none⟩) M.length M.length) 4 1 sn.length (rows da sn)::row wv.1 3 1 W.length (rows aL (bC W))::row fv.1 171 1 FL.length (rows cN FL)::aX b5 (.cells [iv (g.rules.length:Nat),iv (g.aN.length:Nat),(⟨oH,uD⟩:aY).1,(⟨Gx,Sc⟩:aY).1,sv.1,fv.1].toArray 174 (0,0))::aF (sl aL oH KL)::aF (sl sC Gx AL)::aF (aI nM AL)::aF (sl cY g.rv.1 g.rules)::aF (aI cK g.rules)::aF (sl eF g.xv.1 g.aN)::aF (aI eB g.aN)::aF (aG g.start)::aF (sl ay w1.1 (cn T))::aF (sl ay w2.1 (cr T))::aF tz::aX b2 (.cells (lh g).toArray 32 (0,0))::aX b4 (.cells [iv 0,iv 0,(.slice none 0 0),(.slice none 0 0),(.slice none 0 0),(.slice none 0 0)].toArray 174 (0,0))::aF (fO b3 [w1.1,w2.1])::aF (sl iW mv M)::aF (aI aG M)::[])) (λ⟨sn,wv,W⟩=>sn.length=M.length∧(∀z∈W,z<g.rules.length)∧DY sn+W.length≤M.length+1) (λ⟨sn,wv,W⟩=>DY sn+W.length) ⟨List.replicate M.length false,⟨.slice (some ⟨af6,0,none⟩) 1 1,rfl⟩,[i]⟩ (aC.cons 4 rfl (aC.cons 5 rfl (aC.cons 6 rfl (aC.cons 22 rfl (aC.cons 133 rfl (aC.cons 134 rfl aC.nil)))))) ⟨jI ..,λz hz=>by rw[bJ.1 hz];omega,by rw[RG];exact aW _⟩ ?_;rintro ⟨sn,wv,W⟩ ⟨Tx,hW,hb⟩
      dsimp only at Tx hW hb⊢
      refine g8 ?_;refine St.cq (λaf7=> ?_) (λaf7=> ?_)
      ·obtain⟨W0,at_,rfl⟩:∃W0 at_,W=W0++ [at_]:=⟨W.dropLast,W.getLast (by intro h;subst h;simp at af7),(List.dropLast_concat_getLast _).symm⟩
       have aj9:=hW at_ (by simp)
       have hWl:(W0++ [at_]).length=W0.length+1:=cV.symm
       obtain⟨xa,hxa⟩:=aE (show at_<AL.length by omega);obtain⟨ra,FT⟩:=aE aj9;obtain⟨hka,_,_⟩:=DX at_ ra FT
       have wI:(xa.at_ 0).2.length=M.length:=by rw[hAL at_ xa ra hxa FT 0 (by omega)];unfold Ah;rw[aB (show((0:Nat):Int)<(mi ra).kids from by show((0:Nat):Int)<ra.kids;omega),aQ,aQ]
       refine St.cL nM AL (x:=xa) (ab hxa) ?_;refine St.eT (sl da (xa.at_ 0).1.1 (xa.at_ 0).2) [nM xa] (λρ h=>KX xa 0 ρ (h _ (aU ..))) ?_;refine g8 ?_;refine St.slot 147 (iv ((W0.length+1:Nat):Int)) rfl (congrArg iv (by rw[hWl])) ?_;refine go ?_;refine St.slot 148 (iv (W0.length:Nat)) rfl (congrArg iv (by push_cast;omega)) ?_;refine St.ee (Ev.dT (k:=W0.length) (.mk rfl) (.mk rfl) cI eJ (by omega) (by omega)) ?_;refine St.ee (Ev.cB (.mk rfl) eN trivial (by omega) (fF (dD (show(W0++ [at_])[W0.length]?=some at_ by simp)))) ?_;refine g8 ?_;refine St.slot 153 (iv ((W0.length+1:Nat):Int)) rfl (congrArg iv (by rw[hWl])) ?_;refine go ?_;refine St.slot 154 (iv (W0.length:Nat)) rfl (congrArg iv (by push_cast;omega)) ?_;refine St.ee (Ev.oY (h:=W0.length) (.mk rfl) (.mk rfl) cI eJ (by omega) (by omega)) ?_;refine St.CP wv.1 W0.length (by omega) ?_;refine St.bS (pR wv.1 1 0 W0.length) (λakA _=> ?_);refine St.aO (pR wv.1 1 0 W0.length) rfl (show _=rows aL (bC W0) by rw[jD,←cR W0];exact tE aL _ _) ?_;refine g8 ?_;refine St.JV Gx (by omega) (λbs os cs qJ=> ?_);refine go ?_;refine St.ee (Ev.xE (j:=0) qJ (.mk rfl) (.mk rfl) yH px (by omega) (by omega)) ?_;refine St.ee (Ev.ld1 (.mk rfl) hxa j9 trivial (xa.cell (by omega))) ?_;refine g5 ?_
       obtain⟨B0,hB0⟩:∃B0,B0=DY sn+W0.length:=⟨_,rfl⟩
       have hB1:B0≤M.length:=by omega
       refine St.lH (ι:=Nat×List Bool×aY×List Nat) (λ⟨o,sn,wv,W⟩ T=>(163,iv o)::(23,wv.1)::T) (λ⟨o,sn,wv,W⟩=>(row (.slice (some ⟨JA,0,none⟩) M.length M.length) 4 1 sn.length (rows da sn)::row wv.1 3 1 W.length (rows aL (bC W))::row fv.1 171 1 FL.length (rows cN FL)::aX b5 (.cells [iv (g.rules.length:Nat),iv (g.aN.length:Nat),(⟨oH,uD⟩:aY).1,(⟨Gx,Sc⟩:aY).1,sv.1,fv.1].toArray 174 (0,0))::aF (sl aL oH KL)::aF (sl sC Gx AL)::aF (aI nM AL)::aF (sl da (xa.at_ 0).1.1 (xa.at_ 0).2)::aF (sl cY g.rv.1 g.rules)::aF (aI cK g.rules)::aF (sl eF g.xv.1 g.aN)::aF (aI eB g.aN)::aF (aG g.start)::aF (sl ay w1.1 (cn T))::aF (sl ay w2.1 (cr T))::aF tz::aX b2 (.cells (lh g).toArray 32 (0,0))::aX b4 (.cells [iv 0,iv 0,(.slice none 0 0),(.slice none 0 0),(.slice none 0 0),(.slice none 0 0)].toArray 174 (0,0))::aF (fO b3 [w1.1,w2.1])::aF (sl iW mv M)::aF (aI aG M)::[])) (λ⟨o,sn,wv,W⟩=>o≤M.length∧sn.length=M.length∧(∀z∈W,z<g.rules.length)∧DY sn+W.length≤B0) (λ⟨o,sn,wv,W⟩=>M.length-o) ⟨0,sn,⟨pR wv.1 1 0 W0.length,akA⟩,W0⟩ (aC.cons 4 rfl (aC.cons 5 rfl (aC.cons 6 rfl (aC.cons 22 rfl (aC.cons 133 rfl (aC.cons 134 rfl (aC.cons 161 rfl (aC.cons 162 rfl aC.nil)))))))) ⟨aR _,Tx,λz hz=>hW z (by simp[hz]),Nat.le_of_eq hB0.symm⟩ ?_;rintro ⟨o,Zq,wv2,W2⟩ ⟨ho,RL,hW2,BO⟩
       dsimp only at ho RL hW2 BO⊢
       refine g6 ?_;refine St.cq (λakB=> ?_) (λakB=> ?_)
       ·obtain⟨bo,hbo⟩:=aE (show o<(xa.at_ 0).2.length by omega)
        obtain⟨so,hso⟩:=aE (show o<Zq.length by omega);refine g17 ?_;refine St.gt _ rfl rfl (λhg=>Ev.move (.mk rfl)) rfl ?_;refine St.gt _ rfl rfl (λhg=>Ev.move (.mk rfl)) rfl ?_;refine St.gt _ rfl rfl (λhg=>Ev.dT (k:=o) (aZ.gv rfl hg) (aZ.gv rfl hg) j9 BN (by first|omega|(simp only[br]at hg;omega)) (by omega)) rfl ?_;refine St.gt _ rfl rfl (λhg=>Ev.cB (aZ.gv rfl hg) Eb trivial (by omega) (RI hso)) rfl ?_;refine St.gt _ rfl rfl (λhg=>Ev.not (aZ.gv rfl hg)) rfl ?_;refine g3 ?_;refine St.cond _ rfl (λaf8=> ?_) (λaf8=> ?_)
        ·skip
         obtain rfl:so=false:=by cases so;rfl;simp at af8
         have hu:=RF hso
         refine g5 ?_;refine St.bj (.mk rfl) (.mk rfl) BN rfl (by omega) (by decide) ?_;refine St.aO (.slice (some ⟨JA,0,none⟩) M.length M.length) (show _=(Zq.set o true).length by rw[cG]) (show _=rows da (Zq.set o true)from Mg _ _ _) ?_;refine g10 ?_;refine St.cq (λakC=> ?_) (λakC=> ?_)
         ·refine g3 ?_
          refine St.gb rfl (.bB rfl) cI eJ jA rfl rfl (by simp[Value.cells]) rfl rfl (λamX=> ?_);refine St.aj (.mk rfl) (.mk rfl) cI eJ jA wO (by simp[Value.oneCell',Value.cells]) (by omega) (by omega) rfl rfl rfl rfl (λZr alB=> ?_);refine St.aO Zr (show _=(W2++ [o]).length by rw[bA];rfl) (show _=rows aL (bC (W2++ [o])) by rw[jD,aw];rfl) ?_;refine St.bS Zr (λakD _=> ?_);refine g9 ?_;refine St.aH ⟨o+1,Zq.set o true,⟨Zr,akD⟩,W2++ [o]⟩ ⟨by omega,by rw[cG];exact RL,λz hz=>by rcases ba.1 hz with hz|hz;exact hW2 z hz;rw[bJ.1 hz];omega,by dsimp only;rw[bA];simp only[List.length_cons,List.length_nil];omega⟩
         ·refine g8 ?_
          refine St.aH ⟨o+1,Zq.set o true,wv2,W2⟩ ⟨by omega,by rw[cG];exact RL,hW2,by first|omega|(dsimp only;omega)⟩
        ·skip
         skip
         refine g8 ?_;refine St.aH ⟨o+1,Zq,wv2,W2⟩ ⟨by omega,RL,hW2,BO⟩
       ·skip
        refine g6 ?_;refine St.xV ⟨Zq,wv2,W2⟩ ⟨RL,hW2,by first|omega|(dsimp only;omega)⟩ (by dsimp only;omega) (by repeat(first|exact Sub.nil|refine Sub.cons (by first|rfl|exact congrArg (λz=>some (iv z)) (by first|omega|(dsimp only;omega))|exact congrArg (λz=>some (Value.bool z)) (by first|assumption|exact iZ (by assumption))) ?_)) (λ_ hw=>hw.sub)
      ·skip
       refine g9 ?_;refine St.gb rfl (.bB rfl) Tryz.underlying172 px Wl rfl rfl (by simp[Value.cells]) rfl rfl (λamY=> ?_);refine St.aj (.mk rfl) (.mk rfl) Tryz.underlying172 px Wl adK (by simp[Value.oneCell',Value.cells]) (by omega) (by omega) rfl rfl rfl rfl (λZs alC=> ?_);refine St.aO Zs (show _=(FL++ [(⟨.slice (some ⟨JA,0,none⟩) M.length M.length,rfl⟩:aY)]).length from cV) (show _=rows cN (FL++ [(⟨.slice (some ⟨JA,0,none⟩) M.length M.length,rfl⟩:aY)]) by rw[aw];rfl) ?_;refine St.bS Zs (λaf9 _=> ?_);refine go ?_;refine St.cO (.mk rfl) (.mk rfl) adL af9 (by rfl) ?_;refine g8 ?_;refine St.aH ⟨i+1,⟨Zs,af9⟩,FL++ [(⟨.slice (some ⟨JA,0,none⟩) M.length M.length,rfl⟩:aY)]⟩ ⟨by omega,by rw[bA,Pp];rfl⟩
     ·skip
      refine g8 ?_;refine St.sA (.mk rfl) (.mk rfl) Jx ?_ (h1:=(by simp only[List.all_cons,List.all_nil,Bool.and_true,Bool.and_eq_true];exact⟨rfl,rfl,uD,Sc,sv.2,fv.2⟩));refine g3 ?_;refine St.eT (fz ⟨g.rules.length,g.aN.length,⟨oH,uD⟩,⟨Gx,Sc⟩,sv,fv,KL,AL⟩) [sl aL oH KL,sl sC Gx AL,aI nM AL] (λρ h=>h) ?_;refine St.rV [_] [aF (fz ⟨g.rules.length,g.aN.length,⟨oH,uD⟩,⟨Gx,Sc⟩,sv,fv,KL,AL⟩)] ?_;exact⟨⟨g.rules.length,g.aN.length,⟨oH,uD⟩,⟨Gx,Sc⟩,sv,fv,KL,AL⟩,rfl,XL sv fv,rfl⟩
end Go.Proofs.YtblifkgpebebmaaGreatDoor
namespace Go.Proofs
open Go.Shelf
def Tryz.sI:Go.Shelf.Ren:=⟨λ|6=>125|14=>147|15=>148|20=>160|21=>161|22=>162|23=>163|24=>164|25=>165|26=>166|27=>167|28=>168|29=>169|46=>179|47=>180|48=>181|49=>182|50=>183|57=>185|n=>n,λ|0=>0|3=>3|4=>4|5=>5|9=>9|22=>58|24=>3|25=>208|39=>218|45=>282|46=>283|50=>112|53=>289|55=>157|66=>298|70=>302|76=>304|77=>305|n=>n,λ|n=>n⟩
theorem Tryz.zY:Go.Proofs.SlLaysF.n6 Tryz.prog Tryz.sI:={
 mixed:=by kernel_rfl
 f6:=⟨Tryz.f125.name,by decide,Tryz.func125.trans (congrArg some (by kernel_rfl))⟩
 f14:=⟨Tryz.f147.name,by decide,Tryz.func147.trans (congrArg some (by kernel_rfl))⟩
 f15:=Tryz.func148.trans (congrArg some (by kernel_rfl))
 f20:=⟨Tryz.f160.name,by decide,Tryz.func160.trans (congrArg some (by kernel_rfl))⟩
 f21:=⟨Tryz.f161.name,by decide,Tryz.func161.trans (congrArg some (by kernel_rfl))⟩
 f22:=⟨Tryz.f162.name,by decide,Tryz.func162.trans (congrArg some (by kernel_rfl))⟩
 f23:=⟨Tryz.f163.name,by decide,Tryz.func163.trans (congrArg some (by kernel_rfl))⟩
 f24:=⟨Tryz.f164.name,by decide,Tryz.func164.trans (congrArg some (by kernel_rfl))⟩
 f25:=⟨Tryz.f165.name,by decide,Tryz.func165.trans (congrArg some (by kernel_rfl))⟩
 f26:=⟨Tryz.f166.name,by decide,Tryz.func166.trans (congrArg some (by kernel_rfl))⟩
 f27:=⟨Tryz.f167.name,by decide,Tryz.func167.trans (congrArg some (by kernel_rfl))⟩
 f28:=Tryz.func168.trans (congrArg some (by kernel_rfl))
 f29:=Tryz.func169.trans (congrArg some (by kernel_rfl))
 f46:=⟨Tryz.f179.name,by decide,Tryz.func179.trans (congrArg some (by kernel_rfl))⟩
 f47:=Tryz.func180.trans (congrArg some (by kernel_rfl))
 f48:=Tryz.func181.trans (congrArg some (by kernel_rfl))
 f49:=⟨Tryz.f182.name,by decide,Tryz.func182.trans (congrArg some (by kernel_rfl))⟩
 f50:=⟨Tryz.f183.name,by decide,Tryz.func183.trans (congrArg some (by kernel_rfl))⟩
 f57:=⟨Tryz.f185.name,by decide,Tryz.func185.trans (congrArg some (by kernel_rfl))⟩
 t0:=WJ
 a0:=Tryz.isAgg0
 z0:=Tryz.sizeOf0
 v0:=Tryz.zeroValue0
 t3:=eN
 a3:=Tryz.isAgg3
 z3:=Tryz.sizeOf3
 v3:=Tryz.zeroValue3
 t4:=Eb
 a4:=Tryz.isAgg4
 z4:=Tryz.sizeOf4
 v4:=Tryz.zeroValue4
 t5:=Dn
 a5:=Tryz.isAgg5
 z5:=Tryz.sizeOf5
 v5:=Tryz.zeroValue5
 t9:=sK
 a9:=Tryz.isAgg9
 z9:=Tryz.sizeOf9
 v9:=Tryz.zeroValue9
 t22:=cI
 a22:=Tryz.isAgg58
 z22:=Tryz.sizeOf58
 v22:=Tryz.zeroValue58
 a24:=Tryz.isAgg3
 z24:=Tryz.sizeOf3
 t25:=Tryz.underlying208
 a25:=Tryz.isAgg208
 z25:=Tryz.sizeOf208
 v25:=Tryz.zeroValue208
 t39:=yG
 a39:=Tryz.isAgg218
 z39:=Tryz.sizeOf218
 v39:=Tryz.zeroValue218
 t45:=Tryz.underlying282
 a45:=Tryz.isAgg282
 z45:=Tryz.sizeOf282
 v45:=Tryz.zeroValue282
 t46:=Tryz.underlying283
 a46:=Tryz.isAgg283
 z46:=Tryz.sizeOf283
 v46:=Tryz.zeroValue283
 t50:=Tryz.underlying112
 a50:=Tryz.isAgg112
 z50:=Tryz.sizeOf112
 v50:=Tryz.zeroValue112
 t53:=Tryz.underlying289
 a53:=Tryz.isAgg289
 z53:=Tryz.sizeOf289
 v53:=Tryz.zeroValue289
 t55:=l5
 a55:=Tryz.isAgg157
 z55:=Tryz.sizeOf157
 v55:=Tryz.zeroValue157
 t66:=Tryz.underlying298
 a66:=Tryz.isAgg298
 z66:=Tryz.sizeOf298
 v66:=Tryz.zeroValue298
 t70:=Tryz.underlying302
 a70:=Tryz.isAgg302
 z70:=Tryz.sizeOf302
 v70:=Tryz.zeroValue302
 t76:=Tryz.underlying304
 a76:=Tryz.isAgg304
 z76:=Tryz.sizeOf304
 v76:=Tryz.zeroValue304
 t77:=Tryz.underlying305
 a77:=Tryz.isAgg305
 z77:=Tryz.sizeOf305
 v77:=Tryz.zeroValue305}
end Go.Proofs
namespace Go.J
open Go Go.Proofs Go.Shelf Go.RowKit Go.Lib Go.Sort
theorem Start.E4 {ds:List df}{W:World}(hd:∀d∈ds,d.f (J.all W)):Start (ds.map J.aF) (J.all W) W:=
 ⟨rfl,⟨rfl,λ_=>aW _⟩,rfl,aW _,λ_ _ _=>rfl,λ_ _ h=>h,Ro.le_refl _,λ_ _ _=>rfl,λE hE=>by
  obtain⟨d,nY,rfl⟩:=ct.1 hE;exact dm.2 (hd d nY),
  (λE hE b hb=>by
   obtain⟨d,hd,rfl⟩:=ct.1 hE
   rw[jL]at hb;cases hb),
  by
   refine rC.2 (vY (R:=λ_ _=>True) ?_ (List.pairwise_of_forall λ_ _=>trivial));intro d d' _ _ _ b hb
   rw[jL]at hb;cases hb⟩
theorem dA.agA {P:Program}{f:FuncId}{args:Array Value}{ds:List df}{v:Value}{W:World}(h:dA P f args ds v)(hd:∀d∈ds,d.f (J.all W)):
 Calls P f args W λe w'=>e= .returned v∧∃q os',w'=grow (W.drewN q) os':=by
 refine(h W (J.all W) (Start.E4 hd)).mono ?_;rintro e w' ⟨u,H',rfl,rfl,hm⟩;obtain⟨mY,hm⟩:=hm.out;refine⟨rfl,w'.drawn-W.drawn,w'.heap.extract W.heap.size w'.heap.size,?_⟩
 have h1:=hm.os
 have h2:=And.intro hm.tape.1 (hm.tape.2 trivial)
 have h3:=hm.output
 have h4:=hm.size
 have h5:∀k,k<W.heap.size→w'.heap[k]?=W.heap[k]?:=λk hk=>hm.A2 k hk (iG ds k)
 clear hm
 cases w' with
 |mk alD alE akE os' amZ=>
  cases W with
  |mk heap tape drawn os out=>
   simp only at h1 h2 h3 h4 h5
   simp only[grow,World.drewN,World.mk.injEq]
   refine⟨?_,h2.1,by omega,h1,h3⟩
   apply Array.ext_getElem?
   intro i;rw[Array.getElem?_append]
   split
   ·rename_i hi;exact h5 i hi
   ·rename_i hi
    rw[Array.getElem?_extract]
    split
    ·congr 1;omega
    ·rename_i h6
     rw[Array.getElem?_eq_none (by omega)]
section
variable {P:Program}{RM:Ren}{α:Type}[Inhabited α]
theorem pO (enc:α→Value)(w:World)(g0 m k:Nat)(dk:Array α)(os:Array Obj)(hk:k≠g0)(hl:k<w.heap.size):(sortWorld enc w g0 0 m dk os).heap[k]?=w.heap[k]?:=by
 unfold sortWorld grow putRow mapBlock
 simp only[]
 rw[Array.getElem?_append_left (by simpa using hl),Array.getElem?_modify];rw[aA (λe=>hk e.symm)];rfl
theorem zZ (enc:α→Value)(w:World)(g0 m:Nat)(dk:Array α)(os:Array Obj){cur:Array Value}{e:TypeId}{fr:Nat×Nat}(hg:w.heap[g0]?=some (.cells cur e fr)):
 (sortWorld enc w g0 0 m dk os).heap[g0]?=some (.cells (putCells enc 0 dk cur) e fr):=by
 have hl:=(pP.1 hg).1
 have hg':(Sort.ahead w m).heap[g0]?=some (.cells cur e fr):=hg
 unfold sortWorld grow putRow mapBlock
 simp only[]
 rw[Array.getElem?_append_left (by simpa using hl),Array.getElem?_modify,aB rfl,hg'];rfl
theorem Start.sorted {ds:List df}{enc:α→Value}{v:Value}{e:TypeId}{d:List α}{w:World}{ρ:Ro}(st:Start (ds.map aF++ [row v e 1 d.length (d.map enc)]) ρ w){g0 cap:Nat}{cur:Array Value}
 (hv:v= .slice (some ⟨g0,0,none⟩) d.length cap) (hg:w.heap[g0]?=some (.cells cur e (0,0))) (hnc:d.length≤cap) (hcm:cap≤maxLen) (kq:cur.size=cap*1) (nS:cur.toList.take (d.length*1)=d.map enc):
 Holds enc w g0 0 d.toArray∧g0<w.heap.size∧(∀(m:Nat) (os:Array Obj) (dk:Array α),Ro.le ρ (J.all (sortWorld enc w g0 0 m dk os)))∧
  ∀(n:Nat) (d':Array α) (os:Array Obj),d'.size=d.length→Mm ⟨w,ρ,kT (ds.map aF++ [row v e 1 d.length (d.map enc)]),True⟩ [row v e 1 d.length (d'.toList.map enc)] (sortWorld enc w g0 0 n d' os):=by
 have hblk:=(pP.1 hg).1
 have hρ:ρ g0=Option.none:=(st.own _ (mX _ (Au _)) g0 (by rw[dV,hv];rfl)).1
 have mh:∀j (hj:j<d.length),cur[j]?=some (enc d[j]):=λj hj=>by
  have:=congrArg (λl=>l[j]?) nS
  simp only[List.getElem?_take,List.getElem?_map,List.getElem?_eq_getElem hj,Option.map_some]at this
  rw[aB (by omega)]at this
  simpa using this
 have hle:∀(m:Nat) (os:Array Obj) (dk:Array α),Ro.le ρ (J.all (sortWorld enc w g0 0 m dk os)):=λm os dk k o hk=>by
  have h2:=st.fits k o hk
  have h3:k≠g0:=by rintro rfl;rw[hρ]at hk;cases hk
  show(sortWorld enc w g0 0 m dk os).heap[k]?=some o
  rw[pO enc w g0 m k dk os h3 (pP.1 h2).1,h2]
 refine⟨λj hj=> ?_,hblk,hle,λn d' os gQ=>Mm.mk (ρ:=ρ) ⟨rfl,⟨rfl,?_⟩,rfl,?_,?_,?_,Ro.le_refl _,λ_ _ _=>rfl,?_,?_,Dy ..⟩⟩
 ·have Hj:j<d.length:=by simpa using hj
  refine⟨?_,?_⟩
  ·rw[World.cell?,hg]
   simp only[Option.isSome_none,Bool.false_eq_true,if_false,Nat.zero_add]
   rw[mh j Hj,getElem!_pos d.toArray j hj]
   simp
  ·rw[World.frozen?,hg];simp
 ·intro _;show w.drawn≤w.drawn+n;omega
 ·unfold sortWorld grow;simp
 ·intro k hk hM
  refine pO enc w g0 n k d' os ?_ hk;rintro rfl;exact hM ⟨_,mX _ (Au _),by rw[dV,hv];rfl⟩
 ·exact λk o hk=>hle n os d' k o hk
 ·intro E hE
  rw[bJ.1 hE];refine dZ.2 ⟨by simp[gQ],.inr ⟨g0,cap,putCells enc 0 d' cur,hv,aR _,zZ enc w g0 n d' os hg,hnc,hcm,by simp[putCells,kq],?_⟩⟩
  apply nV
  intro i
  simp only[putCells,List.getElem?_take,Array.getElem?_toList,Array.getElem?_mapIdx,List.getElem?_map]
  by_cases hi:i<d.length
  ·have JT:i<d'.size:=by omega
   rw[aB (by omega),mh i hi]
   simp only[Option.map_some,Nat.zero_le,true_and,Nat.zero_add,Nat.sub_zero]
   rw[aB JT,getElem!_pos d' i JT,wE JT];rfl
  ·rw[aA (by omega),Array.getElem?_eq_none (by omega)];rfl
 ·intro E hE b hb
  rw[bJ.1 hE]at hb
  have jZ:b=g0:=by rw[dV,hv]at hb;simp[Value.ownBlock]at hb;exact hb.symm
  exact⟨jZ▸hρ,.inr ⟨_,mX _ (Au _),by rw[dV,hv,jZ];rfl⟩⟩
theorem Start.stays {ds:List df}{E:ao}{w:World}{ρ:Ro}(st:Start (ds.map aF++ [E]) ρ w):Mm ⟨w,ρ,kT (ds.map aF++ [E]),True⟩ [E] w:=Mm.mk (eQ.perm st jJ).left
theorem Aj (L:SlLaysF.n6 P RM)(enc:α→Value)(h1:OneCell enc)(cf:α→α→Int)(hO:SWO (ltOf cf))(g:Nat)(cb:Array Value)
 (eg:∀args w,(callFunc g args).run P w= .ok (.enter g args) w) (ds:List df) (xi:∀x y,dA P g (#[enc x,enc y]++cb) ds (.int .i64 (cf x y))) (v:Value) (e:TypeId) (d:List α) (hlen:d.length<4611686018427387904):
 dt P (RM.f 6) #[v,.func (.func g) #[] cb] (ds.map aF++ [row v e 1 d.length (d.map enc)])
  (λu H'=>u= .tuple #[]∧∃d':List α,d'.Perm d∧d'.Pairwise (λa b=>ltOf cf b a=false)∧H'=[row v e 1 d.length (d'.map enc)]):=by
 intro w ρ st
 have HD:=dZ.1 (st.dK _ (mX _ (Au _)))
 have Zt:∀x∈ds,x.f ρ:=λx hx=>dm.1 (st.dK _ (km _ (dq hx)))
 have none:∀(p:Option Addr) (cap:Nat),v= .slice p 0 cap→d=[]→Calls P (RM.f 6) #[v,.func (.func g) #[] cb] w λe_1 w'=>∃v_1 H',e_1= .returned v_1∧
  (v_1= .tuple #[]∧∃d':List α,d'.Perm d∧d'.Pairwise (λa b=>ltOf cf b a=false)∧H'=[row v e 1 d.length (d'.map enc)])∧Mm ⟨w,ρ,kT (ds.map aF++ [row v e 1 d.length (d.map enc)]),True⟩ H' w':=by
  intro p cap hv Mw
  have hc:=AnyF.slices_SortFunc_none (P:=P) (ρ:=RM) {L with} p cap (.func (.func g) #[] cb) w
  rw[←hv]at hc;refine hc.mono ?_;rintro e' w' ⟨rfl,rfl⟩;exact⟨_,_,rfl,⟨rfl,d,.refl _,(by rw[Mw];exact .nil),rfl⟩,st.stays⟩
 rcases HD.2 with⟨hv,hn⟩|⟨g0,cap,cur,hv,_,hg,hnc,hcm,kq,nS⟩
 ·exact none _ _ hv (kf hn)
 ·by_cases hz:d.length=0
  ·rw[hz]at hv;exact none _ _ hv (kf hz)
  ·obtain⟨hH,hblk,hle,akF⟩:=Start.sorted st hv hg hnc hcm kq nS
   have akG:CmpLays1 P g cb enc cf g0 0 d.toArray.size w:=λm os dk _ x y=>(xi x y).agA λx hx=>x.mono _ _ (hle m os dk) (Zt x hx)
   have main:=Any.slices_SortFunc L enc h1 cf hO g cb g0 0 cap d.toArray w eg akG hH hblk (by simpa using hlen)
   have hv':v= .slice (some ⟨g0,0,Option.none⟩) d.toArray.size cap:=by rw[hv];simp
   rw[←hv']at main;refine main.mono ?_;rintro e' w' ⟨rfl,d',n,os,⟨hs,_,hp⟩,agB,rfl⟩
   have gQ:d'.size=d.length:=by simpa using hs
   have agC:d'.toList.Perm d:=by
    have e1:d'.extract 0 d.toArray.size=d':=by rw[←hs];simp
    have e2:d.toArray.extract 0 d.toArray.size=d.toArray:=by simp
    rw[e1,e2]at hp
    simpa using hp
   refine⟨_,_,rfl,⟨rfl,d'.toList,agC,?_,rfl⟩,akF n d' os gQ⟩;rw[List.pairwise_iff_getElem];intro i j hi hj WI
   have JT:i<d'.size:=by simpa using hi
   have Hj:j<d'.size:=by simpa using hj
   have:=agB i j (aR _) WI (by rw[←hs];exact Hj)
   rw[getElem!_pos d' i JT,getElem!_pos d' j Hj]at this
   simpa using this
end
section
variable {P:Program}{RM:Ren}
theorem Da (L:SlLaysF.n6 P RM)(fv v:Value)(e:TypeId)(D:df):dt P (RM.f 6) #[v,fv] ([D].map aF++ [row v e 1 0 []]) (λu H'=>u= .tuple #[]∧H'=[row v e 1 0 []]):=by
 intro w ρ st
 have HD:=dZ.1 (st.dK (row v e 1 0 []) (mX _ (Au _)))
 have none:∀(p:Option Addr) (cap:Nat),v= .slice p 0 cap→Calls P (RM.f 6) #[v,fv] w λe_1 w'=>∃v_1 H',e_1= .returned v_1∧(v_1= .tuple #[]∧H'=[row v e 1 0 []])∧Mm ⟨w,ρ,kT ([D].map aF++ [row v e 1 0 []]),True⟩ H' w':=by
  intro p cap hv
  have hc:=AnyF.slices_SortFunc_none (P:=P) (ρ:=RM) {L with} p cap fv w
  rw[←hv]at hc;refine hc.mono ?_;rintro e' w' ⟨rfl,rfl⟩;exact⟨_,_,rfl,⟨rfl,rfl⟩,st.stays⟩
 rcases HD.2 with⟨hv,_⟩|⟨g0,cap,cur,hv,_⟩
 ·exact none _ _ hv
 ·exact none _ _ hv
theorem Db (L:SlLaysF.n6 P RM){m:Nat}(enc:Nat→Value)(h1:∀i,i<m→(enc i).oneCell'=true)(cf:Nat→Nat→Int)(akH:∀a,a<m→¬cf a a<0)(Gw:∀a b c,a<m→b<m→c<m→cf a b<0→cf b c<0→cf a c<0)
 (oS:∀a b c,a<m→b<m→c<m→¬cf a b<0→¬cf b c<0→¬cf a c<0) (g:Nat) (nh:aJ P g) (caps:List Value) (D:df)
 (xi:∀a b,a<m→b<m→dA P g ([enc a,enc b]++caps).toArray [D] (iv (cf a b))) (v:Value) (e:TypeId) (hm:m<4611686018427387904):
 dt P (RM.f 6) #[v,.func (.func g) #[] caps.toArray] ([D].map aF++ [row v e 1 m ((List.range m).map enc)]) (λu H'=>u= .tuple #[]∧∃l:List Nat,l.Perm (List.range m)∧l.Pairwise (λa b=>¬cf b a<0)∧H'=[row v e 1 m (l.map enc)]):=by
 rcases Nat.eq_zero_or_pos m with rfl|nc
 ·exact(Da L (.func (.func g) #[] caps.toArray) v e D).mono λu H' ⟨h1,h2⟩=>⟨h1,[],List.Perm.refl _,List.Pairwise.nil,h2⟩
 ·haveI:Inhabited {i:Nat//i<m}:=⟨⟨0,nc⟩⟩
  let d:List {i:Nat//i<m}:=(List.range m).attach.map λx=>⟨x.1,cy.1 x.2⟩
  have I7:d.length=m:=by simp[d]
  have hde:d.map (λx=>x.1)=List.range m:=by simp[d,List.map_map,Function.comp_def]
  have kq:d.map (λx=>enc x.1)=(List.range m).map enc:=by rw[←hde];simp[List.map_map,Function.comp_def]
  have hO:SWO (ltOf λ(x y:{i:Nat//i<m})=>cf x.1 y.1):=by
   refine⟨λx=>eL (akH x.1 x.2),λx y z h1 h2=>dH (Gw _ _ _ x.2 y.2 z.2 (eS h1) (eS h2)),λx y z h1 h2=>eL (oS _ _ _ x.2 y.2 z.2 (iT h1) (iT h2))⟩
  have main:=Aj L (λx:{i:Nat//i<m}=>enc x.1) (λx=>h1 x.1 x.2) (λx y=>cf x.1 y.1) hO g caps.toArray (λargs w=>nh.run) [D] (λx y=>by have:=xi x.1 y.1 x.2 y.2;simpa using this) v e d (by omega)
  rw[I7,kq]at main;refine main.mono ?_;rintro u H' ⟨hu,d',hp,hs,hH⟩;refine⟨hu,d'.map (λx=>x.1),?_,?_,?_⟩
  ·have:=hp.map (λx=>x.1);rw[hde]at this;exact this
  ·rw[rC]
   exact hs.imp λh=>iT h
  ·rw[hH];simp[List.map_map,Function.comp_def]
end
end Go.J
namespace Go.Proofs.YtblifkgpebebmaaGreatDoor
open Go Go.J Tryz
def wg:cX:=⟨0,0,0,⟨bK,[]⟩,bK,[],bK,[]⟩
def XM (o:List Nat)(w:rR):rR:=⟨w.rule,w.lex,w.kv,w.kids.map (p7 o)⟩
def A1 (o:List Nat)(x:cX):cX:=⟨x.frm,x.tqo,x.cQ,x.gr,x.wv,x.bx.map (XM o),x.tv,x.bN⟩
def mL (w:rR):df:=sl aL w.kv.1 (bC w.kids)
def cW (x:cX):df:=gT [aG x.gr,sl lR x.wv.1 x.bx,aI mL x.bx]
theorem VG (its:List cX):((kM (its.map bV)).map λi=>A1 (kM (its.map bV)) (its.getD i wg)).map bV=fU (its.map bV):=by
 unfold fU;rw[kh]
 refine Ar λi _=> ?_
 have e:(its.map bV).getD i fQ=bV (its.getD i wg):=by
  simp only[List.getD_eq_getElem?_getD,List.getElem?_map]
  cases its[i]? with
  |none=>rfl
  |some x=>rfl
 rw[e]
 show bV (A1 _ _)=_
 unfold A1 bV
 simp only[List.map_map]
 congr 1
theorem Cr {o:List Nat}(hd:o.Nodup){k i:Nat}(hk:o[k]?=some i):o.idxOf i=k:=by
 have nU:=ae hk
 have h2:o[k]=i:=by rw[bO nU]at hk;exact Option.some.inj hk
 rw[←h2];exact hd.idxOf_getElem k nU
def OL (n k:Nat):List Int:=bC (List.range k)++List.replicate (n-k) 0
theorem Zu {n k:Nat}(h:k<n):(OL n k).set k (k:Int)=OL n (k+1):=by
 unfold OL;rw[kn _ _ (by rw[cR,iJ];exact aW _),cR,iJ,fJ,vc,jD,cg,show n-k=(n-(k+1))+1 by omega,List.replicate_succ,rE];rfl
theorem Zv (n:Nat):OL n n=bC (List.range n):=by unfold OL;rw[fJ];simp
def Mi (o:List Nat)(k:Nat):List Int:=(List.range o.length).map λi=>if o.idxOf i<k then(o.idxOf i:Int)else 0
theorem VH (o:List Nat):Mi o 0=List.replicate o.length 0:=by
 unfold Mi
 refine nV λj=> ?_
 rw[bE,r9]
 rcases e7 j o.length with hj|hj
 ·rw[kg hj,aB hj];rfl
 ·rw[fY (by simpa using hj),aA (by omega)];rfl
theorem VI {o:List Nat}(hd:o.Nodup){k i:Nat}(hk:o[k]?=some i)(hi:i<o.length):(Mi o k).set i (k:Int)=Mi o (k+1):=by
 have nU:=ae hk
 have hix:o.idxOf i=k:=by
  have h2:o[k]=i:=by rw[bO nU]at hk;exact Option.some.inj hk
  rw[←h2];exact hd.idxOf_getElem k nU
 refine nV λj=> ?_
 unfold Mi
 by_cases e:j=i
 ·subst e
  rw[eP (by rw[aQ,iJ];exact hi),bE,kg hi]
  show some _=some _
  dsimp only
  rw[hix,aB (by omega)]
 ·rw[gX (λh=>e h.symm),bE,bE]
  rcases e7 j o.length with hj|hj
  ·rw[kg hj]
   show some _=some _
   dsimp only
   have fP:o.idxOf j≠k:=λhh=>by
    have:o.idxOf j<o.length:=by rw[hh];exact nU
    have h3:=List.getElem_idxOf this
    have h4:o[k]?=some j:=by rw[←hh,bO this,h3]
    rw[hk]at h4;exact e (Option.some.inj h4).symm
   congr 1
   try dsimp only
   by_cases c:o.idxOf j<k
   ·rw[aB c,aB (by omega)]
   ·rw[aA c,aA (by omega)]
  ·rw[fY (by simpa using hj)];rfl
theorem Zw {o:List Nat}{i:Nat}(hi:i<o.length)(hm:i∈o):(Mi o o.length)[i]?=some ((p7 o i:Nat):Int):=by
 unfold Mi p7;rw[bE,kg hi]
 show some _=some _
 dsimp only
 rw[aB (List.idxOf_lt_length_iff.2 hm)]
def I2 (o:List Nat)(its:List cX)(k:Nat):List cX:=((o.take k).map λi=>A1 o (its.getD i wg))++List.replicate (o.length-k) wg
theorem Zx {o:List Nat}{its:List cX}{k:Nat}(h:k≤o.length):(I2 o its k).length=o.length:=by unfold I2;rw[bA,aQ,e9,jI];omega
theorem RN {o:List Nat}{its:List cX}{k i:Nat}{x:cX}(hk:o[k]?=some i)(hx:its[i]?=some x):(I2 o its k).set k (A1 o x)=I2 o its (k+1):=by
 have nU:=ae hk
 unfold I2;rw[kn _ _ (by rw[aQ,e9];omega),aQ,e9,ji (by omega),fJ,ai hk,cC,cg,show o.length-k=(o.length-(k+1))+1 by omega,List.replicate_succ,rE]
 have e:its.getD i wg=x:=by rw[ak,hx];rfl
 rw[eW,lV,e];rfl
def T2 (o:List Nat)(its:List cX)(k:Nat):List cX:=its.zipIdx.map λp=>if o.idxOf p.2<k then A1 o p.1 else p.1
theorem RO (o:List Nat)(its:List cX)(k:Nat):(T2 o its k).length=its.length:=by unfold T2;rw[aQ,List.length_zipIdx]
theorem Bx (o:List Nat)(its:List cX)(k i:Nat):(T2 o its k)[i]?=(its[i]?).map λx=>if o.idxOf i<k then A1 o x else x:=by
 unfold T2;rw[bE,List.getElem?_zipIdx]
 cases its[i]? with
 |none=>rfl
 |some x=>simp
theorem VJ (o:List Nat)(its:List cX):T2 o its 0=its:=nV λi=>by
 rw[Bx]
 cases its[i]? with
 |none=>rfl
 |some x=>simp
theorem Zy {o:List Nat}(hd:o.Nodup){its:List cX}{k i:Nat}{x:cX}(hk:o[k]?=some i)(hx:its[i]?=some x):(T2 o its k).set i (A1 o x)=T2 o its (k+1):=by
 have nU:=ae hk
 have hix:o.idxOf i=k:=by
  have h2:o[k]=i:=by rw[bO nU]at hk;exact Option.some.inj hk
  rw[←h2];exact hd.idxOf_getElem k nU
 refine nV λj=> ?_
 by_cases e:j=i
 ·subst e
  rw[eP (by rw[RO];exact ae hx),Bx,hx]
  show some _=some _
  dsimp only
  rw[aB (by omega)]
 ·rw[gX (λh=>e h.symm),Bx,Bx]
  cases hj:its[j]? with
  |none=>rfl
  |some y=>
   show some _=some _
   dsimp only
   congr 1
   have fP:o.idxOf j≠k:=λhh=>by
    have:o.idxOf j<o.length:=by rw[hh];exact nU
    have h3:=List.getElem_idxOf this
    have h4:o[k]?=some j:=by rw[←hh,bO this,h3]
    rw[hk]at h4;exact e (Option.some.inj h4).symm
   by_cases c:o.idxOf j<k
   ·rw[aB c,aB (by omega)]
   ·rw[aA c,aA (by omega)]
theorem Zz {o:List Nat}{its:List cX}(h:∀i,i<its.length→i∈o):T2 o its o.length=its.map (A1 o):=nV λi=>by
 rw[Bx,bE]
 cases hi:its[i]? with
 |none=>rfl
 |some x=>
  show some _=some _
  dsimp only
  rw[aB (List.idxOf_lt_length_iff.2 (h i (ae hi)))]
theorem RP (o:List Nat)(l:List rR):rows lR (l.map (XM o))=rows lR l:=by
 unfold rows
 rw[List.flatMap_map];rfl
theorem aaA {α:Type}(f:α→List ao)(X:List ao){l:List α}{i:Nat}{x:α}(h:l[i]?=some x):(ax f l++X).Perm (f x++(ax f (l.eraseIdx i)++X)):=by
 rw[←cg];exact(mq f h).append_right X
theorem agD {α:Type}(f:α→List ao)(X:List ao){l:List α}{i:Nat}(x:α)(h:i<l.length):(f x++(ax f (l.eraseIdx i)++X)).Perm (ax f (l.set i x)++X):=by
 rw[←cg];exact(rp f x h).append_right X
def W2 (o:List Nat)(l:List rR)(m:Nat):List rR:=(l.take m).map (XM o)++l.drop m
theorem VK (o:List Nat)(l:List rR):W2 o l 0=l:=rfl
theorem agE {o:List Nat}{l:List rR}{m:Nat}{w:rR}(h:l[m]?=some w):(W2 o l m)[m]?=some w:=by
 have:=ae h
 unfold W2
 rw[mW (by rw[aQ,e9];omega),aQ,e9,ji (by omega),fJ,Ao];simpa using h
theorem aaB {o:List Nat}{l:List rR}{m:Nat}(h:m≤l.length):(W2 o l m).length=l.length:=by unfold W2;rw[bA,aQ,e9,lT];omega
theorem aaC {o:List Nat}{l:List rR}{m:Nat}{w:rR}(h:l[m]?=some w):(W2 o l m).set m (XM o w)=W2 o l (m+1):=by
 have hl:=ae h
 unfold W2
 rw[kn _ _ (by rw[aQ,e9];omega),aQ,e9,ji (by omega),fJ,ai h,an h,rE,cC,cg];rfl
theorem aaD (o:List Nat)(l:List rR):W2 o l l.length=l.map (XM o):=by unfold W2;simp
def K2 (o l:List Nat)(d:Nat):List Nat:=(l.take d).map (p7 o)++l.drop d
theorem VL (o l:List Nat):K2 o l 0=l:=rfl
theorem agF {o l:List Nat}{d k:Nat}(h:l[d]?=some k):(K2 o l d)[d]?=some k:=by
 have:=ae h
 unfold K2
 rw[mW (by rw[aQ,e9];omega),aQ,e9,ji (by omega),fJ,Ao];simpa using h
theorem aaE {o l:List Nat}{d k:Nat}(h:l[d]?=some k):(K2 o l d).set d (p7 o k)=K2 o l (d+1):=by
 have hl:=ae h
 unfold K2
 rw[kn _ _ (by rw[aQ,e9];omega),aQ,e9,ji (by omega),fJ,ai h,an h,rE,cC,cg];rfl
theorem aaF (o l:List Nat):K2 o l l.length=l.map (p7 o):=by unfold K2;simp
theorem G9 (l:List Nat)(d k:Nat):(bC l).set d (k:Int)=bC (l.set d k):=by unfold bC;rw[ia]
theorem aaG {c:Ctx}(tW tI:TypeId){x:cX}(hw:∀w∈x.bx,lR.wf w∧∀k∈w.kids,bP (k:Int))(H:List ao)(w:World)(h:Mm c (dx tW tI x++H) w):Mm c (aF (gT [sl lR x.wv.1 x.bx,aI mL x.bx])::H) w:=by
 obtain⟨ρ,k⟩:=h.out
 have h1:=k.bZ lR x.bx rfl rfl (λy hy=>(hw y hy).1)
 obtain⟨ρ1,k1⟩:=h1.out
 have k2:=(k1.perm (List.Perm.swap _ _ _)).drop
 have h3:Mm c (ax (iV tI) x.bx++(aF (sl lR x.wv.1 x.bx)::H)) w:=Mm.mk (k2.perm rD.symm)
 have gen:∀(l:List rR) (H:List ao),(∀y∈l,∀k∈y.kids,bP (k:Int))→Mm c (ax (iV tI) l++H) w→Mm c (aF (aI mL l)::H) w:=by
  intro l
  induction l with
  |nil=>exact λH _ h=>h.fact (aI mL []) λρ _ x hx=>by cases hx
  |cons a l ih=>
   intro H ha h;rw[gx,cg]at h;obtain⟨ρ,k⟩:=h.out
   have h1:=k.bZ aL (bC a.kids) rfl (cR _).symm (λz hz=>by obtain⟨z2,hz2,rfl⟩:=ct.1 hz;exact ha a (by simp) z2 hz2)
   obtain⟨ρ1,k1⟩:=h1.out
   have k1:eQ c (aF (mL a)::(ax (iV tI) l++H)) ρ1 w:=k1
   have h2:Mm c (ax (iV tI) l++(aF (mL a)::H)) w:=Mm.mk (k1.perm rD.symm)
   have h3:=ih _ (λy hy=>ha y (by simp[hy])) h2
   have h4:Mm c (aF (aI mL (a::l))::aF (aI mL l)::aF (mL a)::H) w:=h3.fact _ (λρ hm x hx=>by
    rcases cD.1 hx with rfl|hx
    ·exact dm.1 (hm.dK (aF (mL x)) (by simp))
    ·exact dm.1 (hm.dK (aF (aI mL l)) (by simp)) x hx)
   obtain⟨ρ2,k⟩:=h4.out
   have k2:eQ c (aF (aI mL l)::aF (mL a)::aF (aI mL (a::l))::H) ρ2 w:=k.perm ((List.Perm.swap _ _ _).trans ((List.Perm.swap _ _ _).cons _))
   exact Mm.mk k2.drop.drop
 have h4:=gen x.bx _ (λy hy=>(hw y hy).2) h3
 have h5:Mm c (aF (gT [sl lR x.wv.1 x.bx,aI mL x.bx])::aF (aI mL x.bx)::aF (sl lR x.wv.1 x.bx)::H) w:=h4.fact _ (λρ hm d hd=>by
  rcases cD.1 hd with rfl|hd
  ·exact dm.1 (hm.dK (aF (sl lR x.wv.1 x.bx)) (by simp))
  ·rw[bJ.1 hd];exact dm.1 (hm.dK (aF (aI mL x.bx)) (by simp)))
 obtain⟨ρ2,k⟩:=h5.out
 have k2:eQ c (aF (aI mL x.bx)::aF (sl lR x.wv.1 x.bx)::aF (gT [sl lR x.wv.1 x.bx,aI mL x.bx])::H) ρ2 w:=k.perm ((List.Perm.swap _ _ _).trans ((List.Perm.swap _ _ _).cons _))
 exact Mm.mk k2.drop.drop
theorem Mm.agG {c:Ctx}{α:Type}{f:α→List ao}{g:α→df}{w:World}:∀(l:List α) (H:List ao),(∀a∈l,∀H,Mm c (f a++H) w→Mm c (aF (g a)::H) w)→Mm c (ax f l++H) w→Mm c (aF (aI g l)::H) w
 | [],H,_,h=>h.fact (aI g []) λρ _ x hx=>by cases hx
 |a::l,H,hf,h=>by
  rw[gx,cg]at h
  have h1:=hf a (by simp) _ h
  obtain⟨ρ1,k1⟩:=h1.out
  have h2:Mm c (ax f l++(aF (g a)::H)) w:=Mm.mk (k1.perm rD.symm)
  have h3:=Mm.agG l _ (λb hb=>hf b (by simp[hb])) h2
  have h4:Mm c (aF (aI g (a::l))::aF (aI g l)::aF (g a)::H) w:=h3.fact _ (λρ hm x hx=>by
   rcases cD.1 hx with rfl|hx
   ·exact dm.1 (hm.dK (aF (g x)) (by simp))
   ·exact dm.1 (hm.dK (aF (aI g l)) (by simp)) x hx)
  obtain⟨ρ,k⟩:=h4.out
  have k2:eQ c (aF (aI g l)::aF (g a)::aF (aI g (a::l))::H) ρ w:=k.perm ((List.Perm.swap _ _ _).trans ((List.Perm.swap _ _ _).cons _))
  exact Mm.mk k2.drop.drop
theorem St.aaH {n:Nat}{F:Fr}{c:Ctx}{H H':List ao}{T:Act→World→Prop}(tW tI:TypeId)(l:List cX)(hw:∀x∈l,∀w∈x.bx,lR.wf w∧∀k∈w.kids,bP (k:Int))[tf:iU (ax (dx tW tI) l) [] H H'](h:St n F (Mm c (aF (aI (λx:cX=>gT [sl lR x.wv.1 x.bx,aI mL x.bx]) l)::H')) T):St n F (Mm c H) T:=by
 obtain⟨L,a,b⟩:=tf.eq
 refine h.pQ λw Uf=> ?_
 rw[b,fj];refine Mm.agG l L (λx hx H h=>aaG tW tI (hw x hx) H w h) ?_;obtain⟨ρ,k⟩:=Uf.out;refine Mm.mk (k.perm ?_);rw[a];exact jJ
theorem JB (b1 bc:Nat)(u:aY)(its:List cX)(hd:((its.map bV).map λx=>ea x.ed).Nodup)(v:Value)(hn:its.length≤1000):
 dt Tryz.prog 125 #[v,.func (.func 126) #[] [Value.pointer (some ⟨b1,0,none⟩)].toArray] ([gT [oW b1 (.pointer (some ⟨bc,0,none⟩)),oW bc u.1,sl dX u.1 its,aI (λx:cX=>aG x.gr) its]].map aF++ [row v 3 1 its.length (rows aL (bC (List.range its.length)))]) (λr H'=>r= .tuple #[]∧H'=[row v 3 1 its.length (rows aL (bC (kM (its.map bV))))]):=by
 have hg:∀i,i<its.length→∃x,its[i]?=some x∧(its.map bV).getD i fQ=bV x:=λi hi=>by
  obtain⟨x,hx⟩:=aE hi;exact⟨x,hx,by rw[ak,bE,hx];rfl⟩
 have e:∀l:List Nat,rows aL (bC l)=l.map λi=>iv (i:Nat):=λl=>by rw[im,bC,kh];rfl
 have main:=Db Tryz.zY (m:=its.length) (λi=>iv (i:Nat)) (λ_ _=>rfl) (λi j=>xH ((its.map bV).getD i fQ).ed ((its.map bV).getD j fQ).ed) (λ_ _=>Kb _) (λ_ _ _ _ _ _=>Bq) (λ_ _ _ _ _ _=>zI) 126 adS [Value.pointer (some ⟨b1,0,none⟩)] (gT [oW b1 (.pointer (some ⟨bc,0,none⟩)),oW bc u.1,sl dX u.1 its,aI (λx:cX=>aG x.gr) its]) (λi j hi hj=>by
  obtain⟨x,hx,ex⟩:=hg i hi;obtain⟨y,hy,ey⟩:=hg j hj;rw[ex,ey]
  exact(Iu b1 bc u its i j x y hx hy).all) v 3 (by omega)
 rw[e];refine main.mono ?_;rintro r H' ⟨h1,l,hp,hs,h2⟩;refine⟨h1,?_⟩
 have hl:l=kM (its.map bV):=Qn hd (by rw[aQ];exact hp) hs
 rw[h2,hl,e]
theorem Mj (bc n:Nat)(u:aY)(its:List cX)(hd:((its.map bV).map λx=>ea x.ed).Nodup)(hl:its.length≤1000)(hw:∀x∈its,x.bx.length≤3000000000000∧∀w∈x.bx,lR.wf w∧w.kids.length≤1000∧∀k∈w.kids,k<its.length):
 dt Tryz.prog 91 #[.pointer (some ⟨bc,0,none⟩)] ([aI (λx:cX=>aG x.gr) its].map aF++([aX bc (.cells [u.1,iv (n:Nat),(.slice none 0 0)].toArray 120 (0,0)),row u.1 186 6 its.length (rows dX its)]++ax (dx 200 3) (its))) (λv H'=>∃(u2:aY) (j4:List cX),j4.map bV=fU (its.map bV)∧H'=[aX bc (.cells [u2.1,iv (n:Nat),(.slice none 0 0)].toArray 120 (0,0)),aF (sl dX u2.1 j4),aF (aI cW j4)]):=by
 refine dt.body (args:=[.pointer (some ⟨bc,0,none⟩)]) 101 Tryz.func91 rfl Tryz.ntmps91 rfl (λc=> ?_);refine St.cast (H':=(aF (aI (λx:cX=>aG x.gr) its)::aX bc (.cells [u.1,iv (n:Nat),(.slice none 0 0)].toArray 120 (0,0))::row u.1 186 6 its.length (rows dX its)::ax (dx 200 3) (its))) rfl ?_;refine go ?_;refine St.bZ u.1 dX its rfl rfl (λ_ _=>trivial) ?_
 obtain⟨o,ho⟩:∃o,o=(kM (its.map bV)):=⟨_,rfl⟩
 have hop:o.Perm (List.range its.length):=by rw[ho,show its.length=(its.map bV).length from(aQ _).symm];exact jE _ _
 have QU:o.length=its.length:=by rw[hop.length_eq,iJ]
 have aaI:o.Nodup:=hop.nodup_iff.2 List.nodup_range
 have XN:∀i,i<its.length→i∈o:=λi hi=>hop.mem_iff.2 (cy.2 hi)
 refine go ?_;refine St.NG (.mk rfl) rfl rfl (λb1=> ?_);refine g9 ?_;refine St.pg (m:=its.length) (.mk rfl) (.mk rfl) cI eJ jA wO rfl rfl (by omega) rfl rfl (λVM=> ?_);refine St.aO (.slice (some ⟨VM,0,none⟩) its.length its.length) rfl (show _=rows aL (OL its.length 0) by rw[tX];rfl) ?_;refine g12 ?_;refine St.lH (ι:=Nat) (λk T=>(22,iv k)::T) (λk=>(aX bc (.cells [u.1,iv (n:Nat),(.slice none 0 0)].toArray 120 (0,0))::aX b1 (.cells [.pointer (some ⟨bc,0,none⟩)].toArray 239 (0,0))::aF (sl dX u.1 its)::aF (aI (λx:cX=>aG x.gr) its)::row (.slice (some ⟨VM,0,none⟩) its.length its.length) 3 1 its.length (rows aL (OL its.length k))::ax (dx 200 3) (its))) (λk=>k≤its.length) (λk=>its.length-k) 0 (aC.cons 1 rfl (aC.cons 2 rfl (aC.cons 21 rfl aC.nil))) (aR _) ?_;intro k hk;refine g6 ?_;refine St.cq (λKT=> ?_) (λKT=> ?_)
 ·skip
  refine g15 ?_;refine St.bj (.mk rfl) (.mk rfl) eJ rfl (by omega) (by decide) ?_;refine St.aO (.slice (some ⟨VM,0,none⟩) its.length its.length) rfl (show _=rows aL (OL its.length (k+1)) by rw[gN,Zu (by omega)]) ?_;refine g8 ?_;refine St.aH (k+1) (by omega)
 ·obtain rfl:k=its.length:=by omega
  rw[Zv];refine g8 ?_;refine St.ee (Ev.func (.bB rfl)) ?_;refine St.abU (ds:=[gT [oW b1 (.pointer (some ⟨bc,0,none⟩)),oW bc u.1,sl dX u.1 its,aI (λx:cX=>aG x.gr) its]]) (L:=[row (.slice (some ⟨VM,0,none⟩) its.length its.length) 3 1 its.length (rows aL (bC (List.range its.length)))]) (R:=_) (JB b1 bc u its hd (.slice (some ⟨VM,0,none⟩) its.length its.length) hl) adT (.bH rfl rfl) (gp.gT (gp.aX (gp.aX (gp.aF (gp.aF gp.nil))))) (fb.row fb.nil) (λv H' h=>h.2▸fb.row fb.nil) rfl ?_;rintro v32 _ ⟨rfl,rfl⟩;rw[←ho];refine St.fk ?_;refine g6 ?_;refine St.pg (m:=its.length) (.mk rfl) (.mk rfl) cI eJ jA wO rfl rfl (by omega) rfl rfl (λV0=> ?_);refine St.aO (.slice (some ⟨V0,0,none⟩) its.length its.length) rfl (show _=rows aL (Mi o 0) by rw[tX,VH,QU]) ?_;refine g12 ?_;refine St.lH (ι:=Nat) (λk T=>(38,iv k)::T) (λk=>(aX bc (.cells [u.1,iv (n:Nat),(.slice none 0 0)].toArray 120 (0,0))::aX b1 (.cells [.pointer (some ⟨bc,0,none⟩)].toArray 239 (0,0))::aF (sl dX u.1 its)::aF (aI (λx:cX=>aG x.gr) its)::row (.slice (some ⟨VM,0,none⟩) its.length its.length) 3 1 its.length (rows aL (bC o))::row (.slice (some ⟨V0,0,none⟩) its.length its.length) 3 1 its.length (rows aL (Mi o k))::ax (dx 200 3) (its))) (λk=>k≤its.length) (λk=>its.length-k) 0 (aC.cons 1 rfl (aC.cons 2 rfl (aC.cons 4 rfl (aC.cons 36 rfl (aC.cons 37 rfl aC.nil))))) (aR _) ?_;intro k hk;refine g6 ?_;refine St.cq (λSM=> ?_) (λSM=> ?_)
  ·obtain⟨i,hi⟩:=aE (show k<o.length by omega)
   have qQ:i<its.length:=cy.1 (hop.mem_iff.1 (ab hi))
   refine g8 ?_;refine St.ee (Ev.cB (.mk rfl) eN trivial (by omega) (fF (dD hi))) ?_;refine g9 ?_;refine St.bj (.mk rfl) (.mk rfl) eJ rfl (by omega) (by decide) ?_;refine St.aO (.slice (some ⟨V0,0,none⟩) its.length its.length) rfl (show _=rows aL (Mi o (k+1)) by rw[gN,VI aaI hi (by omega)]) ?_;refine g8 ?_;refine St.aH (k+1) (by omega)
  ·obtain rfl:k=its.length:=by omega
   refine g9 ?_;refine St.ot (Rr:=dX) (g:=wg) (m:=its.length) (sz:=6) rfl (.mk rfl) (.mk rfl) mn o4 Em Og rfl rfl (by omega) rfl rfl (λSV=> ?_);refine St.aO (.slice (some ⟨SV,0,none⟩) its.length its.length) rfl (show _=rows dX (I2 o its 0) by unfold I2;rw[List.take_zero,lV,Av,Nat.sub_zero,QU]) ?_;refine g12 ?_;refine St.E8 (ι:=Nat) (λk T=>(53,iv k)::T) (λk=>(aX bc (.cells [u.1,iv (n:Nat),(.slice none 0 0)].toArray 120 (0,0))::aX b1 (.cells [.pointer (some ⟨bc,0,none⟩)].toArray 239 (0,0))::aF (sl dX u.1 its)::aF (aI (λx:cX=>aG x.gr) its)::row (.slice (some ⟨VM,0,none⟩) its.length its.length) 3 1 its.length (rows aL (bC o))::row (.slice (some ⟨V0,0,none⟩) its.length its.length) 3 1 its.length (rows aL (Mi o its.length))::row (.slice (some ⟨SV,0,none⟩) its.length its.length) 186 6 its.length (rows dX (I2 o its (k)))::ax (dx 200 3) (T2 o its k))) (λk=>k≤its.length) (λk=>its.length-k) 0 (aC.cons 1 rfl (aC.cons 4 rfl (aC.cons 7 rfl (aC.cons 51 rfl (aC.cons 52 rfl aC.nil))))) (aR _) (by repeat(first|exact Sub.nil|refine Sub.cons (by first|rfl|exact congrArg (λz=>some (iv z)) (by first|omega|(dsimp only;omega))|exact congrArg (λz=>some (Value.bool z)) (by first|assumption|exact iZ (by assumption))) ?_)) (λ_ hw=>by rw[VJ];exact hw.sub) ?_;intro k hk;refine g6 ?_;refine St.cq (λHv=> ?_) (λHv=> ?_)
   ·obtain⟨i,hi⟩:=aE (show k<o.length by omega)
    have qQ:i<its.length:=cy.1 (hop.mem_iff.1 (ab hi))
    obtain⟨x,hx⟩:=aE qQ;obtain⟨MO,Uf⟩:=hw x (ab hx)
    have hix:=Cr aaI hi
    have hT:(T2 o its k)[i]?=some x:=by rw[Bx,hx];show some _=some _;dsimp only;rw[aA (by omega)]
    have hI:=Zx (o:=o) (its:=its) (k:=k) (by omega)
    refine g8 ?_;refine St.ee (Ev.cB (.mk rfl) eN trivial (by omega) (fF (dD hi))) ?_;refine g14 ?_;refine St.ee (Ev.Hk (Rr:=dX) (sz:=6) (.mk rfl) hx Tryz.underlying186 trivial o4 (by decide) (by decide)) ?_;refine go ?_;refine St.tF (Rr:=dX) (show dX.size=6 from rfl) (A1 o x) (.mk rfl) (.mk rfl) o4 (by omega) (by omega) ?_;rw[RN hi hx];refine g6 ?_
    have hI3:(I2 o its (k+1))[k]?=some (A1 o x):=by rw[←RN hi hx,eP (by omega)]
    refine St.aO (.slice (some ⟨SV,0,none⟩) its.length its.length) rfl (show _=rows dX (I2 o its (k+1))from rfl) ?_;refine g2 ?_;refine St.ee (Ev.cB (.mk rfl) si trivial (by omega) (db dX _ k 4 _ hI3 (by decide))) ?_;refine St.slot 72 x.wv.1 rfl rfl ?_;refine St.tail (ax (dx 200 3) (T2 o its k)) (row x.wv.1 200 3 x.bx.length (rows lR x.bx)::row x.tv.1 3 1 x.bN.length (rows aL x.bN)::(ax (iV 3) x.bx++ax (dx 200 3) ((T2 o its k).eraseIdx i))) (mq (dx 200 3) hT) ?_;refine g5 ?_;refine St.E8 (ι:=Nat) (λm T=>(74,iv m)::T) (λm=>(aX bc (.cells [u.1,iv (n:Nat),(.slice none 0 0)].toArray 120 (0,0))::aX b1 (.cells [.pointer (some ⟨bc,0,none⟩)].toArray 239 (0,0))::aF (sl dX u.1 its)::aF (aI (λx:cX=>aG x.gr) its)::row (.slice (some ⟨VM,0,none⟩) its.length its.length) 3 1 its.length (rows aL (bC o))::row (.slice (some ⟨V0,0,none⟩) its.length its.length) 3 1 its.length (rows aL (Mi o its.length))::row (.slice (some ⟨SV,0,none⟩) its.length its.length) 186 6 its.length (rows dX (I2 o its (k+1)))::row x.wv.1 200 3 x.bx.length (rows lR x.bx)::row x.tv.1 3 1 x.bN.length (rows aL x.bN)::(ax (iV 3) (W2 o x.bx m)++ax (dx 200 3) ((T2 o its k).eraseIdx i)))) (λm=>m≤x.bx.length) (λm=>x.bx.length-m) 0 (aC.cons 1 rfl (aC.cons 4 rfl (aC.cons 7 rfl (aC.cons 51 rfl (aC.cons 52 rfl (aC.cons 53 rfl (aC.cons 72 rfl (aC.cons 73 rfl aC.nil)))))))) (aR _) (by repeat(first|exact Sub.nil|refine Sub.cons (by first|rfl|exact congrArg (λz=>some (iv z)) (by first|omega|(dsimp only;omega))|exact congrArg (λz=>some (Value.bool z)) (by first|assumption|exact iZ (by assumption))) ?_)) (λ_ hw=>by rw[VK];exact hw.sub) ?_;intro m hm;refine g6 ?_;refine St.cq (λh75=> ?_) (λh75=> ?_)
    ·obtain⟨w,hwm⟩:=aE (show m<x.bx.length by omega)
     obtain⟨SB,Gj,hw3⟩:=Uf w (ab hwm)
     have hWm:=agE (o:=o) hwm
     have hWl:=aaB (o:=o) (l:=x.bx) (m:=m) (by omega)
     refine g7 ?_;refine St.ee (Ev.uh (R:=lR) (.mk rfl) hwm Tryz.underlying200 trivial vx (by omega)) ?_;refine St.slot 77 (.agg #[iv w.rule,iv w.lex,w.kv.1]) rfl rfl ?_;refine St.al (λpT=> ?_);refine g7 ?_;refine St.tail (ax (iV 3) (W2 o x.bx m)++ax (dx 200 3) ((T2 o its k).eraseIdx i)) (row w.kv.1 3 1 w.kids.length (rows aL (bC w.kids))::(ax (iV 3) ((W2 o x.bx m).eraseIdx m)++ax (dx 200 3) ((T2 o its k).eraseIdx i))) (aaA (iV 3) (ax (dx 200 3) ((T2 o its k).eraseIdx i)) hWm) ?_;refine g5 ?_;refine St.E8 (ι:=Nat) (λd T=>(81,iv d)::T) (λd=>(aX bc (.cells [u.1,iv (n:Nat),(.slice none 0 0)].toArray 120 (0,0))::aX b1 (.cells [.pointer (some ⟨bc,0,none⟩)].toArray 239 (0,0))::aF (sl dX u.1 its)::aF (aI (λx:cX=>aG x.gr) its)::row (.slice (some ⟨VM,0,none⟩) its.length its.length) 3 1 its.length (rows aL (bC o))::row (.slice (some ⟨V0,0,none⟩) its.length its.length) 3 1 its.length (rows aL (Mi o its.length))::row (.slice (some ⟨SV,0,none⟩) its.length its.length) 186 6 its.length (rows dX (I2 o its (k+1)))::row x.wv.1 200 3 x.bx.length (rows lR x.bx)::row x.tv.1 3 1 x.bN.length (rows aL x.bN)::aX pT (.cells [iv w.rule,iv w.lex,w.kv.1].toArray 200 (0,0))::row w.kv.1 3 1 w.kids.length (rows aL (bC (K2 o w.kids d)))::(ax (iV 3) ((W2 o x.bx m).eraseIdx m)++ax (dx 200 3) ((T2 o its k).eraseIdx i)))) (λd=>d≤w.kids.length) (λd=>w.kids.length-d) 0 (aC.cons 1 rfl (aC.cons 4 rfl (aC.cons 7 rfl (aC.cons 11 rfl (aC.cons 51 rfl (aC.cons 52 rfl (aC.cons 53 rfl (aC.cons 72 rfl (aC.cons 73 rfl (aC.cons 74 rfl (aC.cons 79 rfl (aC.cons 80 rfl aC.nil)))))))))))) (aR _) (by repeat(first|exact Sub.nil|refine Sub.cons (by first|rfl|exact congrArg (λz=>some (iv z)) (by first|omega|(dsimp only;omega))|exact congrArg (λz=>some (Value.bool z)) (by first|assumption|exact iZ (by assumption))) ?_)) (λ_ hw=>by rw[VL];exact hw.sub) ?_;intro d hdd;refine g6 ?_;refine St.cq (λSQ=> ?_) (λSQ=> ?_)
     ·obtain⟨q,hq⟩:=aE (show d<w.kids.length by omega)
      have Gr:=hw3 q (ab hq)
      have hKd:=agF (o:=o) hq
      refine g8 ?_;refine St.ee (Ev.cB (.mk rfl) eN trivial (by omega) (fF (dD hKd))) ?_;refine g4 ?_;refine St.kA w.kv.1 (by omega) (λbs cs qJ=> ?_);refine St.cx (row w.kv.1 3 1 w.kids.length (rows aL (bC (K2 o w.kids d)))::(ax (iV 3) ((W2 o x.bx m).eraseIdx m)++ax (dx 200 3) ((T2 o its k).eraseIdx i))) mixed (λnp ns=> ?_);refine SW.gd 0 ?_;refine SW.gd 1 ?_;refine SW.gd 2 ?_;refine SW.gd 3 ?_;refine SW.gd 4 ?_;refine SW.gd 5 ?_;refine SW.dd 6 rfl (λ_=>Ev.cB (.mk rfl) eN trivial (by omega) (fF (by rw[←QU];exact Zw (by omega) (XN q Gr)))) ?_;refine SW.dd 7 rfl (λ_=>Ev.mN (k:=d) qJ (.mk rfl) (.mk rfl) cI eJ (by omega) (by omega)) ?_;refine SW.t1 8 ?_;refine St.bj (.mk rfl) (.mk rfl) eJ rfl (by omega) (by decide) ?_;refine St.aO w.kv.1 rfl (show _=rows aL (bC (K2 o w.kids (d+1))) by rw[gN,G9,aaE hq]) ?_;refine g2 ?_;refine SW.go ?_;refine SW.dn ?_;refine g7 ?_;refine St.aH (d+1) (by omega)
     ·obtain rfl:d=w.kids.length:=by omega
      rw[aaF];refine St.mB [row w.kv.1 3 1 w.kids.length (rows aL (bC (w.kids.map (p7 o))))] (ax (iV 3) ((W2 o x.bx m).eraseIdx m)++ax (dx 200 3) ((T2 o its k).eraseIdx i)) (ax (iV 3) (W2 o x.bx (m+1))++ax (dx 200 3) ((T2 o its k).eraseIdx i)) (by have:=agD (iV 3) (ax (dx 200 3) ((T2 o its k).eraseIdx i)) (XM o w) (show m<(W2 o x.bx m).length by omega);rw[aaC hwm]at this;unfold iV XM at this;dsimp only at this;rw[aQ]at this;exact this) ?_;refine g11 ?_;refine St.aH (m+1) (by omega)
    ·obtain rfl:m=x.bx.length:=by omega
     rw[aaD];refine St.mB [row x.wv.1 200 3 x.bx.length (rows lR x.bx),row x.tv.1 3 1 x.bN.length (rows aL x.bN)] (ax (iV 3) (x.bx.map (XM o))++ax (dx 200 3) ((T2 o its k).eraseIdx i)) (ax (dx 200 3) (T2 o its (k+1))) (by have:=rp (dx 200 3) (A1 o x) (show i<(T2 o its k).length by rw[RO];exact qQ);rw[Zy aaI hi hx]at this;unfold dx A1 at this;dsimp only at this;rw[aQ,RP]at this;exact this) ?_;refine g11 ?_;refine St.aH (k+1) (by omega)
   ·obtain rfl:k=its.length:=by omega
    have hTa:T2 o its its.length=its.map (A1 o):=by rw[←QU];exact Zz XN
    rw[hTa];refine St.aaH 200 3 (its.map (A1 o)) (λy hy w Gj=>by obtain⟨x,hx,rfl⟩:=ct.1 hy;obtain⟨w1,SB,rfl⟩:=ct.1 Gj;have:=(hw x hx).2 w1 SB;exact⟨this.1,λk hk=>by obtain⟨k1,jv,rfl⟩:=ct.1 hk;have h9:p7 o k1≤o.length:=List.idxOf_le_length;unfold bP;omega⟩) ?_
    have hI2:I2 o its its.length=o.map λi=>A1 o (its.getD i wg):=by unfold I2;rw[←QU,fJ,jy];exact fj _
    rw[hI2];refine St.bZ (.slice (some ⟨SV,0,none⟩) its.length its.length) dX (o.map λi=>A1 o (its.getD i wg)) rfl (by rw[aQ,QU]) (λ_ _=>trivial) ?_
    refine St.eT (aI cW (o.map λi=>A1 o (its.getD i wg))) [aI (λx:cX=>aG x.gr) its,aI (λx:cX=>gT [sl lR x.wv.1 x.bx,aI mL x.bx]) (its.map (A1 o))] (λρ h y hy=>by
     have h1:=h _ (aU ..)
     have h2:=h _ (cE _ (aU ..))
     obtain⟨i,hi,rfl⟩:=ct.1 hy
     have qQ:i<its.length:=cy.1 (hop.mem_iff.1 hi)
     obtain⟨x,hx⟩:=aE qQ
     have Gt:its.getD i wg=x:=by rw[ak,hx];rfl
     rw[Gt]
     have h3:=h2 (A1 o x) (dq (ab hx))
     intro e he
     rcases cD.1 he with rfl|he
     ·exact h1 x (ab hx)
     ·exact h3 e he) ?_
    refine g10 ?_;refine St.cO (.mk rfl) (.mk rfl) Oh rfl (by rfl) ?_;refine go ?_;refine St.dg ?_;refine St.rV [] [aX bc (.cells [(.slice (some ⟨SV,0,none⟩) its.length its.length),iv (n:Nat),(.slice none 0 0)].toArray 120 (0,0)),aF (sl dX (.slice (some ⟨SV,0,none⟩) its.length its.length) (o.map λi=>A1 o (its.getD i wg))),aF (aI cW (o.map λi=>A1 o (its.getD i wg)))] ?_;exact⟨⟨(.slice (some ⟨SV,0,none⟩) its.length its.length),rfl⟩,_,by rw[ho];exact VG its,rfl⟩
theorem za {q:List iq}{i:Nat}(h:i<q.length):q.getD i Ke∈q:=by
 rw[ak,bO h];exact gm h
theorem oM (q:List iq)(i j:Nat):(wc q i j).length=q.length:=by unfold wc;rw[cG,cG]
theorem zb {q:List iq}{i j:Nat}(hi:i<q.length)(hj:j<q.length){u:iq}(h:u∈wc q i j):u∈q:=by
 rcases jx h with h|rfl
 ·rcases jx h with h|rfl
  ·exact h
  ·exact za hj
 ·exact za hi
theorem VN {q:List iq}{i n:Nat}(h:¬n≤2*i+1):p9 q i n<n:=by unfold p9;split<;>omega
theorem zd:∀(f:Nat) (q:List iq) (i n:Nat),n≤q.length→∀u∈oD f q i n,u∈q
 |0,_,_,_,_,_,h=>h
 |f+1,q,i,n,hn,u,h=>by
  rw[oD]at h
  split at h
  ·exact h
  ·rename_i h1
   split at h
   ·exact h
   ·have hk:=VN (q:=q) h1
    exact zb (by omega) (by omega) (zd f _ _ n (by rw[oM];exact hn) u h)
theorem u4:∀(f:Nat) (q:List iq) (i n:Nat),(oD f q i n).length=q.length
 |0,_,_,_=>rfl
 |f+1,q,i,n=>by
  rw[oD]
  split
  ·rfl
  ·split
   ·rfl
   ·rw[u4 f,oM]
theorem Ko:∀(f:Nat) (q:List iq) (j:Nat),j<q.length→∀u∈Kf f q j,u∈q
 |0,_,_,_,_,h=>h
 |f+1,q,j,hj,u,h=>by
  rw[Kf]at h
  split at h
  ·exact h
  ·exact zb (by omega) hj (Ko f _ _ (by rw[oM];omega) u h)
theorem Kq:∀(f:Nat) (q:List iq) (j:Nat),(Kf f q j).length=q.length
 |0,_,_=>rfl
 |f+1,q,j=>by
  rw[Kf]
  split
  ·rfl
  ·rw[Kq f,oM]
theorem GA (n:Nat):∀(k:Nat) (q:List iq),(ti n k q).length=q.length
 |0,_=>rfl
 |k+1,q=>by rw[ti,GA n k,u4]
theorem GB (n:Nat):∀(k:Nat) (q:List iq),n≤q.length→∀u∈ti n k q,u∈q
 |0,_,_,_,h=>h
 |k+1,q,hn,u,h=>zd _ _ _ _ hn u (GB n k _ (by rw[u4];exact hn) u (by rwa[ti]at h))
theorem GC (q:List iq)(x:iq):(Ac q x).length=q.length+1:=by unfold Ac;rw[Kq,bA,lU]
theorem RQ {q:List iq}{x u:iq}(h:u∈Ac q x):u∈q∨u=x:=by
 have:=Ko _ _ _ (by rw[bA,lU];omega) u h
 rcases ba.1 this with h|h
 ·exact .inl h
 ·exact .inr (bJ.1 h)
theorem GD (q:List iq):(pA q).length=q.length:=by unfold pA;rw[u4,oM]
theorem GF {q:List iq}(h0:0<q.length){u:iq}(h:u∈pA q):u∈q:=zb h0 (by omega) (zd _ _ _ _ (by rw[oM];omega) u h)
section
variable {B:cH}{f:Nat}{get:dJ→Nat→Nat→dJ×Option jH}
theorem fH {st:dJ}{e:Nat}{x:wB}(h:st[e]?=some x):st.getD e nO=x:=by rw[ak,h];rfl
theorem ql {st:dJ}{e:Nat}{x:wB}(h:st[e]?=some x)(q:List iq):DR st e q=st.set e ⟨x.done,q,x.begun⟩:=by unfold DR;rw[fH h]
structure aaJ (B:cH)(e:Nat)(uQ:dJ)(w:Nat)(st:dJ):Prop where
 ok:jG B st
 hp:Hp B e uQ st
 at_:∃x:wB,st[e]?=some x∧x.done=[]∧x.begun=true∧x.next.length≤w
theorem VO (hB:oG B)(hg:tn B f get){e w:Nat}{uQ st:dJ}(he:e<B.its.length)(qi:k9 B e<f+1)(hw:w<qy B e)(h:aaJ B e uQ w st):
 aaJ B e uQ (w+1) (Ad B get e st w):=by
 obtain⟨x,hx,hd,hb,hn⟩:=h.at_
 have hh:=hB.ht e he
 obtain⟨a1,a2,a3⟩:=DS (D:=0) (ranks:=List.replicate (B.fA e w).kids.length 0) hB hg he qi hw (jI) (λr hr=>(by rw[vZ hr];exact aW _)) (by omega) h.ok
 have mH:=a2 e (aW _)
 rw[hx]at mH;unfold Ad
 rcases hq:mU B get st e w (List.replicate (B.fA e w).kids.length 0)with⟨st2,_|c⟩
 ·rw[hq]at a1 a2 mH
  exact⟨a1,h.hp.trans a2.hp,x,mH,hd,hb,by omega⟩
 ·rw[hq]at a1 a2 a3 mH
  dsimp only at mH⊢
  rw[ql mH,fH mH]
  have hc:=a3 c rfl
  have hN:=a1.nl e x mH
  refine⟨a1.set (e:=e) (y:=⟨x.done,x.next++ [c],x.begun⟩) ⟨hN.done,λc2 kS=> ?_,hN.dl,λhf=>(by rw[hb]at hf;cases hf),?_⟩,(h.hp.trans a2.hp).trans (.set _ _),⟨x.done,x.next++ [c],x.begun⟩,?_,hd,hb,?_⟩
  ·rcases ba.1 kS with kS|kS
   ·exact hN.next c2 kS
   ·rw[bJ]at kS;subst kS;exact hc.mono (aR _)
  ·show(x.next++ [c]).length≤_
   rw[bA,lU];omega
  ·exact eP (eD.1 mH).1
  ·show(x.next++ [c]).length≤_
   rw[bA,lU];omega
theorem JC {α:Type}(g:α→Nat→α)(a:α)(n:Nat):(List.range (n+1)).foldl g a=g ((List.range n).foldl g a) n:=by
 rw[vc,An];rfl
def GG (B:cH)(get:dJ→Nat→Nat→dJ×Option jH)(e:Nat)(st:dJ)(w:Nat):dJ:=(List.range w).foldl (Ad B get e) (st.set e ⟨(st.getD e nO).done,(st.getD e nO).next,true⟩)
theorem Bz (e:Nat)(st:dJ)(w:Nat):GG B get e st (w+1)=Ad B get e (GG B get e st w) w:=JC _ _ _
theorem GH {e:Nat}{st:dJ}(h:(st.getD e nO).begun=false):zM B get e st=DR (GG B get e st (qy B e)) e (ti ((GG B get e st (qy B e)).getD e nO).next.length (((GG B get e st (qy B e)).getD e nO).next.length/2) ((GG B get e st (qy B e)).getD e nO).next):=by
 unfold zM;rw[aA (by rw[h];decide)];rfl
theorem GI {e:Nat}{st:dJ}(h:(st.getD e nO).begun=true):zM B get e st=st:=by unfold zM;rw[aB h]
theorem Dc (hB:oG B)(hg:tn B f get){e:Nat}{st:dJ}(he:e<B.its.length)(qi:k9 B e<f+1)(hs:jG B st)(h0:(st.getD e nO).begun=false):∀w,w≤qy B e→aaJ B e st w (GG B get e st w)
 |0,_=>by
  obtain⟨x,hx,Gt,hN⟩:=hs.at_ he;rw[Gt]at h0;obtain⟨n1,n2⟩:=hN.new h0
  have hy:Uu B e ⟨x.done,x.next,true⟩:=⟨hN.done,hN.next,hN.dl,λhf=>(by cases hf),hN.nl⟩
  refine⟨?_,?_,⟨x.done,x.next,true⟩,?_,n1,rfl,?_⟩
  ·show jG B (st.set e ⟨(st.getD e nO).done,(st.getD e nO).next,true⟩);rw[Gt];exact hs.set hy
  ·exact .set _ _
  ·show(st.set e ⟨(st.getD e nO).done,(st.getD e nO).next,true⟩)[e]?=_;rw[Gt];exact eP (eD.1 hx).1
  ·show x.next.length≤0;rw[n2];exact aW _
 |w+1,hw=>by rw[Bz];exact VO hB hg he qi (by omega) (Dc hB hg he qi hs h0 w (by omega))
structure JD (B:cH)(e:Nat)(uQ st:dJ):Prop where
 ok:jG B st
 hp:Hp B e uQ st
 at_:∃x:wB,st[e]?=some x∧x.begun=true
theorem RR (hB:oG B)(hg:tn B f get){e:Nat}{st:dJ}(he:e<B.its.length)(qi:k9 B e<f+1)(hs:jG B st):JD B e st (zM B get e st):=by
 obtain⟨x0,wi,Gt,_⟩:=hs.at_ he
 cases hb:x0.begun with
 |true=>rw[GI (by rw[Gt];exact hb)];exact⟨hs,.refl _ _ _,x0,wi,hb⟩
 |false=>
  have h0:(st.getD e nO).begun=false:=by rw[Gt];exact hb
  rw[GH h0]
  have h:=Dc hB hg he qi hs h0 (qy B e) (aW _)
  obtain⟨x,hx,hd,U9,hn⟩:=h.at_
  have hN:=h.ok.nl e x hx
  rw[ql hx,fH hx];refine⟨h.ok.set ⟨hN.done,λc hc=>hN.next c (GB _ _ _ (aW _) c hc),hN.dl,λhf=>(by rw[U9]at hf;cases hf),?_⟩,h.hp.trans (.set _ _),_,eP (eD.1 hx).1,U9⟩
  show(ti _ _ _).length≤_
  rw[GA];exact hN.nl
theorem RS {st:dJ}{e:Nat}{x:wB}(h:st[e]?=some x):MW st e=st.set e ⟨x.done++ [((pA x.next).getD (x.next.length-1) Ke).rk],(pA x.next).take (x.next.length-1),x.begun⟩:=by unfold MW;rw[fH h]
theorem Kr {st:dJ}{e:Nat}{x:wB}(h:st[e]?=some x):Ft st e=(pA x.next).getD (x.next.length-1) Ke:=by unfold Ft;rw[fH h]
structure GJ (B:cH)(e D:Nat)(uQ:dJ)(d:Nat)(st:dJ):Prop where
 ok:jG B st
 hp:Hp B e uQ st
 at_:∃x:wB,st[e]?=some x∧x.done.length=D∧x.begun=true∧x.next.length+4≤qy B e+3*D+d
theorem RT {e r:Nat}{uQ st:dJ}{x:wB}(h:JD B e uQ st)(hx:st[e]?=some x)(hr:r+1+k9 B e≤262)(hd:x.done.length≤r)(hn:0<x.next.length):
 GJ B e (x.done.length+1) uQ 0 (MW st e)∧vP B e x.done.length (Ft st e):=by
 obtain⟨x',Mx,hb⟩:=h.at_
 rw[hx]at Mx;obtain rfl:=Option.some.inj Mx
 have hN:=h.ok.nl e x hx
 have agH:(pA x.next).getD (x.next.length-1) Ke∈x.next:=GF hn (za (by rw[GD];omega))
 have hc:=hN.next _ agH
 rw[RS hx,Kr hx]
 have KC:=hN.nl
 have hle:(x.done++ [((pA x.next).getD (x.next.length-1) Ke).rk]).length=x.done.length+1:=by rw[bA,lU]
 have nS:((pA x.next).take (x.next.length-1)).length=x.next.length-1:=by rw[e9,GD];omega
 refine⟨⟨h.ok.set ⟨λk hk=> ?_,λc kS=> ?_,?_,λhf=>(by rw[hb]at hf;cases hf),?_⟩,h.hp.trans (.set _ _),_,eP (eD.1 hx).1,hle,hb,?_⟩,hc⟩
 ·rcases ba.1 hk with hk|hk
  ·exact hN.done k hk
  ·rw[bJ]at hk;subst hk;exact hc.rk
 ·exact(hN.next c (GF hn (xO kS))).mono (by show _≤(x.done++_).length;omega)
 ·show(x.done++_).length+k9 B e≤262;rw[hle];omega
 ·show((pA x.next).take _).length≤qy B e+3*(x.done++_).length;rw[hle,nS];omega
 ·show((pA x.next).take _).length+4≤_;rw[nS];omega
def ze (B:cH)(get:dJ→Nat→Nat→dJ×Option jH)(e:Nat)(c:iq)(d:Nat)(st:dJ):dJ:=match mU B get st e c.fA (c.ranks.set d (c.ranks.getD d 0+1))with
 |(st,none)=>st
 |(st,some x)=>DR st e (Ac (st.getD e nO).next x)
theorem C0 (e:Nat)(c:iq)(m d:Nat)(st:dJ):Ae B get e c (m+1) d st=if 0<c.ranks.getD d 0 then ze B get e c d st else Ae B get e c m (d+1) (ze B get e c d st):=rfl
theorem Ks {c:iq}{e D d:Nat}(h:vP B e D c):(c.ranks.set d (c.ranks.getD d 0+1)).length=(B.fA e c.fA).kids.length∧∀r∈c.ranks.set d (c.ranks.getD d 0+1),r≤D+1:=by
 refine⟨by rw[cG];exact h.len,λr hr=> ?_⟩
 rcases jx hr with hr|rfl
 ·have:=h.rks r hr;omega
 ·rw[ak]
  cases hi:c.ranks[d]? with
  |none=>show 0+1≤D+1;omega
  |some z=>have:=h.rks z (ab hi);show z+1≤D+1;omega
theorem Dd (hB:oG B)(hg:tn B f get){e d D:Nat}{c:iq}{uQ st:dJ}(he:e<B.its.length)(qi:k9 B e<f+1)(hc:vP B e D c)(hd:d<3)(h:GJ B e (D+1) uQ d st):
 GJ B e (D+1) uQ (d+1) (ze B get e c d st):=by
 obtain⟨x,hx,I7,hb,hn⟩:=h.at_;obtain⟨r1,r2⟩:=Ks (d:=d) hc
 have hD:=(h.ok.nl e x hx).dl
 obtain⟨a1,a2,a3⟩:=DS (D:=D+1) hB hg he qi hc.fA r1 r2 (by omega) h.ok
 have mH:=a2 e (aW _)
 rw[hx]at mH;unfold ze
 rcases hq:mU B get st e c.fA (c.ranks.set d (c.ranks.getD d 0+1))with⟨st2,_|z⟩
 ·rw[hq]at a1 a2 mH
  exact⟨a1,h.hp.trans a2.hp,x,mH,I7,hb,by omega⟩
 ·rw[hq]at a1 a2 a3 mH
  dsimp only at mH⊢
  rw[ql mH,fH mH]
  have hz:=a3 z rfl
  have hN:=a1.nl e x mH
  refine⟨a1.set ⟨hN.done,λc2 kS=> ?_,hN.dl,λhf=>(by rw[hb]at hf;cases hf),?_⟩,(h.hp.trans a2.hp).trans (.set _ _),_,eP (eD.1 mH).1,I7,hb,?_⟩
  ·rcases RQ kS with kS|rfl
   ·exact hN.next c2 kS
   ·show vP B e x.done.length c2;rw[I7];exact hz
  ·show(Ac x.next z).length≤qy B e+3*x.done.length;rw[GC];omega
  ·show(Ac x.next z).length+4≤_;rw[GC];omega
theorem u6 {e D d:Nat}{uQ st:dJ}(h:GJ B e D uQ d st):JD B e uQ st:=let⟨x,hx,_,hb,_⟩:=h.at_;⟨h.ok,h.hp,x,hx,hb⟩
theorem Kt (hB:oG B)(hg:tn B f get){e D:Nat}{c:iq}{uQ:dJ}(he:e<B.its.length)(qi:k9 B e<f+1)(hc:vP B e D c):∀(m d:Nat) (st:dJ),m+d≤3→GJ B e (D+1) uQ d st→JD B e uQ (Ae B get e c m d st)
 |0,d,st,_,h=>u6 h
 |m+1,d,st,hm,h=>by
  have h2:=Dd hB hg he qi hc (by omega) h
  rw[C0]
  split
  ·exact u6 h2
  ·exact Kt hB hg he qi hc m (d+1) _ (by omega) h2
theorem agI (hB:oG B){e w:Nat}(he:e<B.its.length)(hw:w<qy B e):(B.fA e w).kids.length≤3:=by
 by_cases hr:(B.fA e w).rule<0
 ·rw[(hB.lex e w he hw hr).1];exact aR _
 ·exact(hB.rule e w he hw hr).2.1
theorem agJ (hB:oG B){e D:Nat}{c:iq}(he:e<B.its.length)(hc:vP B e D c):c.ranks.length≤3:=by
 rw[hc.len]
 by_cases hr:(B.fA e c.fA).rule<0
 ·rw[(hB.lex e c.fA he hc.fA hr).1];exact aR _
 ·exact(hB.rule e c.fA he hc.fA hr).2.1
theorem Ku (hB:oG B)(hg:tn B f get){e r:Nat}{uQ:dJ}(he:e<B.its.length)(qi:k9 B e<f+1)(hr:r+1+k9 B e≤262):∀(m:Nat) (st:dJ),JD B e uQ st→JD B e uQ (tj B get e r m st)
 |0,_,h=>h
 |m+1,st,h=>by
  rw[tj];obtain⟨x,hx,hb⟩:=h.at_
  split
  ·rename_i hc
   rw[fH hx]at hc;obtain⟨p1,p2⟩:=RT h hx hr hc.1 hc.2;exact Ku hB hg he qi hr m _ (Kt hB hg he qi p2 _ 0 _ (by have:=agJ hB he p2;omega) p1)
  ·exact h
end
theorem De {B:cH}(hB:oG B):∀f,tn B f (ej B f)
 |0=>⟨λe r st _ h=>by omega⟩
 |f+1=>⟨λe r st he qi hr hs=>by
  have hg:=De hB f
  have h:=Ku hB hg he qi hr (r+1) _ (RR hB hg he qi hs)
  obtain⟨x,hx,_⟩:=h.at_;rw[ej];refine⟨h.ok,h.hp,λy hy=> ?_⟩
  dsimp only at hy
  rw[fH hx]at hy
  exact(h.ok.nl e x hx).done y (ab hy)⟩
end Go.Proofs.YtblifkgpebebmaaGreatDoor
namespace Go.J
open Go Go.RowKit
section
variable {P:Program}{n:Nat}{F:Fr}{c:Ctx}{H R:List ao}{ty t e:TypeId}{x:Operand}{T:Act→World→Prop}
theorem Ev.qm {b off:Nat}{d:TypeDesc}{L:List Value}{u:Value}[hb:mI b H L](hx:aZ F x (.pointer (some ⟨b,off,none⟩)))(ht:P.underlying t=some d)(jv:(match d with| .struct _| .array _ _=>False|_=>True))(hu:L[off]?=some u):
 Ev P n F (Mm c H) (.load t x) ty u:= .of_run λa w ha hw=>by
 obtain⟨ρ,hm⟩:=hw.out;obtain⟨e,fr,h1⟩:=dm.1 (hm.dK _ hb.mem)
 have h1:=hm.fits _ _ h1
 simp[execOp,hx.eval ha,Instr.loadAt,Instr.sureAddr,eM ht jv ((bh h1).trans (by simpa using hu))]
theorem St.agK {size m:Nat}{cs:List Value}(v:Value)(s:Nat)[tk:ko v H e size m cs R](hs:size=s)(h:St n F (Mm c (row v e s m cs::R)) T):St n F (Mm c H) T:=by
 subst hs
 exact h.pQ λw hw=>let⟨_,k⟩:=hw.out;Mm.mk (k.perm tk.perm)
theorem mM {ρ:Ro}{b off:Nat}:∀(us:List Value) (j:Nat) (L:List Value) (w:World),eQ c (aX b (.cells L.toArray e (0,0))::R) ρ w→off+j+us.length≤L.length→(∀u∈us,u.oneCell'=true)→
 ∃w',(storeCells ⟨b,off,none⟩ us j).run P w= .ok () w'∧eQ c (aX b (.cells (ru L (off+j) us).toArray e (0,0))::R) ρ w'
 | [],j,L,w,hm,_,_=>⟨w,rfl,hm⟩
 |u::us,j,L,w,hm,hj,h1=>by
  rw[dy]at hj;obtain⟨c1,f1,H9⟩:=TN (off:=off+j) (u:=u) hm (by omega);obtain⟨w',hr,pa⟩:=mM (off:=off) us (j+1) (L.set (off+j) u) _ H9 (by rw[cG];omega) (λz hz=>h1 z (by simp[hz]));refine⟨w',?_,by rw[ru];exact pa⟩;rw[storeCells]
  simp[run_store P w _ u _ (h1 u (by simp)),c1,f1,Addr.add_lit,hr]
variable {y:Operand}{Q:Exit→Act→World→Prop}{ops:Array Oper}{rest:List Oper}{pos:String}{after:Array Edge}{ty:TypeId}
theorem St.RU {b off m:Nat}{L L' us:List Value}[tk:lY b H (.cells L.toArray e (0,0)) R](hx:aZ F x (.pointer (some ⟨b,off,none⟩)))(hy:aZ F y (.agg us.toArray))(hs:(P.info? t).map (·.size)=some m)(Gi:us.length=m)(h1:us.all (·.oneCell')=true)
 (xU:Nat.ble (off+m) L.length=true) (hL:ru L off us=L') (h:St n F (Mm c (aX b (.cells L'.toArray e (0,0))::R)) (wpList P ops Q rest)):
 St n F (Mm c H) (wpList P ops Q ({dst:=none,op:= .store t x y,type:=ty,pos:=pos,after:=after,guard:=none}::rest)):=by
 subst hL;refine St.oU (K:=λu H'=>H'=aX b (.cells (ru L off us).toArray e (0,0))::R) ?_ ?_
 ·intro a w ρ ha hm
  have H9:=hm.perm tk.perm
  obtain⟨w',hr,pa⟩:=mM (P:=P) (off:=off) us 0 L w H9 (by have:=eX xU;omega) (λu hu=>eO.1 h1 u hu);obtain⟨i,hi,gQ⟩:=dG.1 hs;refine⟨.skip,w',ρ,_,?_,⟨_,.inr ⟨rfl,rfl⟩,rfl⟩,pa⟩
  simp[execOp,hx.eval ha,hy.eval ha,Instr.storeAt,Instr.sureAddr,storeVar,sizeOf,typeInfo,hi,gQ,bT,Gi,hr]
 ·rintro _ _ rfl
  exact h
end
end Go.J
namespace Go.Proofs.YtblifkgpebebmaaGreatDoor
open Go Go.J Tryz
structure AcD where
 wt:Int
 cv:aY
 code:List Int
 kv:aY
 ts:List cM
def XO (r l:Int)(a:AcD):jH:=⟨a.wt,a.code,.mk r l (a.ts.map dN)⟩
theorem GK (r l:Int)(a:AcD)(k:xK)(u v:aY):XO r l ⟨a.wt+k.wt,u,a.code++k.code,v,a.ts++ [k.tree]⟩=Qu (XO r l a) (mJ k):=by unfold XO Qu mJ;rw[cC];rfl
theorem GL {l m:List Nat}{k a b:Nat}(h:l[k]?=some a)(h2:m[k]?=some b):(l.zip m).drop k=(a,b)::(l.zip m).drop (k+1):=an (by rw[List.getElem?_zip_eq_some];exact⟨h,h2⟩)
theorem qO (r l:Int)(ρ:Ro):(bM (.mk r l bK [])).f ρ:=oa.mk (x:= .mk r l bK []) (uN cJ ρ) (λy hy=>by cases hy)
theorem sJ {R X:List Int}{its:List cX}{L:List ir}(h:jG (⟨its.map bV,R,X⟩:cH) (L.map ek)):L.length=its.length:=by
 have:=h.len;rw[aQ]at this;rw[this];exact aQ _
theorem XP {R X:List Int}{its:List cX}{e:Nat}{y:cX}(h:its[e]?=some y):(⟨its.map bV,R,X⟩:cH).its.getD e fQ=bV y:=by
 show(its.map bV).getD e fQ=bV y
 rw[ak,bE,h];rfl
theorem XQ {R X:List Int}{its:List cX}{e w:Nat}{y:cX}{wy:rR}(h:its[e]?=some y)(h2:y.bx[w]?=some wy):(⟨its.map bV,R,X⟩:cH).fA e w=wyE wy:=by
 unfold cH.fA;rw[XP h]
 show(y.bx.map wyE).getD w wy0=wyE wy
 rw[ak,bE,h2];rfl
theorem Df {R X:List Int}{its:List cX}{e:Nat}{y:cX}(h:its[e]?=some y):qy (⟨its.map bV,R,X⟩:cH) e=y.bx.length:=by
 unfold qy;rw[XP h];exact aQ _
def Kv:xK:=⟨0,bK,[],.mk 0 0 bK []⟩
def zCh:kP:=⟨Kv,0,bK,[]⟩
def aaK (bl bn m0 cp:Nat)(rv xv dQ:aY)(R X:List Int)(its:List cX)(f:Nat):Prop:=∀(e r:Nat) (L:List ir),e<its.length→k9 (⟨its.map bV,R,X⟩:cH) e<f→r+1+k9 (⟨its.map bV,R,X⟩:cH) e≤262→jG (⟨its.map bV,R,X⟩:cH) (L.map ek)→
 dt Tryz.prog 52 #[.pointer (some ⟨bl,0,none⟩),iv (e:Nat),iv (r:Nat)] ([fO bl [rv.1,xv.1,dQ.1,(.slice (some ⟨bn,0,none⟩) m0 cp)],sl aL rv.1 R,sl aL xv.1 X,sl dX dQ.1 its,aI cW its].map aF++(row (.slice (some ⟨bn,0,none⟩) m0 cp) 194 3 (L).length (rows eG (L))::ax (jY 71 196) L)) (λv H'=>∃(L':List ir) (k:xK) (o:Bool),ej (⟨its.map bV,R,X⟩:cH) f (L.map ek) e r=(L'.map ek,if o then some (mJ k)else none)∧v= .tuple #[jf k,.bool o]∧H'=row (.slice (some ⟨bn,0,none⟩) m0 cp) 194 3 (L').length (rows eG (L'))::aF (oE k)::ax (jY 71 196) L')
theorem wD (bl bn m0 cp:Nat)(rv xv dQ:aY)(R X:List Int)(its:List cX)(hB:oG (⟨its.map bV,R,X⟩:cH))(f:Nat)(VP:aaK bl bn m0 cp rv xv dQ R X its f)(e w D:Nat)(xM:aY)(ranks:List Nat)(L:List ir)(he:e<its.length)(qi:k9 (⟨its.map bV,R,X⟩:cH) e<f+1)(hw:w<qy (⟨its.map bV,R,X⟩:cH) e)(ZU:ranks.length=((⟨its.map bV,R,X⟩:cH).fA e w).kids.length)(MZ:∀r∈ranks,r≤D)(hD:D+k9 (⟨its.map bV,R,X⟩:cH) e≤262)(ei:jG (⟨its.map bV,R,X⟩:cH) (L.map ek)):
 dt Tryz.prog 93 #[.pointer (some ⟨bl,0,none⟩),iv (e:Nat),iv (w:Nat),xM.1] ([fO bl [rv.1,xv.1,dQ.1,(.slice (some ⟨bn,0,none⟩) m0 cp)],sl aL rv.1 R,sl aL xv.1 X,sl dX dQ.1 its,aI cW its,sl aL xM.1 (bC ranks)].map aF++(row (.slice (some ⟨bn,0,none⟩) m0 cp) 194 3 (L).length (rows eG (L))::ax (jY 71 196) L)) (λv H'=>∃(L':List ir) (c:kP) (o:Bool),mU (⟨its.map bV,R,X⟩:cH) (ej (⟨its.map bV,R,X⟩:cH) f) (L.map ek) e w ranks=(L'.map ek,if o then some (gV c)else none)∧v= .tuple #[Fy c,.bool o]∧H'=row (.slice (some ⟨bn,0,none⟩) m0 cp) 194 3 (L').length (rows eG (L'))::aF (gB c)::ax (jY 71 196) L'):=by
 refine dt.body (args:=[.pointer (some ⟨bl,0,none⟩),iv (e:Nat),iv (w:Nat),xM.1]) 122 Tryz.func93 rfl Tryz.ntmps93 rfl (λc=> ?_);refine go ?_;refine St.cast (H':=(aF (fO bl [rv.1,xv.1,dQ.1,(.slice (some ⟨bn,0,none⟩) m0 cp)])::aF (sl aL rv.1 R)::aF (sl aL xv.1 X)::aF (sl dX dQ.1 its)::aF (aI cW its)::aF (sl aL xM.1 (bC ranks))::row (.slice (some ⟨bn,0,none⟩) m0 cp) 194 3 (L).length (rows eG (L))::ax (jY 71 196) L)) rfl ?_;obtain⟨y,hy⟩:=aE he;rw[Df hy]at hw;obtain⟨wy,hwy⟩:=aE hw
 have nR:=XQ (R:=R) (X:=X) hy hwy
 rw[nR]at ZU
 have ZU:ranks.length=wy.kids.length:=ZU
 have hnk:(bC wy.kids).length=wy.kids.length:=cR _
 have hnr:(bC ranks).length=ranks.length:=cR _
 have XR:w<qy (⟨its.map bV,R,X⟩:cH) e:=by rw[Df hy];exact hw
 have wh:e<(⟨its.map bV,R,X⟩:cH).its.length:=by show e<(its.map bV).length;rw[aQ];exact he
 have gQ:=hB.sz e w wh XR
 rw[nR]at gQ
 have gQ: -1≤wy.rule∧wy.rule≤1000∧0≤wy.lex∧wy.lex≤1000:=gQ
 have hwb:w<1200000000000:=by have:=hB.nw e wh;omega
 refine St.cL cW its (x:=y) (ab hy) ?_;refine St.eT (sl lR y.wv.1 y.bx) [cW y] (λρ h=>h (cW y) (aU ..) _ (cE _ (aU ..))) ?_;refine St.eT (sl aL wy.kv.1 (bC wy.kids)) [cW y] (λρ h=>h (cW y) (aU ..) (aI mL y.bx) (cE _ (cE _ (aU ..))) wy (ab hwy)) ?_;refine go ?_;refine St.al (λb8=> ?_);refine g8 ?_;refine St.ee (Ev.qm (.mk rfl) mn trivial rfl) ?_;refine g6 ?_;refine St.ee (Ev.Hk (Rr:=lR) (sz:=3) (.mk rfl) hwy Tryz.underlying200 trivial vx (by decide) (by decide)) ?_;refine St.slot 26 (.agg #[iv wy.rule,iv wy.lex,wy.kv.1]) rfl rfl ?_;refine St.al (λX2=> ?_);refine g7 ?_;refine St.ee (Ev.build (bF.bH rfl rfl) (λw=>Hn rfl xM.2 w)) ?_;refine St.slot 29 (.agg #[iv 0,(.slice none 0 0),iv 0,iv 0,(.slice none 0 0),iv (w:Nat),xM.1]) rfl rfl ?_;refine St.al (λpT=> ?_);refine g9 ?_;refine St.ee (Ev.build (bF.bH rfl rfl) (λw=>BU rfl rfl w)) ?_;refine St.slot 34 (.agg #[iv wy.rule,iv wy.lex,(.slice none 0 0)]) rfl rfl ?_;refine g2 ?_;refine St.RU (m:=3) (us:=[iv wy.rule,iv wy.lex,(.slice none 0 0)]) (L':=[iv 0,(.slice none 0 0),iv wy.rule,iv wy.lex,(.slice none 0 0),iv (w:Nat),xM.1]) (aZ.mk rfl) (aZ.mk rfl) py rfl rfl rfl rfl ?_;refine g10 ?_;refine St.cq (λSM=> ?_) (λSM=> ?_)
 ·have hr:((⟨its.map bV,R,X⟩:cH).fA e w).rule<0:=by rw[nR];exact SM
  obtain⟨Dq,kI,_⟩:=hB.lex e w wh XR hr;rw[nR]at kI
  have kI:wy.lex<X.length:=kI
  obtain⟨xw,zu⟩:=aE (show wy.lex.toNat<X.length by omega)
  have Gt:X.getD wy.lex.toNat 0=xw:=by rw[ak,zu];rfl
  refine go ?_;refine St.cx (aX pT (.cells [iv 0,(.slice none 0 0),iv wy.rule,iv wy.lex,(.slice none 0 0),iv (w:Nat),xM.1].toArray 196 (0,0))::(ax (jY 71 196) L)) mixed (λnp ns=> ?_);refine SW.gd 0 ?_;refine SW.gd 1 ?_;refine SW.gd 2 ?_;refine SW.dd 3 rfl (λ_=>Ev.qm (.mk rfl) cI trivial rfl) ?_;refine SW.gd 4 ?_;refine SW.gd 5 ?_;refine SW.dd 6 rfl (λ_=>Ev.cZ (k:=wy.lex.toNat) (.mk rfl) (.mk rfl) cI eJ (by omega) (by omega)) ?_;refine SW.gd 7 ?_;refine SW.gd 8 ?_;refine SW.gd 9 ?_;refine SW.gd 10 ?_;refine SW.gd 12 ?_;refine SW.gd 13 ?_;refine SW.slot 53 (.pointer (some ⟨pT,0,none⟩)) rfl rfl ?_;refine SW.t2 11 14 ?_ ?_
  focus
   refine St.gb rfl (.bB rfl) cI eJ jA rfl rfl (by simp[Value.cells]) rfl rfl (λRX=> ?_);refine g2 ?_;refine SW.go ?_;refine SW.t1 14 ?_;refine St.cO (.mk rfl) (.mk rfl) eJ rfl (by rfl) ?_;refine g2 ?_;refine SW.go ?_;refine SW.gd 15 ?_;refine SW.gd 16 ?_;refine SW.slot 55 (.pointer (some ⟨pT,1,none⟩)) rfl rfl ?_;refine SW.t1 17 ?_;refine St.cO (.mk rfl) (.mk rfl) kY rfl (by rfl) ?_;refine St.rI pT (L':=[iv xw,.slice (some ⟨RX,0,none⟩) 1 1,iv wy.rule,iv wy.lex,(.slice none 0 0),iv (w:Nat),xM.1]) rfl ?_;refine g2 ?_;refine SW.go ?_;refine SW.dn ?_
  rotate_left
  focus
   refine St.cO (.mk rfl) (.mk rfl) eJ rfl (by rfl) ?_;refine g2 ?_;refine SW.go ?_;refine SW.t1 11 ?_;refine St.gb rfl (.bB rfl) cI eJ jA rfl rfl (by simp[Value.cells]) rfl rfl (λRX=> ?_);refine g2 ?_;refine SW.go ?_;refine SW.gd 15 ?_;refine SW.gd 16 ?_;refine SW.slot 55 (.pointer (some ⟨pT,1,none⟩)) rfl rfl ?_;refine SW.t1 17 ?_;refine St.cO (.mk rfl) (.mk rfl) kY rfl (by rfl) ?_;refine St.rI pT (L':=[iv xw,.slice (some ⟨RX,0,none⟩) 1 1,iv wy.rule,iv wy.lex,(.slice none 0 0),iv (w:Nat),xM.1]) rfl ?_;refine g2 ?_;refine SW.go ?_;refine SW.dn ?_
  all_goals
   refine g2 ?_;refine St.aO (.slice (some ⟨RX,0,none⟩) 1 1) (show _=([1000+wy.lex]:List Int).length from rfl) (show _=rows aL [1000+wy.lex]from rfl) ?_;refine St.bZ (.slice (some ⟨RX,0,none⟩) 1 1) aL [1000+wy.lex] rfl rfl (λz hz=>by rw[bJ]at hz;subst hz;show bP _;unfold bP;omega) ?_;refine St.fact (bM (.mk wy.rule wy.lex bK [])) (λρ _ _=>qO _ _ _) ?_;refine St.eT (gB (⟨⟨xw,⟨.slice (some ⟨RX,0,none⟩) 1 1,rfl⟩,[1000+wy.lex],.mk wy.rule wy.lex bK []⟩,w,xM,ranks⟩)) (chL (⟨⟨xw,⟨.slice (some ⟨RX,0,none⟩) 1 1,rfl⟩,[1000+wy.lex],.mk wy.rule wy.lex bK []⟩,w,xM,ranks⟩)) (λρ h=>h) ?_;refine g8 ?_;refine St.rV [_,_] (row (.slice (some ⟨bn,0,none⟩) m0 cp) 194 3 (L).length (rows eG (L))::aF (gB (⟨⟨xw,⟨.slice (some ⟨RX,0,none⟩) 1 1,rfl⟩,[1000+wy.lex],.mk wy.rule wy.lex bK []⟩,w,xM,ranks⟩))::(ax (jY 71 196) L)) ?_;exact⟨L,⟨⟨xw,⟨.slice (some ⟨RX,0,none⟩) 1 1,rfl⟩,[1000+wy.lex],.mk wy.rule wy.lex bK []⟩,w,xM,ranks⟩,true,by rw[Fx hr];unfold ZS;rw[nR];show(_,some (⟨⟨X.getD wy.lex.toNat 0,_,_⟩,_,_⟩:iq))=_;rw[Gt];rfl,rfl,rfl⟩
 ·have hr:¬((⟨its.map bV,R,X⟩:cH).fA e w).rule<0:=by rw[nR];show ¬wy.rule<0;omega
  have DX:=hB.rule e w wh XR hr
  rw[nR]at DX;obtain⟨hrx,Wn,hkh,hkb⟩:=DX
  have hrx:wy.rule<R.length:=hrx
  have Wn:wy.kids.length≤3:=Wn
  have hkh:∀k∈wy.kids,k<(⟨its.map bV,R,X⟩:cH).its.length∧k9 (⟨its.map bV,R,X⟩:cH) k<k9 (⟨its.map bV,R,X⟩:cH) e:=hkh
  have hkb:nP (⟨its.map bV,R,X⟩:cH) wy.kids+1≤Du (⟨its.map bV,R,X⟩:cH) e:=hkb
  have hbd:=hB.bd e wh
  obtain⟨xr,hxr⟩:=aE (show wy.rule.toNat<R.length by omega)
  have Gt:R.getD wy.rule.toNat 0=xr:=by rw[ak,hxr];rfl
  refine g3 ?_;refine St.cx (aX pT (.cells [iv 0,(.slice none 0 0),iv wy.rule,iv wy.lex,(.slice none 0 0),iv (w:Nat),xM.1].toArray 196 (0,0))::(ax (jY 71 196) L)) mixed (λnp ns=> ?_);refine SW.gd 0 ?_;refine SW.gd 1 ?_;refine SW.gd 2 ?_;refine SW.dd 3 rfl (λ_=>Ev.qm (.mk rfl) cI trivial rfl) ?_;refine SW.gd 4 ?_;refine SW.gd 5 ?_;refine SW.dd 6 rfl (λ_=>Ev.cZ (k:=wy.rule.toNat) (.mk rfl) (.mk rfl) cI eJ (by omega) (by omega)) ?_;refine SW.gd 7 ?_;refine SW.gd 8 ?_;refine SW.gd 9 ?_;refine SW.gd 11 ?_;refine SW.gd 12 ?_;refine SW.slot 69 (.pointer (some ⟨pT,0,none⟩)) rfl rfl ?_;refine SW.t2 10 13 ?_ ?_
  focus
   refine St.gb rfl (.bB rfl) cI eJ jA rfl rfl (by simp[Value.cells]) rfl rfl (λb67=> ?_);refine g2 ?_;refine SW.go ?_;refine SW.t1 13 ?_;refine St.cO (.mk rfl) (.mk rfl) eJ rfl (by rfl) ?_;refine g2 ?_;refine SW.go ?_;refine SW.gd 14 ?_;refine SW.gd 15 ?_;refine SW.slot 71 (.pointer (some ⟨pT,1,none⟩)) rfl rfl ?_;refine SW.t1 16 ?_;refine St.cO (.mk rfl) (.mk rfl) kY rfl (by rfl) ?_;refine St.rI pT (L':=[iv xr,.slice (some ⟨b67,0,none⟩) 1 1,iv wy.rule,iv wy.lex,(.slice none 0 0),iv (w:Nat),xM.1]) rfl ?_;refine g2 ?_;refine SW.go ?_;refine SW.dn ?_
  rotate_left
  focus
   refine St.cO (.mk rfl) (.mk rfl) eJ rfl (by rfl) ?_;refine g2 ?_;refine SW.go ?_;refine SW.t1 10 ?_;refine St.gb rfl (.bB rfl) cI eJ jA rfl rfl (by simp[Value.cells]) rfl rfl (λb67=> ?_);refine g2 ?_;refine SW.go ?_;refine SW.gd 14 ?_;refine SW.gd 15 ?_;refine SW.slot 71 (.pointer (some ⟨pT,1,none⟩)) rfl rfl ?_;refine SW.t1 16 ?_;refine St.cO (.mk rfl) (.mk rfl) kY rfl (by rfl) ?_;refine St.rI pT (L':=[iv xr,.slice (some ⟨b67,0,none⟩) 1 1,iv wy.rule,iv wy.lex,(.slice none 0 0),iv (w:Nat),xM.1]) rfl ?_;refine g2 ?_;refine SW.go ?_;refine SW.dn ?_
  all_goals
   refine g11 ?_;refine St.aO (.slice (some ⟨b67,0,none⟩) 1 1) (show _=([wy.rule]:List Int).length from rfl) (show _=rows aL [wy.rule]from rfl) ?_;refine St.dc 69 3 ?_;refine St.aO (.slice none 0 0) (show _=([]:List cM).length from rfl) (show _=rows cJ []from rfl) ?_;refine St.e8 bM ?_
   have agL:=Kh hB wh XR hr
   have agM:Fw (⟨its.map bV,R,X⟩:cH) e w=XO wy.rule wy.lex ⟨xr,⟨.slice (some ⟨b67,0,none⟩) 1 1,rfl⟩,[wy.rule],bK,[]⟩:=by unfold Fw;rw[nR];show(⟨R.getD wy.rule.toNat 0,_,_⟩:jH)=_;rw[Gt];rfl
   rw[agM]at agL;refine St.lH (ι:=Nat×List ir×AcD) (λ⟨k,L1,a⟩ T=>(75,iv k)::T) (λ⟨k,L1,a⟩=>(row a.cv.1 3 1 (a.code).length (rows aL (a.code))::row a.kv.1 69 3 (a.ts).length (rows cJ (a.ts))::aX pT (.cells [iv a.wt,a.cv.1,iv wy.rule,iv wy.lex,a.kv.1,iv (w:Nat),xM.1].toArray 196 (0,0))::aF (aI bM a.ts)::row (.slice (some ⟨bn,0,none⟩) m0 cp) 194 3 (L1).length (rows eG (L1))::aF (fO bl [rv.1,xv.1,dQ.1,(.slice (some ⟨bn,0,none⟩) m0 cp)])::aF (sl aL rv.1 R)::aF (sl aL xv.1 X)::aF (sl dX dQ.1 its)::aF (aI cW its)::aF (sl aL xM.1 (bC ranks))::aF (sl lR y.wv.1 y.bx)::aF (sl aL wy.kv.1 (bC wy.kids))::aX b8 (.cells [iv 0,(.slice none 0 0),iv 0,iv 0,(.slice none 0 0),iv 0,(.slice none 0 0)].toArray 196 (0,0))::aX X2 (.cells [iv wy.rule,iv wy.lex,wy.kv.1].toArray 200 (0,0))::(ax (jY 71 196) L1))) (λ⟨k,L1,a⟩=>k≤wy.kids.length∧jG (⟨its.map bV,R,X⟩:cH) (L1.map ek)∧zN (1+nP (⟨its.map bV,R,X⟩:cH) (wy.kids.take k)) k (XO wy.rule wy.lex a)∧vO (ej (⟨its.map bV,R,X⟩:cH) f) ((wy.kids.zip ranks).drop k) (L1.map ek) (XO wy.rule wy.lex a)=vO (ej (⟨its.map bV,R,X⟩:cH) f) (wy.kids.zip ranks) (L.map ek) (Fw (⟨its.map bV,R,X⟩:cH) e w)) (λ⟨k,L1,a⟩=>wy.kids.length-k) ⟨0,L,⟨xr,⟨.slice (some ⟨b67,0,none⟩) 1 1,rfl⟩,[wy.rule],bK,[]⟩⟩ (aC.cons 0 rfl (aC.cons 3 rfl (aC.cons 8 rfl (aC.cons 11 rfl (aC.cons 73 rfl (aC.cons 74 rfl aC.nil)))))) ⟨aR _,ei,agL,by rw[agM];rfl⟩ ?_;rintro ⟨k,L1,a⟩ ⟨hk,tx,Lo,hkf⟩
   dsimp only at hk tx Lo hkf⊢
   have am0:a.code.length≤1+nP (⟨its.map bV,R,X⟩:cH) (wy.kids.take k):=Lo.len
   have am1: -(1000000*(a.code.length:Int))≤a.wt∧a.wt≤1000000*(a.code.length:Int):=Lo.wt
   have akI:(a.ts.map dN).length≤k:=Lo.n
   rw[aQ]at akI;refine g6 ?_;refine St.cq (λte=> ?_) (λte=> ?_)
   ·obtain⟨q,hq⟩:=aE (show k<wy.kids.length by omega)
    obtain⟨rr,sU⟩:=aE (show k<ranks.length by omega);obtain⟨uB,wR⟩:=hkh q (ab hq)
    have Fe:=MZ rr (ab sU)
    have uB:q<its.length:=by have h:q<(its.map bV).length:=uB;rwa[aQ]at h
    have Ij:=(De hB f).ok q rr (L1.map ek) (by show q<(its.map bV).length;rw[aQ];exact uB) (by omega) (by omega) tx
    have U9:=Bs (B:=(⟨its.map bV,R,X⟩:cH)) hq
    have hbl:nP (⟨its.map bV,R,X⟩:cH) (wy.kids.take (k+1))≤nP (⟨its.map bV,R,X⟩:cH) wy.kids:=Ut _ _
    refine g8 ?_;refine St.ee (Ev.ld1 (.mk rfl) (dD hq) eN trivial rfl) ?_;refine g11 ?_;refine St.ee (Ev.ld1 (.mk rfl) (dD sU) eN trivial rfl) ?_;refine St.pN (ds:=[fO bl [rv.1,xv.1,dQ.1,(.slice (some ⟨bn,0,none⟩) m0 cp)],sl aL rv.1 R,sl aL xv.1 X,sl dX dQ.1 its,aI cW its]) (L:=[row (.slice (some ⟨bn,0,none⟩) m0 cp) 194 3 (L1).length (rows eG (L1))]) (X:=ax (jY 71 196) L1) (post:=λv L' X'=>∃(L2:List ir) (k2:xK) (o:Bool),ej (⟨its.map bV,R,X⟩:cH) f (L1.map ek) q rr=(L2.map ek,if o then some (mJ k2)else none)∧v= .tuple #[jf k2,.bool o]∧L'=[row (.slice (some ⟨bn,0,none⟩) m0 cp) 194 3 (L2).length (rows eG (L2)),aF (oE k2)]∧X'=ax (jY 71 196) L2) ((VP q rr L1 uB (by omega) (by omega) tx).mono (λv H' ⟨L2,k2,o,a1,a2,a3⟩=>⟨[_,_],_,a3,L2,k2,o,a1,a2,rfl,rfl⟩)) aeE (.eZ rfl rfl rfl) rfl ?_;rintro v87 _ _ ⟨L2,k2,o,VQ,rfl,rfl,rfl⟩;refine St.lZ ?_;rw[VQ]at Ij;obtain⟨ke,_,Ak⟩:=Ij
    have ke:jG (⟨its.map bV,R,X⟩:cH) (L2.map ek):=ke
    refine g3 ?_;refine St.al (λGl=> ?_);refine g11 ?_;refine St.cond _ rfl (λh91=> ?_) (λh91=> ?_)
    ·skip
     obtain rfl:o=false:=by simpa using h91
     rw[GL hq sU,vQ,VQ]at hkf;refine g2 ?_;refine St.ee (Ev.build (bF.nil) (λw=>Tp w)) ?_;refine St.slot 92 (.agg #[iv 0,(.slice none 0 0),iv 0,iv 0,(.slice none 0 0),iv 0,(.slice none 0 0)]) rfl rfl ?_;refine go ?_;refine St.fq aL ?_;refine St.fact (bM (.mk 0 0 bK [])) (λρ _ _=>qO _ _ _) ?_;refine St.eT (gB zCh) [sl aL (.slice none 0 0) [],bM (.mk 0 0 bK []),sl aL (.slice none 0 0) []] (λρ h=>h) ?_;refine g10 ?_;refine St.rV [_,_] (row (.slice (some ⟨bn,0,none⟩) m0 cp) 194 3 (L2).length (rows eG (L2))::aF (gB zCh)::(ax (jY 71 196) L2)) ?_;exact⟨L2,zCh,false,by rw[zO hr,nR];show(match vO (ej (⟨its.map bV,R,X⟩:cH) f) (wy.kids.zip ranks) (L.map ek) (Fw (⟨its.map bV,R,X⟩:cH) e w)with|(st,none)=>(st,none)|(st,some x)=>(st,some (⟨x,w,ranks⟩:iq)))=_;rw[←hkf];rfl,rfl,rfl⟩
    ·skip
     obtain rfl:o=true:=by simpa using h91
     have Ak:=Ak (mJ k2) rfl
     have am2:k2.code.length≤Du (⟨its.map bV,R,X⟩:cH) q:=Ak.len
     have am3: -(1000000*(k2.code.length:Int))≤k2.wt∧k2.wt≤1000000*(k2.code.length:Int):=Ak.wt
     refine St.eT (sl aL k2.cv.1 k2.code) [oE k2] (λρ h=>h (oE k2) (aU ..) _ (aU ..)) ?_;refine St.eT (bM k2.tree) [oE k2] (λρ h=>h (oE k2) (aU ..) _ (cE _ (aU ..))) ?_;refine g12 ?_;refine St.slot 100 (.pointer (some ⟨pT,0,none⟩)) rfl rfl ?_;refine St.cO (.mk rfl) (.mk rfl) eJ rfl (by rfl) ?_;refine g9 ?_;refine St.xX (.mk rfl) (.mk rfl) cI eJ jA wO (xY _ _) (by omega) (by omega) rfl rfl trivial rfl (λVR alF=> ?_);refine St.agK VR 1 rfl ?_;refine St.aO VR (show _=(a.code++k2.code).length by rw[bA]) (show _=rows aL (a.code++k2.code) by unfold rows;rw[Am]) ?_;refine St.bS VR (λLw _=> ?_);refine g2 ?_;refine St.slot 108 (.pointer (some ⟨pT,1,none⟩)) rfl rfl ?_;refine St.cO (.mk rfl) (.mk rfl) kY Lw (by rfl) ?_;refine g8 ?_;refine St.ee (Ev.gh 3 (.mk rfl) HV trivial py rfl rfl) ?_;refine St.slot 114 (ny k2.tree) rfl rfl ?_;refine St.gb rfl (.bB rfl) Cm py Lq rfl rfl (by simp[Value.cells]) rfl rfl (λam4=> ?_);refine St.aj (.mk rfl) (.mk rfl) Cm py Lq YV (by intro u hu;exact cJ.one k2.tree u hu) (by omega) (by omega) rfl rfl rfl rfl (λaaL alG=> ?_);refine St.aO aaL (show _=(a.ts++ [k2.tree]).length by rw[bA];rfl) (show _=rows cJ (a.ts++ [k2.tree]) by rw[aw];rfl) ?_;refine St.bS aaL (λHb _=> ?_);refine St.eT (aI bM (a.ts++ [k2.tree])) [aI bM a.ts,bM k2.tree] (λρ h u hu=>by rcases ba.1 hu with hu|hu;exact h (aI bM a.ts) (aU ..) u hu;rw[bJ]at hu;subst hu;exact h (bM k2.tree) (cE _ (aU ..))) ?_;refine g3 ?_;refine St.slot 119 (.pointer (some ⟨pT,4,none⟩)) rfl rfl ?_;refine St.cO (.mk rfl) (.mk rfl) YW Hb (by rfl) ?_;refine g8 ?_;refine St.aH ⟨k+1,L2,⟨a.wt+k2.wt,⟨VR,Lw⟩,a.code++k2.code,⟨aaL,Hb⟩,a.ts++ [k2.tree]⟩⟩ ⟨by omega,ke,by rw[GK,Bs hq,←Nat.add_assoc];exact Fv Lo Ak,by rw[GK,←hkf,GL hq sU,vQ,VQ];rfl⟩
   ·obtain rfl:k=wy.kids.length:=by omega
    rw[fX (by rw[List.length_zip];omega)]at hkf;rw[jy]at Lo
    obtain⟨⟨cvv,hcv⟩,hv1⟩:∃z,z=a.cv:=⟨_,rfl⟩
    obtain⟨⟨oH,uD⟩,wU⟩:∃z,z=a.kv:=⟨_,rfl⟩
    rw[←hv1,←wU];refine St.bZ cvv aL a.code rfl rfl (λz hz=>by have:=Lo.cd z hz;show bP _;unfold bP;omega) ?_;refine St.bZ oH cJ a.ts rfl rfl (λz hz=> ?_) ?_
    ·have h:=(Lo.kids (dN z) (dq hz)).2
     rw[jW]at h
     have h: -1≤z.rule∧z.rule≤1000∧0≤z.lex∧z.lex≤1000:=h
     exact⟨by show bP _;unfold bP;omega,by show bP _;unfold bP;omega⟩
    refine St.eT (bM (.mk wy.rule wy.lex ⟨oH,uD⟩ a.ts)) [sl cJ oH a.ts,aI bM a.ts] (λρ h=>oa.mk (x:= .mk wy.rule wy.lex ⟨oH,uD⟩ a.ts) (h _ (aU ..)) (λy hy=>h (aI bM a.ts) (cE _ (aU ..)) y hy)) ?_;refine St.eT (gB (⟨⟨a.wt,⟨cvv,hcv⟩,a.code,.mk wy.rule wy.lex ⟨oH,uD⟩ a.ts⟩,w,xM,ranks⟩)) (chL (⟨⟨a.wt,⟨cvv,hcv⟩,a.code,.mk wy.rule wy.lex ⟨oH,uD⟩ a.ts⟩,w,xM,ranks⟩)) (λρ h=>h) ?_;refine g8 ?_;refine St.sA (.mk rfl) (.mk rfl) jB ?_ (h1:=(by simp only[List.all_cons,List.all_nil,Bool.and_true,Bool.and_eq_true];exact⟨rfl,hcv,rfl,rfl,uD,rfl,xM.2⟩));refine g4 ?_;refine St.rV [_,_] (row (.slice (some ⟨bn,0,none⟩) m0 cp) 194 3 (L1).length (rows eG (L1))::aF (gB (⟨⟨a.wt,⟨cvv,hcv⟩,a.code,.mk wy.rule wy.lex ⟨oH,uD⟩ a.ts⟩,w,xM,ranks⟩))::(ax (jY 71 196) L1)) ?_;exact⟨L1,⟨⟨a.wt,⟨cvv,hcv⟩,a.code,.mk wy.rule wy.lex ⟨oH,uD⟩ a.ts⟩,w,xM,ranks⟩,true,by rw[zO hr,nR];show(match vO (ej (⟨its.map bV,R,X⟩:cH) f) (wy.kids.zip ranks) (L.map ek) (Fw (⟨its.map bV,R,X⟩:cH) e w)with|(st,none)=>(st,none)|(st,some x)=>(st,some (⟨x,w,ranks⟩:iq)))=_;rw[←hkf];show(_,some (⟨XO wy.rule wy.lex a,w,ranks⟩:iq))=_;unfold XO;rw[←Ee];rfl,rfl,rfl⟩
end Go.Proofs.YtblifkgpebebmaaGreatDoor
