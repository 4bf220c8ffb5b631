/-
  Laws of walks through programs, and facts on grammars, trees and queries.
  Conditions: none.
-/
import Derived.Test.YtblifkgpebebmaaGreatDoorGT6
set_option maxHeartbeats 8000000
set_option maxRecDepth 20000
set_option linter.unusedVariables false
set_option linter.unusedSimpArgs false
namespace Go.Proofs.YtblifkgpebebmaaGreatDoor
open Go Go.J Tryz
inductive Af:nu→Prop
 |mk {r l:Int} {ks:List nu} (h:ks.length≤1000) (k:∀t∈ks,Af t):Af (.mk r l ks)
def k9 (B:cH)(e:Nat):Nat:=((B.its.getD e fQ).ed.tqo-(B.its.getD e fQ).ed.frm)*4+(B.its.getD e fQ).ed.cQ
def Du (B:cH)(e:Nat):Nat:=8*((B.its.getD e fQ).ed.tqo-(B.its.getD e fQ).ed.frm)-7+(B.its.getD e fQ).ed.cQ
def qy (B:cH)(e:Nat):Nat:=(B.its.getD e fQ).bx.length
def nP (B:cH)(l:List Nat):Nat:=(l.map (Du B)).sum
theorem MY (B:cH)(k:Nat)(l:List Nat):nP B (k::l)=Du B k+nP B l:=by unfold nP;rw[eW,nW]
structure oG (B:cH):Prop where
 lex:∀e w,e<B.its.length→w<qy B e→(B.fA e w).rule<0→(B.fA e w).kids=[]∧(B.fA e w).lex<B.aN.length∧1≤Du B e
 rule:∀e w,e<B.its.length→w<qy B e→¬(B.fA e w).rule<0→(B.fA e w).rule<B.rules.length∧(B.fA e w).kids.length≤3∧(∀k∈(B.fA e w).kids,k<B.its.length∧k9 B k<k9 B e)∧nP B (B.fA e w).kids+1≤Du B e
 sz:∀e w,e<B.its.length→w<qy B e→ -1≤(B.fA e w).rule∧(B.fA e w).rule≤1000∧0≤(B.fA e w).lex∧(B.fA e w).lex≤1000
 wr:∀x∈B.rules,-1000000≤x∧x≤1000000
 wx:∀x∈B.aN,-1000000≤x∧x≤1000000
 bd:∀e,e<B.its.length→Du B e≤100
 ht:∀e,e<B.its.length→k9 B e<60
 nw:∀e,e<B.its.length→qy B e≤1117240000000
def Qt (x:jH):Prop:= -(1000000*(x.code.length:Int))≤x.wt∧x.wt≤1000000*(x.code.length:Int)
def afO (x:jH):Prop:=∀v∈x.code,0≤v∧v≤2000
def Us (t:nu):Prop:= -1≤t.rule∧t.rule≤1000∧0≤t.lex∧t.lex≤1000
structure Fu (B:cH)(e:Nat)(x:jH):Prop where
 len:x.code.length≤Du B e
 wt:Qt x
 cd:afO x
 thin:Af x.tree
 rt:Us x.tree
structure zN (b m:Nat)(x:jH):Prop where
 len:x.code.length≤b
 wt:Qt x
 cd:afO x
 kids:∀t∈x.tree.kids,Af t∧Us t
 n:x.tree.kids.length≤m
 rt:Us x.tree
theorem Bs {B:cH}{l:List Nat}{k q:Nat}(h:l[k]?=some q):nP B (l.take (k+1))=nP B (l.take k)+Du B q:=by
 unfold nP
 rw[List.take_add_one,h,cC,List.sum_append];simp
theorem Ut {B:cH}(l:List Nat)(k:Nat):nP B (l.take k)≤nP B l:=by
 have h:nP B l=nP B (l.take k)+nP B (l.drop k):=by
  unfold nP;rw[←List.sum_append,←cC,sO]
 omega
def Qu (c x:jH):jH:=⟨c.wt+x.wt,c.code++x.code,.mk c.tree.rule c.tree.lex (c.tree.kids++ [x.tree])⟩
theorem Fv {B:cH}{b m k:Nat}{c x:jH}(h:zN b m c)(hx:Fu B k x):zN (b+Du B k) (m+1) (Qu c x):=by
 refine⟨?_,?_,?_,?_,?_,h.rt⟩
 ·show(c.code++x.code).length≤_
  have:=h.len;have:=hx.len
  rw[bA];omega
 ·have h1:=h.wt;have h2:=hx.wt
  unfold Qt at h1 h2⊢
  show-(1000000*((c.code++x.code).length:Int))≤c.wt+x.wt∧c.wt+x.wt≤1000000*((c.code++x.code).length:Int)
  rw[bA];push_cast;omega
 ·intro v hv
  rcases ba.1 (show v∈c.code++x.code from hv)with hv|hv
  ·exact h.cd v hv
  ·exact hx.cd v hv
 ·intro t ht
  rcases ba.1 (show t∈c.tree.kids++ [x.tree]from ht)with ht|ht
  ·exact h.kids t ht
  ·rw[bJ]at ht;subst ht;exact⟨hx.thin,hx.rt⟩
 ·show(c.tree.kids++ [x.tree]).length≤_
  have:=h.n
  rw[bA,lU];omega
theorem nu.eta (t:nu):t= .mk t.rule t.lex t.kids:=by cases t;rfl
theorem ZR {B:cH}{e b m:Nat}{x:jH}(h:zN b m x)(hb:b≤Du B e)(hm:m≤1000):Fu B e x:=
 ⟨eH h.len hb,h.wt,h.cd,by rw[x.tree.eta];exact .mk (eH h.n hm) (λt ht=>(h.kids t ht).1),h.rt⟩
structure vP (B:cH)(e D:Nat)(c:iq):Prop where
 rk:Fu B e c.rk
 fA:c.fA<qy B e
 len:c.ranks.length=(B.fA e c.fA).kids.length
 rks:∀r∈c.ranks,r≤D
theorem vP.mono {B:cH}{e D D':Nat}{c:iq}(h:vP B e D c)(hd:D≤D'):vP B e D' c:=⟨h.rk,h.fA,h.len,λr hr=>eH (h.rks r hr) hd⟩
structure Uu (B:cH)(e:Nat)(x:wB):Prop where
 done:∀k∈x.done,Fu B e k
 next:∀c∈x.next,vP B e x.done.length c
 dl:x.done.length+k9 B e≤262
 new:x.begun=false→x.done=[]∧x.next=[]
 nl:x.next.length≤qy B e+3*x.done.length
structure jG (B:cH)(st:dJ):Prop where
 len:st.length=B.its.length
 nl:∀(e:Nat) (x:wB),st[e]?=some x→Uu B e x
theorem jG.at_ {B:cH}{st:dJ}(h:jG B st){e:Nat}(he:e<B.its.length):∃x,st[e]?=some x∧st.getD e nO=x∧Uu B e x:=by
 have hl:e<st.length:=by rw[h.len];exact he
 exact⟨st[e],bO hl,by rw[ak,bO hl];rfl,h.nl e _ (bO hl)⟩
theorem jG.set {B:cH}{st:dJ}(h:jG B st){e:Nat}{y:wB}(hy:Uu B e y):jG B (st.set e y):=by
 refine⟨by rw[cG];exact h.len,λi x hx=> ?_⟩
 by_cases hi:e=i
 ·subst hi
  have hl:e<st.length:=by have:=(eD.1 hx).1;rwa[cG]at this
  rw[eP hl]at hx;obtain rfl:=Option.some.inj hx;exact hy
 ·rw[gX hi]at hx;exact h.nl i x hx
def Kp (B:cH)(e:Nat)(st st':dJ):Prop:=∀i,k9 B e≤k9 B i→st'[i]?=st[i]?
theorem Kp.refl (B:cH)(e:Nat)(st:dJ):Kp B e st st:=λ_ _=>rfl
theorem Kp.trans {B:cH}{e:Nat}{a b c:dJ}(h:Kp B e a b)(k:Kp B e b c):Kp B e a c:=λi hi=>(k i hi).trans (h i hi)
def Hp (B:cH)(e:Nat)(st st':dJ):Prop:=∀i,k9 B e<k9 B i→st'[i]?=st[i]?
theorem Hp.refl (B:cH)(e:Nat)(st:dJ):Hp B e st st:=λ_ _=>rfl
theorem Hp.trans {B:cH}{e:Nat}{a b c:dJ}(h:Hp B e a b)(k:Hp B e b c):Hp B e a c:=λi hi=>(k i hi).trans (h i hi)
theorem Kp.hp {B:cH}{e:Nat}{a b:dJ}(h:Kp B e a b):Hp B e a b:=λi hi=>h i (Nat.le_of_lt hi)
theorem Hp.kp {B:cH}{k e:Nat}{a b:dJ}(h:Hp B k a b)(hk:k9 B k<k9 B e):Kp B e a b:=λi hi=>h i (eK hk hi)
theorem Hp.set {B:cH}{e:Nat}(st:dJ)(y:wB):Hp B e st (st.set e y):=λi hi=>gX (λh=>by subst h;omega)
structure tn (B:cH)(f:Nat)(get:dJ→Nat→Nat→dJ×Option jH):Prop where
 ok:∀(e r:Nat) (st:dJ),e<B.its.length→k9 B e<f→r+1+k9 B e≤262→jG B st→jG B (get st e r).1∧Hp B e st (get st e r).1∧∀x,(get st e r).2=some x→Fu B e x
section
variable {B:cH}{f:Nat}{get:dJ→Nat→Nat→dJ×Option jH}
theorem vQ (k r:Nat)(l:List (Nat×Nat))(st:dJ)(c:jH):vO get ((k,r)::l) st c=match get st k r with|(st,none)=>(st,none)|(st,some x)=>vO get l st (Qu c x):=rfl
theorem Qv (hg:tn B f get){e:Nat}(qi:k9 B e<f+1):∀(l:List (Nat×Nat)) (st:dJ) (c:jH) (b m:Nat),(∀p∈l,p.1<B.its.length∧k9 B p.1<k9 B e∧p.2+k9 B e≤262)→jG B st→zN b m c→
 jG B (vO get l st c).1∧Kp B e st (vO get l st c).1∧∀x,(vO get l st c).2=some x→zN (b+nP B (l.map Prod.fst)) (m+l.length) x
 | [],st,c,b,m,_,hs,hc=>⟨hs,.refl _ _ _,λx hx=>by obtain rfl:=Option.some.inj hx;exact hc⟩
 |(k,r)::l,st,c,b,m,hl,hs,hc=>by
  obtain⟨a1,a2,a3⟩:=hl (k,r) (aU ..)
  dsimp only at a1 a2 a3
  obtain⟨h1,h2,h3⟩:=hg.ok k r st a1 (by omega) (by omega) hs;rw[vQ]
  rcases hq:get st k r with⟨st2,_|x⟩
  ·rw[hq]at h1 h2
   exact⟨h1,h2.kp a2,λx hx=>by cases hx⟩
  ·rw[hq]at h1 h2 h3
   dsimp only
   obtain⟨k1,k2,k3⟩:=Qv hg qi l st2 (Qu c x) (b+Du B k) (m+1) (λp hp=>hl p (cE _ hp)) h1 (Fv hc (h3 x rfl));refine⟨k1,(h2.kp a2).trans k2,λy hy=> ?_⟩
   have h4:=k3 y hy
   rw[eW,MY,dy];rw[show b+(Du B k+nP B (l.map Prod.fst))=b+Du B k+nP B (l.map Prod.fst) by omega,show m+(l.length+1)=m+1+l.length by omega];exact h4
def ZS (B:cH)(e w:Nat):jH:=⟨B.aN.getD (B.fA e w).lex.toNat 0,[1000+(B.fA e w).lex],.mk (B.fA e w).rule (B.fA e w).lex []⟩
def Fw (B:cH)(e w:Nat):jH:=⟨B.rules.getD (B.fA e w).rule.toNat 0,[(B.fA e w).rule],.mk (B.fA e w).rule (B.fA e w).lex []⟩
theorem Kg {l:List Int}(h:∀x∈l,-1000000≤x∧x≤1000000)(i:Nat): -1000000≤l.getD i 0∧l.getD i 0≤1000000:=by
 rw[ak]
 cases hi:l[i]? with
 |none=>exact⟨by decide,by decide⟩
 |some x=>exact h x (ab hi)
theorem Uv (hB:oG B){e w:Nat}(he:e<B.its.length)(hw:w<qy B e)(hr:(B.fA e w).rule<0):Fu B e (ZS B e w):=by
 obtain⟨h1,h2,h3⟩:=hB.lex e w he hw hr
 have h4:=hB.sz e w he hw
 have h5:=Kg hB.wx (B.fA e w).lex.toNat
 refine⟨h3,?_,?_,.mk (aR _) (λt ht=>by cases ht),h4⟩
 ·unfold Qt;show-(1000000*((1:Nat):Int))≤B.aN.getD _ 0∧B.aN.getD _ 0≤1000000*((1:Nat):Int);omega
 ·intro v hv
  rw[show v=1000+(B.fA e w).lex from bJ.1 hv];omega
theorem Kh (hB:oG B){e w:Nat}(he:e<B.its.length)(hw:w<qy B e)(hr:¬(B.fA e w).rule<0):zN 1 0 (Fw B e w):=by
 have h4:=hB.sz e w he hw
 have h5:=Kg hB.wr (B.fA e w).rule.toNat
 refine⟨aW _,?_,?_,λt ht=>(by cases ht),aR _,h4⟩
 ·unfold Qt;show-(1000000*((1:Nat):Int))≤B.rules.getD _ 0∧B.rules.getD _ 0≤1000000*((1:Nat):Int);omega
 ·intro v hv
  rw[show v=(B.fA e w).rule from bJ.1 hv];omega
theorem Fx {st:dJ}{e w:Nat}{ranks:List Nat}(hr:(B.fA e w).rule<0):mU B get st e w ranks=(st,some ⟨ZS B e w,w,ranks⟩):=by unfold mU;rw[aB hr];rfl
theorem zO {st:dJ}{e w:Nat}{ranks:List Nat}(hr:¬(B.fA e w).rule<0):mU B get st e w ranks=match vO get ((B.fA e w).kids.zip ranks) st (Fw B e w)with
 |(st,none)=>(st,none)
 |(st,some x)=>(st,some ⟨x,w,ranks⟩):=by unfold mU;rw[aA hr];rfl
theorem ZT (hB:oG B){e w D:Nat}{ranks:List Nat}(he:e<B.its.length)(hw:w<qy B e)(hr:¬(B.fA e w).rule<0)(MZ:∀r∈ranks,r≤D)(hD:D+k9 B e≤262):∀p∈(B.fA e w).kids.zip ranks,p.1<B.its.length∧k9 B p.1<k9 B e∧p.2+k9 B e≤262:=λp hp=>by
 obtain⟨_,_,h3,_⟩:=hB.rule e w he hw hr
 have h1:=List.of_mem_zip (a:=p.1) (b:=p.2) hp
 obtain⟨a1,a2⟩:=h3 p.1 h1.1
 have:=MZ p.2 h1.2
 exact⟨a1,a2,by omega⟩
theorem DS (hB:oG B)(hg:tn B f get){e w D:Nat}{ranks:List Nat}{st:dJ}(he:e<B.its.length)(qi:k9 B e<f+1)(hw:w<qy B e)(ZU:ranks.length=(B.fA e w).kids.length)(MZ:∀r∈ranks,r≤D)(hD:D+k9 B e≤262)(hs:jG B st):
 jG B (mU B get st e w ranks).1∧Kp B e st (mU B get st e w ranks).1∧∀c,(mU B get st e w ranks).2=some c→vP B e D c:=by
 by_cases hr:(B.fA e w).rule<0
 ·rw[Fx hr]
  exact⟨hs,.refl _ _ _,λc hc=>by obtain rfl:=Option.some.inj hc;exact⟨Uv hB he hw hr,hw,ZU,MZ⟩⟩
 ·rw[zO hr]
  obtain⟨b1,b2,b3,b4⟩:=hB.rule e w he hw hr;obtain⟨h1,h2,h3⟩:=Qv hg qi _ st _ 1 0 (ZT hB he hw hr MZ hD) hs (Kh hB he hw hr)
  rcases hq:vO get ((B.fA e w).kids.zip ranks) st (Fw B e w)with⟨st2,_|x⟩
  ·rw[hq]at h1 h2
   exact⟨h1,h2,λc hc=>by cases hc⟩
  ·rw[hq]at h1 h2 h3
   refine⟨h1,h2,λc hc=> ?_⟩;obtain rfl:=Option.some.inj hc
   have h4:=h3 x rfl
   rw[List.map_fst_zip (by omega),List.length_zip,ZU,Nat.min_self]at h4;exact⟨ZR h4 (by omega) (by omega),hw,ZU,MZ⟩
end
theorem jW (x:cM):dN x= .mk x.rule x.lex (x.kids.map dN):=by cases x;exact Ee _ _ _ _
theorem Af.kids {x:cM}(h:Af (dN x)):x.kids.length≤1000∧∀y∈x.kids,Af (dN y):=by
 rw[jW]at h
 cases h with
 |mk h k=>exact⟨by rwa[aQ]at h,λy hy=>k _ (dq hy)⟩
theorem zP {x y:cM}(h:dN y=dN x):y.rule=x.rule∧y.lex=x.lex:=by
 rw[jW,jW x]at h;exact⟨(nu.mk.injEq ..▸h).1,(nu.mk.injEq ..▸h).2.1⟩
theorem Bt {α β:Type}{f:α→β}{l:List α}{k:Nat}{a:α}(h:l[k]?=some a):(l.take (k+1)).map f=(l.take k).map f++ [f a]:=by
 rw[List.take_add_one,h,cC];rfl
abbrev jf (x:xK):Value:= .agg #[iv x.wt,x.cv.1,iv x.tree.rule,iv x.tree.lex,x.tree.kv.1]
abbrev Fy (x:kP):Value:= .agg #[iv x.rk.wt,x.rk.cv.1,iv x.rk.tree.rule,iv x.rk.tree.lex,x.rk.tree.kv.1,iv (x.fA:Nat),x.rv.1]
theorem Iv:∀x:cM,cJ.wf x→Af (dN x)→dt Tryz.prog 28 #[ny x] ([bM x].map aF) (λv H'=>∃y:cM,v=ny y∧dN y=dN x∧H'=[aF (bM y)]):=by
 intro x
 induction x using cM.ind
 rename_i x ih
 intro hw hth;refine dt.body (args:=[ny x]) 27 Tryz.func28 rfl Tryz.ntmps28 rfl (λc=> ?_);refine go ?_;refine St.cast (H':=[aF (bM x)]) rfl ?_;obtain⟨nU,hkt⟩:=hth.kids;refine St.xz x ?_;refine St.wf x.kv.1 (λzu wI=> ?_);refine go ?_;refine St.cz (.mk rfl) rfl (λb1=> ?_);refine St.al (λb2=> ?_);refine g8 ?_;refine St.ee (Ev.build (bF.bH rfl rfl) (λw=>BU rfl rfl w)) ?_;refine St.al (λb3=> ?_);refine g13 ?_;refine St.dc 69 3 ?_;refine St.aO (.slice none 0 0) (show _=([]:List cM).length from rfl) (show _=rows cJ []from rfl) ?_;refine St.e8 bM ?_;refine St.lH (ι:=Nat×aY×List cM) (λ⟨k,kv,ys⟩ T=>(14,iv k)::T) (λ⟨k,kv,ys⟩=>[row kv.1 69 3 (ys).length (rows cJ (ys)),aX b3 (.cells [iv x.rule,iv x.lex,kv.1].toArray 69 (0,0)),aF (aI bM ys),aF (sl cJ x.kv.1 x.kids),aF (aI bM x.kids),aX b1 (.cells (Nn x).toArray 69 (0,0)),aX b2 (.cells [iv 0,iv 0,(.slice none 0 0)].toArray 69 (0,0))]) (λ⟨k,kv,ys⟩=>k≤x.kids.length∧ys.map dN=(x.kids.take k).map dN) (λ⟨k,kv,ys⟩=>x.kids.length-k) ⟨0,bK,[]⟩ (aC.cons 2 rfl (aC.cons 3 rfl (aC.cons 12 rfl (aC.cons 13 rfl aC.nil)))) ⟨aR _,rfl⟩ ?_;rintro ⟨k,kv,ys⟩ ⟨hk,XE⟩
 dsimp only at hk XE⊢
 have hyl:ys.length≤1000:=by have h:=congrArg List.length XE;rw[aQ,aQ,e9]at h;omega
 refine g6 ?_;refine St.cq (λU0=> ?_) (λU0=> ?_)
 ·obtain⟨y,hy⟩:=aE (show k<x.kids.length by omega)
  have BZ:=ab hy
  refine St.cL bM x.kids (x:=y) BZ ?_;refine g7 ?_;refine St.ee (Ev.jj (.mk rfl) hy HV trivial py iY.eq) ?_;refine St.al (λb5=> ?_);refine g3 ?_;refine St.cx [aX b3 (.cells [iv x.rule,iv x.lex,kv.1].toArray 69 (0,0)),row kv.1 69 3 (ys).length (rows cJ (ys))] mixed (λnp ns=> ?_)
  repeat' first
   |with_reducible refine SW.me ?_
    first
     |refine SW.gd 0 ?_
     |refine SW.gd 2 ?_
     |refine SW.gd 6 ?_
     |refine SW.t2 1 3 ?_ ?_
     |refine SW.t1 3 ?_
     |refine SW.t1 4 ?_
     |refine SW.t1 5 ?_
     |refine SW.t1 7 ?_
     |refine SW.t2 1 4 ?_ ?_
     |refine SW.t1 1 ?_
   |with_reducible refine SW.tg 1 ?_
    refine g3 ?_;refine SW.go ?_
   |with_reducible refine SW.tg 3 ?_
    refine St.fE (ih y BZ (zu y BZ) (hkt y BZ)) ad8 (.bB rfl) rfl ?_;rintro v21 _ ⟨z,rfl,hz,rfl⟩;refine St.fk ?_;refine g2 ?_;refine SW.go ?_
   |with_reducible refine SW.tg 4 ?_
    refine St.gb rfl (.bB rfl) Cm py Lq rfl rfl (by simp[Value.cells]) rfl rfl (λb22=> ?_);refine g2 ?_;refine SW.go ?_
   |with_reducible refine SW.tg 5 ?_
    refine St.aj (.mk rfl) (.mk rfl) Cm py Lq YV (by intro u hu;exact cJ.one z u hu) (by omega) (by omega) rfl rfl rfl rfl (λv23 amI=> ?_);refine St.aO v23 (show _=(ys++ [z]).length by rw[bA];rfl) (show _=rows cJ (ys++ [z]) by rw[aw];rfl) ?_;refine St.bS v23 (λKT _=> ?_);refine St.eT (aI bM (ys++ [z])) [aI bM ys,bM z] (λρ h u hu=>by rcases ba.1 hu with hu|hu;exact h (aI bM ys) (aU ..) u hu;rw[bJ]at hu;subst hu;exact h (bM u) (cE _ (aU ..))) ?_;refine g2 ?_;refine SW.go ?_
   |with_reducible refine SW.tg 7 ?_
    refine St.cO (.mk rfl) (.mk rfl) YW KT (by rfl) ?_;refine g2 ?_;refine SW.go ?_
  all_goals refine SW.dn ?_
  all_goals
   refine g7 ?_;refine St.aH ⟨k+1,⟨v23,KT⟩,ys++ [z]⟩ ⟨by omega,by rw[cC,XE,Bt hy,←hz];rfl⟩
 ·obtain rfl:k=x.kids.length:=by omega
  rw[jy]at XE
  obtain⟨⟨oH,uD⟩,wU⟩:∃z,z=kv:=⟨kv,rfl⟩
  subst wU;refine St.bZ oH cJ ys rfl rfl (λy hy=> ?_) ?_
  ·have hm:dN y∈x.kids.map dN:=by rw[←XE];exact dq hy
   obtain⟨u,hu,he⟩:=ct.1 hm;obtain⟨e1,e2⟩:=zP he.symm
   have hw:=zu u hu
   exact⟨by rw[e1];exact hw.1,by rw[e2];exact hw.2⟩
  refine St.eT (bM (.mk x.rule x.lex ⟨oH,uD⟩ ys)) [sl cJ oH ys,aI bM ys] (λρ h=>oa.mk (x:= .mk x.rule x.lex ⟨oH,uD⟩ ys) (h _ (aU ..)) (λy hy=>h (aI bM ys) (cE _ (aU ..)) y hy)) ?_;refine g8 ?_;refine St.sA (.mk rfl) (.mk rfl) py ?_ (h1:=(by simp only[List.all_cons,List.all_nil,Bool.and_true,Bool.and_eq_true];exact⟨rfl,rfl,uD⟩));refine g3 ?_;refine St.rV [_] [aF (bM (.mk x.rule x.lex ⟨oH,uD⟩ ys))] ?_;exact⟨.mk x.rule x.lex ⟨oH,uD⟩ ys,rfl,by rw[jW,jW x,←XE];rfl,rfl⟩
theorem zQ (x y:xK):dA Tryz.prog 53 #[jf x,jf y] [sl aL x.cv.1 x.code,sl aL y.cv.1 y.code] (iv (SY (mJ x) (mJ y))):=by
 refine dA.mZ (args:=[jf x,jf y]) 17 Tryz.func53 rfl Tryz.ntmps53 rfl (λc=> ?_);refine g2 ?_;refine St.cz (.mk rfl) rfl (λb2=> ?_);refine St.cz (.mk rfl) rfl (λb3=> ?_);refine g4 ?_;refine St.sZ [] mixed (λnp ns=> ?_);refine SW.gd 0 ?_;refine SW.gd 1 ?_;refine SW.gd 2 ?_;refine SW.gd 3 ?_;refine SW.dd 4 rfl (λ_=>Ev.call (dw _ _) pt (.bH rfl rfl)) ?_;refine SW.gd 5 ?_;refine SW.gd 6 ?_;refine SW.gd 7 ?_;refine SW.gd 8 ?_;refine SW.dd 9 rfl (λ_=>Ev.call (AW x.cv.1 y.cv.1 x.code y.code) ad9 (.bH rfl rfl)) ?_;refine SW.t1 10 ?_;refine St.gb rfl (.bH rfl rfl) cI eJ jA rfl rfl (by simp[Value.cells]) rfl rfl (λIL=> ?_);refine St.aO (.slice (some ⟨IL,0,none⟩) 2 2) (show _=([(lG x.wt y.wt),(je lG x.code y.code)]).length from rfl) (show _=rows aL ([(lG x.wt y.wt),(je lG x.code y.code)])from rfl) ?_;refine g2 ?_;refine SW.go ?_;refine SW.t1 11 ?_;refine St.ee (Ev.xh (th (.slice (some ⟨IL,0,none⟩) 2 2) [(lG x.wt y.wt),(je lG x.code y.code)]) Tg (.bB rfl) (cw.row cw.nil rfl rfl rfl (DM (λx hx=>by simp only[List.mem_cons,List.not_mem_nil,or_false]at hx;rcases hx with rfl|rfl;exact oB _ _;exact zJ oB _ _)))) ?_;refine g2 ?_;refine SW.go ?_;refine SW.gd 12 ?_;refine SW.dn ?_;refine g2 ?_;refine St.rV [_] [] ?_;exact ie (show sL _ (sL _ 0)=_ by rw[Kc];rfl)
theorem qj (v0:Value)(q:List kP):dA Tryz.prog 95 #[v0] [sl iu v0 q] (iv (q.length:Nat)):=by
 refine dA.na (args:=[v0]) 5 Tryz.func95 rfl Tryz.ntmps95 rfl (λc=> ?_);refine g13 ?_;refine St.rV [_] [] ?_;exact ie rfl
theorem sG (v0:Value)(q:List kP)(i j:Nat)(x y:kP)(hx:q[i]?=some x)(hy:q[j]?=some y):dA Tryz.prog 206 #[v0,iv (i:Nat),iv (j:Nat)] [sl iu v0 q,aI gB q] (.bool (decide (SY (mJ x.rk) (mJ y.rk)<0))):=by
 refine dA.mZ (args:=[v0,iv (i:Nat),iv (j:Nat)]) 19 Tryz.func206 rfl Tryz.ntmps206 rfl (λc=> ?_);refine go ?_
 have wI:=ae hx
 have hyl:=ae hy
 refine St.eT (sl aL x.rk.cv.1 x.rk.code) [aI gB q] (λρ h=>h _ (aU ..) x (ab hx) _ (aU ..)) ?_;refine St.eT (sl aL y.rk.cv.1 y.rk.code) [aI gB q] (λρ h=>h _ (aU ..) y (ab hy) _ (aU ..)) ?_;refine g5 ?_;refine St.rq mixed (by kernel_rfl) (Mm.drawn _ _) ?_;refine g4 ?_;refine Sq.ee (Ev.Hk (Rr:=iu) (sz:=5) (.mk rfl) hx HW trivial uj (by decide) (by decide)) ?_;refine Sq.slot 11 (jf x.rk) rfl rfl ?_;refine g4 ?_;refine Sq.ee (Ev.Hk (Rr:=iu) (sz:=5) (.mk rfl) hy HW trivial uj (by decide) (by decide)) ?_;refine Sq.slot 16 (jf y.rk) rfl rfl ?_;refine Sq.ee (Ev.call (zQ x.rk y.rk) aeA (.bH rfl rfl)) ?_;refine g5 ?_;refine St.rV [_] [] ?_;rfl
open Go.Lib
theorem Qw {s:bI}(h:0<s.length):Lib.decodeGo ⟨s.toArray⟩=Lib.decodeL s:=by
 have h0:¬(⟨s.toArray⟩:ByteArray).size=0:=by rw[Ej];omega
 unfold Lib.decodeGo Lib.decodeL;rw[aA h0]
theorem DT (s:bI)(h:0<s.length):iz Tryz.prog 41 #[sv s] [u8] (.tuple #[.int .i32 ((Lib.decodeL s).1:Nat),iv ((Lib.decodeL s).2:Nat)]):=
 iz.nq λw hw=>by
  have:=Any.utf8_DecodeRuneInString Tryz.TY ⟨s.toArray⟩ w hw
  rw[Qw h]at this;exact this
theorem Iw (v:Value)(l:List bI)(sep:bI)(hlen:(Lib.join l sep).length≤140737488355328)(hl:l.length≤140737488355328):iz Tryz.prog 18 #[v,sv sep] [sl dY v l] (sv (Lib.join l sep)):=
 iz.Cl λw ρ hf hd=>by
  obtain⟨a,cap,rfl,h2,h3,h4,h5⟩:=hd (sl dY v l) (aU ..)
  have hm:(l.map λs=>(⟨s.toArray⟩:ByteArray)).map (·.data.toList)=l:=by rw[kh];exact List.map_id _
  cases l with
  |nil=>
   refine(Any.strings_Join_none Tryz.Jw Tryz.mo a cap ⟨sep.toArray⟩ w).mono ?_;rintro e w' ⟨rfl,rfl⟩;exact⟨rfl,Go.RowKit.Below.refl _ _⟩
  |cons x l=>
   rcases h5 with h5|⟨b,off,C,e,fr,rfl,h6,h7⟩
   ·cases h5
   have hb:=hf _ _ h6
   have xZ:∀(j:Nat) y,((x::l).map λs=>(⟨s.toArray⟩:ByteArray))[j]?=some y→w.cell? ⟨b,off+j,none⟩=some (.string y):=λj y hy=>by
    rw[bE]at hy;obtain⟨s,hs,rfl⟩:=dG.1 hy;rw[bh hb];refine h7 j _ ?_
    have:=TP hs
    rw[fR,jK]at this;exact this
   have hj:=Any.strings_Join Tryz.Jw Tryz.mo b off cap ((x::l).map λs=>(⟨s.toArray⟩:ByteArray)) ⟨sep.toArray⟩ w xZ (pP.1 hb).1 (by rw[aQ];exact hl) (by rw[aQ];exact h2) (by rw[hm];exact hlen)
   rw[hm,aQ]at hj;exact hj
theorem Qx {p a b:Int}{bs:List Int}{i:Nat}(ha:bs[i]?=some a)(hb:bs[i+1]?=some b):O5 p (bs.drop i)=(decide (a≤p∧p≤b)||O5 p (bs.drop (i+2))):=by
 rw[an ha,an hb,O5]
theorem Uw {p:Int}{bs:List Int}{i:Nat}(h:bs.length≤i+1):O5 p (bs.drop i)=false:=by
 have hl:(bs.drop i).length≤1:=by rw[lT];omega
 match bs.drop i,hl with
 | [],_=>rfl
 | [_],_=>rfl
theorem Ux {s:bI}{f i:Nat}(h:i<s.length)(hb:(decodeL (s.drop i)).1=65533∧(decodeL (s.drop i)).2≤1):wN s (f+1) i=([],some i):=by
 rw[wN,aA (by omega),show Cf (decodeL (s.drop i))=true from dH hb,aB rfl]
theorem ZV {s:bI}{f i:Nat}(h:i<s.length)(hb:¬((decodeL (s.drop i)).1=65533∧(decodeL (s.drop i)).2≤1)):wN s (f+1) i=((decodeL (s.drop i)).1::(wN s f (i+(decodeL (s.drop i)).2)).1,(wN s f (i+(decodeL (s.drop i)).2)).2):=by
 rw[wN,aA (by omega),show Cf (decodeL (s.drop i))=false from eL hb,aA (by decide)]
theorem Uy {s:bI}{f i:Nat}(h:s.length≤i):wN s f i=([],none):=by
 cases f with
 |zero=>rfl
 |succ f=>rw[wN,aB h]
theorem Qy {s:bI}{i:Nat}(h:¬4000<s.length)(hg:(wN s s.length 0).2=some i):jo s=([],5,(i:Int)):=by unfold jo;rw[aA h,hg]
theorem Ma {s:bI}(h:¬4000<s.length)(hg:(wN s s.length 0).2=none):jo s=((wN s s.length 0).1,0,0):=by unfold jo;rw[aA h,hg]
theorem vR {s:bI}(h:4000<s.length):jo s=([],1,-1):=by unfold jo;rw[aB h]
theorem Ki {s:bI}{i:Nat}(h:i<s.length):(decodeL (s.drop i)).1≤1114111:=by
 rw[qR]
 rcases Ji (n:=s.length-i) (b0:=bt s i) (b1:=bt s (i+1)) (b2:=bt s (i+2)) (b3:=bt s (i+3))with e|⟨_,_,e⟩
 ·rw[e];decide
 ·have:=eS e;omega
theorem zR (v0 v1:Value)(a b:List bI):dA Tryz.prog 9 #[v0,v1] [sl dY v0 a,sl dY v1 b] (.bool (decide (a=b))):=by
 refine dA.mZ (args:=[v0,v1]) 26 Tryz.func9 rfl Tryz.ntmps9 rfl (λc=> ?_);refine go ?_;refine St.wf v0 (λUr Kd=> ?_);refine St.wf v1 (λZQ Qs=> ?_);refine g14 ?_;refine St.cq (λN3=> ?_) (λN3=> ?_)
 ·refine g7 ?_
  refine St.rV [_] [] ?_;exact be (by rw[eq_comm,decide_eq_false_iff_not];rintro rfl;omega)
 ·refine g11 ?_
  refine St.lS (ι:=Nat) (λk T=>(13,iv k)::T) (λk=>k≤a.length∧a.take k=b.take k) (λk=>a.length-k) 0 (aC.cons 0 rfl (aC.cons 1 rfl (aC.cons 12 rfl aC.nil))) ⟨aR _,rfl⟩ ?_;intro k fy;obtain⟨hk,hv⟩:=fy;refine g6 ?_;refine St.cq (λDp=> ?_) (λDp=> ?_)
  ·obtain⟨x,hx⟩:=aE (show k<a.length by omega)
   obtain⟨y,hy⟩:=aE (show k<b.length by omega);refine g11 ?_;refine St.rq mixed (by kernel_rfl) (Mm.drawn _ _) ?_;refine g11 ?_;refine St.cond _ rfl (λN1=> ?_) (λN1=> ?_)
   ·skip
    refine g11 ?_;refine St.rV [_] [] ?_;exact be (by rw[eq_comm,decide_eq_false_iff_not];rintro rfl;rw[hx]at hy;simp only[Option.some.injEq]at hy;simp[hy]at N1)
   ·skip
    refine g8 ?_;refine St.aS (k+1) ⟨by omega,by rw[ai hx,ai hy,hv,show x=y by simpa using N1]⟩
  ·refine g11 ?_
   refine St.rV [_] [] ?_;exact be (by rw[eq_comm,fS];rw[fZ (by omega),fZ (by omega)]at hv;exact hv)
theorem Fz (va vb:Value)(a b:List cM)(Gq:a.map dN=b.map dN)(hT:∀x y,x∈a→y∈b→dN x=dN y→dA Tryz.prog 29 #[ny x,ny y] [bM x,bM y] (.bool true)):dA Tryz.prog 11 #[va,vb] [sl cJ va a,aI bM a,sl cJ vb b,aI bM b] (.bool true):=by
 refine dA.JQ (args:=[va,vb]) 27 Tryz.func11 rfl Tryz.ntmps11 rfl (λc=> ?_);refine go ?_
 have hl:=congrArg List.length Gq
 rw[aQ,aQ]at hl;refine St.wf va (λUr Kd=> ?_);refine g14 ?_;refine St.cq (λN3=> ?_) (λN3=> ?_)
 ·exact absurd N3 (by omega)
 ·refine g11 ?_
  refine St.lS (ι:=Nat) (λk T=>(13,iv k)::T) (λk=>k≤a.length) (λk=>a.length-k) 0 (aC.cons 0 rfl (aC.cons 1 rfl (aC.cons 12 rfl aC.nil))) (aR _) ?_;intro k hk;refine g6 ?_;refine St.cq (λDp=> ?_) (λDp=> ?_)
  ·obtain⟨x,hx⟩:=aE (show k<a.length by omega)
   obtain⟨y,hy⟩:=aE (show k<b.length by omega)
   have zx:=ab hx
   have BZ:=ab hy
   refine St.cL bM a (x:=x) zx ?_;refine St.cL bM b (x:=y) BZ ?_
   have hE:dN x=dN y:=by have:=congrArg (λz=>z[k]?) Gq;simp only[List.getElem?_map,hx,hy]at this;exact Option.some.inj this
   refine g11 ?_;refine St.rq mixed (by kernel_rfl) (Mm.drawn _ _) ?_;refine g3 ?_;refine Sq.ee (Ev.jj (.mk rfl) hx HV trivial py iY.eq) ?_;refine Sq.slot 19 (ny x) rfl rfl ?_;refine g3 ?_;refine Sq.ee (Ev.jj (.mk rfl) hy HV trivial py iY.eq) ?_;refine Sq.slot 23 (ny y) rfl rfl ?_;refine Sq.ee (Ev.call (hT x y zx BZ hE) aiQ (.bH rfl rfl)) ?_;refine g3 ?_;refine St.pF _ rfl rfl ?_;refine g8 ?_;refine St.aS (k+1) (by omega)
  ·refine g11 ?_
   refine St.rV [_] [] ?_;rfl
theorem Uz:∀(x y:cM),dN x=dN y→dA Tryz.prog 29 #[ny x,ny y] [bM x,bM y] (.bool true):=by
 intro x
 induction x using cM.ind
 rename_i x ih
 intro y he;refine dA.mZ (args:=[ny x,ny y]) 24 Tryz.func29 rfl Tryz.ntmps29 rfl (λc=> ?_);refine go ?_;refine St.xz x ?_;refine St.xz y ?_;rw[jW,jW]at he;obtain⟨hr,hx,hk⟩:=nu.mk.inj he;refine go ?_;refine St.cz (.mk rfl) rfl (λb2=> ?_);refine St.cz (.mk rfl) rfl (λb3=> ?_);refine g11 ?_;refine St.known 10 _ true rfl (by simp[hr]) ?_;refine St.aa rfl rfl ?_;refine go ?_;refine St.aa rfl rfl ?_;refine go ?_;refine St.aa rfl rfl ?_;refine go ?_;refine St.aa rfl rfl ?_;refine go ?_;refine St.aa rfl rfl ?_;refine go ?_;refine St.ee (Ev.eo (.mk rfl) rfl (.mk rfl)) ?_;refine go ?_;refine St.known 17 _ true rfl (by simp[hx]) ?_;refine St.aa rfl rfl ?_;refine go ?_;refine St.aa rfl rfl ?_;refine go ?_;refine St.aa rfl rfl ?_;refine go ?_;refine St.aa rfl rfl ?_;refine go ?_;refine St.aa rfl rfl ?_;refine St.ee (Ev.call (Fz x.kv.1 y.kv.1 x.kids y.kids hk (λa b ha _ Gq=>ih a ha b Gq)) aeM (.bH rfl rfl)) ?_;refine St.ee (Ev.eo (.mk rfl) rfl (.mk rfl)) ?_;refine g4 ?_;refine St.rV [_] [] ?_;rfl
theorem iw (a b:Int):dA Tryz.prog 17 #[iv a,iv b] [] (fv (a,b)):=by
 refine dA.jz (args:=[iv a,iv b]) 8 Tryz.func17 rfl Tryz.ntmps17 rfl (λc=> ?_);refine g2 ?_;refine St.al (λb4=> ?_);refine g6 ?_;refine St.ee (Ev.build (bF.bH rfl rfl) (λw=>fB rfl rfl w)) ?_;refine g4 ?_;refine St.rV [_] [] ?_;rfl
theorem rS (a b:Int):dA Tryz.prog 40 #[iv a,iv b] [] (fv (a,b)):=by
 refine dA.jz (args:=[iv a,iv b]) 8 Tryz.func40 rfl Tryz.ntmps40 rfl (λc=> ?_);refine g2 ?_;refine St.al (λb4=> ?_);refine g6 ?_;refine St.ee (Ev.build (bF.bH rfl rfl) (λw=>fB rfl rfl w)) ?_;refine g4 ?_;refine St.rV [_] [] ?_;rfl
theorem G0 (p:Int):dA Tryz.prog 76 #[iv p] [] (.bool (wM p)):=by
 refine dA.jz (args:=[iv p]) 17 Tryz.func76 rfl Tryz.ntmps76 rfl (λc=> ?_);refine g10 ?_;refine St.gt _ rfl rfl (λhg=>Ev.move (.mk rfl)) rfl ?_;refine St.gt _ rfl rfl (λhg=>Ev.leq (aZ.gv rfl hg) (.mk rfl)) rfl ?_;refine g2 ?_;refine St.gt _ rfl rfl (λhg=>Ev.move (.mk rfl)) rfl ?_;refine St.gt _ rfl rfl (λhg=>Ev.lss (aZ.gv rfl hg) (.mk rfl)) rfl ?_;refine St.gt _ rfl rfl (λhg=>Ev.move (aZ.gv rfl hg)) rfl ?_;refine St.gcf _ rfl rfl (λhg=>Ev.move (.mk rfl)) rfl ?_;refine St.gcf _ rfl rfl (λhg=>Ev.gtr (aZ.gv rfl hg) (.mk rfl)) rfl ?_;refine St.gt _ rfl rfl (λhg=>Ev.or (aZ.gv rfl hg) (λhp=>aZ.gv rfl (NB hg hp))) rfl ?_;refine g5 ?_;refine St.rV [_] [] ?_;exact be (by unfold wM;rw[uF];simp only[br];omega)
theorem pC (p:Int)(v:Value)(bs:List Int)(hbs:bs.length≤100):dA Tryz.prog 109 #[iv p,v] [sl aL v bs] (.bool (O5 p bs)):=by
 refine dA.na (args:=[iv p,v]) 28 Tryz.func109 rfl Tryz.ntmps109 rfl (λc=> ?_);refine g12 ?_;refine St.lS (ι:=Nat) (λi T=>(5,iv i)::T) (λi=>i≤bs.length+1∧O5 p bs=O5 p (bs.drop i)) (λi=>bs.length+2-i) 0 (aC.cons 0 rfl (aC.cons 1 rfl aC.nil)) ⟨aR _,by rw[List.drop_zero]⟩ ?_;intro i fy;obtain⟨hi,hv⟩:=fy;refine g10 ?_;refine St.cq (λN3=> ?_) (λN3=> ?_)
 ·obtain⟨a,ha⟩:=aE (show i<bs.length by omega)
  obtain⟨b,hb⟩:=aE (show i+1<bs.length by omega)
  have ei:=Qx (p:=p) ha hb
  refine g13 ?_;refine St.gt _ rfl rfl (λhg=>Ev.move (.mk rfl)) rfl ?_;refine St.gt _ rfl rfl (λhg=>Ev.move (.mk rfl)) rfl ?_;refine St.gt _ rfl rfl (λhg=>Ev.move (.mk rfl)) rfl ?_;refine St.gt _ rfl rfl (λhg=>Ev.add (aZ.gv rfl hg) (.mk rfl) (by first|omega|(simp only[br]at hg;omega))) rfl ?_;refine St.gt _ rfl rfl (λhg=>Ev.cZ (k:=(i+1)) (aZ.gv rfl hg) (aZ.gv rfl hg) cI eJ (by first|omega|(simp only[br]at hg;omega)) (by first|omega|(simp only[br]at hg;omega))) rfl ?_;refine St.gt _ rfl rfl (λhg=>Ev.ld1 (aZ.gv rfl hg) hb eN trivial rfl) rfl ?_;refine St.gt _ rfl rfl (λhg=>Ev.leq (aZ.gv rfl hg) (aZ.gv rfl hg)) rfl ?_;refine g3 ?_;refine St.cq (λQ9=> ?_) (λQ9=> ?_)
  ·rw[dH (show a≤p∧p≤b by omega),Bool.true_or]at ei
   refine g11 ?_;refine St.rV [_] [] ?_;exact be (hv.trans ei).symm
  ·rw[eL (show ¬(a≤p∧p≤b) by omega),Bool.false_or]at ei
   refine g9 ?_;refine St.aS (i+2) ⟨by omega,hv.trans ei⟩
 ·rw[Uw (p:=p) (bs:=bs) (i:=i) (by omega)]at hv
  refine g11 ?_;refine St.rV [_] [] ?_;exact be hv.symm
theorem Ix (p:Nat):dA Tryz.prog 77 #[iv (p:Nat)] [] (iv (cls p:Nat)):=by
 refine dA.jz (args:=[iv (p:Nat)]) 45 Tryz.func77 rfl Tryz.ntmps77 rfl (λc=> ?_);refine g12 ?_;refine St.gf _ rfl rfl (λhg=>Ev.move (.mk rfl)) rfl ?_;refine St.gf _ rfl rfl (λhg=>Ev.eql (aZ.gv rfl hg) (.mk rfl)) rfl ?_;refine g2 ?_;refine St.gf _ rfl rfl (λhg=>Ev.move (.mk rfl)) rfl ?_;refine St.gf _ rfl rfl (λhg=>Ev.eql (aZ.gv rfl hg) (.mk rfl)) rfl ?_;refine g2 ?_;refine St.gf _ rfl rfl (λhg=>Ev.move (.mk rfl)) rfl ?_;refine St.gf _ rfl rfl (λhg=>Ev.eql (aZ.gv rfl hg) (.mk rfl)) rfl ?_;refine g2 ?_;refine St.gf _ rfl rfl (λhg=>Ev.move (.mk rfl)) rfl ?_;refine St.gf _ rfl rfl (λhg=>Ev.eql (aZ.gv rfl hg) (.mk rfl)) rfl ?_;refine g4 ?_;refine St.cond _ rfl (λh3=> ?_) (λh3=> ?_)
 focus
  skip
  try simp only[br]at h3
  refine g8 ?_;refine St.rV [_] [] ?_;exact ie (by unfold cls;rw[aB (by omega)];rfl)
 focus
  skip
  try simp only[br]at h3
  refine g5 ?_;refine St.gf _ rfl rfl (λhg=>Ev.move (.mk rfl)) rfl ?_;refine St.gf _ rfl rfl (λhg=>Ev.eql (aZ.gv rfl hg) (.mk rfl)) rfl ?_;refine g2 ?_;refine St.gf _ rfl rfl (λhg=>Ev.move (.mk rfl)) rfl ?_;refine St.gf _ rfl rfl (λhg=>Ev.eql (aZ.gv rfl hg) (.mk rfl)) rfl ?_;refine g4 ?_;refine St.cond _ rfl (λyU=> ?_) (λyU=> ?_)
  focus
   skip
   try simp only[br]at yU
   refine g8 ?_;refine St.rV [_] [] ?_;exact ie (by unfold cls;rw[aA (by omega),aB (by omega)];rfl)
  focus
   skip
   try simp only[br]at yU
   refine g3 ?_;refine St.gb rfl (.bH rfl rfl) cI eJ jA rfl rfl (by simp[Value.cells]) rfl rfl (λV0=> ?_);refine St.bZ (.slice (some ⟨V0,0,none⟩) 2 2) aL [48,57] rfl rfl (wfI (by decide)) ?_;refine St.ee (Ev.call (pC p (.slice (some ⟨V0,0,none⟩) 2 2) [48,57] (by decide)) PA (.bH rfl rfl)) ?_;refine g3 ?_;refine St.cond _ rfl (λD1=> ?_) (λD1=> ?_)
   focus
    skip
    skip
    refine g8 ?_;refine St.rV [_] [] ?_;exact ie (by unfold cls;rw[aA (by omega),aA (by omega),aB D1];rfl)
   focus
    skip
    skip
    refine g3 ?_;refine St.gb rfl (.bH rfl rfl) cI eJ jA rfl rfl (by simp[Value.cells]) rfl rfl (λb39=> ?_);refine St.bZ (.slice (some ⟨b39,0,none⟩) 2 2) aL [768,879] rfl rfl (wfI (by decide)) ?_;refine St.ee (Ev.call (pC p (.slice (some ⟨b39,0,none⟩) 2 2) [768,879] (by decide)) PA (.bH rfl rfl)) ?_;refine g3 ?_;refine St.cond _ rfl (λKA=> ?_) (λKA=> ?_)
    focus
     skip
     skip
     refine g8 ?_;refine St.rV [_] [] ?_;exact ie (by unfold cls;rw[aA (by omega),aA (by omega),aA (by rw[D1];decide),aB KA];rfl)
    focus
     skip
     skip
     refine g3 ?_;refine St.gb rfl (.cons (.mk rfl) (.cons (.mk rfl) (.cons (.mk rfl) (.cons (.mk rfl) (.cons (.mk rfl) (.cons (.mk rfl) (.cons (.mk rfl) (.cons (.mk rfl) (.cons (.mk rfl) (.cons (.mk rfl) (.cons (.mk rfl) (.cons (.mk rfl) (.ahV rfl rfl rfl rfl rfl rfl rfl rfl))))))))))))) cI eJ jA rfl rfl (by simp[Value.cells]) rfl rfl (λb43=> ?_);refine St.bZ (.slice (some ⟨b43,0,none⟩) 20 20) aL [65,90,97,122,192,214,216,246,248,591,913,929,931,937,945,969,1040,1103,7688,7689] rfl rfl (wfI (by decide)) ?_;refine St.ee (Ev.call (pC p (.slice (some ⟨b43,0,none⟩) 20 20) [65,90,97,122,192,214,216,246,248,591,913,929,931,937,945,969,1040,1103,7688,7689] (by decide)) PA (.bH rfl rfl)) ?_;refine g3 ?_;refine St.cond _ rfl (λFE=> ?_) (λFE=> ?_)
     focus
      skip
      skip
      refine g8 ?_;refine St.rV [_] [] ?_;exact ie (by unfold cls;rw[aA (by omega),aA (by omega),aA (by rw[D1];decide),aA (by rw[KA];decide),aB FE];rfl)
     focus
      skip
      skip
      refine go ?_
 all_goals
  refine g8 ?_;refine St.rV [_] [] ?_;exact ie (by unfold cls;rw[aA (by omega),aA (by omega),aA (by rw[D1];decide),aA (by rw[KA];decide),aA (by rw[FE];decide)];rfl)
theorem Iy (p:Nat)(hp:wM p=true):dA Tryz.prog 42 #[iv (p:Nat)] [] (.tuple #[iv (cls p:Nat),fv (0,0)]):=by
 refine dA.jz (args:=[iv (p:Nat)]) 11 Tryz.func42 rfl Tryz.ntmps42 rfl (λc=> ?_);refine g3 ?_;refine St.al (λb3=> ?_);refine g6 ?_;refine St.ee (Ev.call (G0 p) aiR (.bB rfl)) ?_;refine g3 ?_;refine St.pF _ rfl (by rw[hp];rfl) ?_;refine g5 ?_;refine St.ee (Ev.call (Ix p) aiS (.bB rfl)) ?_;refine St.ee (Ev.build (bF.nil) (λw=>fL w)) ?_;refine g5 ?_;refine St.rV [_,_] [] ?_;rfl
theorem Iz (p:Nat):dA Tryz.prog 20 #[iv (p:Nat)] [] (iv (EY p:Nat)):=by
 refine dA.jz (args:=[iv (p:Nat)]) 12 Tryz.func20 rfl Tryz.ntmps20 rfl (λc=> ?_);refine g14 ?_;refine St.cond _ rfl (λh3=> ?_) (λh3=> ?_)
 focus
  skip
  try simp only[br]at h3
  refine g8 ?_;refine St.rV [_] [] ?_;exact ie (by unfold EY;rw[aB (by omega)];rfl)
 focus
  skip
  try simp only[br]at h3
  refine g7 ?_;refine St.cond _ rfl (λh6=> ?_) (λh6=> ?_)
  focus
   skip
   try simp only[br]at h6
   refine g8 ?_;refine St.rV [_] [] ?_;exact ie (by unfold EY;rw[aA (by omega),aB (by omega)];rfl)
  focus
   skip
   try simp only[br]at h6
   refine g7 ?_;refine St.cond _ rfl (λh9=> ?_) (λh9=> ?_)
   focus
    skip
    try simp only[br]at h9
    refine g8 ?_;refine St.rV [_] [] ?_;exact ie (by unfold EY;rw[aA (by omega),aA (by omega),aB (by omega)];rfl)
   focus
    skip
    try simp only[br]at h9
    refine go ?_
 all_goals
  refine g8 ?_;refine St.rV [_] [] ?_;exact ie (by unfold EY;rw[aA (by omega),aA (by omega),aA (by omega)];rfl)
theorem jX (p:Nat)(hp:wM p=true):dA Tryz.prog 22 #[iv (p:Nat)] [] (iv (cls p:Nat)):=by
 refine dA.jz (args:=[iv (p:Nat)]) 11 Tryz.func22 rfl Tryz.ntmps22 rfl (λc=> ?_);refine g8 ?_;refine St.ee (Ev.call (Iy p hp) aiT (.bB rfl)) ?_;refine g3 ?_;refine St.slot 9 (fv (0,0)) rfl rfl ?_;refine St.al (λb4=> ?_);refine g11 ?_;refine St.rV [_] [] ?_;rfl
theorem G1 (s:bI)(hs:s.length≤9223372036854775807):xT Tryz.prog 19 #[sv s] ([u8].map aF) (λv H'=>∃ov:aY,v= .tuple #[ov.1,fv (jo s).2]∧H'=[aF (sl aL ov.1 (bC (jo s).1))]):=by
 refine xT.body (args:=[sv s]) 41 Tryz.func19 rfl Tryz.ntmps19 rfl (λc lf=> ?_);refine St.cast (H':=[aF (u8)]) rfl ?_;refine g3 ?_;refine St.al (λb3=> ?_);refine g10 ?_;refine St.cq (λN3=> ?_) (λN3=> ?_)
 ·refine g2 ?_
  refine St.ee (Ev.call (rS 1 (-1)) aeN (.bH rfl rfl)) ?_;refine g6 ?_;refine St.fq aL ?_;refine St.rV [_,_] [aF (sl aL (.slice none 0 0) [])] ?_;exact⟨bK,by rw[vR (by omega)];rfl,by rw[vR (by omega)];rfl⟩
 ·refine g14 ?_
  refine St.dc 3 1 ?_;refine St.aO (.slice none 0 0) (show _=([]:List Nat).length from rfl) (show _=rows aL (bC [])from rfl) ?_;refine St.lH (ι:=Nat×aY×List Nat) (λ⟨i,ov,l⟩ T=>(5,iv i)::(4,ov.1)::T) (λ⟨i,ov,l⟩=>[row ov.1 3 1 l.length (rows aL (bC l)),aX b3 (.cells [iv 0,iv 0].toArray 35 (0,0)),aF u8]) (λ⟨i,ov,l⟩=>i≤s.length∧l.length≤i∧(∀x∈l,x≤1114111)∧∃f,s.length-i≤f∧wN s s.length 0=(l++(wN s f i).1,(wN s f i).2)) (λ⟨i,ov,l⟩=>s.length-i) ⟨0,bK,[]⟩ (aC.cons 0 rfl (aC.cons 3 rfl aC.nil)) ⟨aR _,aW _,λx hx=>(by cases hx),s.length,by omega,rfl⟩ ?_;rintro ⟨i,ov,l⟩ ⟨hi,hli,hle,f,hf,hG⟩
  dsimp only at hi hli hle hf hG⊢
  refine g9 ?_;refine St.cq (λU0=> ?_) (λU0=> ?_)
  ·have qQ:i<s.length:=by omega
   have hdb:=jl qQ
   have amJ:=Ki qQ
   obtain⟨f,rfl⟩:∃g,f=g+1:=⟨f-1,by omega⟩
   refine g7 ?_;refine St.ee (Ev.TQ (l:=i) (.mk rfl) (.mk rfl) sK rfl (by omega)) ?_;refine St.ee (Ev.ni lf (DT (s.drop i) (by rw[lT];omega)) aiU (.bB rfl)) ?_;refine g13 ?_;refine St.gt _ rfl rfl (λhg=>Ev.move (.mk rfl)) rfl ?_;refine St.gt _ rfl rfl (λhg=>Ev.leq (aZ.gv rfl hg) (.mk rfl)) rfl ?_;refine g3 ?_;refine St.cq (λN2=> ?_) (λN2=> ?_)
   ·have Ch:(decodeL (s.drop i)).1=65533∧(decodeL (s.drop i)).2≤1:=by omega
    rw[Ux qQ Ch]at hG
    have ZW:=Qy (s:=s) (i:=i) (by omega) (by rw[hG])
    refine g3 ?_;refine St.ee (Ev.call (rS 5 i) aeN (.bH rfl rfl)) ?_;refine g10 ?_;refine St.fq aL ?_;refine St.rV [_,_] [aF (sl aL (.slice none 0 0) [])] ?_;exact⟨bK,by rw[ZW];rfl,by rw[ZW];rfl⟩
   ·have Ch:¬((decodeL (s.drop i)).1=65533∧(decodeL (s.drop i)).2≤1):=by omega
    refine g6 ?_;refine St.ee (Ev.Ng (.mk rfl) (by rw[Tryz.underlying21];rfl) eN (by omega)) ?_;refine St.gb rfl (.bB rfl) cI eJ jA rfl rfl (by simp[Value.cells]) rfl rfl (λMS=> ?_);refine St.aj (.mk rfl) (.mk rfl) cI eJ jA wO (by simp[Value.oneCell',Value.cells]) (by omega) (by omega) rfl rfl rfl rfl (λv35 ajO=> ?_);refine St.aO v35 (show _=(l++ [(decodeL (s.drop i)).1]).length by rw[bA];rfl) (show _=rows aL (bC (l++ [(decodeL (s.drop i)).1])) by rw[jD,aw];rfl) ?_;refine St.bS v35 (λX8 _=> ?_);refine g11 ?_;refine St.aH ⟨i+(decodeL (s.drop i)).2,⟨v35,X8⟩,l++ [(decodeL (s.drop i)).1]⟩ ⟨by dsimp only;omega,by dsimp only;rw[bA,lU];omega,λx hx=>(by rcases ba.1 hx with hx|hx;exact hle x hx;rw[bJ.1 hx];exact Ki qQ),f,by dsimp only;omega,by dsimp only;rw[hG,ZV qQ Ch,cg];rfl⟩
  ·rw[Uy (s:=s) (f:=f) (i:=i) (by omega),fj]at hG
   refine St.bZ ov.1 aL (bC l) rfl (by rw[cR]) (λx hx=>by obtain⟨y,hy,rfl⟩:=ct.1 hx;have:=hle y hy;exact⟨by omega,by omega⟩) ?_
   have ZW:=Ma (s:=s) (by omega) (by rw[hG])
   rw[hG]at ZW
   dsimp only at ZW
   refine g8 ?_;refine St.ee (Ev.build (bF.nil) (λw=>fL w)) ?_;refine g5 ?_;refine St.rV [_,_] [aF (sl aL ov.1 (bC l))] ?_;exact⟨ov,by rw[ZW];rfl,by rw[ZW]⟩
def ir.wn (x:ir)(u:aY)(q:List kP):ir:=⟨x.dv,x.done,u,q,x.begun⟩
theorem tq {L:List ir}{e o:Nat}{x:ir}(h:L[e]?=some x)(ho:o<3):(rows eG L)[e*3+o]?=[x.dv.1,x.nv.1,.bool x.begun][o]?:=db eG L e o x h ho
theorem nC {L:List ir}{e:Nat}{x:ir}(h:L[e]?=some x):(rows eG L)[e*3+1]?=some x.nv.1:=tq h (by decide)
theorem pD {α:Type}(Rr:Rp α){l:List α}{i o:Nat}{g g':α}{u:Value}(h:l[i]?=some g)(ho:o<Rr.size)(hc:(Rr.cells g).set o u=Rr.cells g'):(rows Rr l).set (i*Rr.size+o) u=rows Rr (l.set i g'):=by
 induction l generalizing i with
 |nil=>cases h
 |cons a l ih=>
  cases i with
  |zero=>
   obtain rfl:=Option.some.inj h;rw[Nat.zero_mul,gP,rE]
   show(Rr.cells a++rows Rr l).set o u=Rr.cells g'++rows Rr l
   rw[List.set_append_left _ _ (by rw[Rr.len];exact ho),hc]
  |succ i=>
   have e:(i+1)*Rr.size+o=(Rr.cells a).length+(i*Rr.size+o):=by rw[Rr.len,lW];omega
   rw[vd]
   show(Rr.cells a++rows Rr l).set _ u=Rr.cells a++rows Rr (l.set i g')
   rw[e,kn _ _ (by omega),show(Rr.cells a).length+(i*Rr.size+o)-(Rr.cells a).length=i*Rr.size+o by omega,ih h]
theorem oI {L:List ir}{e:Nat}{x:ir}(h:L[e]?=some x)(u:aY)(q:List kP):(rows eG L).set (e*3+1) u.1=rows eG (L.set e (x.wn u q)):=pD eG h (by decide) rfl
def qz (q:List kP)(i j:Nat)(x y:kP):List kP:=(q.set i y).set j x
theorem oJ (q:List kP)(i j:Nat)(x y:kP):(qz q i j x y).length=q.length:=by unfold qz;rw[cG,cG]
theorem qk {q:List kP}{i:Nat}{x:kP}(h:q[i]?=some x):(q.map gV).getD i Ke=gV x:=by rw[ak,bE,h];rfl
theorem J0 {q:List kP}{i j:Nat}{x y:kP}(hx:q[i]?=some x)(hy:q[j]?=some y):(qz q i j x y).map gV=wc (q.map gV) i j:=by
 unfold qz wc;rw[ia,ia,qk hx,qk hy]
theorem oK {q:List kP}{i j:Nat}{x y u:kP}(hx:q[i]?=some x)(hy:q[j]?=some y)(h:u∈qz q i j x y):u∈q:=by
 rcases jx h with h|rfl
 ·rcases jx h with h|rfl
  ·exact h
  ·exact ab hy
 ·exact ab hx
theorem J1 {q:List kP}{i j:Nat}{x y:kP}(hx:q[i]?=some x)(hy:q[j]?=some y):vN (q.map gV) i j=decide (SY (mJ x.rk) (mJ y.rk)<0):=by unfold vN;rw[qk hx,qk hy];rfl
theorem Qz {f i n:Nat}{q:List iq}(h:n≤2*i+1):oD f q i n=q:=by
 cases f with
 |zero=>rfl
 |succ f=>rw[oD,aB h]
theorem R0 {f i n:Nat}{q:List iq}(hf:0<f)(h:¬n≤2*i+1)(hl:vN q (p9 q i n) i=false):oD f q i n=q:=by
 obtain⟨k,rfl⟩:∃k,f=k+1:=⟨f-1,by omega⟩
 rw[oD,aA h,aB hl]
theorem ZX {f i n:Nat}{q:List iq}(hf:0<f)(h:¬n≤2*i+1)(hl:vN q (p9 q i n) i=true):oD f q i n=oD (f-1) (wc q i (p9 q i n)) (p9 q i n) n:=by
 obtain⟨k,rfl⟩:∃k,f=k+1:=⟨f-1,by omega⟩
 rw[oD,aA h,aA (by rw[hl];decide)];rfl
theorem XF {a:Int}{n:Nat}(ha:a=n)(hn:n<4611686018427387904):IntKind.i64.wrap (a.tdiv 2)=((n/2:Nat):Int):=by
 subst ha
 have h1:((n:Int)).tdiv 2=((n/2:Nat):Int):=by rw[Int.tdiv_eq_ediv_of_nonneg (by omega)];omega
 rw[h1]
 have:n/2≤n:=Nat.div_le_self ..
 exact sR (by omega)
theorem sZ (j:Nat)(hj:j<4611686018427387904):IntKind.i64.wrap (((j:Int)-1).tdiv 2)=(((j-1)/2:Nat):Int):=by
 by_cases h:j=0
 ·subst h;decide
 ·exact XF (by omega) (by omega)
theorem Kj {f j:Nat}{q:List iq}(h:(j-1)/2=j∨vN q j ((j-1)/2)=false):Kf f q j=q:=by
 cases f with
 |zero=>rfl
 |succ f=>rw[Kf,aB h]
theorem afP {f j:Nat}{q:List iq}(hf:0<f)(h:(j-1)/2≠j)(h2:vN q j ((j-1)/2)=true):Kf f q j=Kf (f-1) (wc q ((j-1)/2) j) ((j-1)/2):=by
 obtain⟨k,rfl⟩:∃k,f=k+1:=⟨f-1,by omega⟩
 rw[Kf,aA (by rw[h2];simp[h])];rfl
theorem R2 {n k:Nat}{q:List iq}(h:0<k):ti n k q=ti n (k-1) (oD n q (k-1) n):=by
 obtain⟨j,rfl⟩:∃j,k=j+1:=⟨k-1,by omega⟩
 rfl
theorem V1 (q:List iq)(i n:Nat):i<p9 q i n:=by unfold p9;split<;>omega
theorem DU:∀(f:Nat) (q:List iq) (i n:Nat),(oD f q i n).length=q.length
 |0,_,_,_=>rfl
 |f+1,q,i,n=>by
  rw[oD]
  split
  ·rfl
  ·split
   ·rfl
   ·rw[DU f];unfold wc;rw[cG,cG]
theorem V2 {q:List iq}{i n:Nat}(h:2*i+1<n):p9 q i n<n:=by unfold p9;split<;>omega
theorem sH (v0:Value)(q:List kP)(i j:Nat)(x y:kP)(hx:q[i]?=some x)(hy:q[j]?=some y):dt Tryz.prog 207 #[v0,iv (i:Nat),iv (j:Nat)] [row v0 196 7 (q).length (rows iu (q))] (λv H'=>v= .tuple #[]∧H'=[row v0 196 7 (qz q i j x y).length (rows iu (qz q i j x y))]):=by
 refine dt.body (args:=[v0,iv (i:Nat),iv (j:Nat)]) 20 Tryz.func207 rfl Tryz.ntmps207 rfl (λc=> ?_)
 have wI:=ae hx
 have hyl:=ae hy
 refine St.cx [row v0 196 7 (q).length (rows iu (q))] mixed (λnp ns=> ?_)
 repeat' first
  |with_reducible refine SW.me ?_
   first
    |refine SW.gd 0 ?_
    |refine SW.gd 1 ?_
    |refine SW.gd 2 ?_
    |refine SW.gd 3 ?_
    |refine SW.gd 4 ?_
    |refine SW.gd 5 ?_
    |refine SW.gd 8 ?_
    |refine SW.gd 9 ?_
    |refine SW.t2 6 10 ?_ ?_
    |refine SW.t2 7 10 ?_ ?_
    |refine SW.t1 10 ?_
    |refine SW.t1 11 ?_
    |refine SW.t1 12 ?_
    |refine SW.t1 13 ?_
    |refine SW.t1 14 ?_
    |refine SW.t1 15 ?_
    |refine SW.t2 7 11 ?_ ?_
    |refine SW.t1 7 ?_
    |refine SW.t2 6 11 ?_ ?_
    |refine SW.t1 6 ?_
  |with_reducible refine SW.tg 6 ?_
   refine g3 ?_;refine SW.go ?_
  |with_reducible refine SW.tg 7 ?_
   refine St.ee (Ev.uh (R:=iu) (.mk rfl) hy sj trivial jB (by omega)) ?_;refine St.slot 13 (Fy y) rfl rfl ?_;refine g2 ?_;refine SW.go ?_
  |with_reducible refine SW.tg 10 ?_
   refine g3 ?_;refine SW.go ?_
  |with_reducible refine SW.tg 11 ?_
   refine St.ee (Ev.uh (R:=iu) (.mk rfl) hx sj trivial jB (by omega)) ?_;refine St.slot 17 (Fy x) rfl rfl ?_;refine g2 ?_;refine SW.go ?_
  |with_reducible refine SW.tg 12 ?_
   refine g3 ?_;refine SW.go ?_
  |with_reducible refine SW.tg 13 ?_
   refine St.tF (Rr:=iu) (show iu.size=7 from rfl) y (.mk rfl) (.mk rfl) jB (by omega) (by omega) ?_;refine g2 ?_;refine SW.go ?_
  |with_reducible refine SW.tg 14 ?_
   refine g3 ?_;refine SW.go ?_
  |with_reducible refine SW.tg 15 ?_
   refine St.tF (Rr:=iu) (show iu.size=7 from rfl) x (.mk rfl) (.mk rfl) jB (by omega) (by rw[cG];omega) ?_;refine St.aO v0 (show _=(qz q i j x y).length from(oJ ..).symm) (show _=rows iu (qz q i j x y)from rfl) ?_;refine g2 ?_;refine SW.go ?_
 all_goals refine SW.dn ?_
 all_goals
  refine St.dg ?_;refine St.rV [] [row v0 196 7 (qz q i j x y).length (rows iu (qz q i j x y))] ?_;exact⟨rfl,rfl⟩
theorem Bu (bn m0 cp e:Nat)(L:List ir)(x:ir)(he:L[e]?=some x)(q:List kP)(hq:q.length<4611686018427387904)(i n:Nat)(hn:n≤q.length)(hi:i<q.length):dt Tryz.prog 131 #[.iface 202 (dR (.slice (some ⟨bn,0,none⟩) m0 cp) 3 e 1),iv (i:Nat),iv (n:Nat)] [row (.slice (some ⟨bn,0,none⟩) m0 cp) 194 3 (L).length (rows eG (L)),row x.nv.1 196 7 (q).length (rows iu (q)),aF (aI gB (q))] (λv H'=>∃(b:Bool) (q2:List kP),v= .bool b∧q2.map gV=oD n (q.map gV) i n∧(∀u∈q2,u∈q)∧H'=[row (.slice (some ⟨bn,0,none⟩) m0 cp) 194 3 (L).length (rows eG (L)),row x.nv.1 196 7 (q2).length (rows iu (q2)),aF (aI gB (q2))]):=by
 refine dt.body (args:=[.iface 202 (dR (.slice (some ⟨bn,0,none⟩) m0 cp) 3 e 1),iv (i:Nat),iv (n:Nat)]) 48 Tryz.func131 rfl Tryz.ntmps131 rfl (λc=> ?_);refine go ?_
 have lA:=ae he
 refine g12 ?_;refine St.lH (ι:=Nat×Nat×List kP) (λ⟨i1,f1,q1⟩ T=>(7,iv i1)::T) (λ⟨i1,f1,q1⟩=>[row (.slice (some ⟨bn,0,none⟩) m0 cp) 194 3 (L).length (rows eG (L)),row x.nv.1 196 7 (q1).length (rows iu (q1)),aF (aI gB (q1))]) (λ⟨i1,f1,q1⟩=>i1<q1.length∧q1.length=q.length∧n≤f1+i1∧oD f1 (q1.map gV) i1 n=oD n (q.map gV) i n∧(∀u∈q1,u∈q)) (λ⟨i1,f1,q1⟩=>n-i1) ⟨i,n,q⟩ (aC.cons 0 rfl (aC.cons 1 rfl (aC.cons 2 rfl (aC.cons 6 rfl aC.nil)))) ⟨hi,rfl,by omega,rfl,λ_ h=>h⟩ ?_;rintro ⟨i1,f1,q1⟩ ⟨NM,Gr,hf1,hdw,nD⟩
 dsimp only at NM Gr hf1 hdw nD⊢
 refine g4 ?_;refine St.ee (Ev.mul (.mk rfl) (.mk rfl) (by omega)) ?_;refine go ?_;refine St.slot 14 (iv ((2*i1+1:Nat):Int)) rfl (congrArg iv (by push_cast;omega)) ?_;refine g10 ?_;refine St.gf _ rfl rfl (λhg=>Ev.move (.mk rfl)) rfl ?_;refine St.gf _ rfl rfl (λhg=>Ev.lss (aZ.gv rfl hg) (.mk rfl)) rfl ?_;refine g3 ?_;refine St.cq (λAJ=> ?_) (λAJ=> ?_)
 ·have ei:n≤2*i1+1:=by omega
  rw[Qz ei]at hdw;refine g15 ?_;refine St.rV [_] [row (.slice (some ⟨bn,0,none⟩) m0 cp) 194 3 (L).length (rows eG (L)),row x.nv.1 196 7 (q1).length (rows iu (q1)),aF (aI gB (q1))] ?_;exact⟨_,q1,rfl,hdw,nD,rfl⟩
 ·have Kk:2*i1+1<n:=by omega
  obtain⟨z,hz⟩:=aE NM;obtain⟨a1,ha1⟩:=aE (show 2*i1+1<q1.length by omega);refine g8 ?_;refine St.join (ι:=Nat) (λkk T=>(9,iv kk)::T) (λkk=>[row (.slice (some ⟨bn,0,none⟩) m0 cp) 194 3 (L).length (rows eG (L)),row x.nv.1 196 7 (q1).length (rows iu (q1)),aF (aI gB (q1))]) (λkk=>kk=p9 (q1.map gV) i1 n) (aC.cons 0 rfl (aC.cons 1 rfl (aC.cons 2 rfl (aC.cons 6 rfl (aC.cons 7 rfl aC.nil))))) ?_ ?_
  ·refine g4 ?_
   refine St.slot 24 (iv ((2*i1+2:Nat):Int)) rfl (congrArg iv (by push_cast;omega)) ?_;refine g9 ?_;refine St.split 28 _ rfl (λZY=> ?_) (λZY=> ?_)
   ·have ZZ:2*i1+2<n:=by have:=eS ZY;omega
    obtain⟨a2,ha2⟩:=aE (show 2*i1+2<q1.length by omega)
    have afQ:=J1 ha2 ha1
    refine St.aa rfl rfl ?_;refine go ?_;refine St.aa rfl rfl ?_;refine go ?_;refine St.aa rfl rfl ?_;refine go ?_;refine St.aa rfl rfl ?_;refine St.ee (Ev.qW (Recv.row ou ga trivial (by omega) (nC he)) (sG x.nv.1 q1 (2*i1+2) (2*i1+1) a2 a1 ha2 ha1) P5 (.eZ rfl rfl rfl) ((cw.row (cw.aF cw.nil) rfl rfl rfl (λ_ _=>trivial)))) ?_;refine St.ee (Ev.eo (.mk rfl) rfl (.mk rfl)) ?_;refine g2 ?_;refine St.cond _ rfl (λD1=> ?_) (λD1=> ?_)
    ·skip
     refine g5 ?_;refine St.mE (2*i1+2) (by unfold p9;rw[aB ⟨ZZ,by rw[afQ];exact D1⟩])
    ·skip
     refine g2 ?_;refine St.mE (2*i1+1) (by unfold p9;rw[aA (λh=>by rw[afQ,D1]at h;exact Bool.noConfusion h.2)])
   ·have ZZ:¬2*i1+2<n:=by have:=iT ZY;omega
    refine St.ag rfl rfl rfl ?_;refine St.ag rfl rfl rfl ?_;refine St.ag rfl rfl rfl ?_;refine St.ag rfl rfl rfl ?_;refine St.ee (Ev.ec (.mk rfl) rfl (.mk rfl)) ?_;refine g2 ?_;refine St.pF _ rfl rfl ?_;refine g2 ?_;refine St.mE (2*i1+1) (by unfold p9;rw[aA (λh=>ZZ h.1)])
  ·intro kk l8
   have wT:kk<n:=by rw[l8];exact V2 Kk
   have W8:i1<kk:=by rw[l8];exact V1 _ _ _
   obtain⟨a,ha⟩:=aE (show kk<q1.length by omega)
   have Dq:=J1 ha hz
   refine g6 ?_;refine St.ee (Ev.qW (Recv.row ou ga trivial (by omega) (nC he)) (sG x.nv.1 q1 kk i1 a z ha hz) P5 (.eZ rfl rfl rfl) ((cw.row (cw.aF cw.nil) rfl rfl rfl (λ_ _=>trivial)))) ?_;refine g3 ?_;refine St.cond _ rfl (λSM=> ?_) (λSM=> ?_)
   ·skip
    have J2:vN (q1.map gV) (p9 (q1.map gV) i1 n) i1=false:=by rw[←l8,Dq];simpa using SM
    rw[R0 (by omega) (by omega) J2]at hdw;refine g15 ?_;refine St.rV [_] [row (.slice (some ⟨bn,0,none⟩) m0 cp) 194 3 (L).length (rows eG (L)),row x.nv.1 196 7 (q1).length (rows iu (q1)),aF (aI gB (q1))] ?_;exact⟨_,q1,rfl,hdw,nD,rfl⟩
   ·skip
    have J2:vN (q1.map gV) (p9 (q1.map gV) i1 n) i1=true:=by rw[←l8,Dq];simpa using SM
    refine g7 ?_;refine St.ivk (Recv.row ow ga trivial (by omega) (nC he)) (sH x.nv.1 q1 i1 kk z a hz ha) P6 (.eZ rfl rfl rfl) rfl ?_;rintro v43 _ ⟨rfl,rfl⟩;refine St.fk ?_;refine St.eT (aI gB (qz q1 i1 kk z a)) [aI gB q1] (λρ h u hu=>h (aI gB q1) (aU ..) u (oK hz ha hu)) ?_;refine g8 ?_;refine St.aH ⟨kk,f1-1,qz q1 i1 kk z a⟩ ⟨by rw[oJ];omega,by rw[oJ,Gr],by dsimp only;omega,by rw[J0 hz ha,l8,←ZX (by omega) (by omega) J2];exact hdw,λu hu=>nD u (oK hz ha hu)⟩
theorem V3 (bn m0 cp e:Nat)(L:List ir)(x:ir)(he:L[e]?=some x)(q:List kP)(hq:q.length<4611686018427387904)(j f0:Nat)(hj:j<q.length)(hf0:j<f0):dt Tryz.prog 132 #[.iface 202 (dR (.slice (some ⟨bn,0,none⟩) m0 cp) 3 e 1),iv (j:Nat)] [row (.slice (some ⟨bn,0,none⟩) m0 cp) 194 3 (L).length (rows eG (L)),row x.nv.1 196 7 (q).length (rows iu (q)),aF (aI gB (q))] (λv H'=>∃(q2:List kP),v= .tuple #[]∧q2.map gV=Kf f0 (q.map gV) j∧(∀u∈q2,u∈q)∧H'=[row (.slice (some ⟨bn,0,none⟩) m0 cp) 194 3 (L).length (rows eG (L)),row x.nv.1 196 7 (q2).length (rows iu (q2)),aF (aI gB (q2))]):=by
 refine dt.body (args:=[.iface 202 (dR (.slice (some ⟨bn,0,none⟩) m0 cp) 3 e 1),iv (j:Nat)]) 23 Tryz.func132 rfl Tryz.ntmps132 rfl (λc=> ?_);refine go ?_
 have lA:=ae he
 refine St.lH (ι:=Nat×Nat×List kP) (λ⟨j1,f1,q1⟩ T=>(1,iv j1)::T) (λ⟨j1,f1,q1⟩=>[row (.slice (some ⟨bn,0,none⟩) m0 cp) 194 3 (L).length (rows eG (L)),row x.nv.1 196 7 (q1).length (rows iu (q1)),aF (aI gB (q1))]) (λ⟨j1,f1,q1⟩=>j1<q1.length∧q1.length=q.length∧j1<f1∧Kf f1 (q1.map gV) j1=Kf f0 (q.map gV) j∧(∀u∈q1,u∈q)) (λ⟨j1,f1,q1⟩=>j1) ⟨j,f0,q⟩ (aC.cons 0 rfl aC.nil) ⟨hj,rfl,hf0,rfl,λ_ h=>h⟩ ?_;rintro ⟨j1,f1,q1⟩ ⟨hj1,Gr,hf1,hup,nD⟩
 dsimp only at hj1 Gr hf1 hup nD⊢
 obtain⟨z,hz⟩:=aE hj1
 obtain⟨pp,hpp⟩:∃pp,pp=(j1-1)/2:=⟨_,rfl⟩
 have hpj:pp≤j1:=by omega
 obtain⟨a,ha⟩:=aE (show pp<q1.length by omega)
 have Dq:=J1 hz ha
 refine g5 ?_;refine St.ee (Ev.abN (.mk rfl) (.mk rfl) (by decide)) ?_;refine St.slot 7 (iv (pp:Nat)) rfl (by rw[hpp];exact congrArg iv (sZ j1 (by omega))) ?_;refine g10 ?_;refine St.split 11 _ rfl (λZa=> ?_) (λZa=> ?_)
 ·have heq:(j1-1)/2=j1:=by have:=eS Za;omega
  rw[Kj (.inl heq)]at hup;refine St.ag rfl rfl rfl ?_;refine St.ag rfl rfl rfl ?_;refine St.ag rfl rfl rfl ?_;refine St.ag rfl rfl rfl ?_;refine St.ag rfl rfl rfl ?_;refine St.ee (Ev.eo (.mk rfl) rfl (.mk rfl)) ?_;refine g2 ?_;refine St.Ax _ rfl rfl ?_;refine g5 ?_;refine St.dg ?_;refine St.rV [] [row (.slice (some ⟨bn,0,none⟩) m0 cp) 194 3 (L).length (rows eG (L)),row x.nv.1 196 7 (q1).length (rows iu (q1)),aF (aI gB (q1))] ?_;exact⟨q1,rfl,hup,nD,rfl⟩
 ·have fP:(j1-1)/2≠j1:=by have:=iT Za;omega
  refine St.aa rfl rfl ?_;refine go ?_;refine St.aa rfl rfl ?_;refine go ?_;refine St.aa rfl rfl ?_;refine go ?_;refine St.aa rfl rfl ?_;refine St.ee (Ev.qW (Recv.row ou ga trivial (by omega) (nC he)) (sG x.nv.1 q1 j1 pp z a hz ha) P5 (.eZ rfl rfl rfl) ((cw.row (cw.aF cw.nil) rfl rfl rfl (λ_ _=>trivial)))) ?_;refine St.aa rfl rfl ?_;refine go ?_;refine St.ee (Ev.ec (.mk rfl) rfl (.mk rfl)) ?_;refine g2 ?_;refine St.cond _ rfl (λSN=> ?_) (λSN=> ?_)
  ·skip
   have J2:vN (q1.map gV) j1 pp=false:=by rw[Dq];simpa using SN
   rw[Kj (.inr (by rw[←hpp];exact J2))]at hup;refine g5 ?_;refine St.dg ?_;refine St.rV [] [row (.slice (some ⟨bn,0,none⟩) m0 cp) 194 3 (L).length (rows eG (L)),row x.nv.1 196 7 (q1).length (rows iu (q1)),aF (aI gB (q1))] ?_;exact⟨q1,rfl,hup,nD,rfl⟩
  ·skip
   have J2:vN (q1.map gV) j1 pp=true:=by rw[Dq];simpa using SN
   refine g7 ?_;refine St.ivk (Recv.row ow ga trivial (by omega) (nC he)) (sH x.nv.1 q1 pp j1 a z ha hz) P6 (.eZ rfl rfl rfl) rfl ?_;rintro v21 _ ⟨rfl,rfl⟩;refine St.fk ?_;refine St.eT (aI gB (qz q1 pp j1 a z)) [aI gB q1] (λρ h u hu=>h (aI gB q1) (aU ..) u (oK ha hz hu)) ?_;refine g8 ?_;refine St.aH ⟨pp,f1-1,qz q1 pp j1 a z⟩ ⟨by rw[oJ];omega,by rw[oJ,Gr],by dsimp only;omega,by rw[J0 ha hz,hpp,←afP (by omega) (by omega) (by rw[←hpp];exact J2)];exact hup,λu hu=>nD u (oK ha hz hu)⟩
theorem Mb (bn m0 cp e:Nat)(L:List ir)(x:ir)(he:L[e]?=some x)(q:List kP)(hq:q.length<4611686018427387904):dt Tryz.prog 94 #[.iface 202 (dR (.slice (some ⟨bn,0,none⟩) m0 cp) 3 e 1)] [row (.slice (some ⟨bn,0,none⟩) m0 cp) 194 3 (L).length (rows eG (L)),row x.nv.1 196 7 (q).length (rows iu (q)),aF (aI gB (q))] (λv H'=>∃(q2:List kP),v= .tuple #[]∧q2.map gV=ti q.length (q.length/2) (q.map gV)∧(∀u∈q2,u∈q)∧H'=[row (.slice (some ⟨bn,0,none⟩) m0 cp) 194 3 (L).length (rows eG (L)),row x.nv.1 196 7 (q2).length (rows iu (q2)),aF (aI gB (q2))]):=by
 refine dt.body (args:=[.iface 202 (dR (.slice (some ⟨bn,0,none⟩) m0 cp) 3 e 1)]) 17 Tryz.func94 rfl Tryz.ntmps94 rfl (λc=> ?_);refine go ?_
 have lA:=ae he
 refine g2 ?_;refine St.ee (Ev.qW (Recv.row pz ga trivial (by omega) (nC he)) (qj x.nv.1 q) Tm (.bB rfl) ((cw.row cw.nil rfl rfl rfl (λ_ _=>trivial)))) ?_;refine g6 ?_;refine St.ee (Ev.abN (.mk rfl) (.mk rfl) (by decide)) ?_;refine St.slot 7 (iv ((q.length/2:Nat):Int)) rfl (congrArg iv (XF rfl hq)) ?_;refine g5 ?_;refine St.lH (ι:=Nat×List kP) (λ⟨k,q1⟩ T=>(3,iv ((k:Int)-1))::T) (λ⟨k,q1⟩=>[row (.slice (some ⟨bn,0,none⟩) m0 cp) 194 3 (L).length (rows eG (L)),row x.nv.1 196 7 (q1).length (rows iu (q1)),aF (aI gB (q1))]) (λ⟨k,q1⟩=>k≤q.length/2∧q1.length=q.length∧ti q.length k (q1.map gV)=ti q.length (q.length/2) (q.map gV)∧(∀u∈q1,u∈q)) (λ⟨k,q1⟩=>k) ⟨q.length/2,q⟩ (aC.cons 0 rfl (aC.cons 2 rfl aC.nil)) ⟨aW _,rfl,rfl,λ_ h=>h⟩ ?_;rintro ⟨k,q1⟩ ⟨hk,Gr,pb,nD⟩
 dsimp only at hk Gr pb nD⊢
 refine g7 ?_;refine St.cq (λN3=> ?_) (λN3=> ?_)
 ·have hk0:0<k:=by omega
  refine g7 ?_;refine St.slot 14 (iv ((k-1:Nat):Int)) rfl (congrArg iv (by omega)) ?_;refine go ?_;refine St.call (Bu bn m0 cp e L x he q1 (by omega) (k-1) q.length (by omega) (by omega)) Wo (.eZ rfl rfl rfl) rfl ?_;rintro v16 _ ⟨b16,q2,rfl,wR,pa,rfl⟩;refine St.wG ?_;refine g9 ?_;refine St.aH ⟨k-1,q2⟩ ⟨by dsimp only;omega,by have h:=congrArg List.length wR;rw[aQ,DU,aQ]at h;dsimp only;omega,by dsimp only;rw[wR,←R2 (by omega)];exact pb,λu hu=>nD u (pa u hu)⟩
 ·obtain rfl:k=0:=by omega
  refine g4 ?_;refine St.dg ?_;refine St.rV [] [row (.slice (some ⟨bn,0,none⟩) m0 cp) 194 3 (L).length (rows eG (L)),row x.nv.1 196 7 (q1).length (rows iu (q1)),aF (aI gB (q1))] ?_;exact⟨q1,rfl,pb,nD,rfl⟩
theorem Mc (bn m0 cp e:Nat)(L:List ir)(x:ir)(he:L[e]?=some x)(q:List kP)(hq:q.length<4611686018427387904)(z:kP)(hz:q[q.length-1]?=some z):dt Tryz.prog 208 #[dR (.slice (some ⟨bn,0,none⟩) m0 cp) 3 e 1] [row (.slice (some ⟨bn,0,none⟩) m0 cp) 194 3 (L).length (rows eG (L)),row x.nv.1 196 7 (q).length (rows iu (q))] (λv H'=>∃u:aY,v= .iface 196 (Fy z)∧H'=[row (.slice (some ⟨bn,0,none⟩) m0 cp) 194 3 (L.set e (x.wn u (q.take (q.length-1)))).length (rows eG (L.set e (x.wn u (q.take (q.length-1))))),row u.1 196 7 (q.take (q.length-1)).length (rows iu (q.take (q.length-1)))]):=by
 refine dt.body (args:=[dR (.slice (some ⟨bn,0,none⟩) m0 cp) 3 e 1]) 23 Tryz.func208 rfl Tryz.ntmps208 rfl (λc=> ?_);refine go ?_
 have lA:=ae he
 have hzl:=ae hz
 refine g7 ?_;refine St.ee (Ev.ju rfl (.mk rfl)) ?_;refine St.ee (Ev.cB (.mk rfl) ga trivial (by omega) (nC he)) ?_;refine g9 ?_;refine St.slot 11 (iv ((q.length-1:Nat):Int)) rfl (congrArg iv (by omega)) ?_;refine St.ee (Ev.dT (k:=(q.length-1)) (.mk rfl) (.mk rfl) ga jB (by omega) (by omega)) ?_;refine St.ee (Ev.uh (R:=iu) (.mk rfl) hz sj trivial jB (by omega)) ?_;refine St.slot 13 (Fy z) rfl rfl ?_;refine St.al (λb4=> ?_);refine St.sA (.mk rfl) (.mk rfl) jB ?_ (h1:=(eO.2 λu hu=>iu.one z u hu));refine g9 ?_;refine St.slot 18 (iv ((q.length-1:Nat):Int)) rfl (congrArg iv (by omega)) ?_;refine St.ee (Ev.oY (h:=(q.length-1)) (.mk rfl) (.mk rfl) ga jB rfl (by omega)) ?_;refine St.CP x.nv.1 (q.length-1) (by omega) ?_;refine St.aO (pR x.nv.1 7 0 (q.length-1)) (show _=(q.take (q.length-1)).length by rw[e9];omega) (show _=rows iu (q.take (q.length-1))from ui iu q _) ?_;refine St.bS (pR x.nv.1 7 0 (q.length-1)) (λpc _=> ?_);refine St.ee (Ev.ju rfl (.mk rfl)) ?_;refine St.bj (.mk rfl) (.mk rfl) K6 pc (by omega) (by decide) ?_;refine St.aO (.slice (some ⟨bn,0,none⟩) m0 cp) (show _=(L.set e (x.wn ⟨pR x.nv.1 7 0 (q.length-1),pc⟩ (q.take (q.length-1)))).length by rw[cG]) (show _=rows eG (L.set e (x.wn ⟨pR x.nv.1 7 0 (q.length-1),pc⟩ (q.take (q.length-1))))from oI he ⟨_,pc⟩ _) ?_;refine g5 ?_;refine St.slot 21 (Fy z) rfl rfl ?_;refine St.ee (Ev.iface (.mk rfl) sj trivial) ?_;refine g4 ?_;refine St.rV [_] [row (.slice (some ⟨bn,0,none⟩) m0 cp) 194 3 (L.set e (x.wn ⟨pR x.nv.1 7 0 (q.length-1),pc⟩ (q.take (q.length-1)))).length (rows eG (L.set e (x.wn ⟨pR x.nv.1 7 0 (q.length-1),pc⟩ (q.take (q.length-1))))),row (pR x.nv.1 7 0 (q.length-1)) 196 7 (q.take (q.length-1)).length (rows iu (q.take (q.length-1)))] ?_;exact⟨⟨_,pc⟩,rfl,rfl⟩
theorem Md (bn m0 cp e:Nat)(L:List ir)(x:ir)(he:L[e]?=some x)(q:List kP)(hq:q.length<4611686018427387904)(h0:0<q.length):dt Tryz.prog 96 #[.iface 202 (dR (.slice (some ⟨bn,0,none⟩) m0 cp) 3 e 1)] [row (.slice (some ⟨bn,0,none⟩) m0 cp) 194 3 (L).length (rows eG (L)),row x.nv.1 196 7 (q).length (rows iu (q)),aF (aI gB (q))] (λv H'=>∃(u:aY) (q3:List kP) (z:kP),v= .iface 196 (Fy z)∧q3.map gV=pA (q.map gV)∧q3[q.length-1]?=some z∧(∀u∈q3,u∈q)∧H'=[row (.slice (some ⟨bn,0,none⟩) m0 cp) 194 3 (L.set e (x.wn u (q3.take (q.length-1)))).length (rows eG (L.set e (x.wn u (q3.take (q.length-1))))),row u.1 196 7 (q3.take (q.length-1)).length (rows iu (q3.take (q.length-1))),aF (aI gB q3)]):=by
 refine dt.body (args:=[.iface 202 (dR (.slice (some ⟨bn,0,none⟩) m0 cp) 3 e 1)]) 15 Tryz.func96 rfl Tryz.ntmps96 rfl (λc=> ?_);refine go ?_
 have lA:=ae he
 obtain⟨y,hy⟩:=aE h0;obtain⟨w,hw⟩:=aE (show q.length-1<q.length by omega)
 obtain⟨q1,uB⟩:∃q1,q1=qz q 0 (q.length-1) y w:=⟨_,rfl⟩
 have Gr:q1.length=q.length:=by rw[uB,oJ]
 have hqE:q1.map gV=wc (q.map gV) 0 (q.length-1):=by rw[uB];exact J0 hy hw
 refine g7 ?_;refine St.ee (Ev.qW (Recv.row pz ga trivial (by omega) (nC he)) (qj x.nv.1 q) Tm (.bB rfl) ((cw.row cw.nil rfl rfl rfl (λ_ _=>trivial)))) ?_;refine go ?_;refine St.slot 6 (iv ((q.length-1:Nat):Int)) rfl (congrArg iv (by omega)) ?_;refine g7 ?_;refine St.ivk (Recv.row ow ga trivial (by omega) (nC he)) (sH x.nv.1 q 0 (q.length-1) y w hy hw) P6 (.eZ rfl rfl rfl) rfl ?_;rintro v9 _ ⟨rfl,rfl⟩;refine St.fk ?_;refine St.eT (aI gB q1) [aI gB q] (λρ h u hu=>h (aI gB q) (aU ..) u (oK hy hw (by rw[←uB];exact hu))) ?_;refine St.aO x.nv.1 (show _=q1.length by rw[uB]) (show _=rows iu q1 by rw[uB]) ?_;refine g6 ?_;refine St.call (Bu bn m0 cp e L x he q1 (by omega) 0 (q.length-1) (by omega) (by omega)) Wo (.eZ rfl rfl rfl) rfl ?_;rintro v12 _ ⟨IA,q3,rfl,PM,hm3,rfl⟩;refine St.wG ?_
 have hl3:q3.length=q.length:=by have h:=congrArg List.length PM;rw[aQ,DU,aQ]at h;omega
 obtain⟨z,hz⟩:=aE (show q.length-1<q3.length by omega);rw[show q.length-1=q3.length-1 by omega]at hz;refine g5 ?_;refine St.ivk (Recv.ptr Ep) (Mc bn m0 cp e L x he q3 (by omega) z hz) aeB (.bB rfl) rfl ?_;rintro v14 _ ⟨u,rfl,rfl⟩;refine St.lZ ?_;refine g4 ?_;refine St.rV [_] [row (.slice (some ⟨bn,0,none⟩) m0 cp) 194 3 (L.set e (x.wn u (q3.take (q3.length-1)))).length (rows eG (L.set e (x.wn u (q3.take (q3.length-1))))),row u.1 196 7 (q3.take (q3.length-1)).length (rows iu (q3.take (q3.length-1))),aF (aI gB q3)] ?_;rw[hl3]at hz⊢;exact⟨u,q3,z,rfl,by rw[PM,hqE];unfold pA;rw[aQ],hz,λu hu=>by have h:=hm3 u hu;rw[uB]at h;exact oK hy hw h,rfl⟩
theorem J3 (bn m0 cp e:Nat)(L:List ir)(x:ir)(he:L[e]?=some x)(q:List kP)(hq:q.length≤1200000000000)(z:kP):dt Tryz.prog 209 #[dR (.slice (some ⟨bn,0,none⟩) m0 cp) 3 e 1,.iface 196 (Fy z)] [row (.slice (some ⟨bn,0,none⟩) m0 cp) 194 3 (L).length (rows eG (L)),row x.nv.1 196 7 (q).length (rows iu (q))] (λv H'=>∃u:aY,v= .tuple #[]∧H'=[row (.slice (some ⟨bn,0,none⟩) m0 cp) 194 3 (L.set e (x.wn u (q++ [z]))).length (rows eG (L.set e (x.wn u (q++ [z])))),row u.1 196 7 (q++ [z]).length (rows iu (q++ [z]))]):=by
 refine dt.body (args:=[dR (.slice (some ⟨bn,0,none⟩) m0 cp) 3 e 1,.iface 196 (Fy z)]) 13 Tryz.func209 rfl Tryz.ntmps209 rfl (λc=> ?_)
 have lA:=ae he
 refine St.cx [row (.slice (some ⟨bn,0,none⟩) m0 cp) 194 3 (L).length (rows eG (L)),row x.nv.1 196 7 (q).length (rows iu (q))] mixed (λnp ns=> ?_)
 repeat' first
  |with_reducible refine SW.me ?_
   first
    |refine SW.gd 0 ?_
    |refine SW.gd 1 ?_
    |refine SW.gd 4 ?_
    |refine SW.dd 5 rfl (λ_=>Ev.assert (.mk rfl) sj trivial) ?_
     refine SW.slot 9 (Fy z) rfl rfl ?_
    |refine SW.t2 2 6 ?_ ?_
    |refine SW.t2 3 6 ?_ ?_
    |refine SW.t1 6 ?_
    |refine SW.t1 7 ?_
    |refine SW.t1 8 ?_
    |refine SW.t1 9 ?_
    |refine SW.t1 3 ?_
    |refine SW.t1 2 ?_
  |with_reducible refine SW.tg 2 ?_
   refine St.ee (Ev.ju rfl (.mk rfl)) ?_;refine g2 ?_;refine SW.go ?_
  |with_reducible refine SW.tg 3 ?_
   refine St.ee (Ev.cB (.mk rfl) ga trivial (by omega) (nC he)) ?_;refine g2 ?_;refine SW.go ?_
  |with_reducible refine SW.tg 6 ?_
   refine St.gb rfl (.bB rfl) ga jB BT rfl rfl (by simp[Value.cells]) rfl rfl (λX2=> ?_);refine g2 ?_;refine SW.go ?_
  |with_reducible refine SW.tg 7 ?_
   refine St.aj (.mk rfl) (.mk rfl) ga jB BT P7 (by intro u hu;exact iu.one z u hu) (by omega) (by omega) rfl rfl rfl rfl (λv11 ajV=> ?_);refine St.aO v11 (show _=(q++ [z]).length by rw[bA];rfl) (show _=rows iu (q++ [z]) by rw[aw];rfl) ?_;refine St.bS v11 (λKK _=> ?_);refine g2 ?_;refine SW.go ?_
  |with_reducible refine SW.tg 8 ?_
   refine St.ee (Ev.ju rfl (.mk rfl)) ?_;refine g2 ?_;refine SW.go ?_
  |with_reducible refine SW.tg 9 ?_
   refine St.bj (.mk rfl) (.mk rfl) K6 KK (by omega) (by decide) ?_;refine St.aO (.slice (some ⟨bn,0,none⟩) m0 cp) (show _=(L.set e (x.wn ⟨v11,KK⟩ (q++ [z]))).length by rw[cG]) (show _=rows eG (L.set e (x.wn ⟨v11,KK⟩ (q++ [z])))from oI he ⟨_,KK⟩ _) ?_;refine g2 ?_;refine SW.go ?_
 all_goals refine SW.dn ?_
 all_goals
  refine St.dg ?_;refine St.rV [] [row (.slice (some ⟨bn,0,none⟩) m0 cp) 194 3 (L.set e (x.wn ⟨v11,KK⟩ (q++ [z]))).length (rows eG (L.set e (x.wn ⟨v11,KK⟩ (q++ [z])))),row v11 196 7 (q++ [z]).length (rows iu (q++ [z]))] ?_;exact⟨⟨_,KK⟩,rfl,rfl⟩
theorem St.afR {n:Nat}{F:Fr}{c:Ctx}{H:List ao}{T:Act→World→Prop}{α:Type}{Rr:Rp α}{xs:List α}(v:Value)[hd:sQ v H α Rr xs](h:∀ad cap,v= .slice ad xs.length cap→(ad=none→xs.length=0)→St n F (Mm c H) T):St n F (Mm c H) T:=by
 intro a w ha hw;obtain⟨ρ,hm⟩:=hw.out;obtain⟨ad,cap,hv,_,_,_,h5⟩:=hm.sl hd;refine h ad cap hv (λhn=> ?_) a w ha hw;subst hn
 rcases h5 with h5|⟨b,o,C,e,fr,h5,_⟩
 ·simpa using h5
 ·cases h5
theorem J4 {L:List ir}{e:Nat}{x:ir}(he:L[e]?=some x)(u:aY)(q r:List kP):rows eG (L.set e (x.wn u q))=rows eG (L.set e (x.wn u r)):=by rw[←oI he u q,←oI he u r]
theorem J5 (bn m0 cp e:Nat)(L:List ir)(x:ir)(he:L[e]?=some x)(q:List kP)(hq:q.length≤1200000000000)(z:kP):dt Tryz.prog 98 #[.iface 202 (dR (.slice (some ⟨bn,0,none⟩) m0 cp) 3 e 1),.iface 196 (Fy z)] [row (.slice (some ⟨bn,0,none⟩) m0 cp) 194 3 (L).length (rows eG (L)),row x.nv.1 196 7 (q).length (rows iu (q)),aF (aI gB (q)),aF (gB z)] (λv H'=>∃(u:aY) (q2:List kP),v= .tuple #[]∧q2.map gV=Ac (q.map gV) (gV z)∧(∀w∈q2,w∈q∨w=z)∧H'=[row (.slice (some ⟨bn,0,none⟩) m0 cp) 194 3 (L.set e (x.wn u (q2))).length (rows eG (L.set e (x.wn u (q2)))),row u.1 196 7 (q2).length (rows iu (q2)),aF (aI gB q2)]):=by
 refine dt.body (args:=[.iface 202 (dR (.slice (some ⟨bn,0,none⟩) m0 cp) 3 e 1),.iface 196 (Fy z)]) 12 Tryz.func98 rfl Tryz.ntmps98 rfl (λc=> ?_);refine go ?_
 have lA:=ae he
 refine St.eT (aI gB (q++ [z])) [aI gB q,gB z] (λρ h u hu=>by rcases ba.1 hu with hu|hu;exact h (aI gB q) (aU ..) u hu;rw[bJ]at hu;subst hu;exact h (gB u) (cE _ (aU ..))) ?_;refine g3 ?_;refine St.ivk (Recv.ptr Cz) (J3 bn m0 cp e L x he q hq z) aeC (.bH rfl rfl) rfl ?_;rintro v6 _ ⟨u,rfl,rfl⟩;refine St.lZ ?_
 have Zb:(L.set e (x.wn u (q++ [z])))[e]?=some (x.wn u (q++ [z])):=eP lA
 have Y0:(L.set e (x.wn u (q++ [z]))).length=L.length:=cG
 refine g2 ?_;refine St.cast (H':=[row (.slice (some ⟨bn,0,none⟩) m0 cp) 194 3 (L.set e (x.wn u (q++ [z]))).length (rows eG (L.set e (x.wn u (q++ [z])))),row (x.wn u (q++ [z])).nv.1 196 7 (q++ [z]).length (rows iu (q++ [z])),aF (aI gB (q++ [z])),aF (aI gB q),aF (gB z)]) rfl ?_;refine g3 ?_;refine St.ee (Ev.qW (Recv.row pz ga trivial (by omega) (nC Zb)) (qj (x.wn u (q++ [z])).nv.1 (q++ [z])) Tm (.bB rfl) ((cw.row cw.nil rfl rfl rfl (λ_ _=>trivial)))) ?_;refine St.ee (Ev.sub (.mk rfl) (.mk rfl) (by rw[bA,lU];omega)) ?_;refine St.slot 10 (iv ((q.length:Nat):Int)) rfl (congrArg iv (by rw[bA,lU];omega)) ?_;refine St.call (V3 bn m0 cp e (L.set e (x.wn u (q++ [z]))) (x.wn u (q++ [z])) Zb (q++ [z]) (by rw[bA,lU];omega) q.length (q.length+1) (by rw[bA,lU];omega) (by omega)) aeD (.bH rfl rfl) rfl ?_;rintro v11 _ ⟨q2,rfl,wR,pa,rfl⟩;refine St.wG ?_;refine St.aO (.slice (some ⟨bn,0,none⟩) m0 cp) (show _=(L.set e (x.wn u (q2))).length by rw[cG,cG]) (show _=rows eG (L.set e (x.wn u (q2)))from J4 he u _ _) ?_;refine St.cast (H':=[row (.slice (some ⟨bn,0,none⟩) m0 cp) 194 3 (L.set e (x.wn u (q2))).length (rows eG (L.set e (x.wn u (q2)))),row u.1 196 7 (q2).length (rows iu (q2)),aF (aI gB q2),aF (aI gB q),aF (gB z)]) rfl ?_;refine go ?_;refine St.dg ?_;refine St.rV [] [row (.slice (some ⟨bn,0,none⟩) m0 cp) 194 3 (L.set e (x.wn u (q2))).length (rows eG (L.set e (x.wn u (q2)))),row u.1 196 7 (q2).length (rows iu (q2)),aF (aI gB q2)] ?_;exact⟨u,q2,rfl,by rw[wR,cC];unfold Ac;rw[aQ];rfl,λw hw=>by rcases ba.1 (pa w hw)with h|h;exact .inl h;exact .inr (bJ.1 h),rfl⟩
theorem G2 (v0:Value)(l:List Int)(hl:l.length≤1000000):dt Tryz.prog 97 #[v0] ([sl aL v0 l].map aF) (λv H'=>∃u:aY,v=u.1∧H'=[row u.1 3 1 l.length (rows aL l)]):=by
 refine dt.body (args:=[v0]) 8 Tryz.func97 rfl Tryz.ntmps97 rfl (λc=> ?_);refine St.cast (H':=[aF (sl aL v0 l)]) rfl ?_;refine go ?_;refine St.afR v0 (λad cap hv hn=> ?_);subst hv;refine g8 ?_;refine St.ee (Ev.slnil (.mk rfl) cI) ?_;refine g2 ?_;refine St.cond _ rfl (λh4=> ?_) (λh4=> ?_)
 ·skip
  have Tk:l=[]:=kf (hn (by cases ad with|none=>rfl|some a=>cases h4))
  subst Tk;refine g7 ?_;refine St.dc 3 1 ?_;refine St.rV [_] [row (.slice none 0 0) 3 1 0 []] ?_;exact⟨bK,rfl,rfl⟩
 ·skip
  skip
  refine g4 ?_;refine St.gb rfl (.nil) cI eJ jA rfl rfl (by simp[Value.cells]) rfl rfl (λb5=> ?_);refine go ?_;refine St.xX (.mk rfl) (.mk rfl) cI eJ jA wO (xY _ _) (by omega) (by omega) rfl rfl trivial rfl (λv7 hv7=> ?_);refine St.aO v7 (show _=l.length by rw[gP]) (show _=rows aL l from rfl) ?_;refine St.bS v7 (λh7 _=> ?_);refine St.cast (H':=[row v7 3 1 l.length (rows aL l),aF (sl aL (.slice ad l.length cap) l)]) rfl ?_;refine g4 ?_;refine St.rV [_] [row v7 3 1 l.length (rows aL l)] ?_;exact⟨⟨v7,h7⟩,rfl,rfl⟩
theorem zS (x:cU)(nt nf:Nat)(gl:nf≤100)(hx:dP nt nf (ar x))(hl:x.nodes.length≤120):dt Tryz.prog 106 #[au x] ([aG x].map aF) (λv H'=>H'=[aF (cF (ff (ar x) 0) v)]):=by
 refine dt.body (args:=[au x]) 5 Tryz.func106 rfl Tryz.ntmps106 rfl (λc=> ?_);refine St.cast (H':=[aF (aG x)]) rfl ?_;refine go ?_
 have A5:=cP x
 have hs:=fG hx gl
 have nc:=hx.pos
 refine go ?_;refine St.cz (.mk rfl) rfl (λb1=> ?_);refine St.al (λb2=> ?_);refine g5 ?_;refine St.slot 3 (au x) rfl rfl ?_;refine St.fE (vF x hx.lk hl (λt ht=>by have:=(hs t ht).2;omega) 0 (by omega)) Od (.bH rfl rfl) rfl ?_;rintro v4 _ rfl;refine St.fk ?_;refine St.cF (ff (ar x) 0) v4 (λy hy=> ?_);obtain⟨rfl,Gu⟩:=hy;refine g4 ?_;refine St.rV [_] [aF (cF (ff (ar x) 0) (au y))] ?_;exact rfl
theorem Ag (n:Nat)(hn:n≤12)(m:Nat)(hm:m=n*(n+1)):dt Tryz.prog 89 #[iv (n:Nat)] [] (λv H'=>∃u:aY,v= .agg #[iv (n:Nat),u.1]∧H'=[row u.1 58 1 (List.replicate m bK).length (rows cN (List.replicate m bK))]):=by
 refine dt.body (args:=[iv (n:Nat)]) 10 Tryz.func89 rfl Tryz.ntmps89 rfl (λc=> ?_);refine go ?_
 have X9:((n:Nat):Int)*(((n:Nat):Int)+1)=(m:Nat):=by rw[hm];push_cast;rfl
 have pa:m≤156:=by rw[hm];exact eH (Nat.mul_le_mul (show n≤12 by omega) (show n+1≤13 by omega)) (by decide)
 refine go ?_;refine St.al (λb2=> ?_);refine g8 ?_;refine St.ee (Ev.mul (.mk rfl) (.mk rfl) (by rw[X9];omega)) ?_;refine St.slot 7 (iv (m:Nat)) rfl (congrArg iv X9) ?_;refine St.ot (Rr:=cN) (g:=bK) (m:=m) (sz:=1) rfl (.mk rfl) (.mk rfl) yF kY ahX ah9 rfl rfl (by omega) rfl rfl (λb8=> ?_);refine St.aO (.slice (some ⟨b8,0,none⟩) m m) (show _=(List.replicate m bK).length by rw[jI]) rfl ?_;refine St.ee (Ev.build (bF.bH rfl rfl) (λw=>He rfl rfl w)) ?_;refine g4 ?_;refine St.rV [_] [row (.slice (some ⟨b8,0,none⟩) m m) 58 1 (List.replicate m bK).length (rows cN (List.replicate m bK))] ?_;exact⟨⟨(.slice (some ⟨b8,0,none⟩) m m),rfl⟩,rfl,rfl⟩
def we (c:Nat→Nat→Nat)(tqo:Nat):Nat→Nat→Nat
 |0,_=>1
 |l+1,en=>l9 c tqo l en
def nQ (l a tqo:Nat):Nat:=if l=0 then tqo else a+1
def r0 (l a tqo:Nat):Nat:=if l=0 then 1 else tqo-l-a
def tu (Q:Qr)(rule frm tqo l:Nat)(x:dF)(kids:List Nat)(en:Nat)(cs:Cs)(e:Nat):Cs:=match ka Q cs rule x (kids.length+1) e with
 |none=>cs
 |some y=>match l with
  |0=>jt Q.n cs ⟨frm,tqo,0,lF y⟩ ⟨rule,0,kids++ [e]⟩
  |l+1=>vB Q rule frm tqo l cs y (kids++ [e]) en
def Me (Q:Qr)(rule frm tqo l:Nat)(x:dF)(kids:List Nat)(a:Nat)(cs:Cs)(en:Nat):Cs:=(cs.at_ Q.n a en).foldl (tu Q rule frm tqo l x kids en) cs
theorem Kl (Q:Qr)(rule frm tqo l:Nat)(cs:Cs)(x:dF)(kids:List Nat)(a:Nat):vB Q rule frm tqo l cs x kids a=(List.range' (nQ l a tqo) (r0 l a tqo)).foldl (Me Q rule frm tqo l x kids a) cs:=by
 cases l with
 |zero=>rfl
 |succ l=>rfl
theorem V4 (c:Nat→Nat→Nat)(tqo l a:Nat):l9 c tqo l a=((List.range' (nQ l a tqo) (r0 l a tqo)).map λen=>c a en*we c tqo l en).sum:=by
 cases l with
 |zero=>show c a tqo=(([tqo].map λen=>c a en*1)).sum;simp
 |succ l=>rfl
theorem DV {l a tqo i:Nat}(Bi:a<tqo)(hi:i<r0 l a tqo):a<nQ l a tqo+i∧nQ l a tqo+i≤tqo∧(l=0→nQ l a tqo+i=tqo)∧(1≤l→nQ l a tqo+i<tqo):=by
 unfold nQ r0 at*
 by_cases h:l=0
 ·rw[aB h]at hi⊢;omega
 ·rw[aA h]at hi⊢;omega
theorem G3 {nt nf:Nat}{Q:Qr}(hn:Q.n≤12)(qC:yn nt Q.mt){rule frm tqo:Nat}(iH:frm<tqo)(ht:tqo≤Q.n)(c:Nat→Nat→Nat){l:Nat}{cs:Cs}{x:dF}{kids:List Nat}{m en e:Nat}(hs:gj nt nf Q.n frm tqo c m cs)(hx:dP nt nf x)(IY:frm<en∧(1≤l→en<tqo))(hk:∀k∈kids,k<cs.its.length)(he:e<cs.its.length):
 gj nt nf Q.n frm tqo c m (tu Q rule frm tqo l x kids en cs e)∧Grow Q.n frm tqo cs (tu Q rule frm tqo l x kids en cs e) (we c tqo l en):=by
 unfold tu
 cases hy:ka Q cs rule x (kids.length+1) e with
 |none=>exact⟨hs,(Grow.refl ..).mono (aR _)⟩
 |some y=>
  dsimp only
  obtain⟨y1,y2,_⟩:=vC qC hs.ok hx he hy
  have rf:∀k∈kids++ [e],k<cs.its.length:=λk l8=>by
   rcases ba.1 l8 with l8|l8
   ·exact hk k l8
   ·rw[bJ.1 l8];exact he
  cases l with
  |zero=>
   obtain⟨m1,m2⟩:=qH y1 y2;obtain⟨a1,a2⟩:=yr hn hs.ok (e:=⟨frm,tqo,0,lF y⟩) (w:=⟨rule,0,kids++ [e]⟩) ⟨iH,ht,aR _,m1,m2⟩ rf;exact⟨hs.grow a1 a2 ht,a2⟩
  |succ l=>
   have h2:gj nt nf Q.n frm tqo c cs.its.length cs:=⟨hs.ok,hs.len,aW _⟩
   obtain⟨e1,e2⟩:=yu hn qC iH ht c l cs y (kids++ [e]) en _ h2 y1 (.inl IY.1) (IY.2 (by omega)) rf;exact⟨⟨e1.ok,e1.len,eH hs.KR e2.more⟩,e2⟩
theorem Bv {nt nf:Nat}{Q:Qr}(hn:Q.n≤12)(qC:yn nt Q.mt){rule frm tqo:Nat}(iH:frm<tqo)(ht:tqo≤Q.n)(c:Nat→Nat→Nat){l:Nat}{cs:Cs}{x:dF}{kids:List Nat}{m en:Nat}(hs:gj nt nf Q.n frm tqo c m cs)(hx:dP nt nf x)(IY:frm<en∧(1≤l→en<tqo))(hk:∀k∈kids,k<cs.its.length)(L:List Nat)(hL:∀e∈L,e<cs.its.length):
 gj nt nf Q.n frm tqo c m (L.foldl (tu Q rule frm tqo l x kids en) cs)∧Grow Q.n frm tqo cs (L.foldl (tu Q rule frm tqo l x kids en) cs) (L.length*we c tqo l en):=by
 have:=gK (n:=Q.n) (frm:=frm) (tqo:=tqo) (tu Q rule frm tqo l x kids en) (λ_=>we c tqo l en) (λeh=>gj nt nf Q.n frm tqo c m eh∧cs.its.length≤eh.its.length) L cs ⟨hs,aW _⟩ (λsB e he ⟨h1,h2⟩=>by
  obtain⟨a,b⟩:=G3 hn qC iH ht c (l:=l) (rule:=rule) h1 hx IY (λk X5=>eK (hk k X5) h2) (eK (hL e he) h2)
  exact⟨⟨a,eH h2 b.more⟩,b⟩)
 rw[jC]at this;exact⟨this.1.1,this.2⟩
theorem R3 {nt nf:Nat}{Q:Qr}(hn:Q.n≤12)(qC:yn nt Q.mt){rule frm tqo:Nat}(iH:frm<tqo)(ht:tqo≤Q.n)(c:Nat→Nat→Nat){l a:Nat}{cs:Cs}{x:dF}{kids:List Nat}{m:Nat}(hs:gj nt nf Q.n frm tqo c m cs)(hx:dP nt nf x)(ha:frm<a∨(a=frm∧1≤l))(hk:∀k∈kids,k<cs.its.length)(E:List Nat)(hE:∀en∈E,a<en∧en≤tqo∧(1≤l→en<tqo)):
 gj nt nf Q.n frm tqo c m (E.foldl (Me Q rule frm tqo l x kids a) cs)∧Grow Q.n frm tqo cs (E.foldl (Me Q rule frm tqo l x kids a) cs) ((E.map λen=>c a en*we c tqo l en).sum):=by
 have:=gK (n:=Q.n) (frm:=frm) (tqo:=tqo) (Me Q rule frm tqo l x kids a) (λen=>c a en*we c tqo l en) (λeh=>gj nt nf Q.n frm tqo c m eh∧cs.its.length≤eh.its.length) E cs ⟨hs,aW _⟩ (λsB en IY ⟨h1,h2⟩=>by
  obtain⟨e1,e2,e3⟩:=hE en IY;obtain⟨a1,b1⟩:=Bv hn qC iH ht c (l:=l) (rule:=rule) h1 hx (en:=en) ⟨by omega,e3⟩ (λk X5=>eK (hk k X5) h2) (sB.at_ Q.n a en) (λe he=>h1.ok.qI he);rw[h1.len a en (by omega) (by intro h;omega)]at b1
  exact⟨⟨a1,eH h2 b1.more⟩,b1⟩)
 exact⟨this.1.1,this.2⟩
theorem vS {f:Nat→Nat}{E:List Nat}{i en:Nat}(h:E[i]?=some en):((E.take i).map f).sum+f en≤(E.map f).sum:=by
 have hi:=(eD.1 h)
 obtain⟨hi,rfl⟩:=hi
 have e:E=E.take i++E[i]::E.drop (i+1):=by rw[←List.drop_eq_getElem_cons hi,sO]
 have e2:(E.map f).sum=((E.take i).map f).sum+(f E[i]+((E.drop (i+1)).map f).sum):=by
  conv=>lhs;rw[e]
  rw[cC,List.sum_append,eW,nW]
 omega
abbrev jg (f:kO)(T:List dz)(n:Nat)(g:ja):Qr:=⟨n,fg T,qL f,g.rules.map mi,g.aN.map rJ⟩
theorem XG {d:nA}{n i j:Nat}{q:aY×List Nat}(h:d.bR[slt n i j]?=some q):d.cs.at_ n i j=q.2:=by
 show(d.bR.map Prod.snd).getD (slt n i j) []=q.2
 rw[ak,bE,h];rfl
theorem G4 {d:nA}{e:Nat}{x:cX}(h:d.its[e]?=some x):d.cs.its.getD e fQ=bV x:=by
 show(d.its.map bV).getD e fQ=bV x
 rw[ak,bE,h];rfl
theorem gW (d:nA):d.cs.its.length=d.its.length:=aQ _
theorem DW (d:nA):d.cs.sp.length=d.bR.length:=aQ _
theorem zT {nt nf n:Nat}{d:nA}(h:Room d.cs 1)(ho:fV nt nf n d.cs):∀x∈d.its,x.bx.length+1≤3000000000000∧x.bN.length≤x.bx.length:=λx hx=>by
 have h1:=h.bx (bV x) (dq hx)
 have h2:=ho.bN (bV x) (dq hx)
 have e:(bV x).bx.length=x.bx.length:=aQ _
 have e2:(bV x).bN.length=x.bN.length:=rfl
 omega
theorem Km:∀{l:List Nat} {a:Nat},a∈l→a≤l.sum
 |b::l,a,h=>by
  rw[nW]
  rcases cD.1 h with rfl|h
  ·omega
  ·have:=Km h;omega
theorem zU {nt nf n:Nat}{d:nA}(ho:fV nt nf n d.cs){k:Nat}{q:aY×List Nat}(h:d.bR[k]?=some q):q.2.length≤d.its.length:=by
 rw[←gW,←ho.tot];refine Km (dq (f:=List.length) (?_:q.2∈d.cs.sp));exact dq (ab h)
theorem XH {nt nf n:Nat}{d:nA}(ho:fV nt nf n d.cs){e:Nat}{x:cX}(h:d.its[e]?=some x):dP nt nf (ar x.gr)∧x.gr.nodes.length≤60:=by
 obtain⟨_,_,_,h4,h5⟩:=ho.gr (bV x) (dq (ab h))
 have h5:(ar x.gr).length≤60:=h5
 rw[cP]at h5;exact⟨h4,h5⟩
theorem xL {nt nf:Nat}{x:dF}(h:dP nt nf x){k:Int}:0≤qp x k↔k∈lE (x.getD 0 gH).2:=by
 unfold qp
 cases hf:(x.getD 0 gH).2.find? (λx=>x.1==k)with
 |none=>
  refine⟨λh=>absurd h (by decide),λhm=> ?_⟩;obtain⟨y,hy,rfl⟩:=ct.1 hm;exact absurd (List.find?_eq_none.1 hf y hy) (by simp)
 |some y=>
  have hy:=List.mem_of_find?_eq_some hf
  have hk:=List.find?_some hf
  refine⟨λ_=>ct.2 ⟨y,hy,by simpa using hk⟩,λ_=> ?_⟩;exact((h.at_ h.pos).2.2 y hy).2.1
theorem R4 {l a tqo i:Nat}(Bi:a<tqo):((nQ l a tqo+i:Nat):Int)≤(tqo:Int)-(l:Nat)↔i<r0 l a tqo:=by
 unfold nQ r0
 by_cases h:l=0
 ·rw[aB h,aB h];omega
 ·rw[aA h,aA h];omega
theorem R5 {f:kO}{T:List dz}{n:Nat}{g:ja}{d:nA}{rule gi e:Nat}{x:cX}(h:d.its[e]?=some x):Z0 (jg f T n g) d.cs rule gi e=x.bN.any (qL f rule gi):=by
 unfold Z0;rw[G4 h];rfl
theorem R6 {f:kO}{T:List dz}{n:Nat}{g:ja}{d:nA}{rule gi e:Nat}{x:cX}(h:d.its[e]?=some x){y:dF}(ha:x.bN.any (qL f rule gi)=false):ka (jg f T n g) d.cs rule y gi e=none:=by
 unfold ka;rw[R5 h,ha];rfl
theorem Kn {f:kO}{T:List dz}{n:Nat}{g:ja}{d:nA}{rule gi e:Nat}{x:cX}(h:d.its[e]?=some x){y:dF}(ha:x.bN.any (qL f rule gi)=true):ka (jg f T n g) d.cs rule y gi e=mQ (fg T) y gi (ar x.gr):=by
 unfold ka Cs.ed;rw[R5 h,ha,G4 h];rfl
theorem oL {α β:Type}(f:α→β→α)(a:α){l:List β}{k:Nat}{b:β}(h:l[k]?=some b):(l.take (k+1)).foldl f a=f ((l.take k).foldl f a) b:=by
 rw[ai h,An];rfl
theorem G5 (g:ja)(w1 w2:aY)(T:List dz)(hT:gy T)(nf:Nat)(gl:nf≤100)(f:kO)(hf:zF f)(n:Nat)(hn:n≤12)(bp mb frm tqo:Nat)(iH:frm<tqo)(AV:tqo≤n)(rule:Nat)(hrf:rule<f.nr)(r:dC)(hr:g.rules[rule]?=some r)(hK:1≤r.kids∧r.kids≤3)(c0:Nat→Nat→Nat)(sv:aY):
 ∀(l:Nat) (d:nA) (x:cU) (oH:aY) (kids:List Nat) (a:Nat),d.nB=sv→kb d→gj T.length nf n frm tqo c0 0 d.cs→Room d.cs (l9 c0 tqo l a)→dP T.length nf (ar x)→x.nodes.length≤60→(∀k:Int,0≤k→k≤r.kids→0≤qp (ar x) k)→r.kids=((kids.length+l+1:Nat):Int)→(frm<a∨(a=frm∧1≤l))→a<tqo→(∀k∈kids,k<d.its.length)→
 dt Tryz.prog 121 ([.pointer (some ⟨bp,0,none⟩),iv (rule:Nat),au x,oH.1,iv (frm:Nat),iv (a:Nat),iv (tqo:Nat)]).toArray ([fz f,sl cY g.rv.1 g.rules,aI cK g.rules,sl ay w1.1 (cn T),sl ay w2.1 (cr T),tz,sl aL oH.1 (bC (kids)),aG x,aI (λx:cX=>aG x.gr) d.its].map aF++([aX bp (.cells (mS g w1 w2 f n d.dQ.1 sv.1 mb).toArray 180 (0,0)),aX mb (dh mkStr d.m),row d.dQ.1 186 6 d.its.length (rows dX d.its),row sv.1 58 1 d.bR.length (rows cN (d.bR.map Prod.fst))]++(ax (dx 200 3) d.its++ax (ez 3) d.bR))) (λv H'=>∃d2:nA,d2.cs=vB (jg f T n g) rule frm tqo (l) d.cs (ar x) (kids) a∧d2.nB=sv∧kb d2∧d2.bR.length=d.bR.length∧(∀k,k≠slt n frm tqo→d2.bR[k]?=d.bR[k]?)∧H'=(aF (aI (λx:cX=>aG x.gr) d2.its)::aX bp (.cells (mS g w1 w2 f n d2.dQ.1 sv.1 mb).toArray 180 (0,0))::aX mb (dh mkStr d2.m)::row d2.dQ.1 186 6 d2.its.length (rows dX d2.its)::row sv.1 58 1 d2.bR.length (rows cN (d2.bR.map Prod.fst))::(ax (dx 200 3) d2.its++ax (ez 3) d2.bR))):=by
 intro l
 induction l using Nat.strongRecOn with|_ l ih=> ?_
 intro d x oH kids a hsv hp ei mg hx kI hxt nU ha Bi XC;refine dt.body (args:=[.pointer (some ⟨bp,0,none⟩),iv (rule:Nat),au x,oH.1,iv (frm:Nat),iv (a:Nat),iv (tqo:Nat)]) 125 Tryz.func121 rfl Tryz.ntmps121 rfl (λc=> ?_);refine St.cast (H':=(aF (fz f)::aF (sl cY g.rv.1 g.rules)::aF (aI cK g.rules)::aF (sl ay w1.1 (cn T))::aF (sl ay w2.1 (cr T))::aF (tz)::aF (sl aL oH.1 (bC kids))::aF (aG x)::aF (aI (λx:cX=>aG x.gr) d.its)::aX bp (.cells (mS g w1 w2 f n d.dQ.1 sv.1 mb).toArray 180 (0,0))::aX mb (dh mkStr d.m)::row d.dQ.1 186 6 d.its.length (rows dX d.its)::row sv.1 58 1 d.bR.length (rows cN (d.bR.map Prod.fst))::(ax (dx 200 3) d.its++ax (ez 3) d.bR))) rfl ?_;refine go ?_
 have hnr:=hf.nr
 have qC:=Bl T
 have uC:=cP x
 have amK:kids.length+l+1≤3:=by have:=hK.2;omega
 have afS:d.bR.length=n*(n+1):=by rw[←DW,ei.ok.Gp]
 refine St.wf oH.1 (λSK _=> ?_);refine go ?_;refine St.cz (.mk rfl) rfl (λb9=> ?_);refine g10 ?_;refine St.ee (Ev.cZ (k:=rule) (.mk rfl) (.mk rfl) Tryz.underlying26 l7 (by omega) (by have:=ae hr;omega)) ?_;refine St.ee (Ev.jj (.mk rfl) hr sg trivial l7 iY.eq) ?_;refine St.al (λGl=> ?_);refine St.sA (.mk rfl) (.mk rfl) l7 ?_ (h1:=(eO.2 λu hu=>cY.one r u hu));refine g8 ?_;refine St.slot 35 (iv (kids.length:Nat)) rfl (congrArg iv (by rw[cR])) ?_;refine go ?_;refine St.slot 36 (iv ((l+1:Nat):Int)) rfl (congrArg iv (by rw[nU];push_cast;omega)) ?_;refine go ?_;refine St.slot 37 (iv (l:Nat)) rfl (congrArg iv (by push_cast;omega)) ?_;refine g18 ?_;refine St.join (ι:=Unit) (λu T=>(17,iv ((nQ l a tqo:Nat):Int))::T) (λu=>(aF (aI (λx:cX=>aG x.gr) d.its)::aX bp (.cells (mS g w1 w2 f n d.dQ.1 sv.1 mb).toArray 180 (0,0))::aX mb (dh mkStr d.m)::row d.dQ.1 186 6 d.its.length (rows dX d.its)::row sv.1 58 1 d.bR.length (rows cN (d.bR.map Prod.fst))::aF (fz f)::aF (sl cY g.rv.1 g.rules)::aF (aI cK g.rules)::aF (sl ay w1.1 (cn T))::aF (sl ay w2.1 (cr T))::aF (tz)::aF (sl aL oH.1 (bC kids))::aF (aG x)::aX b9 (.cells [x.nv.1].toArray 30 (0,0))::aX Gl (.cells (xx r).toArray 110 (0,0))::(ax (dx 200 3) d.its++ax (ez 3) d.bR))) (λu=>True) (aC.cons 0 rfl (aC.cons 1 rfl (aC.cons 3 rfl (aC.cons 4 rfl (aC.cons 5 rfl (aC.cons 6 rfl (aC.cons 9 rfl (aC.cons 15 rfl (aC.cons 16 rfl aC.nil))))))))) ?_ ?_
 ·refine g6 ?_
  refine St.cq (λYe=> ?_) (λYe=> ?_)
  ·have Tk:l=0:=by omega
   refine g5 ?_;refine St.slot 17 (iv ((nQ l a tqo:Nat):Int)) rfl (congrArg iv (by unfold nQ;rw[aB Tk])) ?_;refine St.mE () trivial
  ·have Tk:l≠0:=by omega
   refine g2 ?_;refine St.slot 17 (iv ((nQ l a tqo:Nat):Int)) rfl (congrArg iv (by unfold nQ;rw[aA Tk];push_cast;rfl)) ?_;refine St.mE () trivial
 ·intro u fy
  refine g7 ?_;refine St.lH (ι:=Nat×nA) (λ⟨i,d1⟩ T=>(18,iv ((nQ l a tqo+i:Nat):Int))::T) (λ⟨i,d1⟩=>(aF (aI (λx:cX=>aG x.gr) d1.its)::aX bp (.cells (mS g w1 w2 f n d1.dQ.1 sv.1 mb).toArray 180 (0,0))::aX mb (dh mkStr d1.m)::row d1.dQ.1 186 6 d1.its.length (rows dX d1.its)::row sv.1 58 1 d1.bR.length (rows cN (d1.bR.map Prod.fst))::aF (fz f)::aF (sl cY g.rv.1 g.rules)::aF (aI cK g.rules)::aF (sl ay w1.1 (cn T))::aF (sl ay w2.1 (cr T))::aF (tz)::aF (sl aL oH.1 (bC kids))::aF (aG x)::aX b9 (.cells [x.nv.1].toArray 30 (0,0))::aX Gl (.cells (xx r).toArray 110 (0,0))::(ax (dx 200 3) d1.its++ax (ez 3) d1.bR))) (λ⟨i,d1⟩=>i≤r0 l a tqo∧d1.nB=sv∧kb d1∧d1.cs=((List.range' (nQ l a tqo) (r0 l a tqo)).take i).foldl (Me (jg f T n g) rule frm tqo l (ar x) kids a) d.cs∧d1.bR.length=d.bR.length∧(∀k,k≠slt n frm tqo→d1.bR[k]?=d.bR[k]?)) (λ⟨i,d1⟩=>r0 l a tqo-i) ⟨0,d⟩ (aC.cons 0 rfl (aC.cons 1 rfl (aC.cons 3 rfl (aC.cons 4 rfl (aC.cons 5 rfl (aC.cons 6 rfl (aC.cons 9 rfl (aC.cons 15 rfl (aC.cons 16 rfl aC.nil))))))))) ⟨aR _,hsv,hp,rfl,rfl,λ_ _=>rfl⟩ ?_;rintro ⟨i,d1⟩ ⟨hi,mK,vG,kV,Zc,V5⟩
  dsimp only at hi mK vG kV Zc V5⊢
  refine g8 ?_;refine St.cond _ rfl (λh49=> ?_) (λh49=> ?_)
  ·skip
   have qQ:i<r0 l a tqo:=(R4 Bi).1 (eS h49)
   obtain⟨f1,f2,f3,f4⟩:=DV Bi qQ
   obtain⟨en,IY⟩:∃en,en=nQ l a tqo+i:=⟨_,rfl⟩
   rw[←IY]at f1 f2 f3 f4⊢
   have hei:(List.range' (nQ l a tqo) (r0 l a tqo))[i]?=some en:=by rw[List.getElem?_range' qQ,IY,Nat.one_mul]
   have hE0:∀z∈(List.range' (nQ l a tqo) (r0 l a tqo)),a<z∧z≤tqo∧(1≤l→z<tqo):=λz hz=>by obtain⟨j,hj,rfl⟩:=List.mem_range'.1 hz;have:=DV Bi hj;rw[Nat.one_mul];exact⟨this.1,this.2.1,this.2.2.2⟩
   obtain⟨tx,Zd⟩:=R3 (Q:=(jg f T n g)) hn qC iH AV c0 (l:=l) (a:=a) (rule:=rule) ei hx ha (by rw[gW];exact XC) ((List.range' (nQ l a tqo) (r0 l a tqo)).take i) (λz hz=>hE0 z (List.take_subset _ _ hz));rw[←kV]at tx Zd
   have afT:=vS (f:=λen=>c0 a en*we c0 tqo l en) hei
   rw[←V4]at afT
   have Ze:Room d1.cs (c0 a en*we c0 tqo l en):=Room.grow (Room.mono mg afT) Zd
   have afU:∀k∈kids,k<d1.cs.its.length:=λk hk=>eK (by rw[gW];exact XC k hk) Zd.more
   have QJ:slt n a en≠slt n frm tqo:=λh=>by have:=DC (by omega) AV h;rcases ha with ha|⟨_,hl⟩;omega;have:=f4 hl;omega
   obtain⟨q,hq⟩:=aE (show slt n a en<d.bR.length by rw[afS];exact s9 (by omega) (by omega))
   have uB:d1.bR[slt n a en]?=some q:=by rw[V5 _ QJ];exact hq
   have Zf:=XG uB
   have afV:q.2.length=c0 a en:=by rw[←Zf];exact tx.len a en (show en≤n by omega) (λh=>by rcases ha with ha|⟨_,hl⟩;omega;have:=f4 hl;omega)
   refine g9 ?_;refine St.ee (Ev.gh 2 (.mk rfl) BK trivial BS rfl rfl) ?_;refine St.slot 55 (.agg #[iv (n:Nat),sv.1]) rfl rfl ?_;refine g2 ?_;refine St.call (DI n a en (slt n a en) hn (by omega) (by omega) rfl sv d1.bR q uB) Ol (.eZ rfl rfl rfl) rfl ?_;rintro v58 _ ⟨rfl,rfl⟩;refine St.fk ?_;refine St.tail (ax (dx 200 3) d1.its++ax (ez 3) d1.bR) (row q.1.1 3 1 (q.2).length (rows aL (bC (q.2)))::(ax (dx 200 3) d1.its++ax (ez 3) (d1.bR.eraseIdx (slt n a en)))) (p8 _ _ _ uB) ?_;refine go ?_;refine St.tail (row q.1.1 3 1 (q.2).length (rows aL (bC (q.2)))::(ax (dx 200 3) d1.its++ax (ez 3) (d1.bR.eraseIdx (slt n a en)))) (ax (dx 200 3) d1.its++ax (ez 3) d1.bR) (p8 (dx 200 3) (ez 3) d1.its uB).symm ?_;refine g4 ?_;refine St.lH (ι:=Nat×nA) (λ⟨k,d2⟩ T=>(60,iv k)::T) (λ⟨k,d2⟩=>(aF (aI (λx:cX=>aG x.gr) d2.its)::aX bp (.cells (mS g w1 w2 f n d2.dQ.1 sv.1 mb).toArray 180 (0,0))::aX mb (dh mkStr d2.m)::row d2.dQ.1 186 6 d2.its.length (rows dX d2.its)::row sv.1 58 1 d2.bR.length (rows cN (d2.bR.map Prod.fst))::aF (fz f)::aF (sl cY g.rv.1 g.rules)::aF (aI cK g.rules)::aF (sl ay w1.1 (cn T))::aF (sl ay w2.1 (cr T))::aF (tz)::aF (sl aL oH.1 (bC kids))::aF (aG x)::aX b9 (.cells [x.nv.1].toArray 30 (0,0))::aX Gl (.cells (xx r).toArray 110 (0,0))::(ax (dx 200 3) d2.its++ax (ez 3) d2.bR))) (λ⟨k,d2⟩=>k≤q.2.length∧d2.nB=sv∧kb d2∧d2.cs=(q.2.take k).foldl (tu (jg f T n g) rule frm tqo l (ar x) kids en) d1.cs∧d2.bR.length=d.bR.length∧(∀k,k≠slt n frm tqo→d2.bR[k]?=d.bR[k]?)) (λ⟨k,d2⟩=>q.2.length-k) ⟨0,d1⟩ (aC.cons 0 rfl (aC.cons 1 rfl (aC.cons 3 rfl (aC.cons 4 rfl (aC.cons 5 rfl (aC.cons 6 rfl (aC.cons 9 rfl (aC.cons 15 rfl (aC.cons 16 rfl (aC.cons 18 rfl (aC.cons 58 rfl (aC.cons 59 rfl aC.nil)))))))))))) ⟨aR _,mK,vG,rfl,Zc,V5⟩ ?_;rintro ⟨k,d2⟩ ⟨hk,qN,rP,kS,Fk,J6⟩
   dsimp only at hk qN rP kS Fk J6⊢
   refine g6 ?_;refine St.cq (λh61=> ?_) (λh61=> ?_)
   ·obtain⟨e,he⟩:=aE (show k<q.2.length by omega)
    have wR:d2.bR[slt n a en]?=some q:=by rw[J6 _ QJ];exact hq
    have afW:∀z∈q.2,z<d1.cs.its.length:=λz hz=>tx.ok.qI (by rw[Zf];exact hz)
    obtain⟨ke,G6⟩:=Bv (Q:=(jg f T n g)) hn qC iH AV c0 (l:=l) (rule:=rule) tx hx (en:=en) ⟨by omega,f4⟩ afU (q.2.take k) (λz hz=>afW z (List.take_subset _ _ hz));rw[←kS,e9,ji (by omega)]at G6;rw[←kS]at ke
    have afX:k*we c0 tqo l en+we c0 tqo l en≤c0 a en*we c0 tqo l en:=by rw[←afV,←Nat.succ_mul];exact gO _ (by omega)
    have J7:Room d2.cs (we c0 tqo l en):=Room.grow (Room.mono Ze afX) G6
    have lA:e<d2.its.length:=by rw[←gW];exact eK (afW e (ab he)) G6.more
    have ajW:∀k∈kids,k<d2.its.length:=λz hz=>by rw[←gW];exact eK (afU z hz) G6.more
    obtain⟨xe,Gg⟩:=aE lA
    have zx:=ab Gg
    obtain⟨J8,R7⟩:=XH ke.ok Gg
    have r4:=J7.its
    have amL:=zU ke.ok wR
    rw[gW]at r4;refine St.tail (ax (dx 200 3) d2.its++ax (ez 3) d2.bR) (row q.1.1 3 1 (q.2).length (rows aL (bC (q.2)))::(ax (dx 200 3) d2.its++ax (ez 3) (d2.bR.eraseIdx (slt n a en)))) (p8 _ _ _ wR) ?_;refine g7 ?_;refine St.ee (Ev.cB (.mk rfl) eN trivial (by omega) (fF (dD he))) ?_;refine St.tail (row q.1.1 3 1 (q.2).length (rows aL (bC (q.2)))::(ax (dx 200 3) d2.its++ax (ez 3) (d2.bR.eraseIdx (slt n a en)))) (ax (dx 200 3) d2.its++ax (ez 3) d2.bR) (p8 (dx 200 3) (ez 3) d2.its wR).symm ?_;refine g10 ?_;refine St.slot 67 (iv (kids.length:Nat)) rfl (congrArg iv (by rw[cR])) ?_;refine go ?_;refine St.slot 68 (iv ((kids.length+1:Nat):Int)) rfl (congrArg iv (by push_cast;rfl)) ?_;refine go ?_;refine St.dup (fz f) ?_;refine St.tail (ax (dx 200 3) d2.its++ax (ez 3) d2.bR) (row xe.wv.1 200 3 (xe.bx).length (rows lR (xe.bx))::row xe.tv.1 3 1 (xe.bN).length (rows aL (xe.bN))::(ax (iV 3) xe.bx++(ax (dx 200 3) (d2.its.eraseIdx e)++ax (ez 3) d2.bR))) (zH _ _ Gg) ?_;refine St.call (td f hf (mS g w1 w2 f n d2.dQ.1 sv.1 mb) rfl bp rule (kids.length+1) hrf (by omega) (by omega) d2.dQ rfl d2.its e xe Gg (rP.bN xe zx)) Wf (.om rfl rfl rfl rfl) rfl ?_;rintro v70 _ ⟨rfl,rfl⟩;refine St.wG ?_;refine St.mB [row xe.wv.1 200 3 (xe.bx).length (rows lR (xe.bx)),row xe.tv.1 3 1 (xe.bN).length (rows aL (xe.bN))] (ax (iV 3) xe.bx++(ax (dx 200 3) (d2.its.eraseIdx e)++ax (ez 3) d2.bR)) (ax (dx 200 3) d2.its++ax (ez 3) d2.bR) (zH (dx 200 3) (ax (ez 3) d2.bR) Gg).symm ?_;refine g3 ?_;refine St.cond _ rfl (λSZ=> ?_) (λSZ=> ?_)
    ·skip
     have J9:xe.bN.any (qL f rule (kids.length+1))=false:=by simpa using SZ
     have Gw:ka (jg f T n g) d2.cs rule (ar x) (kids.length+1) e=none:=R6 Gg J9
     refine g9 ?_;refine St.aH ⟨k+1,d2⟩ ⟨by omega,qN,rP,by rw[oL _ _ he,←kS];exact(by unfold tu;rw[Gw]),Fk,J6⟩
    ·skip
     have J9:xe.bN.any (qL f rule (kids.length+1))=true:=by simpa using SZ
     have Gw:=Kn (T:=T) (n:=n) (g:=g) (y:=ar x) Gg J9
     refine g3 ?_;refine St.eT (aG xe.gr) [aI (λx:cX=>aG x.gr) d2.its] (λρ h=>h _ (aU ..) xe zx) ?_;refine St.kA d2.dQ.1 (by omega) (λbs cs qJ=> ?_);refine St.cx (aF (sl ay w1.1 (cn T))::aF (sl ay w2.1 (cr T))::aF tz::aF (aG x)::aF (aG xe.gr)::(ax (dx 200 3) d2.its++ax (ez 3) d2.bR)) mixed (λnp ns=> ?_);refine SW.gd 0 ?_;refine SW.gd 1 ?_;refine SW.gd 2 ?_;refine SW.dd 3 rfl (λ_=>Ev.gh 2 (.mk rfl) vp trivial vt rfl rfl) ?_;refine SW.slot 76 (jS w1 w2) rfl rfl ?_;refine SW.gd 4 ?_;refine SW.slot 77 (au x) rfl rfl ?_;refine SW.gd 5 ?_;refine SW.gd 6 ?_;refine SW.slot 79 (iv (kids.length:Nat)) rfl (congrArg iv (by rw[cR])) ?_;refine SW.gd 7 ?_;refine SW.slot 80 (iv ((kids.length+1:Nat):Int)) rfl (congrArg iv (by push_cast;rfl)) ?_;refine SW.gd 8 ?_;refine SW.gd 9 ?_;refine SW.gd 10 ?_;refine SW.gd 11 ?_;refine SW.gd 12 ?_;refine SW.dd 13 rfl (λ_=>Ev.mN (k:=e) qJ (.mk rfl) (.mk rfl) mn o4 (by omega) (by omega)) ?_;refine SW.dd 14 rfl (λ_=>Ev.j3 qJ (.mk rfl) tA) ?_;refine SW.dd 15 rfl (λ_=>Ev.j3 qJ (.mk rfl) xC) ?_;refine SW.dd 16 rfl (λ_=>Ev.Oy (Rr:=dX) (sz:=1) (.mk rfl) Gg mO trivial jb (by omega) (by decide) (by decide)) ?_;refine SW.slot 89 (au xe.gr) rfl rfl ?_;refine SW.t2 17 21 ?_ ?_
     focus
      refine St.fE (qh w1 w2 T hT nf gl x xe.gr ((kids.length+1:Nat):Int) hx J8 kI R7 (hxt _ (by omega) (by omega))) K1 (.om rfl rfl rfl rfl) rfl ?_;rintro v90 _ ⟨u,z,rfl,hz,rfl⟩;refine St.fk ?_;refine St.cF z u (λy hy=> ?_);obtain⟨rfl,Gu⟩:=hy;refine g2 ?_;refine SW.go ?_;refine SW.gd 18 ?_;refine SW.gd 19 ?_;refine SW.gd 20 ?_;refine SW.t1 21 ?_;refine St.al (λb21=> ?_);refine g2 ?_;refine SW.go ?_;refine SW.t1 22 ?_;refine g3 ?_;refine SW.go ?_;refine SW.gd 23 ?_;refine SW.dn ?_
     rotate_left
     focus
      refine St.al (λb21=> ?_);refine g2 ?_;refine SW.go ?_;refine SW.t1 17 ?_;refine St.fE (qh w1 w2 T hT nf gl x xe.gr ((kids.length+1:Nat):Int) hx J8 kI R7 (hxt _ (by omega) (by omega))) K1 (.om rfl rfl rfl rfl) rfl ?_;rintro v90 _ ⟨u,z,rfl,hz,rfl⟩;refine St.fk ?_;refine St.cF z u (λy hy=> ?_);obtain⟨rfl,Gu⟩:=hy;refine g2 ?_;refine SW.go ?_;refine SW.gd 18 ?_;refine SW.gd 19 ?_;refine SW.gd 20 ?_;refine SW.t1 22 ?_;refine g3 ?_;refine SW.go ?_;refine SW.gd 23 ?_;refine SW.dn ?_
     all_goals
      refine g8 ?_;refine St.cond _ rfl (λh94=> ?_) (λh94=> ?_)
      ·skip
       have hsn:mQ (fg T) (ar x) ((kids.length+1:Nat):Int) (ar xe.gr)=none:=by simpa using h94
       rw[hsn]at Gw;refine g9 ?_;refine St.aH ⟨k+1,d2⟩ ⟨by omega,qN,rP,by rw[oL _ _ he,←kS];exact(by unfold tu;rw[Gw]),Fk,J6⟩
      ·skip
       obtain⟨z1,V6⟩:∃z1,mQ (fg T) (ar x) ((kids.length+1:Nat):Int) (ar xe.gr)=some z1:=Option.isSome_iff_exists.1 (by simpa using h94)
       have hzz:=hz z1 V6
       rw[hzz]at Gu;rw[V6,←Gu]at Gw;rw[←Gu]at V6;obtain⟨y1,y2,y3⟩:=IX qC hx J8 V6
       have hyl:y.nodes.length≤60:=by rw[←cP];exact y2
       have hyt:∀k:Int,0≤k→k≤r.kids→0≤qp (ar y) k:=λk h0 h1=>(xL y1).2 (y3 k ((xL hx).1 (hxt k h0 h1)))
       have afY:∀k∈kids++ [e],k<d2.its.length:=λz hz=>by rcases ba.1 hz with hz|hz;exact ajW z hz;rw[bJ.1 hz];exact lA
       refine g7 ?_;refine St.slot 97 (iv (kids.length:Nat)) rfl (congrArg iv (by rw[cR])) ?_;refine g2 ?_;refine St.slot 99 (iv (kids.length:Nat)) rfl (congrArg iv (by rw[cR])) ?_;refine St.ee (Ev.clip (.mk rfl) (.mk rfl) (.mk rfl) cI eJ (by rw[cR]) (by rw[cR])) ?_;refine go ?_;refine St.gb rfl (.bB rfl) cI eJ jA rfl rfl (by simp[Value.cells]) rfl rfl (λamM=> ?_);refine St.yR (.mk rfl) (.mk rfl) cI eJ jA wO (by simp[Value.oneCell',Value.cells]) (by rw[cR];omega) (by rw[cR];omega) rfl rfl rfl rfl (λG7 ak8=> ?_);refine St.aO G7 (show _=(kids++ [e]).length by rw[cR,bA];rfl) (show _=rows aL (bC (kids++ [e])) by rw[jD,aw];rfl) ?_;refine St.bS G7 (λR8 _=> ?_);refine g9 ?_;refine St.cq (λV7=> ?_) (λV7=> ?_)
       ·obtain⟨l1,rfl⟩:∃l1,l=l1+1:=⟨l-1,by omega⟩
        refine St.bZ G7 aL (bC (kids++ [e])) rfl (cR _).symm (λz hz=>by obtain⟨z2,hz2,rfl⟩:=ct.1 hz;have:=afY z2 hz2;unfold aL bP;dsimp only;omega) ?_
        have afZ:gj T.length nf n frm tqo c0 0 d2.cs:=⟨ke.ok,ke.len,aR _⟩
        refine g4 ?_;refine St.slot 108 (au y) rfl rfl ?_;refine g4 ?_;refine St.pN (ds:=[fz f,sl cY g.rv.1 g.rules,aI cK g.rules,sl ay w1.1 (cn T),sl ay w2.1 (cr T),tz,sl aL G7 (bC (kids++ [e])),aG y,aI (λx:cX=>aG x.gr) d2.its]) (L:=[aX bp (.cells (mS g w1 w2 f n d2.dQ.1 sv.1 mb).toArray 180 (0,0)),aX mb (dh mkStr d2.m),row d2.dQ.1 186 6 d2.its.length (rows dX d2.its),row sv.1 58 1 d2.bR.length (rows cN (d2.bR.map Prod.fst))]) (X:=(ax (dx 200 3) d2.its++ax (ez 3) d2.bR)) (post:=λv L' X'=>∃d3:nA,d3.cs=vB (jg f T n g) rule frm tqo (l1) d2.cs (ar y) (kids++ [e]) en∧d3.nB=sv∧kb d3∧d3.bR.length=d2.bR.length∧(∀k,k≠slt n frm tqo→d3.bR[k]?=d2.bR[k]?)∧L'=[aF (aI (λx:cX=>aG x.gr) d3.its),aX bp (.cells (mS g w1 w2 f n d3.dQ.1 sv.1 mb).toArray 180 (0,0)),aX mb (dh mkStr d3.m),row d3.dQ.1 186 6 d3.its.length (rows dX d3.its),row sv.1 58 1 d3.bR.length (rows cN (d3.bR.map Prod.fst))]∧X'=(ax (dx 200 3) d3.its++ax (ez 3) d3.bR)) ((ih l1 (by omega) d2 y ⟨G7,R8⟩ (kids++ [e]) en qN rP afZ J7 y1 hyl hyt (by rw[nU];simp only[List.length_append,List.length_cons,List.length_nil];push_cast;omega) (.inl (by omega)) (f4 (by omega)) afY).mono (λv H' ⟨d3,a1,a2,a3,a4,a5,a6⟩=>⟨_,_,a6,d3,a1,a2,a3,a4,a5,rfl,rfl⟩)) We (.acB rfl rfl rfl rfl rfl rfl rfl) rfl ?_;rintro amN _ _ ⟨d3,a1,a2,a3,a4,a5,rfl,rfl⟩;refine St.Cd ?_;refine g8 ?_;refine St.aH ⟨k+1,d3⟩ ⟨by omega,a2,a3,by rw[oL _ _ he,←kS];exact(by unfold tu;rw[Gw];exact a1),(a4.trans Fk),(λz hz=>(a5 z hz).trans (J6 z hz))⟩
       ·obtain rfl:l=0:=by omega
        obtain rfl:en=tqo:=f3 rfl;refine g5 ?_;refine St.slot 117 (au y) rfl rfl ?_;refine St.fE (qK y T.length nf gl y1 (by omega) (hyt 0 (by omega) (by omega))) Om (.bB rfl) rfl ?_;rintro aeQ _ rfl;refine St.fk ?_;refine St.cF (lF (ar y)) aeQ (λmy hm=> ?_);obtain⟨rfl,XI⟩:=hm;obtain⟨m1,m2⟩:=qH y1 y2;rw[←XI]at m1 m2;rw[cP]at m2
        have hms:=fG m1 gl
        obtain⟨q0,Sa⟩:=aE (show slt n frm en<d2.bR.length by rw[Fk,afS];exact s9 (by omega) AV)
        have af0:=zU ke.ok Sa
        have R9:Room d2.cs 1:=J7
        have af1:=R9.its
        rw[gW]at af1
        have Yv:=ae hr
        refine St.ee (Ev.build (bF.eZ rfl rfl rfl) (λw=>tD rfl rfl w)) ?_;refine St.slot 119 (Il frm en 0 my.nv.1) rfl rfl ?_;refine g2 ?_;refine St.ee (Ev.build (bF.bH rfl rfl) (λw=>yM rfl R8 w)) ?_;refine St.slot 122 (.agg #[iv (rule:Nat),iv 0,G7]) rfl rfl ?_;refine St.pN (ds:=[aG my,aI (λx:cX=>aG x.gr) d2.its]) (L:=[aX bp (.cells (mS g w1 w2 f n d2.dQ.1 sv.1 mb).toArray 180 (0,0)),aX mb (dh mkStr d2.m),row d2.dQ.1 186 6 d2.its.length (rows dX d2.its),row sv.1 58 1 d2.bR.length (rows cN (d2.bR.map Prod.fst)),row G7 3 aL.size (kids++ [e]).length (rows aL (bC (kids++ [e])))]) (X:=(ax (dx 200 3) d2.its++ax (ez 3) d2.bR)) (post:=λv L' X'=>∃d3:nA,d3.cs=jt n d2.cs ⟨frm,en,0,ar my⟩ ⟨(rule:Nat),0,kids++ [e]⟩∧d3.nB=sv∧kb d3∧d3.bR.length=d2.bR.length∧(∀k,k≠slt n frm en→d3.bR[k]?=d2.bR[k]?)∧L'=[aF (aI (λx:cX=>aG x.gr) d3.its),aX bp (.cells (mS g w1 w2 f n d3.dQ.1 sv.1 mb).toArray 180 (0,0)),aX mb (dh mkStr d3.m),row d3.dQ.1 186 6 d3.its.length (rows dX d3.its),row sv.1 58 1 d3.bR.length (rows cN (d3.bR.map Prod.fst))]∧X'=(ax (dx 200 3) d3.its++ax (ez 3) d3.bR)) ?_ Oj (.eZ rfl rfl rfl) rfl ?_
        ·subst qN
         exact(vJ g w1 w2 f n hn d2 rP bp mb frm en 0 my (by omega) (λt ht=>by have:=(hms t ht).2;omega) (by omega) (by omega) (rule:Nat) 0 (by unfold bP;omega) (by omega) ⟨G7,R8⟩ (kids++ [e]) q0 Sa (by omega) (by omega) (zT R9 ke.ok)).mono (λv H' ⟨d3,a1,a2,a3,a4,a5,a6⟩=>⟨_,_,(by rw[a2]at a6;exact a6),d3,a1,a2,a3,a4,a5,rfl,rfl⟩)
        rintro amO _ _ ⟨d3,a1,a2,a3,a4,a5,rfl,rfl⟩;refine St.Cd ?_;refine g8 ?_;refine St.aH ⟨k+1,d3⟩ ⟨by omega,a2,a3,by rw[oL _ _ he,←kS];exact(by unfold tu;rw[Gw,a1,XI]),(a4.trans Fk),(λz hz=>(a5 z hz).trans (J6 z hz))⟩
   ·obtain rfl:k=q.2.length:=by omega
    rw[jy]at kS;refine g12 ?_;refine St.aH ⟨i+1,d2⟩ ⟨by omega,qN,rP,by rw[oL _ _ hei,←kV,kS];show _=(d1.cs.at_ n a en).foldl _ _;rw[Zf],Fk,J6⟩
  ·skip
   have qQ:¬i<r0 l a tqo:=λh=>iT h49 ((R4 Bi).2 h)
   obtain rfl:i=r0 l a tqo:=by omega
   rw[fZ (by rw[List.length_range'];exact aW _),←Kl]at kV;refine g4 ?_;refine St.dg ?_;refine St.rV [] (aF (aI (λx:cX=>aG x.gr) d1.its)::aX bp (.cells (mS g w1 w2 f n d1.dQ.1 sv.1 mb).toArray 180 (0,0))::aX mb (dh mkStr d1.m)::row d1.dQ.1 186 6 d1.its.length (rows dX d1.its)::row sv.1 58 1 d1.bR.length (rows cN (d1.bR.map Prod.fst))::(ax (dx 200 3) d1.its++ax (ez 3) d1.bR)) ?_;exact⟨d1,kV,mK,vG,Zc,V5,rfl⟩
theorem hS (i:Nat){α:Type}(f:α→Nat→α)(a:α):(List.range (i+1)).foldl f a=f ((List.range i).foldl f a) i:=by rw[vc,An];rfl
theorem RA {nt nf len:Nat}{Q:Qr}(hQ:qu nt nf Q){w:bI}{frm tqo i:Nat}(iH:frm<tqo)(ht:tqo≤Q.n){cs:Cs}(h:nL nt nf Q.n len frm cs)(hi:i<Q.aN.length):
 gj nt nf Q.n frm tqo (λi j=>(cs.at_ Q.n i j).length) 0 ((List.range i).foldl (qq Q w frm tqo) cs)∧Room ((List.range i).foldl (qq Q w frm tqo) cs) 1:=by
 have h0:gj nt nf Q.n frm tqo (λi j=>(cs.at_ Q.n i j).length) 0 cs:=⟨h.ok,λ_ _ _ _=>rfl,aR _⟩
 obtain⟨a,b⟩:=gK (n:=Q.n) (frm:=frm) (tqo:=tqo) (qq Q w frm tqo) (λ_=>1) _ (List.range i) cs h0 (λsB j hj h1=>yz hQ iH ht h1 (Nat.lt_trans (cy.1 hj) hi));rw[jC,iJ,fR]at b
 have:=hQ.xn
 exact⟨a,Room.grow (h.room.mono (by unfold vI;omega)) b⟩
theorem RB {nt nf len:Nat}{Q:Qr}(hQ:qu nt nf Q){frm tqo i:Nat}(iH:frm<tqo)(ht:tqo≤Q.n)(fP:tqo≠frm+1){cs:Cs}(h:nL nt nf Q.n len frm cs)(hi:i<Q.rules.length):
 gj nt nf Q.n frm tqo (λi j=>(cs.at_ Q.n i j).length) 0 ((List.range i).foldl (qs Q frm tqo) cs)∧(1<(Q.rules.getD i nz).kids→Room ((List.range i).foldl (qs Q frm tqo) cs) (l9 (λi j=>(cs.at_ Q.n i j).length) tqo ((Q.rules.getD i nz).kids.toNat-1) frm)):=by
 have h0:gj nt nf Q.n frm tqo (λi j=>(cs.at_ Q.n i j).length) 0 cs:=⟨h.ok,λ_ _ _ _=>rfl,aR _⟩
 obtain⟨a,b⟩:=gK (n:=Q.n) (frm:=frm) (tqo:=tqo) (qs Q frm tqo) (λi=>if decide (1<(Q.rules.getD i nz).kids)=true then 4000000 else 0) _ (List.range i) cs h0 (λsB j hj h1=>yy hQ iH ht h.ok h.KR h1 (Nat.lt_trans (cy.1 hj) hi));refine⟨a,λhk=> ?_⟩
 have hs:=vS (f:=λi=>if decide (1<(Q.rules.getD i nz).kids)=true then 4000000 else 0) (show(List.range Q.rules.length)[i]?=some i from kg hi)
 rw[List.take_range,ji (by omega),qd (λr:CZ=>decide (1<r.kids)) nz 4000000 Q.rules]at hs
 have hb:=Bo hQ (frm:=frm) (tqo:=tqo)
 have BO:DE Q frm tqo≤vI:=eH (Nat.le_mul_of_pos_right _ (by omega)) hb
 unfold DE at BO;rw[aA fP]at BO
 have WZ:Q.rules.countP (λr:CZ=>decide (1<r.kids))*4000000≤vI:=BO
 rw[aB (dH hk)]at hs
 have k3:=(hQ.vE hi).1.2
 exact(Room.grow (h.room.mono (eH hs WZ)) b).mono (Bk h.ok h.KR iH ht (by omega) (by omega))
theorem RC {nt nf:Nat}{Q:Qr}(hQ:qu nt nf Q){frm tqo i k e:Nat}(iH:frm<tqo)(ht:tqo≤Q.n){cs:Cs}(h:fV nt nf Q.n cs)(hr:Room cs (vH Q cs ((cs.at_ Q.n frm tqo).drop k)))(hk:(cs.at_ Q.n frm tqo)[k]?=some e)(h3:(cs.ed e).cQ≠3)(hi:i<Q.rules.length):
 fV nt nf Q.n ((List.range i).foldl (qE Q frm tqo e) cs)∧Grow Q.n frm tqo cs ((List.range i).foldl (qE Q frm tqo e) cs) (fh Q)∧((Q.rules.getD i nz).kids=1→Room ((List.range i).foldl (qE Q frm tqo e) cs) 1):=by
 have X3:=ab hk
 have lA:=h.qI X3
 have Wr:(cs.ed e).cQ≤3:=by
  unfold Cs.ed;rw[ak,bO lA];exact(h.gr _ (gm lA)).2.2.1
 have hu:=zE hQ iH ht (e:=e) (ch:=(cs.ed e).cQ) (by omega) (List.range i) cs (λj hj=>Nat.lt_trans (cy.1 hj) hi) h lA rfl
 have hs:=vS (f:=λi=>if decide ((Q.rules.getD i nz).kids=1)=true then 1 else 0) (show(List.range Q.rules.length)[i]?=some i from kg hi)
 rw[List.take_range,ji (by omega),qd (λr:CZ=>decide (r.kids=1)) nz 1 Q.rules,fR]at hs
 have zA:_≤fh Q:=hs
 refine⟨hu.ok,hu.gr.mono (by omega),λjv=> ?_⟩;rw[aB (dH jv)]at zA;refine Room.grow (hr.mono ?_) hu.gr;refine eH zA ?_;unfold vH;rw[oA _ hk]
 have e1:3-(cs.ed e).cQ=(2-(cs.ed e).cQ)+1:=by omega
 rw[e1]
 have:fh Q*1≤fh Q*(1+jV (fh Q) (2-(cs.ed e).cQ)):=xP _ (by omega)
 show fh Q≤fh Q*(1+jV (fh Q) (2-(cs.ed e).cQ))+_
 omega
theorem RD {Q:Qr}{frm tqo f k e:Nat}{cs:Cs}(hk:(cs.at_ Q.n frm tqo)[k]?=some e)(h3:(cs.ed e).cQ=3)(hf:qG Q cs ((cs.at_ Q.n frm tqo).drop k)<f):
 ∃f2,qF Q frm tqo f k cs=qF Q frm tqo f2 (k+1) cs∧qG Q cs ((cs.at_ Q.n frm tqo).drop (k+1))<f2∧qG Q cs ((cs.at_ Q.n frm tqo).drop (k+1))<qG Q cs ((cs.at_ Q.n frm tqo).drop k):=by
 obtain⟨f2,rfl⟩:∃f2,f=f2+1:=⟨f-1,by omega⟩
 have hd:(cs.at_ Q.n frm tqo).getD k 0=e:=by rw[ak,hk];rfl
 have hp:qG Q cs ((cs.at_ Q.n frm tqo).drop k)=(1+jV (fh Q) (3-(cs.ed e).cQ))+qG Q cs ((cs.at_ Q.n frm tqo).drop (k+1)):=by unfold qG;exact oA _ hk
 refine⟨f2,?_,by omega,by omega⟩;rw[qF,aB (ae hk),hd,aB h3]
theorem Zg {Q:Qr}{frm tqo f k e:Nat}{cs:Cs}(hk:(cs.at_ Q.n frm tqo)[k]?=some e)(h3:(cs.ed e).cQ≠3)(hf:qG Q cs ((cs.at_ Q.n frm tqo).drop k)<f):
 ∃f2,qF Q frm tqo f k cs=qF Q frm tqo f2 (k+1) ((List.range Q.rules.length).foldl (qE Q frm tqo e) cs)∧qG Q cs ((cs.at_ Q.n frm tqo).drop k)<f2+1:=by
 obtain⟨f2,rfl⟩:∃f2,f=f2+1:=⟨f-1,by omega⟩
 have hd:(cs.at_ Q.n frm tqo).getD k 0=e:=by rw[ak,hk];rfl
 exact⟨f2,by rw[qF,aB (ae hk),hd,aA h3],hf⟩
theorem V8 {Q:Qr}{frm tqo f k:Nat}{cs:Cs}(hk:(cs.at_ Q.n frm tqo).length≤k):qF Q frm tqo f k cs=cs:=by
 cases f with
 |zero=>rfl
 |succ f=>rw[qF,aA (by omega)]
theorem Mf (g:ja)(w1 w2:aY)(T:List dz)(hT:gy T)(nf:Nat)(gl:nf≤100)(f:kO)(hf:zF f)(n:Nat)(hn:n≤12)(bp mb:Nat)(sv:aY)(wv:Value)(words:List bI)(MO:words.length=n)(hnr:f.nr=g.rules.length)(hQ:qu T.length nf (jg f T n g))(Gs:∀r∈g.rules,∀k:Int,0≤k→k≤r.kids→0≤qp (ar r.graph) k)
 (frm tqo len:Nat) (hlen:1≤len) (hte:tqo=frm+len) (AV:tqo≤n) (d:nA) (hsv:d.nB=sv) (hp:kb d) (hs:nL T.length nf n len frm d.cs):
 dt Tryz.prog 90 ([.pointer (some ⟨bp,0,none⟩),wv,iv (frm:Nat),iv (tqo:Nat)]).toArray ([fz f,sl cY g.rv.1 g.rules,aI cK g.rules,sl eF g.xv.1 g.aN,aI eB g.aN,sl ay w1.1 (cn T),sl ay w2.1 (cr T),tz,sl dY wv words,aI (λx:cX=>aG x.gr) d.its].map aF++([aX bp (.cells (mS g w1 w2 f n d.dQ.1 sv.1 mb).toArray 180 (0,0)),aX mb (dh mkStr d.m),row d.dQ.1 186 6 d.its.length (rows dX d.its),row sv.1 58 1 d.bR.length (rows cN (d.bR.map Prod.fst))]++(ax (dx 200 3) d.its++ax (ez 3) d.bR))) (λv H'=>∃d2:nA,d2.cs=p6 (jg f T n g) words frm tqo d.cs∧d2.nB=sv∧kb d2∧H'=(aF (aI (λx:cX=>aG x.gr) d2.its)::aX bp (.cells (mS g w1 w2 f n d2.dQ.1 sv.1 mb).toArray 180 (0,0))::aX mb (dh mkStr d2.m)::row d2.dQ.1 186 6 d2.its.length (rows dX d2.its)::row sv.1 58 1 d2.bR.length (rows cN (d2.bR.map Prod.fst))::(ax (dx 200 3) d2.its++ax (ez 3) d2.bR))):=by
 refine dt.body (args:=[.pointer (some ⟨bp,0,none⟩),wv,iv (frm:Nat),iv (tqo:Nat)]) 171 Tryz.func90 rfl Tryz.ntmps90 rfl (λc=> ?_);refine St.cast (H':=(aF (fz f)::aF (sl cY g.rv.1 g.rules)::aF (aI cK g.rules)::aF (sl eF g.xv.1 g.aN)::aF (aI eB g.aN)::aF (sl ay w1.1 (cn T))::aF (sl ay w2.1 (cr T))::aF (tz)::aF (sl dY wv words)::aF (aI (λx:cX=>aG x.gr) d.its)::aX bp (.cells (mS g w1 w2 f n d.dQ.1 sv.1 mb).toArray 180 (0,0))::aX mb (dh mkStr d.m)::row d.dQ.1 186 6 d.its.length (rows dX d.its)::row sv.1 58 1 d.bR.length (rows cN (d.bR.map Prod.fst))::(ax (dx 200 3) d.its++ax (ez 3) d.bR))) rfl ?_
 have iH:frm<tqo:=by omega
 have qC:=Bl T
 obtain⟨w,hw⟩:=aE (show frm<words.length by omega)
 have hwd:words.getD frm []=w:=by rw[ak,hw];rfl
 have Bw:g.rules.length≤40:=by have h:(g.rules.map mi).length≤40:=hQ.rn;rwa[aQ]at h
 have hxn:g.aN.length≤100:=by have h:(g.aN.map rJ).length≤100:=hQ.xn;rwa[aQ]at h
 have DX:∀(i:Nat) (r:dC),g.rules[i]?=some r→(1≤r.kids∧r.kids≤3)∧dP T.length nf (ar r.graph)∧r.graph.nodes.length≤60:=λi r h=>by have h1:=hQ.rule (mi r) (dq (ab h));exact⟨h1.1,h1.2.1,by rw[←cP];exact h1.2.2⟩
 have NO:∀(i:Nat) (x:fN),g.aN[i]?=some x→dP T.length nf (ar x.graph)∧x.graph.nodes.length≤60:=λi x h=>by have h1:=hQ.lex (rJ x) (dq (ab h));exact⟨h1.1,by rw[←cP];exact h1.2⟩
 have af2:∀(i:Nat) (r:dC),g.rules[i]?=some r→(jg f T n g).rules.getD i nz=mi r:=λi r h=>by show(g.rules.map mi).getD i nz=_;rw[ak,bE,h];rfl
 have ajX:∀(i:Nat) (x:fN),g.aN[i]?=some x→(jg f T n g).aN.getD i SC=rJ x:=λi x h=>by show(g.aN.map rJ).getD i SC=_;rw[ak,bE,h];rfl
 obtain⟨N4,BO,WZ⟩:=DH hQ (words:=words) hlen (show frm+len≤n by omega) hs;rw[←hte]at N4 BO WZ
 have Yv:((jg f T n g)).rules.length=g.rules.length:=aQ _
 have UE:((jg f T n g)).aN.length=g.aN.length:=aQ _
 refine St.join (ι:=nA) (λd1 T=>T) (λd1=>(aF (aI (λx:cX=>aG x.gr) d1.its)::aX bp (.cells (mS g w1 w2 f n d1.dQ.1 sv.1 mb).toArray 180 (0,0))::aX mb (dh mkStr d1.m)::row d1.dQ.1 186 6 d1.its.length (rows dX d1.its)::row sv.1 58 1 d1.bR.length (rows cN (d1.bR.map Prod.fst))::aF (fz f)::aF (sl cY g.rv.1 g.rules)::aF (aI cK g.rules)::aF (sl eF g.xv.1 g.aN)::aF (aI eB g.aN)::aF (sl ay w1.1 (cn T))::aF (sl ay w2.1 (cr T))::aF (tz)::aF (sl dY wv words)::(ax (dx 200 3) d1.its++ax (ez 3) d1.bR))) (λd1=>d1.nB=sv∧kb d1∧d1.cs=mR (jg f T n g) words frm tqo d.cs) (aC.cons 0 rfl (aC.cons 2 rfl (aC.cons 3 rfl aC.nil))) ?_ ?_
 ·refine g8 ?_
  refine St.cq (λyU=> ?_) (λyU=> ?_)
  ·have V9:tqo=frm+1:=by omega
   refine g12 ?_;refine St.lH (ι:=Nat×nA) (λ⟨i,d1⟩ T=>(29,iv i)::T) (λ⟨i,d1⟩=>(aF (aI (λx:cX=>aG x.gr) d1.its)::aX bp (.cells (mS g w1 w2 f n d1.dQ.1 sv.1 mb).toArray 180 (0,0))::aX mb (dh mkStr d1.m)::row d1.dQ.1 186 6 d1.its.length (rows dX d1.its)::row sv.1 58 1 d1.bR.length (rows cN (d1.bR.map Prod.fst))::aF (fz f)::aF (sl cY g.rv.1 g.rules)::aF (aI cK g.rules)::aF (sl eF g.xv.1 g.aN)::aF (aI eB g.aN)::aF (sl ay w1.1 (cn T))::aF (sl ay w2.1 (cr T))::aF (tz)::aF (sl dY wv words)::(ax (dx 200 3) d1.its++ax (ez 3) d1.bR))) (λ⟨i,d1⟩=>i≤g.aN.length∧d1.nB=sv∧kb d1∧d1.cs=(List.range i).foldl (qq (jg f T n g) w frm tqo) d.cs) (λ⟨i,d1⟩=>g.aN.length-i) ⟨0,d⟩ (aC.cons 0 rfl (aC.cons 1 rfl (aC.cons 2 rfl (aC.cons 3 rfl (aC.cons 27 rfl (aC.cons 28 rfl aC.nil)))))) ⟨aR _,hsv,hp,rfl⟩ ?_;rintro ⟨i,d1⟩ ⟨hi,mK,vG,kV⟩
   dsimp only at hi mK vG kV⊢
   refine g6 ?_;refine St.cq (λw6=> ?_) (λw6=> ?_)
   ·obtain⟨x,hx⟩:=aE (show i<g.aN.length by omega)
    obtain⟨uC,kI⟩:=NO i x hx
    have hxs:=fG uC gl
    have hxE:=ajX i x hx
    obtain⟨tx,XJ⟩:=RA hQ (w:=w) iH AV hs (show i<((jg f T n g)).aN.length by omega);rw[←kV]at tx XJ
    have wS:fV T.length nf n d1.cs:=tx.ok
    have hrm:Room d1.cs 1:=XJ
    have r4:=hrm.its
    rw[gW]at r4;obtain⟨q0,Sa⟩:=aE (show slt n frm tqo<d1.bR.length by rw[←DW,wS.Gp];exact s9 (by omega) AV)
    have af0:=zU wS Sa
    refine St.cL eB g.aN (x:=x) (ab hx) ?_;refine St.eT (aG x.graph) [eB x] (λρ h=>h (eB x) (aU ..) (aG x.graph) (aU ..)) ?_;refine g8 ?_;refine St.ee (Ev.jj (.mk rfl) hx yE trivial pq iY.eq) ?_;refine St.al (λb9=> ?_);refine go ?_;refine St.sA (.mk rfl) (.mk rfl) pq ?_ (h1:=(eO.2 λu hu=>eF.one x u hu));refine g3 ?_;refine St.rq mixed (by kernel_rfl) (Mm.drawn _ _) ?_;refine g9 ?_;refine St.cq (λPq=> ?_) (λPq=> ?_)
    ·have zu:x.word=w:=by simpa using Pq
     have SS:qq (jg f T n g) w frm tqo d1.cs i=jt n d1.cs ⟨frm,tqo,0,ff (ar x.graph) 0⟩ ⟨-1,i,[]⟩:=by unfold qq;rw[hxE,aB (show(rJ x).word=w from zu)];rfl
     refine g5 ?_;refine St.ee (Ev.gh 1 (.mk rfl) mO trivial jb rfl rfl) ?_;refine St.slot 45 (au x.graph) rfl rfl ?_;refine St.fE (zS x.graph T.length nf gl uC (by omega)) adF (.bB rfl) rfl ?_;rintro v46 _ rfl;refine St.fk ?_;refine St.cF (ff (ar x.graph) 0) v46 (λy hy=> ?_);obtain⟨rfl,Gu⟩:=hy;obtain⟨m1,m2,_⟩:=tV uC uC.pos;rw[←Gu]at m1 m2;rw[cP,cP]at m2
     have hms:=fG m1 gl
     refine St.dc 3 1 ?_;refine St.aO (.slice none 0 0) (show _=([]:List Nat).length from rfl) (show _=rows aL (bC [])from rfl) ?_;refine St.ee (Ev.build (bF.eZ rfl rfl rfl) (λw=>tD rfl rfl w)) ?_;refine St.slot 47 (Il frm tqo 0 y.nv.1) rfl rfl ?_;refine go ?_;refine St.ee (Ev.build (bF.bH rfl rfl) (λw=>Hg rfl rfl w)) ?_;refine St.slot 49 (.agg #[iv (-1),iv (i:Nat),bK.1]) rfl rfl ?_;refine St.pN (ds:=[aG y,aI (λx:cX=>aG x.gr) d1.its]) (L:=[aX bp (.cells (mS g w1 w2 f n d1.dQ.1 sv.1 mb).toArray 180 (0,0)),aX mb (dh mkStr d1.m),row d1.dQ.1 186 6 d1.its.length (rows dX d1.its),row sv.1 58 1 d1.bR.length (rows cN (d1.bR.map Prod.fst)),row (.slice none 0 0) 3 1 (([]:List Nat)).length (rows aL (bC (([]:List Nat))))]) (X:=(ax (dx 200 3) d1.its++ax (ez 3) d1.bR)) (post:=λv L' X'=>∃d3:nA,d3.cs=jt n d1.cs ⟨frm,tqo,0,ar y⟩ ⟨-1,(i:Nat),([]:List Nat)⟩∧d3.nB=sv∧kb d3∧L'=[aF (aI (λx:cX=>aG x.gr) d3.its),aX bp (.cells (mS g w1 w2 f n d3.dQ.1 sv.1 mb).toArray 180 (0,0)),aX mb (dh mkStr d3.m),row d3.dQ.1 186 6 d3.its.length (rows dX d3.its),row sv.1 58 1 d3.bR.length (rows cN (d3.bR.map Prod.fst))]∧X'=(ax (dx 200 3) d3.its++ax (ez 3) d3.bR)) ?_ Oj (.eZ rfl rfl rfl) rfl ?_
     ·subst mK
      exact(vJ g w1 w2 f n hn d1 vG bp mb frm tqo 0 y (by omega) (λt ht=>by have:=(hms t ht).2;omega) (by omega) (by omega) (-1:Int) ((i:Nat):Int) (by unfold bP;omega) (by omega) bK [] q0 Sa (by omega) (by omega) (zT hrm wS)).mono (λv H' ⟨d3,a1,a2,a3,a4,a5,a6⟩=>⟨_,_,(by rw[a2]at a6;exact a6),d3,a1,a2,a3,rfl,rfl⟩)
     rintro v50 _ _ ⟨d3,a1,a2,a3,rfl,rfl⟩;refine St.Cd ?_;refine g8 ?_;refine St.aH ⟨i+1,d3⟩ ⟨by omega,a2,a3,by rw[hS,←kV,SS,a1,Gu]⟩
    ·have zu:x.word≠w:=by simpa using Pq
     have SS:qq (jg f T n g) w frm tqo d1.cs i=d1.cs:=by unfold qq;rw[hxE,aA (show ¬(rJ x).word=w from zu)]
     refine g8 ?_;refine St.aH ⟨i+1,d1⟩ ⟨by omega,mK,vG,by rw[hS,←kV,SS]⟩
   ·obtain rfl:i=g.aN.length:=by omega
    refine g5 ?_;refine St.mE d1 ⟨mK,vG,by rw[kV];unfold mR;rw[aB V9,hwd,UE]⟩
  ·have V9:tqo≠frm+1:=by omega
   refine g12 ?_;refine St.lH (ι:=Nat×nA) (λ⟨i,d1⟩ T=>(58,iv i)::T) (λ⟨i,d1⟩=>(aF (aI (λx:cX=>aG x.gr) d1.its)::aX bp (.cells (mS g w1 w2 f n d1.dQ.1 sv.1 mb).toArray 180 (0,0))::aX mb (dh mkStr d1.m)::row d1.dQ.1 186 6 d1.its.length (rows dX d1.its)::row sv.1 58 1 d1.bR.length (rows cN (d1.bR.map Prod.fst))::aF (fz f)::aF (sl cY g.rv.1 g.rules)::aF (aI cK g.rules)::aF (sl eF g.xv.1 g.aN)::aF (aI eB g.aN)::aF (sl ay w1.1 (cn T))::aF (sl ay w2.1 (cr T))::aF (tz)::aF (sl dY wv words)::(ax (dx 200 3) d1.its++ax (ez 3) d1.bR))) (λ⟨i,d1⟩=>i≤g.rules.length∧d1.nB=sv∧kb d1∧d1.cs=(List.range i).foldl (qs (jg f T n g) frm tqo) d.cs) (λ⟨i,d1⟩=>g.rules.length-i) ⟨0,d⟩ (aC.cons 0 rfl (aC.cons 2 rfl (aC.cons 3 rfl (aC.cons 56 rfl (aC.cons 57 rfl aC.nil))))) ⟨aR _,hsv,hp,rfl⟩ ?_;rintro ⟨i,d1⟩ ⟨hi,mK,vG,kV⟩
   dsimp only at hi mK vG kV⊢
   refine g6 ?_;refine St.cq (λTy=> ?_) (λTy=> ?_)
   ·obtain⟨r,hr⟩:=aE (show i<g.rules.length by omega)
    obtain⟨hk,uC,kI⟩:=DX i r hr
    have hrE:=af2 i r hr
    obtain⟨tx,XJ⟩:=RB hQ iH AV V9 hs (show i<((jg f T n g)).rules.length by omega);rw[←kV]at tx XJ;rw[hrE]at XJ;refine St.cL cK g.rules (x:=r) (ab hr) ?_;refine St.eT (aG r.graph) [cK r] (λρ h=>h (cK r) (aU ..) (aG r.graph) (aU ..)) ?_;refine g8 ?_;refine St.ee (Ev.jj (.mk rfl) hr sg trivial l7 iY.eq) ?_;refine St.al (λpT=> ?_);refine go ?_;refine St.sA (.mk rfl) (.mk rfl) l7 ?_ (h1:=(eO.2 λu hu=>cY.one r u hu));refine g8 ?_;refine St.gt _ rfl rfl (λhg=>Ev.dB (.mk rfl) xA) rfl ?_;refine St.gt _ rfl rfl (λhg=>Ev.kU (aZ.gv rfl hg) eN trivial (by rfl)) rfl ?_;refine St.gt _ rfl rfl (λhg=>Ev.move (.mk rfl)) rfl ?_;refine St.gt _ rfl rfl (λhg=>Ev.move (.mk rfl)) rfl ?_;refine St.gt _ rfl rfl (λhg=>Ev.sub (aZ.gv rfl hg) (aZ.gv rfl hg) (by first|omega|(simp only[br]at hg;omega))) rfl ?_;refine St.gt _ rfl rfl (λhg=>Ev.leq (aZ.gv rfl hg) (aZ.gv rfl hg)) rfl ?_;refine g3 ?_;refine St.cq (λh73=> ?_) (λh73=> ?_)
    ·have Zh:qs (jg f T n g) frm tqo d1.cs i=vB (jg f T n g) i frm tqo (r.kids.toNat-1) d1.cs (ar r.graph) [] frm:=by unfold qs;rw[hrE,aB (show 1<(mi r).kids∧(mi r).kids≤(tqo:Int)-frm from h73)];rfl
     have sU:=XJ h73.1
     refine St.fq aL ?_;refine g4 ?_;refine St.ee (Ev.gh 1 (.mk rfl) mO trivial jb rfl rfl) ?_;refine St.slot 77 (au r.graph) rfl rfl ?_;refine g3 ?_;refine St.pN (ds:=[fz f,sl cY g.rv.1 g.rules,aI cK g.rules,sl ay w1.1 (cn T),sl ay w2.1 (cr T),tz,sl aL (.slice none 0 0) [],aG r.graph,aI (λx:cX=>aG x.gr) d1.its]) (L:=[aX bp (.cells (mS g w1 w2 f n d1.dQ.1 sv.1 mb).toArray 180 (0,0)),aX mb (dh mkStr d1.m),row d1.dQ.1 186 6 d1.its.length (rows dX d1.its),row sv.1 58 1 d1.bR.length (rows cN (d1.bR.map Prod.fst))]) (X:=(ax (dx 200 3) d1.its++ax (ez 3) d1.bR)) (post:=λv L' X'=>∃d3:nA,d3.cs=vB (jg f T n g) i frm tqo (r.kids.toNat-1) d1.cs (ar r.graph) [] frm∧d3.nB=sv∧kb d3∧L'=[aF (aI (λx:cX=>aG x.gr) d3.its),aX bp (.cells (mS g w1 w2 f n d3.dQ.1 sv.1 mb).toArray 180 (0,0)),aX mb (dh mkStr d3.m),row d3.dQ.1 186 6 d3.its.length (rows dX d3.its),row sv.1 58 1 d3.bR.length (rows cN (d3.bR.map Prod.fst))]∧X'=(ax (dx 200 3) d3.its++ax (ez 3) d3.bR)) ((G5 g w1 w2 T hT nf gl f hf n hn bp mb frm tqo iH AV i (by omega) r hr hk (λi j=>(d.cs.at_ n i j).length) sv (r.kids.toNat-1) d1 r.graph bK [] frm mK vG tx sU uC kI (Gs r (ab hr)) (by simp only[List.length_nil];omega) (.inr ⟨rfl,by omega⟩) iH (λk hk=>by cases hk)).mono (λv H' ⟨d3,a1,a2,a3,a4,a5,a6⟩=>⟨_,_,a6,d3,a1,a2,a3,rfl,rfl⟩)) We (.acB rfl rfl rfl rfl rfl rfl rfl) rfl ?_;rintro v81 _ _ ⟨d3,a1,a2,a3,rfl,rfl⟩;refine St.Cd ?_;refine g8 ?_;refine St.aH ⟨i+1,d3⟩ ⟨by omega,a2,a3,by rw[hS,←kV,Zh];exact a1⟩
    ·have Zh:qs (jg f T n g) frm tqo d1.cs i=d1.cs:=by unfold qs;rw[hrE,aA (show ¬(1<(mi r).kids∧(mi r).kids≤(tqo:Int)-frm)from λhh=>by have hh1:1<r.kids:=hh.1;have hh2:r.kids≤(tqo:Int)-frm:=hh.2;omega)]
     refine g8 ?_;refine St.aH ⟨i+1,d1⟩ ⟨by omega,mK,vG,by rw[hS,←kV,Zh]⟩
   ·obtain rfl:i=g.rules.length:=by omega
    refine g5 ?_;refine St.mE d1 ⟨mK,vG,by rw[kV];unfold mR;rw[aA V9,Yv]⟩
 ·rintro d1 ⟨mK,vG,kV⟩
  refine g6 ?_;rw[←kV]at N4 BO WZ
  have Zi:Room d1.cs (vH (jg f T n g) d1.cs ((d1.cs.at_ n frm tqo).drop (0))):=by rw[List.drop_zero];exact Room.grow (hs.room.mono WZ) BO
  refine St.lH (ι:=Nat×nA) (λ⟨k,d1⟩ T=>(12,iv k)::T) (λ⟨k,d1⟩=>(aF (aI (λx:cX=>aG x.gr) d1.its)::aX bp (.cells (mS g w1 w2 f n d1.dQ.1 sv.1 mb).toArray 180 (0,0))::aX mb (dh mkStr d1.m)::row d1.dQ.1 186 6 d1.its.length (rows dX d1.its)::row sv.1 58 1 d1.bR.length (rows cN (d1.bR.map Prod.fst))::aF (fz f)::aF (sl cY g.rv.1 g.rules)::aF (aI cK g.rules)::aF (sl eF g.xv.1 g.aN)::aF (aI eB g.aN)::aF (sl ay w1.1 (cn T))::aF (sl ay w2.1 (cr T))::aF (tz)::aF (sl dY wv words)::(ax (dx 200 3) d1.its++ax (ez 3) d1.bR))) (λ⟨k,d1⟩=>d1.nB=sv∧kb d1∧fV T.length nf n d1.cs∧Room d1.cs (vH (jg f T n g) d1.cs ((d1.cs.at_ n frm tqo).drop (k)))∧∃fu,qG (jg f T n g) d1.cs ((d1.cs.at_ n frm tqo).drop (k))<fu∧qF (jg f T n g) frm tqo fu k d1.cs=p6 (jg f T n g) words frm tqo d.cs) (λ⟨k,d1⟩=>qG (jg f T n g) d1.cs ((d1.cs.at_ n frm tqo).drop (k))) ⟨0,d1⟩ (aC.cons 0 rfl (aC.cons 2 rfl (aC.cons 3 rfl aC.nil))) ⟨mK,vG,N4,Zi,qG (jg f T n g) d1.cs (d1.cs.at_ n frm tqo)+1,by rw[List.drop_zero];exact uH _,by unfold p6;rw[←kV]⟩ ?_;rintro ⟨k,d1⟩ ⟨mK,vG,wS,Zi,fu,hfu,Gh⟩
  dsimp only at mK vG wS Zi hfu Gh⊢
  obtain⟨q,hq⟩:=aE (show slt n frm tqo<d1.bR.length by rw[←DW,wS.Gp];exact s9 (by omega) AV)
  have Bi:=XG hq
  have Gr:=zU wS hq
  have r4:=Zi.its
  rw[gW]at r4;refine g7 ?_;refine St.ee (Ev.gh 2 (.mk rfl) BK trivial BS rfl rfl) ?_;refine St.slot 87 (.agg #[iv (n:Nat),sv.1]) rfl rfl ?_;refine g2 ?_;refine St.call (DI n frm tqo (slt n frm tqo) hn (by omega) (by omega) rfl sv d1.bR q hq) Ol (.eZ rfl rfl rfl) rfl ?_;rintro v90 _ ⟨rfl,rfl⟩;refine St.fk ?_;refine St.tail (ax (dx 200 3) d1.its++ax (ez 3) d1.bR) (row q.1.1 3 1 (q.2).length (rows aL (bC (q.2)))::(ax (dx 200 3) d1.its++ax (ez 3) (d1.bR.eraseIdx (slt n frm tqo)))) (p8 _ _ _ hq) ?_;refine go ?_;refine St.tail (row q.1.1 3 1 (q.2).length (rows aL (bC (q.2)))::(ax (dx 200 3) d1.its++ax (ez 3) (d1.bR.eraseIdx (slt n frm tqo)))) (ax (dx 200 3) d1.its++ax (ez 3) d1.bR) (p8 (dx 200 3) (ez 3) d1.its hq).symm ?_;refine g3 ?_;refine St.cq (λh92=> ?_) (λh92=> ?_)
  ·obtain⟨e,he⟩:=aE (show k<q.2.length by omega)
   have SO:(d1.cs.at_ n frm tqo)[k]?=some e:=by rw[Bi];exact he
   have lA:e<d1.its.length:=by rw[←gW];exact wS.qI (ab SO)
   obtain⟨xe,Gg⟩:=aE lA
   have Zj:(d1.cs.ed e).cQ=xe.cQ:=by unfold Cs.ed;rw[G4 Gg];rfl
   have amP:xe.cQ≤3:=by have:=wS.gr (bV xe) (dq (ab Gg));exact this.2.2.1
   refine g9 ?_;refine St.ee (Ev.gh 2 (.mk rfl) BK trivial BS rfl rfl) ?_;refine St.slot 98 (.agg #[iv (n:Nat),sv.1]) rfl rfl ?_;refine g2 ?_;refine St.call (DI n frm tqo (slt n frm tqo) hn (by omega) (by omega) rfl sv d1.bR q hq) Ol (.eZ rfl rfl rfl) rfl ?_;rintro amQ _ ⟨rfl,rfl⟩;refine St.fk ?_;refine St.tail (ax (dx 200 3) d1.its++ax (ez 3) d1.bR) (row q.1.1 3 1 (q.2).length (rows aL (bC (q.2)))::(ax (dx 200 3) d1.its++ax (ez 3) (d1.bR.eraseIdx (slt n frm tqo)))) (p8 _ _ _ hq) ?_;refine g2 ?_;refine St.ee (Ev.cB (.mk rfl) eN trivial (by omega) (fF (dD he))) ?_;refine St.tail (row q.1.1 3 1 (q.2).length (rows aL (bC (q.2)))::(ax (dx 200 3) d1.its++ax (ez 3) (d1.bR.eraseIdx (slt n frm tqo)))) (ax (dx 200 3) d1.its++ax (ez 3) d1.bR) (p8 (dx 200 3) (ez 3) d1.its hq).symm ?_;refine g13 ?_;refine St.ee (Ev.cB (.mk rfl) eN trivial (by omega) (db dX _ e 2 _ Gg (by decide))) ?_;refine g10 ?_;refine St.cq (λajY=> ?_) (λajY=> ?_)
   ·have Wr:xe.cQ=3:=by omega
    obtain⟨f2,g1,gq2,g3⟩:=RD (Q:=(jg f T n g)) (frm:=frm) (tqo:=tqo) SO (by rw[Zj];exact Wr) hfu;refine g10 ?_;refine St.xV ⟨k+1,d1⟩ ⟨mK,vG,wS,Zi.mono (by unfold vH;rw[oA _ SO];exact Nat.le_add_left _ _),f2,gq2,by rw[←g1];exact Gh⟩ g3 (by repeat(first|exact Sub.nil|refine Sub.cons (by first|rfl|exact congrArg (λz=>some (iv z)) (by first|omega|(dsimp only;omega))|exact congrArg (λz=>some (Value.bool z)) (by first|assumption|exact iZ (by assumption))) ?_)) (λ_ hw=>hw.sub)
   ·have Wr:xe.cQ≠3:=by omega
    have Zk:(d1.cs.ed e).cQ≠3:=by rw[Zj];exact Wr
    obtain⟨f2,g1,gq2⟩:=Zg (Q:=(jg f T n g)) (frm:=frm) (tqo:=tqo) SO Zk hfu;refine g14 ?_;refine St.lH (ι:=Nat×nA) (λ⟨i,d2⟩ T=>(122,iv i)::T) (λ⟨i,d2⟩=>(aF (aI (λx:cX=>aG x.gr) d2.its)::aX bp (.cells (mS g w1 w2 f n d2.dQ.1 sv.1 mb).toArray 180 (0,0))::aX mb (dh mkStr d2.m)::row d2.dQ.1 186 6 d2.its.length (rows dX d2.its)::row sv.1 58 1 d2.bR.length (rows cN (d2.bR.map Prod.fst))::aF (fz f)::aF (sl cY g.rv.1 g.rules)::aF (aI cK g.rules)::aF (sl eF g.xv.1 g.aN)::aF (aI eB g.aN)::aF (sl ay w1.1 (cn T))::aF (sl ay w2.1 (cr T))::aF (tz)::aF (sl dY wv words)::(ax (dx 200 3) d2.its++ax (ez 3) d2.bR))) (λ⟨i,d2⟩=>i≤g.rules.length∧d2.nB=sv∧kb d2∧d2.cs=(List.range i).foldl (qE (jg f T n g) frm tqo e) d1.cs) (λ⟨i,d2⟩=>g.rules.length-i) ⟨0,d1⟩ (aC.cons 0 rfl (aC.cons 2 rfl (aC.cons 3 rfl (aC.cons 12 rfl (aC.cons 13 rfl (aC.cons 14 rfl (aC.cons 120 rfl (aC.cons 121 rfl aC.nil)))))))) ⟨aR _,mK,vG,rfl⟩ ?_;rintro ⟨i,d2⟩ ⟨hi,qN,rP,kS⟩
    dsimp only at hi qN rP kS⊢
    refine g6 ?_;refine St.cq (λajZ=> ?_) (λajZ=> ?_)
    ·obtain⟨r,hr⟩:=aE (show i<g.rules.length by omega)
     obtain⟨hk,uC,kI⟩:=DX i r hr
     have hrE:=af2 i r hr
     obtain⟨Zl,G6,sU⟩:=RC hQ iH AV wS Zi SO Zk (show i<((jg f T n g)).rules.length by omega);rw[←kS]at Zl G6 sU;rw[hrE]at sU
     have Z3:e<d2.its.length:=by rw[←gW];exact eK (by rw[gW];exact lA) G6.more
     obtain⟨xf,Sb⟩:=aE Z3
     have zx:=ab Sb
     obtain⟨J8,R7⟩:=XH Zl Sb
     have aj0:xf.cQ=xe.cQ:=by have h:=congrArg p5.cQ (G6.ed e (by rw[gW];exact lA));rw[Zj]at h;rw[←h];unfold Cs.ed;rw[G4 Sb];rfl
     have af3:(d2.cs.ed e).cQ=xe.cQ:=by rw[←aj0];unfold Cs.ed;rw[G4 Sb];rfl
     have VA:qE (jg f T n g) frm tqo e d2.cs i=if r.kids≠1 then d2.cs else match ka (jg f T n g) d2.cs i (ar r.graph) 1 e with|none=>d2.cs|some x=>jt n d2.cs ⟨frm,tqo,xe.cQ+1,lF x⟩ ⟨i,0,[e]⟩:=by unfold qE;rw[hrE,af3];rfl
     refine St.cL cK g.rules (x:=r) (ab hr) ?_;refine St.eT (aG r.graph) [cK r] (λρ h=>h (cK r) (aU ..) (aG r.graph) (aU ..)) ?_;refine g8 ?_;refine St.ee (Ev.jj (.mk rfl) hr sg trivial l7 iY.eq) ?_;refine St.al (λb16=> ?_);refine go ?_;refine St.sA (.mk rfl) (.mk rfl) l7 ?_ (h1:=(eO.2 λu hu=>cY.one r u hu));refine g9 ?_;refine St.split 130 _ rfl (λjv=> ?_) (λjv=> ?_)
     ·have wT:r.kids≠1:=by simpa using jv
      refine St.ag rfl rfl rfl ?_;refine St.ag rfl rfl rfl ?_;refine St.ag rfl rfl rfl ?_;refine St.ag rfl rfl rfl ?_;refine St.ag rfl rfl rfl ?_;refine St.ee (Ev.eo (.mk rfl) rfl (.mk rfl)) ?_;refine g2 ?_;refine St.Ax _ rfl rfl ?_;refine g9 ?_;refine St.aH ⟨i+1,d2⟩ ⟨by omega,qN,rP,by rw[hS,←kS,VA,aB wT]⟩
     ·have wT:r.kids=1:=by simpa using jv
      have aj1:=sU wT
      refine St.aa rfl rfl ?_;refine go ?_;refine St.aa rfl rfl ?_;refine go ?_;refine St.aa rfl rfl ?_;refine go ?_;refine St.aa rfl rfl ?_;refine St.dup (fz f) ?_;refine St.tail (ax (dx 200 3) d2.its++ax (ez 3) d2.bR) (row xf.wv.1 200 3 (xf.bx).length (rows lR (xf.bx))::row xf.tv.1 3 1 (xf.bN).length (rows aL (xf.bN))::(ax (iV 3) xf.bx++(ax (dx 200 3) (d2.its.eraseIdx e)++ax (ez 3) d2.bR))) (zH _ _ Sb) ?_;refine St.call (td f hf (mS g w1 w2 f n d2.dQ.1 sv.1 mb) rfl bp i 1 (by omega) (by omega) (by omega) d2.dQ rfl d2.its e xf Sb (rP.bN xf zx)) Wf (.om rfl rfl rfl rfl) rfl ?_;rintro aj2 _ ⟨rfl,rfl⟩;refine St.wG ?_;refine St.mB [row xf.wv.1 200 3 (xf.bx).length (rows lR (xf.bx)),row xf.tv.1 3 1 (xf.bN).length (rows aL (xf.bN))] (ax (iV 3) xf.bx++(ax (dx 200 3) (d2.its.eraseIdx e)++ax (ez 3) d2.bR)) (ax (dx 200 3) d2.its++ax (ez 3) d2.bR) (zH (dx 200 3) (ax (ez 3) d2.bR) Sb).symm ?_;refine St.aa rfl rfl ?_;refine go ?_;refine St.ee (Ev.ec (.mk rfl) rfl (.mk rfl)) ?_;refine g2 ?_;refine St.cond _ rfl (λZm=> ?_) (λZm=> ?_)
      ·skip
       have J9:xf.bN.any (qL f i 1)=false:=by simpa using Zm
       have Gw:ka (jg f T n g) d2.cs i (ar r.graph) 1 e=none:=R6 Sb J9
       refine g9 ?_;refine St.aH ⟨i+1,d2⟩ ⟨by omega,qN,rP,by rw[hS,←kS,VA,aA (λh=>h wT),Gw]⟩
      ·skip
       have J9:xf.bN.any (qL f i 1)=true:=by simpa using Zm
       have Gw:ka (jg f T n g) d2.cs i (ar r.graph) 1 e=mQ (fg T) (ar r.graph) 1 (ar xf.gr):=Kn (T:=T) (n:=n) (g:=g) (y:=ar r.graph) Sb J9
       refine g3 ?_;refine St.eT (aG xf.gr) [aI (λx:cX=>aG x.gr) d2.its] (λρ h=>h _ (aU ..) xf zx) ?_;refine St.kA d2.dQ.1 (by omega) (λbs cs qJ=> ?_)
       have wS:fV T.length nf n d2.cs:=Zl
       have hrm:Room d2.cs 1:=aj1
       have r4:=hrm.its
       rw[gW]at r4;obtain⟨q0,Sa⟩:=aE (show slt n frm tqo<d2.bR.length by rw[←DW,wS.Gp];exact s9 (by omega) AV)
       have af0:=zU wS Sa
       refine St.cx (aF (sl ay w1.1 (cn T))::aF (sl ay w2.1 (cr T))::aF tz::aF (aG r.graph)::aF (aG xf.gr)::(ax (dx 200 3) d2.its++ax (ez 3) d2.bR)) mixed (λnp ns=> ?_);refine SW.gd 0 ?_;refine SW.gd 1 ?_;refine SW.gd 2 ?_;refine SW.dd 3 rfl (λ_=>Ev.gh 2 (.mk rfl) vp trivial vt rfl rfl) ?_;refine SW.slot 141 (jS w1 w2) rfl rfl ?_;refine SW.gd 4 ?_;refine SW.dd 5 rfl (λ_=>Ev.gh 1 (.mk rfl) mO trivial jb rfl rfl) ?_;refine SW.slot 143 (au r.graph) rfl rfl ?_;refine SW.gd 6 ?_;refine SW.gd 7 ?_;refine SW.gd 8 ?_;refine SW.gd 9 ?_;refine SW.gd 10 ?_;refine SW.dd 11 rfl (λ_=>Ev.mN (k:=e) qJ (.mk rfl) (.mk rfl) mn o4 (by omega) (by omega)) ?_;refine SW.dd 12 rfl (λ_=>Ev.j3 qJ (.mk rfl) tA) ?_;refine SW.dd 13 rfl (λ_=>Ev.j3 qJ (.mk rfl) xC) ?_;refine SW.dd 14 rfl (λ_=>Ev.Oy (Rr:=dX) (sz:=1) (.mk rfl) Sb mO trivial jb (by omega) (by decide) (by decide)) ?_;refine SW.slot 152 (au xf.gr) rfl rfl ?_;refine SW.t2 15 19 ?_ ?_
       focus
        refine St.fE (qh w1 w2 T hT nf gl r.graph xf.gr 1 uC J8 kI R7 (Gs r (ab hr) 1 (by omega) (by omega))) K1 (.om rfl rfl rfl rfl) rfl ?_;rintro aj3 _ ⟨u,z,rfl,hz,rfl⟩;refine St.fk ?_;refine St.cF z u (λy hy=> ?_);obtain⟨rfl,Gu⟩:=hy;refine g2 ?_;refine SW.go ?_;refine SW.gd 16 ?_;refine SW.gd 17 ?_;refine SW.gd 18 ?_;refine SW.t1 19 ?_;refine St.al (λFa=> ?_);refine g2 ?_;refine SW.go ?_;refine SW.t1 20 ?_;refine g3 ?_;refine SW.go ?_;refine SW.gd 21 ?_;refine SW.dn ?_
       rotate_left
       focus
        refine St.al (λFa=> ?_);refine g2 ?_;refine SW.go ?_;refine SW.t1 15 ?_;refine St.fE (qh w1 w2 T hT nf gl r.graph xf.gr 1 uC J8 kI R7 (Gs r (ab hr) 1 (by omega) (by omega))) K1 (.om rfl rfl rfl rfl) rfl ?_;rintro aj3 _ ⟨u,z,rfl,hz,rfl⟩;refine St.fk ?_;refine St.cF z u (λy hy=> ?_);obtain⟨rfl,Gu⟩:=hy;refine g2 ?_;refine SW.go ?_;refine SW.gd 16 ?_;refine SW.gd 17 ?_;refine SW.gd 18 ?_;refine SW.t1 20 ?_;refine g3 ?_;refine SW.go ?_;refine SW.gd 21 ?_;refine SW.dn ?_
       all_goals
        refine g6 ?_;refine St.cond _ rfl (λZn=> ?_) (λZn=> ?_)
        ·skip
         obtain⟨z1,V6⟩:∃z1,mQ (fg T) (ar r.graph) 1 (ar xf.gr)=some z1:=Option.isSome_iff_exists.1 (by simpa using Zn)
         have hzz:=hz z1 V6
         rw[hzz]at Gu;rw[V6,←Gu]at Gw;rw[←Gu]at V6;obtain⟨y1,y2,y3⟩:=IX qC uC J8 V6
         have hyl:y.nodes.length≤60:=by rw[←cP];exact y2
         have hyt:0≤qp (ar y) 0:=(xL y1).2 (y3 0 ((xL uC).1 (Gs r (ab hr) 0 (by omega) (by omega))))
         refine g6 ?_;refine St.slot 161 (iv ((xe.cQ+1:Nat):Int)) rfl (congrArg iv (by push_cast;rfl)) ?_;refine go ?_;refine St.slot 162 (au y) rfl rfl ?_;refine St.fE (qK y T.length nf gl y1 (by omega) hyt) Om (.bB rfl) rfl ?_;rintro aj4 _ rfl;refine St.fk ?_;refine St.cF (lF (ar y)) aj4 (λmy hm=> ?_);obtain⟨rfl,XI⟩:=hm;obtain⟨m1,m2⟩:=qH y1 y2;rw[←XI]at m1 m2;rw[cP]at m2
         have hms:=fG m1 gl
         refine St.ee (Ev.build (bF.om rfl rfl rfl rfl) (λw=>yL rfl rfl rfl w)) ?_;refine St.slot 164 (Il frm tqo (xe.cQ+1) my.nv.1) rfl rfl ?_;refine g2 ?_;refine St.gb rfl (.bB rfl) cI eJ jA rfl rfl (by simp[Value.cells]) rfl rfl (λVB=> ?_);refine St.aO (.slice (some ⟨VB,0,none⟩) 1 1) (show _=[e].length from rfl) (show _=rows aL (bC [e])from rfl) ?_;refine St.ee (Ev.build (bF.bH rfl rfl) (λw=>yM rfl rfl w)) ?_;refine St.slot 168 (.agg #[iv (i:Nat),iv 0,.slice (some ⟨VB,0,none⟩) 1 1]) rfl rfl ?_;refine St.pN (ds:=[aG my,aI (λx:cX=>aG x.gr) d2.its]) (L:=[aX bp (.cells (mS g w1 w2 f n d2.dQ.1 sv.1 mb).toArray 180 (0,0)),aX mb (dh mkStr d2.m),row d2.dQ.1 186 6 d2.its.length (rows dX d2.its),row sv.1 58 1 d2.bR.length (rows cN (d2.bR.map Prod.fst)),row (.slice (some ⟨VB,0,none⟩) 1 1) 3 1 ([e]).length (rows aL (bC ([e])))]) (X:=(ax (dx 200 3) d2.its++ax (ez 3) d2.bR)) (post:=λv L' X'=>∃d3:nA,d3.cs=jt n d2.cs ⟨frm,tqo,(xe.cQ+1),ar my⟩ ⟨(i:Nat),0,[e]⟩∧d3.nB=sv∧kb d3∧L'=[aF (aI (λx:cX=>aG x.gr) d3.its),aX bp (.cells (mS g w1 w2 f n d3.dQ.1 sv.1 mb).toArray 180 (0,0)),aX mb (dh mkStr d3.m),row d3.dQ.1 186 6 d3.its.length (rows dX d3.its),row sv.1 58 1 d3.bR.length (rows cN (d3.bR.map Prod.fst))]∧X'=(ax (dx 200 3) d3.its++ax (ez 3) d3.bR)) ?_ Oj (.eZ rfl rfl rfl) rfl ?_
         ·subst qN
          exact(vJ g w1 w2 f n hn d2 rP bp mb frm tqo (xe.cQ+1) my (by omega) (λt ht=>by have:=(hms t ht).2;omega) (by omega) (by omega) ((i:Nat):Int) (0:Int) (by unfold bP;omega) (by omega) ⟨.slice (some ⟨VB,0,none⟩) 1 1,rfl⟩ [e] q0 Sa (by omega) (by omega) (zT hrm wS)).mono (λv H' ⟨d3,a1,a2,a3,a4,a5,a6⟩=>⟨_,_,(by rw[a2]at a6;exact a6),d3,a1,a2,a3,rfl,rfl⟩)
         rintro amR _ _ ⟨d3,a1,a2,a3,rfl,rfl⟩;refine St.Cd ?_;refine g8 ?_;refine St.aH ⟨i+1,d3⟩ ⟨by omega,a2,a3,by rw[hS,←kS,VA,aA (λh=>h wT),Gw,a1,XI]⟩
        ·skip
         have hsn:mQ (fg T) (ar r.graph) 1 (ar xf.gr)=none:=by simpa using Zn
         rw[hsn]at Gw;refine g8 ?_;refine St.aH ⟨i+1,d2⟩ ⟨by omega,qN,rP,by rw[hS,←kS,VA,aA (λh=>h wT),Gw]⟩
    ·obtain rfl:i=g.rules.length:=by omega
     rw[←Yv]at kS;obtain⟨s1,s2,s3,s4,s5⟩:=Fg hQ iH AV wS SO Zk kS;rw[←kS]at g1;refine g12 ?_;refine St.xV ⟨k+1,d2⟩ ⟨qN,rP,s1,Room.grow (Zi.mono s5) s2,f2,eK s4 (Nat.lt_succ_iff.1 gq2),by rw[←g1];exact Gh⟩ (by dsimp only;exact s4) (by repeat(first|exact Sub.nil|refine Sub.cons (by first|rfl|exact congrArg (λz=>some (iv z)) (by first|omega|(dsimp only;omega))|exact congrArg (λz=>some (Value.bool z)) (by first|assumption|exact iZ (by assumption))) ?_)) (λ_ hw=>hw.sub)
  ·have nU:(d1.cs.at_ n frm tqo).length≤k:=by rw[Bi];omega
   rw[V8 (Q:=(jg f T n g)) nU]at Gh;refine g4 ?_;refine St.dg ?_;refine St.rV [] (aF (aI (λx:cX=>aG x.gr) d1.its)::aX bp (.cells (mS g w1 w2 f n d1.dQ.1 sv.1 mb).toArray 180 (0,0))::aX mb (dh mkStr d1.m)::row d1.dQ.1 186 6 d1.its.length (rows dX d1.its)::row sv.1 58 1 d1.bR.length (rows cN (d1.bR.map Prod.fst))::(ax (dx 200 3) d1.its++ax (ez 3) d1.bR)) ?_;exact⟨d1,Gh,mK,vG,rfl⟩
end Go.Proofs.YtblifkgpebebmaaGreatDoor
