/-
  Laws of walks through programs, and facts on grammars, trees and queries.
  Conditions: none.
-/
import Derived.Test.YtblifkgpebebmaaGreatDoorGA5
set_option maxHeartbeats 1000000
set_option maxRecDepth 20000
set_option linter.unusedVariables false
set_option linter.unusedSimpArgs false
namespace Go.Proofs.YtblifkgpebebmaaGreatDoor
open Go Go.J Tryz
theorem S1 {p:Pl}{i:Nat}(h:i<p.ro.length):(pg p)[i]?=some (p.tt i,if p.rt i=i then(p.ll i).map (λl=>(l.1,(p.rt l.2.toNat:Int)))else []):=by
 unfold pg;rw[bQ,nV h];rfl
def tlk (p:Pl)(l:ko):ko:=l.map λl=>(l.1,(p.rt l.2.toNat:Int))
theorem Gu (f:Nat)(l m:aV)(pv tv lv:Value)(nt nf n:Nat)(hn:n≤120)(hn0:0<n)(P0:List Nat)(p:Pl)(ls:List CE)(o:mJ nt nf n p)(X:UF P0 p.ro)(Uh:ls.map z7=p.lk)(Y:∀q∈ls,∀x∈q.2,au.wf x)(hlen:∀q∈ls,q.2.length≤1000000)(hnt:nt≤1000000)(r:Nat)(hr:r<n):dx prog 130 #[.pointer (some ⟨f,0,none⟩),iv r] [aW f (.cells [l.1,m.1,pv,tv,lv].toArray 245 (0,0)),row pv 3 1 p.ro.length (rows aI (cW (P0))),row tv 3 1 p.ty.length (rows aI p.ty),row lv 161 1 ls.length (rows bS (ls.map Prod.fst)),aB (aF pj ls)] (λv H'=>H'=[aB (bK (gl (pg p) (p.rt r)) v)]):=by
 refine dx.body (args:=[.pointer (some ⟨f,0,none⟩),iv r]) 68 func130 rfl ntmps130 rfl (λc=> ?_);refine go ?_
 have Z:=o.lr
 have hTl:=o.lt
 have V:=o.ll
 have hll:ls.length=n:=by rw[←V,←Uh,aN]
 refine go ?_;refine St.al (λW=> ?_);refine g4 ?_;refine St.al (λb5=> ?_);refine g14 ?_;refine St.e9 163 2 ?_;refine St.aM (.slice none 0 0) (show _=([]:List df).length from rfl) (show _=rows bh []from rfl) ?_;refine St.dN cA ?_;refine St.te (ι:=Nat) (κ:=Value×List df×List Nat) (λk z T=>(15,iv k)::T) (λk z=>[aW b5 (.cells [z.1].toArray 30 (0,0)),row z.1 163 2 (z.2.1).length (rows bh (z.2.1)),aW W (.cells [(.slice none 0 0)].toArray 30 (0,0)),aW f (.cells [l.1,m.1,pv,tv,lv].toArray 245 (0,0)),row pv 3 1 p.ro.length (rows aI (cW (z.2.2))),row tv 3 1 p.ty.length (rows aI p.ty),row lv 161 1 ls.length (rows bS (ls.map Prod.fst)),aB (aF pj ls),aB (aF cA z.2.1)]) (λk z=>k≤n∧z.1.oneCell'=true∧z.2.1.map lx=(pg p).take k∧z.2.1.length=k∧UF z.2.2 p.ro∧(∀x∈z.2.1,bh.wf x)∧∀x∈z.2.1,x.aq.length≤1000000) (λk z=>n-k) 0 ((.slice none 0 0),[],P0) (aD.cons 0 rfl (aD.cons 1 rfl (aD.cons 4 rfl (aD.cons 5 rfl (aD.cons 14 rfl aD.nil))))) ⟨aO _,rfl,rfl,rfl,X,λx hx=>(by cases hx),λx hx=>(by cases hx)⟩ ?_;rintro k ⟨gv,N,P1⟩ ⟨hk,a,s,H,I,A,C⟩
 dsimp only at a s H I A C⊢
 obtain⟨rk,B,J⟩:=I;refine g6 ?_;refine St.cq (λh16=> ?_) (λh16=> ?_)
 ·have Nd:k<n:=by omega
  have hkt:=o.tt Nd
  have SM:aa (p.tt k):=by unfold aa;omega
  refine g18 ?_;refine St.ee (Ev.ct (.mk rfl) gG trivial (by omega) (gU (Pv (by omega)))) ?_;refine St.ee (Ev.build (bH.ar rfl) (λw=>E5 rfl w)) ?_;refine St.al (λb7=> ?_);refine g3 ?_;refine St.join (ι:=aV×List dw×List Nat) (λ⟨b,L,g⟩ T=>T) (λ⟨b,L,g⟩=>[aW b7 (.cells [iv (p.tt k),b.1].toArray 163 (0,0)),aW b5 (.cells [gv].toArray 30 (0,0)),row gv 163 2 (N).length (rows bh (N)),aW W (.cells [(.slice none 0 0)].toArray 30 (0,0)),aW f (.cells [l.1,m.1,pv,tv,lv].toArray 245 (0,0)),row pv 3 1 p.ro.length (rows aI (cW (g))),row tv 3 1 p.ty.length (rows aI p.ty),row lv 161 1 ls.length (rows bS (ls.map Prod.fst)),aB (aF pj ls),aB (aF cA N),aB (sl au b.1 L)]) (λ⟨b,L,g⟩=>UF g p.ro∧L.map fR=(if p.rt k=k then tlk p (p.ll k)else [])∧L.length≤1000000) (aD.cons 0 rfl (aD.cons 1 rfl (aD.cons 4 rfl (aD.cons 5 rfl (aD.cons 7 rfl (aD.cons 14 rfl (aD.cons 15 rfl aD.nil))))))) ?_ ?_
  ·refine g4 ?_
   refine St.call (find_spec f l m pv tv lv rk B p.ro (by omega) P1 J k (by omega)) E6 (.aY rfl rfl) rfl ?_;rintro v28 _ ⟨P3,rfl,K,rfl⟩;refine St.dQ ?_;refine g4 ?_;refine St.cq (λh30=> ?_) (λh30=> ?_)
   ·have GD:p.rt k=k:=(show p.ro.getD k 0=k by omega)
    obtain⟨q,D⟩:=aE (show k<ls.length by omega)
    have hqm:=ae D
    have M:p.ll k=q.2.map fR:=HI Uh D
    have hqL:=hlen q hqm
    refine St.cI pj ls (x:=q) hqm ?_;refine St.eY (sl au q.1.1 q.2) [pj q] (λρ h=>h _ (aP ..)) ?_;refine g8 ?_;refine St.ee (Ev.ct (.mk rfl) eV trivial (by omega) (r7 (show(ls.map Prod.fst)[k]?=some q.1 by rw[bQ,D];rfl))) ?_;refine g5 ?_;refine St.e9 165 2 ?_;refine St.aM (.slice none 0 0) (show _=([]:List dw).length from rfl) (show _=rows au []from rfl) ?_;refine St.te (ι:=Nat) (κ:=Value×List dw×List Nat) (λj z T=>(39,iv j)::T) (λj z=>[aW b7 (.cells [iv (p.tt k),z.1].toArray 163 (0,0)),row z.1 165 2 (z.2.1).length (rows au (z.2.1)),aW b5 (.cells [gv].toArray 30 (0,0)),row gv 163 2 (N).length (rows bh (N)),aW W (.cells [(.slice none 0 0)].toArray 30 (0,0)),aW f (.cells [l.1,m.1,pv,tv,lv].toArray 245 (0,0)),row pv 3 1 p.ro.length (rows aI (cW (z.2.2))),row tv 3 1 p.ty.length (rows aI p.ty),row lv 161 1 ls.length (rows bS (ls.map Prod.fst)),aB (aF pj ls),aB (aF cA N),aB (sl au q.1.1 q.2)]) (λj z=>j≤q.2.length∧z.1.oneCell'=true∧UF z.2.2 p.ro∧z.2.1.map fR=tlk p ((q.2.take j).map fR)∧z.2.1.length=j∧∀x∈z.2.1,au.wf x) (λj z=>q.2.length-j) 0 ((.slice none 0 0),[],P3) (aD.cons 0 rfl (aD.cons 1 rfl (aD.cons 4 rfl (aD.cons 5 rfl (aD.cons 7 rfl (aD.cons 14 rfl (aD.cons 15 rfl (aD.cons 37 rfl (aD.cons 38 rfl aD.nil))))))))) ⟨aO _,rfl,⟨rk,B,K⟩,rfl,rfl,λx hx=>(by cases hx)⟩ ?_;rintro j ⟨lw,L,g⟩ ⟨hj,O,t,G,V,E⟩
    dsimp only at O t G V E⊢
    obtain⟨F,B2,P⟩:=t;refine g6 ?_;refine St.cq (λh40=> ?_) (λh40=> ?_)
    ·obtain⟨x,hx⟩:=aE (show j<q.2.length by omega)
     obtain⟨_,H8,hx1⟩:=o.Qi _ (o.lm Nd) (fR x) (by rw[M];exact eN (ae hx))
     replace H8:0≤x.tqo:=H8
     replace hx1:x.tqo<n:=hx1
     obtain⟨d,SX⟩:∃d,d=x.tqo.toNat:=⟨_,rfl⟩
     have SZ:x.tqo=(d:Int):=by omega
     have hrx:p.ro.getD d 0<n:=o.AB d (by omega)
     refine g7 ?_;refine St.ee (Ev.jr (.mk rfl) hx lB trivial dh j7.eq) ?_;refine St.al (λb9=> ?_);refine g3 ?_;refine St.da [aW b7 (.cells [iv (p.tt k),lw].toArray 163 (0,0)),row lw 165 2 (L).length (rows au (L)),aW f (.cells [l.1,m.1,pv,tv,lv].toArray 245 (0,0)),row pv 3 1 p.ro.length (rows aI (cW (g)))] mixed (λnp ns=> ?_)
     repeat' first
      |with_reducible refine SW.me ?_
       first
        |refine SW.gd 0 ?_
        |refine SW.gd 2 ?_
        |refine SW.gd 3 ?_
        |refine SW.gd 4 ?_
        |refine SW.gd 5 ?_
        |refine SW.gd 6 ?_
         refine SW.slot 49 (iv (d:Nat)) rfl (congrArg iv SZ) ?_
        |refine SW.dd 8 rfl (λ_=>Ev.build (ps:=[(0,(.tmp 46)),(1,(.tmp 50))]) (bH.aY rfl rfl) (λw=>ow rfl rfl w)) ?_
        |refine SW.gd 11 ?_
        |refine SW.t2 1 7 ?_ ?_
        |refine SW.t1 7 ?_
        |refine SW.t1 9 ?_
        |refine SW.t1 10 ?_
        |refine SW.t1 12 ?_
        |refine SW.t2 1 9 ?_ ?_
        |refine SW.t1 1 ?_
      |with_reducible refine SW.tg 1 ?_
       refine g3 ?_;refine SW.go ?_
      |with_reducible refine SW.tg 7 ?_
       refine St.call (find_spec f l m pv tv lv F B2 p.ro (by omega) g P d (by omega)) E6 (.aY rfl rfl) rfl ?_;rintro v50 _ ⟨P4,rfl,Q,rfl⟩;refine St.dQ ?_;refine g2 ?_;refine SW.go ?_
      |with_reducible refine SW.tg 9 ?_
       refine St.fp rfl (.ar rfl) eV dh kI rfl rfl (by simp[Value.cells]) rfl rfl (λb52=> ?_);refine g2 ?_;refine SW.go ?_
      |with_reducible refine SW.tg 10 ?_
       refine St.aj (.mk rfl) (.mk rfl) eV dh kI qC (by simp[Value.oneCell',Value.cells]) (by omega) (by omega) rfl rfl rfl rfl (λv53 anT=> ?_);refine St.aM v53 (show _=(L++ [(⟨x.dF,(p.ro.getD d 0:Nat)⟩:dw)]).length from cR) (show _=rows au (L++ [(⟨x.dF,(p.ro.getD d 0:Nat)⟩:dw)]) by rw[ax];rfl) ?_;refine St.bZ v53 (λR _=> ?_);refine g2 ?_;refine SW.go ?_
      |with_reducible refine SW.tg 12 ?_
       refine St.cJ (.mk rfl) (.mk rfl) pX R (by rfl) ?_;refine g2 ?_;refine SW.go ?_
     all_goals refine SW.dn ?_
     all_goals
      refine g7 ?_;refine St.ue (j+1) (v53,L++ [⟨x.dF,(p.ro.getD d 0:Nat)⟩],P4) ⟨by omega,R,⟨F,B2,Q⟩,by dsimp only;rw[cO,G,aX hx,cO];unfold tlk;rw[cO];congr 1;show [(x.dF,((p.ro.getD d 0:Nat):Int))]=[(x.dF,((p.rt x.tqo.toNat:Nat):Int))];rw[←SX];rfl,by dsimp only;rw[bN,V];rfl,λy hy=>by rcases cD.1 hy with h|h;exact E y h;rw[bO.1 h];exact⟨(Y q hqm x (ae hx)).1,by show aa ((p.ro.getD d 0:Nat):Int);unfold aa;omega⟩⟩
    ·obtain rfl:j=q.2.length:=by omega
     rw[fF (aR _)]at G;refine St.bR lw au L rfl rfl E ?_;refine g5 ?_;refine St.mE ⟨⟨lw,O⟩,L,g⟩ ⟨⟨F,B2,P⟩,by rw[aC GD,M];exact G,by dsimp only;omega⟩
   ·have GD:p.rt k≠k:=λe=>by have e2:p.ro.getD k 0=k:=e;omega
    refine g2 ?_;refine St.fk au ?_;refine St.mE ⟨bT,[],P3⟩ ⟨⟨rk,B,K⟩,by rw[aA GD];rfl,aO _⟩
  ·rintro ⟨b,L,g⟩ ⟨t,G,ah8⟩
   refine g4 ?_;refine St.slot 58 (.agg #[iv (p.tt k),b.1]) rfl rfl ?_;refine St.fp rfl (.ar rfl) oZ jS GB rfl rfl (by simp[Value.cells]) rfl rfl (λb59=> ?_);refine St.aj (.mk rfl) (.mk rfl) oZ jS GB Md (by intro u hu;have Np:u∈[iv (p.tt k),b.1]:=hu;simp only[List.mem_cons,List.not_mem_nil,or_false]at Np;rcases Np with rfl|rfl;rfl;exact b.2) (by omega) (by omega) rfl rfl rfl rfl (λv60 anX=> ?_);refine St.aM v60 (show _=(N++ [(⟨p.tt k,b,L⟩:df)]).length from cR) (show _=rows bh (N++ [(⟨p.tt k,b,L⟩:df)]) by rw[ax];rfl) ?_;refine St.bZ v60 (λS _=> ?_);refine St.eY (aF cA (N++ [(⟨p.tt k,b,L⟩:df)])) [aF cA N,sl au b.1 L] (λρ h x hx=>by rcases cD.1 hx with hx|hx;exact h _ (aP ..) x hx;rw[bO.1 hx];exact h _ (cN _ (aP ..))) ?_;refine go ?_;refine St.cJ (.mk rfl) (.mk rfl) ae9 S (by rfl) ?_;refine g8 ?_;refine St.ue (k+1) (v60,N++ [⟨p.tt k,b,L⟩],g) ⟨by omega,S,by dsimp only;rw[cO,s,aX (S1 (p:=p) (i:=k) (by omega))];congr 1;show [(p.tt k,L.map fR)]=_;rw[G];rfl,by dsimp only;rw[bN,H];rfl,t,λx hx=>by rcases cD.1 hx with h|h;exact A x h;rw[bO.1 h];exact SM,λx hx=>by rcases cD.1 hx with h|h;exact C x h;rw[bO.1 h];exact ah8⟩
 ·obtain rfl:k=n:=by omega
  have hgl:(pg p).length=k:=by rw[tZ];exact Z
  rw[fF (by omega)]at s
  have Gy:=NM o (by omega)
  have We:=o.AB r hr
  refine St.bR gv bh N rfl rfl A ?_;refine St.eY (aG ⟨⟨gv,a⟩,N⟩) [sl bh gv N,aF cA N] (λρ h=>h) ?_
  have U:ay ⟨⟨gv,a⟩,N⟩=pg p:=s
  refine g6 ?_;refine St.da [aW f (.cells [l.1,m.1,pv,tv,lv].toArray 245 (0,0)),row pv 3 1 p.ro.length (rows aI (cW (P1))),aW W (.cells [(.slice none 0 0)].toArray 30 (0,0)),aB (aG ⟨⟨gv,a⟩,N⟩)] mixed (λnp ns=> ?_);refine SW.gd 0 ?_;refine SW.slot 63 (bA ⟨⟨gv,a⟩,N⟩) rfl rfl ?_;refine SW.gd 1 ?_;refine SW.gd 2 ?_;refine SW.t1 3 ?_;refine St.call (find_spec f l m pv tv lv rk B p.ro (by omega) P1 J r (by omega)) E6 (.aY rfl rfl) rfl ?_;rintro v66 _ ⟨P4,rfl,Q,rfl⟩;refine St.dQ ?_;refine g2 ?_;refine SW.go ?_;refine SW.t1 4 ?_;refine St.ag (ub ⟨⟨gv,a⟩,N⟩ (by rw[U];exact Gy.lk) (by show N.length≤120;omega) C (p.ro.getD r 0) (show p.rt r<N.length by omega)) Mk (.aY rfl rfl) rfl ?_;rintro v67 _ rfl;refine St.ao ?_;rw[U];refine St.bK (gl (pg p) (p.ro.getD r 0)) v67 (λy hy=> ?_);obtain⟨rfl,YO⟩:=hy;refine g2 ?_;refine SW.go ?_;refine SW.t1 5 ?_;refine g3 ?_;refine SW.go ?_;refine SW.dn ?_;refine g2 ?_;refine St.rV [_] [aB (bK (gl (pg p) (p.ro.getD r 0)) (bA y))] ?_;exact rfl
theorem mJ.short {nt nf n:Nat}{p:Pl}(hp:mJ nt nf n p){l:ko}(c:l∈p.lk):l.length≤nf:=by
 have d:=hp.Y9 l c
 have hk:=hp.Qi l c
 have e:(l.map λz=>z.1.toNat).Nodup:=by
  unfold List.Nodup;rw[sC];exact wY (λ{a b} h1 f h=>by have:=(hk a h1).1;have:=(hk b f).1;omega) d
 have:=kg e (n:=nf) (λj g=>by obtain⟨z,hz,rfl⟩:=cy.1 g;have:=(hk z hz).1;omega)
 rwa[aN]at this
theorem aeD {x y:dz}{a b:List CE}{m:Nat}(hm:x.length=m)(h1:a.map z7=([]:List CE).map z7++x.map (λn=>n.2.map λx=>(x.1,((0:Nat):Int)+x.2)))(c:b.map z7=a.map z7++y.map (λn=>n.2.map λx=>(x.1,(m:Int)+x.2))):b.map z7=(Pl.of x y).lk:=by
 rw[c,h1,←hm]
 show([]++x.map _)++_=x.map (·.2)++_
 rw[A6]
 congr 1
 refine C1 λn _=> ?_
 conv=>rhs;rw[←List.map_id n.2]
 exact C1 λz _=>by simp
theorem aeB {nt nf n:Nat}{p:Pl}(hp:mJ nt nf n p)(e:nf≤100)(f:n≤240){ls:List CE}(h:ls.map z7=p.lk):∀q∈ls,∀x∈q.2,au.wf x:=λq d x hx=>by
 have hm:z7 q∈p.lk:=by rw[←h];exact eN d
 obtain⟨⟨h1,a⟩,b,c⟩:=hp.Qi _ hm (fR x) (eN hx)
 have h1:0≤x.dF:=h1
 have a:x.dF<nf:=a
 have b:0≤x.tqo:=b
 have c:x.tqo<n:=c
 exact⟨by unfold aa;omega,by unfold aa;omega⟩
theorem PR {nt nf n:Nat}{p:Pl}(hp:mJ nt nf n p)(b:nf≤100){ls:List CE}(h:ls.map z7=p.lk):∀q∈ls,q.2.length≤1000000:=λq a=>by
 have hm:z7 q∈p.lk:=by rw[←h];exact eN a
 have:=hp.short hm
 have e:(z7 q).length=q.2.length:=aN _
 omega
theorem aeF (x y:dz):(Pl.of x y).ro=List.range (x.length+y.length):=rfl
theorem aeE {nt nf:Nat}{x y:dz}(hx:e7 nt nf x)(hy:e7 nt nf y)(h1:x.length≤60)(c:y.length≤60)(o:nf≤100)(w:List (Int×Int))(hw:w.length≤10):(Pl.of x y).mu w≤1000000:=by
 have hp:=Pl.OZ hx hy
 have e:∀i,i<x.length+y.length→((Pl.of x y).ll i).length≤100:=λi d=>by
  have f:=hp.Y9 _ (hp.lm d)
  have hk:=hp.Qi _ (hp.lm d)
  have:((Pl.of x y).ll i).length≤nf:=by
   have g:(((Pl.of x y).ll i).map λz=>z.1.toNat).Nodup:=by
    unfold List.Nodup;rw[sC];exact wY (λ{a b} h1 c h=>by have:=(hk a h1).1;have:=(hk b c).1;omega) f
   have:=kg g (n:=nf) (λj k=>by obtain⟨z,hz,rfl⟩:=cy.1 k;have:=(hk z hz).1;omega)
   rwa[aN]at this
  omega
 have l:∀n,n≤x.length+y.length→fx (λi=>if(Pl.of x y).rt i=i then((Pl.of x y).ll i).length else 0) n≤n*100:=by
  intro n
  induction n with
  |zero=>intro _;exact aO _
  |succ n m=>
   intro h
   have:=m (by omega)
   have:=e n (by omega)
   rw[fx]
   split<;>omega
 have:=l _ (aR _)
 unfold Pl.mu Pl.left;rw[hp.lr];omega
theorem qn (d e:aV)(T:List ej)(Q:im T)(nf:Nat)(A:nf≤100)(a b:dD)(B:e7 T.length nf (ay a))(x:e7 T.length nf (ay b))(hla:a.nodes.length≤60)(W:b.nodes.length≤60)(C:∀t∈a.nodes,t.aq.length≤1000000)(D:∀t∈b.nodes,t.aq.length≤1000000)(node:Nat)(Ko:node<a.nodes.length):dx prog 92 #[kC d e,bA a,iv node,bA b] ([sl bF d.1 (de T),sl bF e.1 (db T),tz,aG a,aG b].map aB) (λv H'=>∃u,v= .tuple #[u,.bool (dT (hC T) (ay a) node (ay b)).isSome]∧H'=[aB (bK ((dT (hC T) (ay a) node (ay b)).getD []) u)]):=by
 refine dx.body (args:=[kC d e,bA a,iv node,bA b]) 27 func92 rfl ntmps92 rfl (λc=> ?_);refine St.cast (H':=[aB (sl bF d.1 (de T)),aB (sl bF e.1 (db T)),aB (tz),aB (aG a),aB (aG b)]) rfl ?_;refine go ?_
 have f:=cz a
 have j:=cz b
 have hTl:=Q.len
 have k:=Pl.OZ B x
 have E:=aeE B x (by omega) (by omega) A [((node:Int),((ay a).length:Int))] (by simp)
 refine go ?_;refine St.dK (.mk rfl) rfl (λb4=> ?_);refine St.dK (.mk rfl) rfl (λb5=> ?_);refine St.dK (.mk rfl) rfl (λb7=> ?_);refine St.al (λb8=> ?_);refine g6 ?_;refine St.slot 11 (kC d e) rfl rfl ?_;refine St.ee (Ev.build (bH.ar rfl) (λw=>MX w)) ?_;refine St.dK (.mk rfl) rfl (λz=> ?_);refine g4 ?_;refine St.e9 3 1 ?_;refine St.aM (.slice none 0 0) (show _=(List.range 0).length from rfl) (show _=rows aI (cW (List.range 0))from rfl) ?_;refine St.e9 161 1 ?_;refine St.aM (.slice none 0 0) (show _=([]:List CE).length from rfl) (show _=rows bS (([]:List CE).map Prod.fst)from rfl) ?_;refine St.e9 3 1 ?_;refine St.aM (.slice none 0 0) (show _=([]:List Int).length from rfl) (show _=rows aI []from rfl) ?_;refine St.dN pj ?_;refine g3 ?_;refine St.slot 15 (bA a) rfl rfl ?_;refine St.call (uB z d e a B.lk (by omega) C 0 (by omega) [] rfl [] rfl (.slice none 0 0) (.slice none 0 0) (.slice none 0 0) ⟨rfl,rfl,rfl⟩) UH (.aY rfl rfl) rfl ?_;rintro X _ ⟨pv,tv,lv,l,rfl,⟨h1,Y,Z⟩,m,rfl⟩;refine St.CO ?_;refine g9 ?_;refine St.slot 20 (bA b) rfl rfl ?_
 have F:l.length=a.nodes.length:=by have:=congrArg List.length m;simpa[f]using this
 refine St.aM pv (show _=(List.range a.nodes.length).length by rw[jG]) (show _=rows aI (cW (List.range a.nodes.length)) by rw[jG]) ?_;refine St.aM tv (show _=(a.nodes.map df.type).length from rfl) (show _=rows aI (a.nodes.map df.type)from rfl) ?_;refine St.call (uB z d e b x.lk (by omega) D a.nodes.length (by omega) (a.nodes.map df.type) (aN _) l F pv tv lv ⟨h1,Y,Z⟩) UH (.aY rfl rfl) rfl ?_;rintro v21 _ ⟨g,i,n,o,rfl,G,H,rfl⟩;refine St.CO ?_
 have q:(Pl.of (ay a) (ay b)).ro=List.range (a.nodes.length+b.nodes.length):=by rw[aeF,f,j]
 have R:(Pl.of (ay a) (ay b)).ty=a.nodes.map df.type++b.nodes.map df.type:=by show(ay a).map Prod.fst++(ay b).map Prod.fst=_;show(a.nodes.map lx).map Prod.fst++(b.nodes.map lx).map Prod.fst=_;rw[kH,kH];rfl
 have S:o.map z7=(Pl.of (ay a) (ay b)).lk:=aeD f m H
 have I:=aeB k A (by omega) S
 refine St.aM g (show _=(Pl.of (ay a) (ay b)).ro.length by rw[q]) (show _=rows aI (cW (List.range (a.nodes.length+b.nodes.length)))from rfl) ?_;refine St.aM i (show _=(Pl.of (ay a) (ay b)).ty.length by rw[R]) (show _=rows aI (Pl.of (ay a) (ay b)).ty by rw[R]) ?_;refine St.call (L6 z d e g i n G T Q nf (a.nodes.length+b.nodes.length) 1000000 (by omega) (aR _) (List.range (a.nodes.length+b.nodes.length)) (Pl.of (ay a) (ay b)) o node (a.nodes.length:Nat) ⟨by omega,by omega⟩ ⟨by omega,by have:=x.pos;omega⟩ (by rw[←f,←j];exact k) (by rw[q];exact UF.range _) S I (by rw[←f];exact E)) ZO (.eh rfl rfl rfl) rfl ?_;rintro v22 _ ⟨U,P1,p,J,rfl,WW,K,rfl⟩;refine St.CO ?_;refine g3 ?_;refine St.cond _ rfl (λL=> ?_) (λL=> ?_)
 ·skip
  have M:U=false:=by simpa using L
  have N:=WW M
  have r:dT (hC T) (ay a) node (ay b)=none:=by unfold dT;rw[f];rw[N];rfl
  refine g2 ?_;refine St.ee (Ev.build (bH.nil) (λw=>Vg w)) ?_;refine g6 ?_;refine St.fk bh ?_;refine St.dN cA ?_;refine St.eY (bK ((dT (hC T) (ay a) node (ay b)).getD []) (.agg #[(.slice none 0 0)])) [sl bh (.slice none 0 0) [],aF cA []] (λρ h=>⟨⟨bT,[]⟩,rfl,by rw[r];rfl,h⟩) ?_;refine St.rV [_,_] [aB (bK ((dT (hC T) (ay a) node (ay b)).getD []) (.agg #[(.slice none 0 0)]))] ?_;exact⟨_,by rw[r];rfl,rfl⟩
 ·skip
  have GD:U=true:=by simpa using L
  obtain⟨N,V,O,s,P⟩:=K GD
  have r:dT (hC T) (ay a) node (ay b)=some (gl (pg p) (p.rt 0)):=by unfold dT;rw[f,N];rfl
  refine g5 ?_;refine St.call (Gu z d e g i n T.length nf (a.nodes.length+b.nodes.length) (by omega) (by omega) P1 p J V O s P (PR V A s) (by omega) 0 (by omega)) ZP (.aY rfl rfl) rfl ?_;rintro v26 _ rfl;refine St.ao ?_;refine St.bK (gl (pg p) (p.rt 0)) v26 (λy hy=> ?_);obtain⟨rfl,YO⟩:=hy;refine g5 ?_;refine St.eY (bK ((dT (hC T) (ay a) node (ay b)).getD []) (bA y)) [bK (gl (pg p) (p.rt 0)) (bA y)] (λρ h=>by rw[r];exact h _ (aP ..)) ?_;refine St.rV [_,_] [aB (bK ((dT (hC T) (ay a) node (ay b)).getD []) (bA y))] ?_;exact⟨_,by rw[r];rfl,rfl⟩
theorem gP {nt nf:Nat}{g:dD}(h:e7 nt nf (ay g))(m:nf≤100):∀t∈g.nodes,Asc t.aq∧t.aq.length≤100:=λt ht=>by
 obtain⟨_,c,hk⟩:=h.nd (lx t) (eN ht)
 have c:sF (t.aq.map fR):=c
 have hk:∀x∈t.aq.map fR,(0≤x.1∧x.1<nf)∧0≤x.2∧x.2<(ay g).length:=hk
 refine⟨λi j x y e hx hy=> ?_,?_⟩
 ·have d:=ah hy
  have f:=ah hx
  have:=List.pairwise_iff_getElem.1 c i j (by simpa using f) (by simpa using d) e
  rw[List.getElem_map,List.getElem_map]at this;rw[bU f]at hx;rw[bU d]at hy;obtain rfl:=Option.some.inj hx;obtain rfl:=Option.some.inj hy;exact this
 ·have k:((t.aq.map fR).map λz=>z.1.toNat).Nodup:=by
   unfold List.Nodup;rw[sC];exact wY (λ{a b} h1 l h=>by have:=(hk a h1).1;have:=(hk b l).1;omega) c
  have:=kg k (n:=nf) (λj d=>by obtain⟨z,hz,rfl⟩:=cy.1 d;have:=(hk z hz).1;omega)
  rw[aN,aN]at this;omega
theorem zn (G:dz)(k:Int):Fj G 0 k=rR G k:=rfl
theorem Xi {mt:Nat→Nat→Option Nat}{x y:dz}{a:Int}{n:Nat}(b:(rR x a).toNat=n){z:dz}(hz:z=(dT mt x n y).getD []):((dT mt x n y).isSome&&decide ((z.length:Int)≤60))=(mw mt x a y).isSome∧∀w,mw mt x a y=some w→z=w:=by
 subst b;unfold mw
 cases h:dT mt x (rR x a).toNat y with
 |none=>rw[h]at hz;exact⟨rfl,λw hw=>by cases hw⟩
 |some u=>
  rw[h]at hz;obtain rfl:z=u:=hz
  dsimp only
  by_cases c:z.length≤60
  ·rw[aC c];exact⟨by simp;omega,λw hw=>Option.some.inj hw⟩
  ·rw[aA c];exact⟨by simp;omega,λw hw=>by cases hw⟩
theorem px (x:dD)(nt nf:Nat)(d:nf≤100)(hx:e7 nt nf (ay x))(e:x.nodes.length≤120)(h:0≤rR (ay x) 0):dx prog 118 #[bA x] ([aG x].map aB) (λv H'=>H'=[aB (bK (lu (ay x)) v)]):=by
 refine dx.body (args:=[bA x]) 7 func118 rfl ntmps118 rfl (λc=> ?_);refine St.cast (H':=[aB (aG x)]) rfl ?_;refine go ?_
 have i:=cz x
 have a:=gP hx d
 have j:=hx.pos
 have k:=zm hx 0
 obtain⟨r,f⟩:∃r,r=(rR (ay x) 0).toNat:=⟨_,rfl⟩
 refine go ?_;refine St.dK (.mk rfl) rfl (λl=> ?_);refine St.al (λg=> ?_);refine g3 ?_;refine St.dup (aG x) ?_;refine St.da [aW g (.cells [(.slice none 0 0)].toArray 30 (0,0)),aB (aG x)] mixed (λm o=> ?_);refine SW.gd 0 ?_;refine SW.slot 3 (bA x) rfl rfl ?_;refine SW.gd 1 ?_;refine SW.slot 4 (bA x) rfl rfl ?_;refine SW.dd 2 rfl (λ_=>Ev.call (nB x 0 0 (by omega) (λn b=>⟨(a n b).1,by have:=(a n b).2;omega⟩)) IZ (.eh rfl rfl rfl)) ?_;refine SW.slot 5 (iv (r:Nat)) rfl (congrArg iv (by rw[zn];omega)) ?_;refine SW.t1 3 ?_;refine St.ag (ub x hx.lk e (λt ht=>by have:=(a t ht).2;omega) r (by omega)) Mk (.aY rfl rfl) rfl ?_;rintro v6 _ rfl;refine St.ao ?_;rw[show gl (ay x) r=lu (ay x) by unfold lu;rw[←f]];refine St.bK (lu (ay x)) v6 (λy hy=> ?_);obtain⟨rfl,p⟩:=hy;refine g2 ?_;refine SW.go ?_;refine SW.t1 4 ?_;refine g3 ?_;refine SW.go ?_;refine SW.dn ?_;refine g2 ?_;refine St.rV [_] [aB (bK (lu (ay x)) (bA y))] ?_;exact rfl
theorem qs (b d:aV)(T:List ej)(p:im T)(nf:Nat)(l:nf≤100)(x y:dD)(e:Int)(hx:e7 T.length nf (ay x))(hy:e7 T.length nf (ay y))(q:x.nodes.length≤60)(s:y.nodes.length≤60)(G:0≤rR (ay x) e):dx prog 124 #[kC b d,bA x,iv e,bA y] ([sl bF b.1 (de T),sl bF d.1 (db T),tz,aG x,aG y].map aB) (λv H'=>∃u z,v= .tuple #[u,.bool (mw (hC T) (ay x) e (ay y)).isSome]∧(∀w,mw (hC T) (ay x) e (ay y)=some w→z=w)∧H'=[aB (bK z u)]):=by
 refine dx.body (args:=[kC b d,bA x,iv e,bA y]) 30 func124 rfl ntmps124 rfl (λc=> ?_);refine St.cast (H':=[aB (sl bF b.1 (de T)),aB (sl bF d.1 (db T)),aB (tz),aB (aG x),aB (aG y)]) rfl ?_;refine go ?_
 have H:=cz x
 have a:=gP hx l
 have g:=gP hy l
 have I:=hx.pos
 have J:=zm hx e
 obtain⟨r,B⟩:∃r,r=(rR (ay x) e).toNat:=⟨_,rfl⟩
 refine go ?_;refine St.dK (.mk rfl) rfl (λK=> ?_);refine St.dK (.mk rfl) rfl (λL=> ?_);refine St.dK (.mk rfl) rfl (λM=> ?_);refine St.al (λC=> ?_);refine g4 ?_;refine St.dup (aG x) ?_;refine St.da [aB (sl bF b.1 (de T)),aB (sl bF d.1 (db T)),aB tz,aB (aG x),aB (aG y)] mixed (λi j=> ?_);refine SW.gd 0 ?_;refine SW.slot 13 (kC b d) rfl rfl ?_;refine SW.gd 1 ?_;refine SW.slot 14 (bA x) rfl rfl ?_;refine SW.gd 2 ?_;refine SW.slot 15 (bA x) rfl rfl ?_;refine SW.gd 3 ?_;refine SW.dd 4 rfl (λ_=>Ev.call (nB x 0 e (by omega) (λn A=>⟨(a n A).1,by have:=(a n A).2;omega⟩)) IZ (.eh rfl rfl rfl)) ?_;refine SW.slot 17 (iv (r:Nat)) rfl (congrArg iv (by rw[zn];omega)) ?_;refine SW.gd 5 ?_;refine SW.slot 18 (bA y) rfl rfl ?_;refine SW.t2 6 10 ?_ ?_
 focus
  refine St.ag (qn b d T p nf l x y hx hy q s (λt ht=>by have:=(a t ht).2;omega) (λt ht=>by have:=(g t ht).2;omega) r (by omega)) RJ (.gW rfl rfl rfl rfl) rfl ?_;rintro m _ ⟨u,rfl,rfl⟩;refine St.ao ?_;refine St.bK ((dT (hC T) (ay x) r (ay y)).getD []) u (λz hz=> ?_);obtain⟨rfl,k⟩:=hz;refine g2 ?_;refine SW.go ?_;refine SW.gd 7 ?_;refine SW.gd 8 ?_;refine SW.gd 9 ?_;refine SW.t1 10 ?_;refine St.al (λD=> ?_);refine g2 ?_;refine SW.go ?_;refine SW.t1 11 ?_;refine g3 ?_;refine SW.go ?_;refine SW.gd 12 ?_;refine SW.dn ?_
 rotate_left
 focus
  refine St.al (λD=> ?_);refine g2 ?_;refine SW.go ?_;refine SW.t1 6 ?_;refine St.ag (qn b d T p nf l x y hx hy q s (λt ht=>by have:=(a t ht).2;omega) (λt ht=>by have:=(g t ht).2;omega) r (by omega)) RJ (.gW rfl rfl rfl rfl) rfl ?_;rintro m _ ⟨u,rfl,rfl⟩;refine St.ao ?_;refine St.bK ((dT (hC T) (ay x) r (ay y)).getD []) u (λz hz=> ?_);obtain⟨rfl,k⟩:=hz;refine g2 ?_;refine SW.go ?_;refine SW.gd 7 ?_;refine SW.gd 8 ?_;refine SW.gd 9 ?_;refine SW.t1 11 ?_;refine g3 ?_;refine SW.go ?_;refine SW.gd 12 ?_;refine SW.dn ?_
 all_goals
  refine g2 ?_;refine St.eY (sl bh z.nv.1 z.nodes) [aG z] (λρ h=>h (aG z) (aP ..) _ (aP ..)) ?_;obtain⟨E,F⟩:=Xi (mt:=hC T) (y:=ay y) B.symm k
  have o:=cz z
  refine St.da [aW C (.cells [(.slice none 0 0)].toArray 30 (0,0))] mixed (λi j=> ?_);refine SW.gd 0 ?_;refine SW.slot 22 (bA z) rfl rfl ?_;refine SW.gd 1 ?_;refine SW.gd 2 ?_;refine SW.gt 3 _ i j rfl rfl rfl (λR f=>Ev.dV (.mk rfl) uy) (by kernel_rfl) rfl ?_;refine SW.gt 4 _ i j rfl rfl rfl (λR f=>Ev.kP (ai.gv rfl f) oZ trivial (by rfl)) (by kernel_rfl) rfl ?_;refine SW.gt 5 _ i j rfl rfl rfl (λR f=>Ev.fj (ai.gv rfl f) oZ) (by kernel_rfl) rfl ?_;refine SW.gt 6 _ i j rfl rfl rfl (λR f=>Ev.leq (ai.gv rfl f) (.mk rfl)) (by kernel_rfl) rfl ?_;refine SW.gd 7 ?_;refine SW.t1 8 ?_;refine g3 ?_;refine SW.go ?_;refine SW.gd 9 ?_;refine SW.dn ?_;refine g2 ?_;refine St.eY (bK (ay z) (bA z)) [aG z] (λρ h=>⟨z,rfl,rfl,h _ (aP ..)⟩) ?_;refine St.rV [_,_] [aB (bK (ay z) (bA z))] ?_;refine⟨bA z,ay z,?_,F,rfl⟩;rw[←E,o]
  first|rfl|(cases N:(dT (hC T) (ay x) r (ay y)).isSome<;>simp)
structure GU (nt nf n frm tqo ch:Nat)(cs fg:Cs)(a:Nat):Prop where
 ok:gi nt nf n fg
 gr:Grow n frm tqo cs fg a
 news:∃news,fg.at_ n frm tqo=cs.at_ n frm tqo++news∧news.length≤a∧∀e∈news,(fg.ed e).cw=ch
theorem GU.refl {nt nf n frm tqo ch:Nat}{cs:Cs}(h:gi nt nf n cs):GU nt nf n frm tqo ch cs cs 0:=⟨h,Grow.refl ..,[],by simp,aR _,λe h=>by cases h⟩
theorem GU.mono {nt nf n frm tqo ch:Nat}{cs fg:Cs}{a b:Nat}(h:GU nt nf n frm tqo ch cs fg a)(c:a≤b):GU nt nf n frm tqo ch cs fg b:=
 let⟨news,h1,e,d⟩:=h.news
 ⟨h.ok,h.gr.mono c,news,h1,by omega,d⟩
theorem GU.trans {nt nf n frm tqo ch:Nat}{x y z:Cs}{a b:Nat}(h:GU nt nf n frm tqo ch x y a)(k:GU nt nf n frm tqo ch y z b):GU nt nf n frm tqo ch x z (a+b):=by
 obtain⟨u,h1,f,c⟩:=h.news;obtain⟨v,d,g,k3⟩:=k.news;refine⟨k.ok,h.gr.trans k.gr,u++v,by rw[d,h1,dp],by rw[bN];omega,λe he=> ?_⟩
 rcases cD.1 he with he|he
 ·rw[k.gr.ed e (h.ok.q8 (show e∈y.at_ n frm tqo by rw[h1];simp[he]))];exact c e he
 ·exact k3 e he
theorem R2 {n:Nat}(cs:Cs)(e:oh)(w:ud)(h:slt n e.frm e.tqo<cs.sp.length):∃news,(kZ n cs e w).at_ n e.frm e.tqo=cs.at_ n e.frm e.tqo++news∧news.length≤1∧∀i∈news,(kZ n cs e w).ed i=e:=by
 unfold kZ
 cases b:xX cs.its (fZ e)with
 |some i=>exact⟨[],by simp[Cs.at_],aO _,λi h=>by cases h⟩
 |none=>
  refine⟨[cs.its.length],?_,aR _,λi a=> ?_⟩
  ·unfold Cs.at_
   dsimp only
   rw[getD_modify (show e.frm*(n+1)+e.tqo<cs.sp.length from h),aC rfl]
  ·rw[bO.1 a]
   unfold Cs.ed
   dsimp only
   rw[aw,lZ (aR _),ff];rfl
theorem Jq {nt nf:Nat}{Q:Qr}(c:qq nt nf Q){frm tqo:Nat}(d:frm<tqo)(ht:tqo≤Q.n){cs:Cs}(h:gi nt nf Q.n cs){e ch i:Nat}(he:e<cs.its.length)(f:(cs.ed e).cw=ch)(s:ch<3)(g:i<Q.rules.length):
 GU nt nf Q.n frm tqo (ch+1) cs (qd Q frm tqo e cs i) (if decide ((Q.rules.getD i oQ).kids=1)=true then 1 else 0):=by
 obtain⟨_,l,_⟩:=c.vY g;unfold qd
 by_cases hk:(Q.rules.getD i oQ).kids=1
 ·rw[aA (λx=>x hk),aC (dt hk)]
  cases hy:lO Q cs i (Q.rules.getD i oQ).graph 1 e with
  |none=>exact(GU.refl h).mono (aO _)
  |some x=>
   dsimp only
   obtain⟨m,o,_⟩:=vp c.mt h l he hy;obtain⟨m1,m2⟩:=qP m o;obtain⟨a,b⟩:=yF c.n h (e:=⟨frm,tqo,(cs.ed e).cw+1,lu x⟩) (w:=⟨i,0,[e]⟩) ⟨d,ht,by dsimp only;omega,m1,m2⟩ (λk hk=>by rw[bO.1 hk];exact he);obtain⟨news,p,q,n3⟩:=R2 cs ⟨frm,tqo,(cs.ed e).cw+1,lu x⟩ ⟨i,0,[e]⟩ (by rw[h.GF];exact sW (by dsimp only;omega) ht);exact⟨a,b,news,p,q,λj r=>by rw[n3 j r];dsimp only;rw[f]⟩
 ·rw[aC hk,aA (λx=>hk (ei x))]
  exact GU.refl h
theorem zx {nt nf:Nat}{Q:Qr}(a:qq nt nf Q){frm tqo:Nat}(b:frm<tqo)(ht:tqo≤Q.n){e ch:Nat}(c:ch<3):∀(l:List Nat) (cs:Cs),(∀i∈l,i<Q.rules.length)→gi nt nf Q.n cs→e<cs.its.length→(cs.ed e).cw=ch→
 GU nt nf Q.n frm tqo (ch+1) cs (l.foldl (qd Q frm tqo e) cs) ((l.map λi=>if decide ((Q.rules.getD i oQ).kids=1)=true then 1 else 0).sum)
 | [],cs,_,h,_,_=>GU.refl h
 |i::l,cs,d,h,he,f=>by
  have h1:=Jq a b ht h he f c (d i (by simp))
  have g:=zx a b ht c l (qd Q frm tqo e cs i) (λj k=>d j (by simp[k])) h1.ok (fQ he h1.gr.more) (by rw[h1.gr.ed e he];exact f)
  exact h1.trans g
theorem Bq {nt nf:Nat}{Q:Qr}(a:qq nt nf Q){frm tqo:Nat}(b:frm<tqo)(ht:tqo≤Q.n){e ch:Nat}(c:ch<3){cs:Cs}(h:gi nt nf Q.n cs)(he:e<cs.its.length)(d:(cs.ed e).cw=ch):
 GU nt nf Q.n frm tqo (ch+1) cs ((List.range Q.rules.length).foldl (qd Q frm tqo e) cs) (hP Q):=by
 have:=zx a b ht c (List.range Q.rules.length) cs (λi f=>dq.1 f) h he d
 rw[rE (λr:sg=>decide (r.kids=1)) oQ 1 Q.rules,gX]at this;exact this
def vQ (Q:Qr)(cs:Cs)(l:List Nat):Nat:=(l.map λe=>jy (hP Q) (3-(cs.ed e).cw)).sum
theorem oK {α:Type}(f:α→Nat){l:List α}{k:Nat}{a:α}(h:l[k]?=some a):((l.drop k).map f).sum=f a+((l.drop (k+1)).map f).sum:=by
 rw[bP h,fL,oc]
theorem tm {α:Type}{f g:α→Nat}{l:List α}(h:∀a∈l,f a=g a):(l.map f).sum=(l.map g).sum:=by rw[C1 h]
theorem Fx {nt nf:Nat}{Q:Qr}(m:qq nt nf Q){frm tqo:Nat}(o:frm<tqo)(ht:tqo≤Q.n){cs:Cs}(h:gi nt nf Q.n cs){k e:Nat}(hk:(cs.at_ Q.n frm tqo)[k]?=some e)(q:(cs.ed e).cw≠3){fg:Cs}(b:fg=(List.range Q.rules.length).foldl (qd Q frm tqo e) cs):
 gi nt nf Q.n fg∧Grow Q.n frm tqo cs fg (hP Q)∧k+1≤(fg.at_ Q.n frm tqo).length∧qT Q fg ((fg.at_ Q.n frm tqo).drop (k+1))+1≤qT Q cs ((cs.at_ Q.n frm tqo).drop k)∧hP Q+vQ Q fg ((fg.at_ Q.n frm tqo).drop (k+1))≤vQ Q cs ((cs.at_ Q.n frm tqo).drop k):=by
 have c:=ae hk
 have d:=h.q8 c
 have r:(cs.ed e).cw≤3:=by
  unfold Cs.ed;rw[aw,bU d];exact(h.gr _ (gz d)).2.2.1
 have hu:=Bq m o ht (e:=e) (ch:=(cs.ed e).cw) (by omega) h d rfl
 rw[←b]at hu;obtain⟨news,f,g,n3⟩:=hu.news
 have s:=ah hk
 have hd:(fg.at_ Q.n frm tqo).drop (k+1)=(cs.at_ Q.n frm tqo).drop (k+1)++news:=by rw[f,List.drop_append_of_le_length (by omega)]
 have hold:∀j∈(cs.at_ Q.n frm tqo).drop (k+1),fg.ed j=cs.ed j:=λj a=>hu.gr.ed j (h.q8 (G9 a))
 have p:3-(cs.ed e).cw=(2-(cs.ed e).cw)+1:=by omega
 have i:jy (hP Q) (3-(cs.ed e).cw)=hP Q*(1+jy (hP Q) (2-(cs.ed e).cw)):=by rw[p];rfl
 have l:∀j∈news,jy (hP Q) (3-(fg.ed j).cw)=jy (hP Q) (2-(cs.ed e).cw):=λj a=>by rw[n3 j a];congr 1;omega
 have hmul:news.length*(1+jy (hP Q) (2-(cs.ed e).cw))≤hP Q*(1+jy (hP Q) (2-(cs.ed e).cw)):=iW _ g
 refine⟨hu.ok,hu.gr,by rw[f,bN];omega,?_,?_⟩
 ·unfold qT
  rw[hd,cO,List.sum_append,oK _ hk,tm (λj a=>by rw[hold j a]:∀j∈(cs.at_ Q.n frm tqo).drop (k+1),1+jy (hP Q) (3-(fg.ed j).cw)=1+jy (hP Q) (3-(cs.ed j).cw)),
   tm (λj a=>by rw[l j a]:∀j∈news,1+jy (hP Q) (3-(fg.ed j).cw)=1+jy (hP Q) (2-(cs.ed e).cw)),jh,i]
  omega
 ·unfold vQ
  rw[hd,cO,List.sum_append,oK _ hk,tm (λj a=>by rw[hold j a]:∀j∈(cs.at_ Q.n frm tqo).drop (k+1),jy (hP Q) (3-(fg.ed j).cw)=jy (hP Q) (3-(cs.ed j).cw)),
   tm (λj a=>by rw[l j a]:∀j∈news,jy (hP Q) (3-(fg.ed j).cw)=jy (hP Q) (2-(cs.ed e).cw)),jh,i]
  rw[Nat.mul_add,gX]at hmul⊢
  have:news.length*jy (hP Q) (2-(cs.ed e).cw)≤hP Q*jy (hP Q) (2-(cs.ed e).cw):=iW _ g
  omega
theorem DW {nt nf:Nat}{Q:Qr}(d:qq nt nf Q){frm tqo:Nat}(e:frm<tqo)(ht:tqo≤Q.n):∀(f k:Nat) (cs:Cs),gi nt nf Q.n cs→gi nt nf Q.n (qe Q frm tqo f k cs)∧Grow Q.n frm tqo cs (qe Q frm tqo f k cs) (vQ Q cs ((cs.at_ Q.n frm tqo).drop k))
 |0,k,cs,h=>⟨h,(Grow.refl ..).mono (aO _)⟩
 |f+1,k,cs,h=>by
  rw[qe]
  split
  ·rename_i hk
   have c:(cs.at_ Q.n frm tqo)[k]?=some ((cs.at_ Q.n frm tqo).getD k 0):=by rw[aw,bU hk];rfl
   split
   ·obtain⟨a,b⟩:=DW d e ht f (k+1) cs h
    refine⟨a,b.mono ?_⟩;unfold vQ
    rw[oK _ c];omega
   ·rename_i g
    obtain⟨s1,s2,j,l,i⟩:=Fx d e ht h c g rfl;obtain⟨a,b⟩:=DW d e ht f (k+1) _ s1;exact⟨a,(s2.trans b).mono i⟩
  ·exact⟨h,(Grow.refl ..).mono (aO _)⟩
theorem Ol (r:Nat):∀k:Nat,k≤3→jy r k≤jy r 3
 |0,_=>aO _
 |1,_=>by
  show r*(1+0)≤r*(1+r*(1+r*(1+0)))
  exact A2 _ (by omega)
 |2,_=>by
  show r*(1+r*(1+0))≤r*(1+r*(1+r*(1+0)))
  exact A2 _ (Nat.add_le_add_left (A2 _ (by omega)) _)
 |3,_=>aR _
def ve:Nat:=1117240000000
theorem alC:∀r,r≤40→(40-r)*4000000*(1+jy r 3)≤1117240000000:=by decide+kernel
theorem alD:∀r,r≤40→100*(1+jy r 3)≤1117240000000:=by decide+kernel
def Tz (len frm:Nat)(cs:Cs):Prop:=∀i,i<cs.its.length→(cs.ed i).tqo-(cs.ed i).frm<len∨((cs.ed i).tqo-(cs.ed i).frm=len∧(cs.ed i).frm<frm)
theorem Kg {nt nf n len frm:Nat}{cs:Cs}(h:gi nt nf n cs)(a:Tz len frm cs)(ht:frm+len≤n):cs.at_ n frm (frm+len)=[]:=by
 cases e:cs.at_ n frm (frm+len)with
 |nil=>rfl
 |cons x l=>
  have hx:x∈cs.sp.getD (slt n frm (frm+len)) []:=by show x∈cs.at_ n frm (frm+len);rw[e];simp
  obtain⟨h1,b⟩:=h.prt _ _ x ht hx
  have:=a x (h.GW hx)
  omega
theorem B6 {nt nf:Nat}{Q:Qr}(a:qq nt nf Q){frm tqo:Nat}:CT Q frm tqo*(1+jy (hP Q) 3)≤ve:=by
 have h1:=Oa a
 have b:=a.rn
 unfold CT ve
 split
 ·exact alD _ (by omega)
 ·refine dY (iW _ ?_) (alC (hP Q) (by omega))
  exact iW _ (by omega)
theorem TC (Q:Qr)(cs:Cs)(l:List Nat):vQ Q cs l≤l.length*jy (hP Q) 3:=by
 unfold vQ;rw[←jh]
 exact I0 λe _=>Ol _ _ (by omega)
structure nW (nt nf n len frm:Nat)(cs:Cs):Prop where
 ok:gi nt nf n cs
 BF:cs.its.length≤300
 cV:∀it∈cs.its,it.cV.length≤ve
 fresh:Tz len frm cs
theorem nW.room {nt nf n len frm:Nat}{cs:Cs}(h:nW nt nf n len frm cs):Room cs ve:=⟨by have:=h.BF;unfold ve;omega,λit hit=>by have:=h.cV it hit;unfold ve at*;omega⟩
theorem DR {nt nf len:Nat}{Q:Qr}(a:qq nt nf Q){words:List bB}{frm:Nat}(f:1≤len)(ht:frm+len≤Q.n){cs:Cs}(h:nW nt nf Q.n len frm cs):
 gi nt nf Q.n (mm Q words frm (frm+len) cs)∧Grow Q.n frm (frm+len) cs (mm Q words frm (frm+len) cs) (CT Q frm (frm+len))∧CT Q frm (frm+len)+vQ Q (mm Q words frm (frm+len) cs) ((mm Q words frm (frm+len) cs).at_ Q.n frm (frm+len))≤ve:=by
 obtain⟨c,b⟩:=MP a (words:=words) (show frm<frm+len by omega) ht h.ok h.BF;refine⟨c.ok,b,?_⟩
 have g:=b.own
 have i:(cs.sp.getD (slt Q.n frm (frm+len)) []).length=0:=by
  have:=Kg h.ok h.fresh ht
  show(cs.at_ Q.n frm (frm+len)).length=0
  rw[this];rfl
 have h1:=TC Q (mm Q words frm (frm+len) cs) ((mm Q words frm (frm+len) cs).at_ Q.n frm (frm+len))
 have d:((mm Q words frm (frm+len) cs).at_ Q.n frm (frm+len)).length≤CT Q frm (frm+len):=by
  show((mm Q words frm (frm+len) cs).sp.getD (slt Q.n frm (frm+len)) []).length≤_
  omega
 have e:=B6 a (frm:=frm) (tqo:=frm+len)
 rw[Nat.mul_add,gX]at e
 have j:=iW (jy (hP Q) 3) d
 omega
theorem PU {nt nf len:Nat}{Q:Qr}(a:qq nt nf Q){words:List bB}{frm:Nat}(c:1≤len)(ht:frm+len≤Q.n){cs:Cs}(h:nW nt nf Q.n len frm cs):
 gi nt nf Q.n (pJ Q words frm (frm+len) cs)∧Grow Q.n frm (frm+len) cs (pJ Q words frm (frm+len) cs) ve:=by
 obtain⟨d,e,f⟩:=DR a (words:=words) c ht h;obtain⟨g,b⟩:=DW a (show frm<frm+len by omega) ht (qT Q (mm Q words frm (frm+len) cs) ((mm Q words frm (frm+len) cs).at_ Q.n frm (frm+len))+1) 0 (mm Q words frm (frm+len) cs) d;rw[List.drop_zero]at b;exact⟨g,(e.trans b).mono f⟩
theorem FZ {nt nf len:Nat}{Q:Qr}(b:qq nt nf Q){words:List bB}{frm:Nat}(d:1≤len)(ht:frm+len≤Q.n){cs:Cs}(h:nW nt nf Q.n len frm cs)(hm:¬300<(pJ Q words frm (frm+len) cs).its.length):
 nW nt nf Q.n len (frm+1) (pJ Q words frm (frm+len) cs):=by
 obtain⟨g1,g2⟩:=PU b (words:=words) d ht h;refine⟨g1,by omega,λit hit=> ?_,λi a=> ?_⟩
 ·obtain⟨i,a,rfl⟩:=G8.1 hit
  have e:(pJ Q words frm (frm+len) cs).its[i]=(pJ Q words frm (frm+len) cs).its.getD i gh:=by rw[aw,bU a];rfl
  rw[e]
  by_cases c:i<cs.its.length
  ·have g:=h.fresh i c
   rw[g2.far i c (λj=>by omega),aw,bU c];exact h.cV _ (gz c)
  ·have h1:=g2.cV i a
   have e2:cs.its.getD i gh=gh:=by rw[aw,ic (by omega)];rfl
   rw[e2]at h1
   have:gh.cV.length=0:=rfl
   omega
 ·by_cases c:i<cs.its.length
  ·rw[g2.ed i c]
   have:=h.fresh i c;omega
  ·obtain⟨f,e2⟩:=g2.new i (by omega) a
   rw[f,e2];omega
theorem JZ {nt nf n len frm:Nat}{cs:Cs}(h:nW nt nf n len frm cs):nW nt nf n (len+1) 0 cs:=⟨h.ok,h.BF,h.cV,λi a=>by have:=h.fresh i a;omega⟩
structure re where
 rule:Int
 lex:Int
 kv:aV
 kids:List Nat
structure dJ where
 frm:Nat
 tqo:Nat
 cw:Nat
 gr:dD
 wv:aV
 cV:List re
 tv:aV
 ba:List Int
def mH:Rp re:=⟨3,by decide,λw=>[iv w.rule,iv w.lex,w.kv.1],λw=>aa w.rule∧aa w.lex,λ_=>rfl,λw u h=>cC rfl (cC rfl (cC w.kv.2 λ_ h=>by cases h)) u h⟩
def eB:Rp dJ:=⟨6,by decide,λx=>[iv (x.frm:Nat),iv (x.tqo:Nat),iv (x.cw:Nat),x.gr.nv.1,x.wv.1,x.tv.1],λ_=>True,λ_=>rfl,λx u h=>cC rfl (cC rfl (cC rfl (cC x.gr.nv.2 (cC x.wv.2 (cC x.tv.2 λ_ h=>by cases h))))) u h⟩
abbrev bW (l:List Nat):List Int:=l.map λi:Nat=>(i:Int)
theorem dW (l:List Nat):(bW l).length=l.length:=aN _
theorem ke (l:List Nat)(i:Nat):bW (l++ [i])=bW l++ [(i:Int)]:=by rw[bW,cO];rfl
theorem gT {l:List Nat}{k i:Nat}(h:l[k]?=some i):(bW l)[k]?=some (i:Int):=by rw[bQ,h];rfl
def jF (a:TypeId)(w:re):List ak:=[row w.kv.1 a 1 w.kids.length (rows aI (bW w.kids))]
def ek (b a:TypeId)(x:dJ):List ak:=row x.wv.1 b 3 x.cV.length (rows mH x.cV)::row x.tv.1 a 1 x.ba.length (rows aI x.ba)::bE (jF a) x.cV
def fq (a:TypeId)(p:aV×List Nat):List ak:=[row p.1.1 a 1 p.2.length (rows aI (bW p.2))]
def wyE (w:re):ud:=⟨w.rule,w.lex,w.kids⟩
def cE (x:dJ):lJ:=⟨⟨x.frm,x.tqo,x.cw,ay x.gr⟩,x.cV.map wyE,x.ba⟩
def wm (m:List (bB×Value))(its:List lJ):Prop:=∀k,qN m k=(xX its k).map λi:Nat=>iv (i:Int)
theorem Sh {its:List lJ}{i:Nat}(w:ud)(k:bB):xX (its.modify i λit=>it.put w) k=xX its k:=by
 unfold xX
 induction its generalizing i with
 |nil=>simp
 |cons a its b=>
  cases i with
  |zero=>rw[List.modify_zero_cons,List.findIdx?_cons,List.findIdx?_cons];rfl
  |succ i=>rw[List.modify_succ_cons,List.findIdx?_cons,List.findIdx?_cons,b]
theorem O2 (its:List lJ)(it:lJ)(k:bB):xX (its++ [it]) k=match xX its k with
 |some i=>some i
 |none=>if fZ it.ed=k then some its.length else none:=by
 unfold xX;rw[List.findIdx?_append]
 cases h:its.findIdx? λit=>decide (fZ it.ed=k)with
 |some i=>rfl
 |none=>
  rw[Option.none_or,List.findIdx?_cons]
  by_cases e:fZ it.ed=k
  ·rw[dt e,aC rfl,aC e];simp
  ·rw[fK e,aA (by decide),aA e];rfl
theorem wm.nil:wm [] []:=λ_=>rfl
theorem wm.put {m:List (bB×Value)}{its:List lJ}(h:wm m its)(i:Nat)(w:ud):wm m (its.modify i λit=>it.put w):=λk=>by rw[Sh];exact h k
theorem wm.new {m:List (bB×Value)}{its:List lJ}(h:wm m its){it:lJ}(a:xX its (fZ it.ed)=none):wm (l6 m (fZ it.ed) (iv its.length)) (its++ [it]):=λk=>by
 rw[O2,Ek]
 by_cases e:k=fZ it.ed
 ·subst e;rw[aC rfl,a];dsimp only;rw[aC rfl];rfl
 ·rw[aA e,h k]
  cases xX its k with
  |some i=>rfl
  |none=>dsimp only;rw[aA (λx=>e x.symm)]
structure nA where
 eC:aV
 its:List dJ
 nQ:aV
 bz:List (aV×List Nat)
 m:List (bB×Value)
def nA.cs (d:nA):Cs:=⟨d.its.map cE,d.bz.map Prod.snd⟩
def nA.tail (b a:TypeId)(d:nA):List ak:=bE (ek b a) d.its++bE (fq a) d.bz
theorem Y3 (i:Int):IntKind.u8.wrap i=((jw i).toNat:Int):=by
 have h:∀k:Nat,k<256→(UInt8.ofNat k).toNat=k:=λk hk=>by
  show k%256=k
  omega
 unfold jw;rw[h _ (by omega)];unfold IntKind.wrap
 simp[IntKind.bits,IntKind.signed]
 omega
abbrev Gk (frm tqo cw:Nat)(u:Value):Value:= .agg #[iv (frm:Nat),iv (tqo:Nat),iv (cw:Nat),u]
theorem L7 (l:dz)(n:KF):yt (l++ [n])=yt l++(jw n.1::jw (n.2.length:Nat)::vF n.2):=by
 unfold yt;rw[Bx];simp
theorem L8 (l:ko)(n:Int×Int):vF (l++ [n])=vF l++ [jw n.1,jw n.2]:=by
 unfold vF;rw[Bx];simp
theorem Nz (frm tqo cw:Nat)(g:dD)(l:g.nodes.length≤100)(m:∀t∈g.nodes,t.aq.length≤1000):dx prog 141 #[Gk frm tqo cw g.nv.1] ([aG g].map aB) (λv H'=>v=sv (fZ ⟨frm,tqo,cw,ay g⟩)∧H'=[]):=by
 refine dx.body (args:=[Gk frm tqo cw g.nv.1]) 56 func141 rfl ntmps141 rfl (λc=> ?_);refine St.cast (H':=[aB (aG g)]) rfl ?_;refine go ?_
 refine St.jP (aG g) (λ_:Unit=>kb g) (λρ h=>⟨(),h⟩) λ_=> ?_
 refine St.cast (H':=[aB (sl bh g.nv.1 g.nodes),aB (aF cA g.nodes),aB (aG g)]) rfl ?_
 have Qf:=cz g
 refine go ?_;refine St.dK (.mk rfl) rfl (λf=> ?_);refine g7 ?_;refine St.ee (Ev.tH (.mk rfl) (by rw[gG];rfl) GG) ?_;refine St.slot 10 (.int .u8 ((jw (frm:Nat)).toNat:Int)) rfl (congrArg (Value.int .u8) (Y3 _)) ?_;refine g2 ?_;refine St.ee (Ev.tH (.mk rfl) (by rw[gG];rfl) GG) ?_;refine St.slot 13 (.int .u8 ((jw (tqo:Nat)).toNat:Int)) rfl (congrArg (Value.int .u8) (Y3 _)) ?_;refine g2 ?_;refine St.ee (Ev.tH (.mk rfl) (by rw[gG];rfl) GG) ?_;refine St.slot 16 (.int .u8 ((jw (cw:Nat)).toNat:Int)) rfl (congrArg (Value.int .u8) (Y3 _)) ?_;refine St.fp rfl (.eh rfl rfl rfl) Lj sz5 zv5 rfl rfl (by simp[Value.cells]) rfl rfl (λi=> ?_);refine St.aM (.slice (some ⟨i,0,none⟩) 3 3) (show _=([jw (frm:Nat),jw (tqo:Nat),jw (cw:Nat)]).length from rfl) (show _=rows YV [jw (frm:Nat),jw (tqo:Nat),jw (cw:Nat)]from rfl) ?_;refine g14 ?_;refine St.te (ι:=Nat) (κ:=Value×bB) (λk z T=>(22,iv k)::(3,z.1)::T) (λk z=>[row z.1 5 1 (z.2).length (rows YV (z.2)),aW f (.cells [iv (frm:Nat),iv (tqo:Nat),iv (cw:Nat),g.nv.1].toArray 183 (0,0)),aB (sl bh g.nv.1 g.nodes),aB (aF cA g.nodes),aB (aG g)]) (λk z=>k≤g.nodes.length∧z.1.oneCell'=true∧z.2=[jw (frm:Nat),jw (tqo:Nat),jw (cw:Nat)]++yt ((ay g).take k)∧z.2.length≤3+k*2002) (λk z=>g.nodes.length-k) 0 ((.slice (some ⟨i,0,none⟩) 3 3),[jw (frm:Nat),jw (tqo:Nat),jw (cw:Nat)]) (aD.cons 2 rfl (aD.cons 20 rfl (aD.cons 21 rfl aD.nil))) ⟨aO _,rfl,rfl,aR 3⟩ ?_;rintro k ⟨v,L⟩ ⟨hk,n,a,o⟩
 dsimp only at n a o⊢
 refine g6 ?_;refine St.cq (λr=> ?_) (λr=> ?_)
 ·obtain⟨t,ht⟩:=aE (show k<g.nodes.length by omega)
  have j:=ae ht
  have s:=m t j
  have l3:=ka ht
  refine St.cI cA g.nodes (x:=t) j ?_;refine St.eY (sl au t.lv.1 t.aq) [cA t] (λρ h=>h _ (aP ..)) ?_;refine g7 ?_;refine St.ee (Ev.jr (.mk rfl) ht wU trivial jS j7.eq) ?_;refine St.al (λu=> ?_);refine g8 ?_;refine St.ee (Ev.tH (.mk rfl) (by rw[gG];rfl) GG) ?_;refine St.slot 29 (.int .u8 ((jw (t.type)).toNat:Int)) rfl (congrArg (Value.int .u8) (Y3 _)) ?_;refine g3 ?_;refine St.ee (Ev.tH (.mk rfl) (by rw[gG];rfl) GG) ?_;refine St.slot 33 (.int .u8 ((jw ((t.aq.length:Nat))).toNat:Int)) rfl (congrArg (Value.int .u8) (Y3 _)) ?_;refine St.fp rfl (.aY rfl rfl) Lj sz5 zv5 rfl rfl (by simp[Value.cells]) rfl rfl (λE=> ?_);refine St.aj (.mk rfl) (.mk rfl) Lj sz5 zv5 by5 (by simp[Value.oneCell',Value.cells]) (by omega) (by omega) rfl rfl rfl rfl (λv35 y=> ?_);refine St.aM v35 (show _=(L++ [jw t.type,jw (t.aq.length:Nat)]).length by rw[bN];rfl) (show _=rows YV (L++ [jw t.type,jw (t.aq.length:Nat)]) by rw[uF,uF,cO];rfl) ?_;refine St.bZ v35 (λd _=> ?_);refine g12 ?_;refine St.te (ι:=Nat) (κ:=Value×bB) (λq z T=>(39,iv q)::(3,z.1)::T) (λq z=>[row z.1 5 1 (z.2).length (rows YV (z.2)),aW f (.cells [iv (frm:Nat),iv (tqo:Nat),iv (cw:Nat),g.nv.1].toArray 183 (0,0)),aW u (.cells [iv t.type,t.lv.1].toArray 163 (0,0)),aB (sl bh g.nv.1 g.nodes),aB (aF cA g.nodes),aB (aG g),aB (sl au t.lv.1 t.aq)]) (λq z=>q≤t.aq.length∧z.1.oneCell'=true∧z.2=L++(jw t.type::jw (t.aq.length:Nat)::vF ((t.aq.map fR).take q))∧z.2.length≤5+k*2002+2*q) (λq z=>t.aq.length-q) 0 (v35,L++ [jw t.type,jw (t.aq.length:Nat)]) (aD.cons 2 rfl (aD.cons 20 rfl (aD.cons 21 rfl (aD.cons 22 rfl (aD.cons 37 rfl (aD.cons 38 rfl aD.nil)))))) ⟨aO _,d,rfl,by dsimp only;rw[bN];simp only[List.length_cons,List.length_nil];omega⟩ ?_;rintro q ⟨w,M⟩ ⟨F,hw,b,e⟩
  dsimp only at hw b e⊢
  refine g6 ?_;refine St.cq (λA=> ?_) (λA=> ?_)
  ·obtain⟨p,hp⟩:=aE (show q<t.aq.length by omega)
   refine g7 ?_;refine St.ee (Ev.jr (.mk rfl) hp lB trivial dh j7.eq) ?_;refine St.al (λG=> ?_);refine g7 ?_;refine St.ee (Ev.tH (.mk rfl) (by rw[gG];rfl) GG) ?_;refine St.slot 46 (.int .u8 ((jw (p.dF)).toNat:Int)) rfl (congrArg (Value.int .u8) (Y3 _)) ?_;refine g2 ?_;refine St.ee (Ev.tH (.mk rfl) (by rw[gG];rfl) GG) ?_;refine St.slot 49 (.int .u8 ((jw (p.tqo)).toNat:Int)) rfl (congrArg (Value.int .u8) (Y3 _)) ?_;refine St.fp rfl (.aY rfl rfl) Lj sz5 zv5 rfl rfl (by simp[Value.cells]) rfl rfl (λH=> ?_);refine St.aj (.mk rfl) (.mk rfl) Lj sz5 zv5 by5 (by simp[Value.oneCell',Value.cells]) (by omega) (by omega) rfl rfl rfl rfl (λv51 B=> ?_);refine St.aM v51 (show _=(M++ [jw p.dF,jw p.tqo]).length by rw[bN];rfl) (show _=rows YV (M++ [jw p.dF,jw p.tqo]) by rw[uF,uF,cO];rfl) ?_;refine St.bZ v51 (λC _=> ?_);refine g9 ?_;refine St.ue (q+1) (v51,M++ [jw p.dF,jw p.tqo]) ⟨by omega,C,by dsimp only;rw[b,aX (show(t.aq.map fR)[q]?=some (fR p) by rw[bQ,hp];rfl),L8,dp];rfl,by dsimp only;rw[bN];simp only[List.length_cons,List.length_nil];omega⟩
  ·obtain rfl:q=t.aq.length:=by omega
   rw[fF (by rw[aN];exact aR _)]at b;refine g11 ?_;refine St.ue (k+1) (w,M) ⟨by omega,hw,by dsimp only;rw[b,a,aX l3,L7,dp];show _=_++(_++(jw t.type::jw ((t.aq.map fR).length:Nat)::vF (t.aq.map fR)));rw[aN],by dsimp only;omega⟩
 ·obtain rfl:k=g.nodes.length:=by omega
  have D:(ay g).take g.nodes.length=ay g:=fF (by omega)
  rw[D]at a;refine g8 ?_;refine St.ee (Ev.Xj (fZ ⟨frm,tqo,cw,ay g⟩) (.mk rfl) (show _=(fZ ⟨frm,tqo,cw,ay g⟩).length by rw[a];rfl) (by rw[a,uF];rfl) (by unfold fZ;simp) Lj GG wW) ?_;refine g4 ?_;refine St.rV [_] [] ?_;exact⟨rfl,rfl⟩
theorem CQ (n i j k:Nat)(d:n≤12)(e:i≤n)(f:j≤n)(hk:k=slt n i j)(sv:aV)(bz:List (aV×List Nat))(q:aV×List Nat)(b:bz[k]?=some q):dx prog 122 #[.agg #[iv (n:Nat),sv.1],iv (i:Nat),iv (j:Nat)] [row sv.1 58 1 (bz).length (rows bS ((bz).map Prod.fst))] (λv H'=>v=q.1.1∧H'=[row sv.1 58 1 (bz).length (rows bS ((bz).map Prod.fst))]):=by
 refine dx.body (args:=[.agg #[iv (n:Nat),sv.1],iv (i:Nat),iv (j:Nat)]) 18 func122 rfl ntmps122 rfl (λc=> ?_);refine go ?_
 obtain⟨m,hm⟩:∃m,m=i*(n+1):=⟨_,rfl⟩
 have a:((i:Nat):Int)*(((n:Nat):Int)+1)=(m:Nat):=by rw[hm];push_cast;rfl
 have g:m≤156:=by rw[hm];exact dY (Nat.mul_le_mul (show i≤12 by omega) (show n+1≤13 by omega)) (by decide)
 have h:k=m+j:=by rw[hk,hm];rfl
 have l:=ah b
 refine go ?_;refine St.dK (.mk rfl) rfl (λo=> ?_);refine g11 ?_;refine St.ee (Ev.mul (.mk rfl) (.mk rfl) (by rw[a];omega)) ?_;refine St.slot 13 (iv (m:Nat)) rfl (congrArg iv a) ?_;refine g2 ?_;refine St.ee (Ev.dX (k:=k) (.mk rfl) (.mk rfl) fJ fE (by omega) (by omega)) ?_;refine St.ee (Ev.ct (.mk rfl) bI trivial (by omega) (r7 (show(bz.map Prod.fst)[k]?=some q.1 by rw[bQ,b];rfl))) ?_;refine g4 ?_;refine St.rV [_] [row sv.1 58 1 (bz).length (rows bS ((bz).map Prod.fst))] ?_;exact⟨rfl,rfl⟩
theorem Hv (n i j k:Nat)(l:n≤12)(o:i≤n)(p:j≤n)(hk:k=slt n i j)(sv:aV)(bz:List (aV×List Nat))(q:aV×List Nat)(d:bz[k]?=some q)(e:Nat)(he:e≤1400000000000)(r:q.2.length≤1400000000000):dx prog 142 #[.agg #[iv (n:Nat),sv.1],iv (i:Nat),iv (j:Nat),iv (e:Nat)] [row sv.1 58 1 (bz).length (rows bS ((bz).map Prod.fst)),row q.1.1 3 1 (q.2).length (rows aI (bW (q.2)))] (λv H'=>∃u:aV,H'=[row sv.1 58 1 (bz.set k (u,q.2++ [e])).length (rows bS ((bz.set k (u,q.2++ [e])).map Prod.fst)),row u.1 3 1 (q.2++ [e]).length (rows aI (bW (q.2++ [e])))]):=by
 refine dx.body (args:=[.agg #[iv (n:Nat),sv.1],iv (i:Nat),iv (j:Nat),iv (e:Nat)]) 28 func142 rfl ntmps142 rfl (λc=> ?_);refine go ?_
 obtain⟨m,hm⟩:∃m,m=i*(n+1):=⟨_,rfl⟩
 have b:((i:Nat):Int)*(((n:Nat):Int)+1)=(m:Nat):=by rw[hm];push_cast;rfl
 have s:m≤156:=by rw[hm];exact dY (Nat.mul_le_mul (show i≤12 by omega) (show n+1≤13 by omega)) (by decide)
 have t:k=m+j:=by rw[hk,hm];rfl
 have w:=ah d
 refine St.l8 sv.1 (by omega) (λbs cs f=> ?_);refine go ?_;refine St.dK (.mk rfl) rfl (λx=> ?_);refine g8 ?_;refine St.ee (Ev.mul (.mk rfl) (.mk rfl) (by rw[b];omega)) ?_;refine St.slot 13 (iv (m:Nat)) rfl (congrArg iv b) ?_;refine g5 ?_;refine St.da [row sv.1 58 1 (bz).length (rows bS ((bz).map Prod.fst)),row q.1.1 3 1 (q.2).length (rows aI (bW (q.2)))] mixed (λy z=> ?_);refine SW.gd 0 ?_;refine SW.gd 1 ?_;refine SW.gd 2 ?_;refine SW.gd 3 ?_;refine SW.gd 4 ?_;refine SW.gd 5 ?_;refine SW.dd 6 rfl (λ_=>Ev.mo (k:=k) f (.mk rfl) (.mk rfl) fJ fE (by omega) (by omega)) ?_;refine SW.gd 8 ?_;refine SW.t2 7 9 ?_ ?_
 focus
  refine St.ee (Ev.ct (.mk rfl) bI trivial (by omega) (r7 (show(bz.map Prod.fst)[k]?=some q.1 by rw[bQ,d];rfl))) ?_;refine g2 ?_;refine SW.go ?_;refine SW.t1 9 ?_;refine St.fp rfl (.ar rfl) bI dL eQ rfl rfl (by simp[Value.cells]) rfl rfl (λg=> ?_);refine g2 ?_;refine SW.go ?_;refine SW.t1 10 ?_;refine St.aj (.mk rfl) (.mk rfl) bI dL eQ xO (by simp[Value.oneCell',Value.cells]) (by omega) (by omega) rfl rfl rfl rfl (λv26 h=> ?_);refine St.aM v26 (show _=(q.2++ [e]).length by rw[bN];rfl) (show _=rows aI (bW (q.2++ [e])) by rw[ke,ax];rfl) ?_;refine St.bZ v26 (λa _=> ?_);refine g2 ?_;refine SW.go ?_;refine SW.dd 11 rfl (λ_=>Ev.mo (k:=k) f (.mk rfl) (.mk rfl) fJ fE (by omega) (by omega)) ?_;refine SW.t1 12 ?_;refine St.cG (.mk rfl) (.mk rfl) fE a (by omega) (by decide) ?_;refine St.aM sv.1 (show _=(bz.set k (⟨v26,a⟩,q.2++ [e])).length by rw[cn]) (show _=rows bS ((bz.set k (⟨v26,a⟩,q.2++ [e])).map Prod.fst) by rw[jk];exact zQ _ _ ⟨v26,a⟩) ?_;refine g2 ?_;refine SW.go ?_;refine SW.dn ?_
 rotate_left
 focus
  refine St.fp rfl (.ar rfl) bI dL eQ rfl rfl (by simp[Value.cells]) rfl rfl (λg=> ?_);refine g2 ?_;refine SW.go ?_;refine SW.t1 7 ?_;refine St.ee (Ev.ct (.mk rfl) bI trivial (by omega) (r7 (show(bz.map Prod.fst)[k]?=some q.1 by rw[bQ,d];rfl))) ?_;refine g2 ?_;refine SW.go ?_;refine SW.t1 10 ?_;refine St.aj (.mk rfl) (.mk rfl) bI dL eQ xO (by simp[Value.oneCell',Value.cells]) (by omega) (by omega) rfl rfl rfl rfl (λv26 h=> ?_);refine St.aM v26 (show _=(q.2++ [e]).length by rw[bN];rfl) (show _=rows aI (bW (q.2++ [e])) by rw[ke,ax];rfl) ?_;refine St.bZ v26 (λa _=> ?_);refine g2 ?_;refine SW.go ?_;refine SW.dd 11 rfl (λ_=>Ev.mo (k:=k) f (.mk rfl) (.mk rfl) fJ fE (by omega) (by omega)) ?_;refine SW.t1 12 ?_;refine St.cG (.mk rfl) (.mk rfl) fE a (by omega) (by decide) ?_;refine St.aM sv.1 (show _=(bz.set k (⟨v26,a⟩,q.2++ [e])).length by rw[cn]) (show _=rows bS ((bz.set k (⟨v26,a⟩,q.2++ [e])).map Prod.fst) by rw[jk];exact zQ _ _ ⟨v26,a⟩) ?_;refine g2 ?_;refine SW.go ?_;refine SW.dn ?_
 all_goals
  refine St.eF ?_;refine St.rV [] [row sv.1 58 1 (bz.set k (⟨v26,a⟩,q.2++ [e])).length (rows bS ((bz.set k (⟨v26,a⟩,q.2++ [e])).map Prod.fst)),row v26 3 1 (q.2++ [e]).length (rows aI (bW (q.2++ [e])))] ?_;exact⟨⟨v26,a⟩,rfl⟩
end Go.Proofs.YtblifkgpebebmaaGreatDoor
namespace Go.J
open Go Go.RowKit
def fO (b:Nat)(L:List Value):du where
 f ρ:=∃e fr,ρ b=some (.cells L.toArray e fr)
 mono ρ jo h:=by
  rintro ⟨e,fr,h1⟩;exact⟨e,fr,h _ _ h1⟩
class mI (b:Nat)(H:List ak)(L:outParam (List Value)):Prop where
 mem:aB (fO b L)∈H
instance (priority:=high) mI.here (b:Nat)(L:List Value)(H:List ak):mI b (aB (fO b L)::H) L:=⟨aP ..⟩
instance mI.there (b:Nat)(L:List Value)(E:ak)(H:List ak)[h:mI b H L]:mI b (E::H) L:=⟨cN _ h.mem⟩
instance (priority:=low) mI.app (b:Nat)(v:List Value)(L R:List ak)[h:mI b L v]:mI b (L++R) v:=⟨kW _ h.mem⟩
section
variable {P:Program}{n:Nat}{F:Fr}{A:World→Prop}{c:Ctx}{H R:List ak}{ty t e:TypeId}{x y:Operand}{v:Value}{T:Act→World→Prop}
theorem Ev.HG {b:Nat}{d:TypeDesc}{L:List Value}[f:mI b H L](hx:ai F x (.pointer (some ⟨b,0,none⟩)))(ht:P.underlying t=some d)(g:(match d with| .struct _| .array _ _=>True|_=>False))
 (h:(P.info? t).map (·.size)=some L.length):Ev P n F (Mm c H) (.load t x) ty (.agg L.toArray):= .of_run λa w i hw=>by
 obtain⟨ρ,hm⟩:=hw.out;obtain⟨e,fr,h1⟩:=dB.1 (hm.dM _ f.mem)
 have h1:=hm.fits _ _ h1
 have k:=eP (P:=P) (w:=w) (b:=b) (off:=0) (L:=L) ht g h (λj u l=>by rw[cU h1];simpa using l)
 simp[execOp,hx.eval i,Instr.loadAt,Instr.sureAddr,k]
theorem Ev.Sl {b off:Nat}{d:TypeDesc}{L L':List Value}[g:mI b H L](m:Nat)(hx:ai F x (.pointer (some ⟨b,off,none⟩)))(ht:P.underlying t=some d)(h:(match d with| .struct _| .array _ _=>True|_=>False))
 (i:(P.info? t).map (·.size)=some m) (k:(L.drop off).take m=L') (l:L'.length=m):Ev P n F (Mm c H) (.load t x) ty (.agg L'.toArray):= .of_run λa w o hw=>by
 obtain⟨ρ,hm⟩:=hw.out;obtain⟨e,fr,h1⟩:=dB.1 (hm.dM _ g.mem)
 have h1:=hm.fits _ _ h1
 have p:=eP (P:=P) (w:=w) (b:=b) (off:=off) (L:=L') ht h (by rw[l];exact i) (λj u f=>by
  rw[cU h1];rw[←k,s8]at f
  split at f
  ·rw[A4]at f;simpa using f
  ·cases f)
 simp[execOp,hx.eval o,Instr.loadAt,Instr.sureAddr,p]
theorem dm.ag0 {ds:List du}{b:Nat}{e:TypeId}{fr:Nat×Nat}{L:List Value}(h:dm c H ds)[f:Av b H (.cells L.toArray e fr)]:dm c H (fO b L::ds):=λρ w d g a=>by
 rcases cH.1 a with rfl|a
 ·exact⟨e,fr,fm.1 (d.dM _ f.mem)⟩
 ·exact h ρ w d g a
theorem St.vT (b:Nat){L:List Value}[tk:ku b H (.cells L.toArray e (0,0)) R](h:St n F (Mm c (aB (fO b L)::R)) T):St n F (Mm c H) T:=by
 refine h.o6 λw hw=> ?_
 obtain⟨ρ,hm⟩:=hw.out
 have hm:=hm.perm tk.perm
 have f:=fm.1 (hm.dM _ (aP ..))
 have g:=hm.own _ (aP ..) b (iY _ _)
 have q:b<w.heap.size:=(wA.1 f).1
 have i:=jW.1 hm.EG
 refine Mm.mk (ρ:=λk=>if k=b then some (.cells L.toArray e (0,0))else ρ k) ?_
 have hle:Ro.le ρ (λk=>if k=b then some (.cells L.toArray e (0,0))else ρ k):=by
  intro k o hk
  by_cases a:k=b
  ·subst a;rw[g.1]at hk;cases hk
  ·simp only[a,if_false];exact hk
 refine eu.fact ⟨hm.os,hm.tape,hm.output,hm.size,hm.AA,?_,Ro.le_trans hm.le hle,?_,?_,?_,i.2⟩ _ ?_
 ·intro k o hk
  by_cases a:k=b
  ·subst a;simp only[if_true,Option.some.injEq]at hk;subst hk;exact f
  ·simp only[a,if_false]at hk;exact hm.fits k o hk
 ·intro k hk j
  by_cases a:k=b
  ·subst a
   rcases g.2 with l|l
   ·omega
   ·exact absurd l j
  ·simp only[a,if_false];exact hm.new k hk j
 ·intro E d
  exact E.loc hle (λ_ _=>rfl) (hm.dM E (cN _ d))
 ·intro E d m p
  have h1:=hm.own E (cN _ d) m p
  refine⟨?_,h1.2⟩
  by_cases a:m=b
  ·subst a;exact absurd p (i.1 E d _ (iY _ _))
  ·simp only[a,if_false];exact h1.1
 ·exact⟨e,(0,0),by simp⟩
end
end Go.J
namespace Go.Proofs.YtblifkgpebebmaaGreatDoor
open Go Go.J Tryz
theorem Ut {x y:dz}{i:Nat}(h:i<x.length+y.length):(Pl.of x y).rt i=i:=by unfold Pl.rt Pl.of;exact TJ h
theorem XK {x y:dz}{i:Nat}(h:i<x.length):(Pl.of x y).tt i=(x.getD i iK).1:=by
 unfold Pl.tt Pl.of
 simp only[List.getD_eq_getElem?_getD]
 rw[ob (by rw[aN];exact h),bQ,bU h];rfl
theorem XL {x y:dz}(h:0<y.length):(Pl.of x y).tt x.length=(y.getD 0 iK).1:=by
 unfold Pl.tt Pl.of
 simp only[List.getD_eq_getElem?_getD]
 rw[lZ (by rw[aN];exact aR _),aN,ff,bQ,bU h];rfl
theorem Sc {mt:Nat→Nat→Option Nat}{x y:dz}{node:Nat}(b:node<x.length)(hy:0<y.length)(hm:mt (x.getD node iK).1.toNat (y.getD 0 iK).1.toNat=none):dT mt x node y=none:=by
 unfold dT
 have a:(Pl.of x y).rt ((node:Int),(x.length:Int)).1.toNat=node:=Ut (by show node<_;omega)
 have e2:(Pl.of x y).rt ((node:Int),(x.length:Int)).2.toNat=x.length:=Ut (by show x.length<_;omega)
 rw[J5 (by rw[a,e2];omega) (by rw[a,e2,XK b,XL hy];exact hm)];rfl
theorem Ke (g:Nat)(a b:aV)(T:List ej)(C:im T)(nf:Nat)(r:nf≤100)(x y:dD)(hx:e7 T.length nf (ay x))(hy:e7 T.length nf (ay y))(F:x.nodes.length≤60)(G:y.nodes.length≤60)(node:Nat)(H:node<x.nodes.length):dx prog 119 #[bA x,iv (node:Nat),bA y,.pointer (some ⟨g,0,none⟩)] ([fO g [a.1,b.1],sl bF a.1 (de T),sl bF b.1 (db T),tz,aG x,aG y].map aB) (λv H'=>v= .bool (dT (hC T) (ay x) node (ay y)).isSome∧H'=[]):=by
 refine dx.body (args:=[bA x,iv (node:Nat),bA y,.pointer (some ⟨g,0,none⟩)]) 41 func119 rfl ntmps119 rfl (λc=> ?_);refine St.cast (H':=[aB (fO g [a.1,b.1]),aB (sl bF a.1 (de T)),aB (sl bF b.1 (db T)),aB (tz),aB (aG x),aB (aG y)]) rfl ?_;refine go ?_
 have s:=gP hx r
 have w:=gP hy r
 have j:=hy.pos
 have M:=cz x
 have I:=cz y
 obtain⟨p,hp⟩:=aE H;obtain⟨q,J⟩:=aE (show 0<y.nodes.length by omega)
 have l:(ay x).getD node iK=lx p:=by rw[aw,ka hp];rfl
 have m:(ay y).getD 0 iK=lx q:=by rw[aw,ka J];rfl
 have e:=(hx.at_ (i:=node) (by omega)).1
 have f:=(hy.at_ (i:=0) j).1
 rw[l]at e;rw[m]at f
 obtain⟨n,D⟩:∃n:Nat,p.type=(n:Int):=⟨p.type.toNat,by have:=e.1;show p.type=_;have h:0≤p.type:=this;omega⟩
 obtain⟨d,o⟩:∃d:Nat,q.type=(d:Int):=⟨q.type.toNat,by have h:0≤q.type:=f.1;omega⟩
 have A:n<T.length:=by have h:p.type<T.length:=e.2;omega
 have B:d<T.length:=by have h:q.type<T.length:=f.2;omega
 refine St.jP (aG x) (λ_:Unit=>kb x) (λρ h=>⟨(),h⟩) λ_=> ?_
 refine St.cast (H':=[aB (sl bh x.nv.1 x.nodes),aB (aF cA x.nodes),aB (fO g [a.1,b.1]),aB (sl bF a.1 (de T)),aB (sl bF b.1 (db T)),aB (tz),aB (aG x),aB (aG y)]) rfl ?_
 refine St.jP (aG y) (λ_:Unit=>kb y) (λρ h=>⟨(),h⟩) λ_=> ?_
 refine St.cast (H':=[aB (sl bh y.nv.1 y.nodes),aB (aF cA y.nodes),aB (sl bh x.nv.1 x.nodes),aB (aF cA x.nodes),aB (fO g [a.1,b.1]),aB (sl bF a.1 (de T)),aB (sl bF b.1 (db T)),aB (tz),aB (aG x),aB (aG y)]) rfl ?_;refine go ?_;refine St.dK (.mk rfl) rfl (λN=> ?_);refine St.dK (.mk rfl) rfl (λO=> ?_);refine g5 ?_;refine St.da [] mixed (λP Q=> ?_);refine SW.dd 0 rfl (λ_=>Ev.HG (.mk rfl) wT trivial (by exact wQ)) ?_;refine SW.slot 14 (kC a b) rfl rfl ?_;refine SW.gd 1 ?_;refine SW.gd 2 ?_;refine SW.gd 3 ?_;refine SW.gd 4 ?_;refine SW.gd 5 ?_;refine SW.gd 6 ?_;refine SW.slot 20 (iv (n:Nat)) rfl (congrArg iv D) ?_;refine SW.gd 7 ?_;refine SW.gd 8 ?_;refine SW.dd 9 rfl (λ_=>Ev.cL (k:=0) (.mk rfl) (.mk rfl) oZ jS (by omega) (by omega)) ?_;refine SW.gd 10 ?_;refine SW.gd 11 ?_;refine SW.slot 25 (iv (d:Nat)) rfl (congrArg iv o) ?_;refine SW.dd 12 rfl (λ_=>Ev.call ((xz a b T C n d A B).mono λ_ _ h=>h.1) Vw (.eh rfl rfl rfl)) ?_;refine SW.gd 13 ?_;refine SW.gd 14 ?_;refine SW.gd 15 ?_;refine SW.gd 16 ?_;refine SW.gd 17 ?_;refine SW.gd 18 ?_;refine SW.gd 19 ?_;refine SW.dn ?_;refine g7 ?_;refine St.cq (λE=> ?_) (λE=> ?_)
 ·have hm:hC T ((ay x).getD node iK).1.toNat ((ay y).getD 0 iK).1.toNat=none:=by rw[l,m];show hC T p.type.toNat q.type.toNat=none;rw[D,o];simpa using E
  have K:=Sc (mt:=hC T) (by omega) j hm
  refine g7 ?_;refine St.rV [_] [] ?_;exact⟨by rw[K];rfl,rfl⟩
 ·refine g4 ?_
  refine St.ee (Ev.HG (.mk rfl) wT trivial (by exact wQ)) ?_;refine St.slot 33 (kC a b) rfl rfl ?_;refine go ?_;refine St.slot 34 (bA x) rfl rfl ?_;refine g2 ?_;refine St.slot 36 (bA y) rfl rfl ?_;refine St.ag (qn a b T C nf r x y hx hy F G (λt ht=>by have:=(s t ht).2;omega) (λt ht=>by have:=(w t ht).2;omega) node (by omega)) RJ (.gW rfl rfl rfl rfl) rfl ?_;rintro v37 _ ⟨u,rfl,rfl⟩;refine St.ao ?_;refine St.bK ((dT (hC T) (ay x) node (ay y)).getD []) u (λz hz=> ?_);obtain⟨rfl,L⟩:=hz;refine g3 ?_;refine St.al (λR=> ?_);refine g11 ?_;refine St.rV [_] [] ?_;exact⟨rfl,rfl⟩
structure rG where
 a:aV
 b:aV
 c:aV
 la:List Bool
 lb:List Bool
 lc:List Bool
def rG.at_ (x:rG)(j:Nat):aV×List Bool:=if j=0 then(x.a,x.la)else if j=1 then(x.b,x.lb)else(x.c,x.lc)
def sL:Rp rG:=⟨3,by decide,λx=>[x.a.1,x.b.1,x.c.1],λ_=>True,λ_=>rfl,λx u h=>by
 simp only[List.mem_cons,List.not_mem_nil,or_false]at h
 rcases h with rfl|rfl|rfl
 ·exact x.a.2
 ·exact x.b.2
 ·exact x.c.2⟩
theorem rG.cell (x:rG){j:Nat}(h:j<3):(sL.cells x)[0+j]?=some (x.at_ j).1.1:=by
 rcases j with _|_|_|j
 ·rfl
 ·rfl
 ·rfl
 ·omega
def nY (x:rG):du:=iP [sl eI x.a.1 x.la,sl eI x.b.1 x.lb,sl eI x.c.1 x.lc]
theorem IQ (x:rG)(j:Nat)(ρ:Ro)(h:(nY x).f ρ):(sl eI (x.at_ j).1.1 (x.at_ j).2).f ρ:=by
 have h1:=h (sl eI x.a.1 x.la) (by simp)
 have d:=h (sl eI x.b.1 x.lb) (by simp)
 have e:=h (sl eI x.c.1 x.lc) (by simp)
 unfold rG.at_
 split
 ·exact h1
 ·split
  ·exact d
  ·exact e
structure kr where
 nr:Nat
 nl:Nat
 kv:aV
 av:aV
 nQ:aV
 fv:aV
 kids:List Int
 rJ:List rG
def Rt (f:kr):List Value:=[iv (f.nr:Nat),iv (f.nl:Nat),f.kv.1,f.av.1,f.nQ.1,f.fv.1]
def Kd (f:kr):Value:= .agg (Rt f).toArray
def hY (f:kr):du:=iP [sl aI f.kv.1 f.kids,sl sL f.av.1 f.rJ,aF nY f.rJ]
def po (nr nl:Nat)(top:Int):Int:=if 0≤top∧top<nr then top else if 1000≤top∧top<1000+(nl:Int)then nr+top-1000 else-1
def Vb:rG:=⟨bT,bT,bT,[],[],[]⟩
def q7 (f:kr)(rule a:Nat)(top:Int):Bool:=decide (0≤po f.nr f.nl top)&&decide (1≤a)&&decide ((a:Int)≤f.kids.getD rule 0)&&(((f.rJ.getD rule Vb).at_ (a-1)).2.getD (po f.nr f.nl top).toNat false)
structure xx (f:kr):Prop where
 nr:f.nr≤1000
 nl:f.nl≤1000
 kl:f.kids.length=f.nr
 al:f.rJ.length=f.nr
 k3:∀k∈f.kids,k≤3
 ln:∀(r:Nat) (x:rG) (k:Int) (j:Nat),f.rJ[r]?=some x→f.kids[r]?=some k→(j:Int)<k→(x.at_ j).2.length=f.nr+f.nl
theorem JL {nr nl:Nat}{top:Int}(h:0≤po nr nl top):(po nr nl top).toNat<nr+nl:=by
 unfold po at h⊢
 split
 ·omega
 ·split
  ·omega
  ·rename_i h1 a;rw[aA h1,aA a]at h;omega
theorem HV (f:kr)(b:xx f)(top:Int)(ht:aa top):eD prog 159 #[Kd f,iv top] [] (iv (po f.nr f.nl top)):=by
 refine eD.qB (args:=[Kd f,iv top]) 28 func159 rfl ntmps159 rfl (λc=> ?_);refine go ?_
 have d:=b.nr
 have h:=b.nl
 unfold aa at ht;refine go ?_;refine St.dK (.mk rfl) rfl (λi=> ?_);refine g9 ?_;refine St.gt _ rfl rfl (λa=>Ev.move (.mk rfl)) rfl ?_;refine St.gt _ rfl rfl (λa=>Ev.dV (.mk rfl) Cp) rfl ?_;refine St.gt _ rfl rfl (λa=>Ev.kP (ai.gv rfl a) gG trivial (by rfl)) rfl ?_;refine St.gt _ rfl rfl (λa=>Ev.lss (ai.gv rfl a) (ai.gv rfl a)) rfl ?_;refine g3 ?_;refine St.cq (λe=> ?_) (λe=> ?_)
 ·refine g8 ?_
  refine St.rV [_] [] ?_;exact ie (show top=po f.nr f.nl top by unfold po;rw[aC (by omega)])
 ·refine g8 ?_
  refine St.gt _ rfl rfl (λa=>Ev.move (.mk rfl)) rfl ?_;refine St.gt _ rfl rfl (λa=>Ev.dV (.mk rfl) Rz) rfl ?_;refine St.gt _ rfl rfl (λa=>Ev.kP (ai.gv rfl a) gG trivial (by rfl)) rfl ?_;refine St.gt _ rfl rfl (λa=>Ev.add (.mk rfl) (ai.gv rfl a) (by first|omega|(simp only[ew]at a;omega))) rfl ?_;refine St.gt _ rfl rfl (λa=>Ev.lss (ai.gv rfl a) (ai.gv rfl a)) rfl ?_;refine g3 ?_;refine St.cq (λg=> ?_) (λg=> ?_)
  ·refine g12 ?_
   refine St.rV [_] [] ?_;exact ie (show(f.nr:Int)+top-1000=po f.nr f.nl top by unfold po;rw[aA (by omega),aC (by omega)])
  ·refine g8 ?_
   refine St.rV [_] [] ?_;exact ie (show(-1:Int)=po f.nr f.nl top by unfold po;rw[aA (by omega),aA (by omega)])
theorem Dj (f:kr)(e:xx f)(rule a:Nat)(s:rule<f.nr)(hk:1≤a)(t:a≤1000)(top:Int)(ht:aa top):dx prog 146 #[Kd f,iv (rule:Nat),iv (a:Nat),iv top] ([hY f].map aB) (λv H'=>v= .bool (q7 f rule a top)∧H'=[]):=by
 refine dx.body (args:=[Kd f,iv (rule:Nat),iv (a:Nat),iv top]) 51 func146 rfl ntmps146 rfl (λc=> ?_);refine St.cast (H':=[aB (hY f)]) rfl ?_;refine go ?_
 refine St.jP (hY f) (λ_:Unit=>[sl aI f.kv.1 f.kids,sl sL f.av.1 f.rJ,aF nY f.rJ]) (λρ h=>⟨(),h⟩) λ_=> ?_
 refine St.cast (H':=[aB (sl aI f.kv.1 f.kids),aB (sl sL f.av.1 f.rJ),aB (aF nY f.rJ),aB (hY f)]) rfl ?_
 have u:=e.kl
 have w:=e.al
 obtain⟨k,l⟩:=aE (show rule<f.kids.length by omega);obtain⟨x,hx⟩:=aE (show rule<f.rJ.length by omega)
 have y:=e.k3 k (ae l)
 have g:f.kids.getD rule 0=k:=by rw[aw,l];rfl
 have q:f.rJ.getD rule Vb=x:=by rw[aw,hx];rfl
 obtain⟨j,rfl⟩:∃j,a=j+1:=⟨a-1,by omega⟩
 have m:=e.ln rule x k j hx l
 have n:=JL (nr:=f.nr) (nl:=f.nl) (top:=top)
 refine St.cI nY f.rJ (x:=x) (ae hx) ?_;refine St.eY (sl eI (x.at_ j).1.1 (x.at_ j).2) [nY x] (λρ h=>IQ x j ρ (h _ (aP ..))) ?_;refine St.JW f.av.1 (by omega) (λbs os cs r=> ?_);refine go ?_;refine St.dK (.mk rfl) rfl (λz=> ?_);refine g7 ?_;refine St.ee (Ev.call (HV f e top ht) Zc (.aY rfl rfl)) ?_;refine g8 ?_;refine St.split 15 _ rfl (λhp=> ?_) (λhp=> ?_)
 ·have o:0≤po f.nr f.nl top:=ei hp
  have A:=n o
  obtain⟨pl,i⟩:∃pl:Nat,po f.nr f.nl top=(pl:Int):=⟨(po f.nr f.nl top).toNat,by omega⟩
  rw[i];refine St.cF rfl rfl ?_;refine go ?_;refine St.cF rfl rfl ?_;refine go ?_;refine St.ee (Ev.gZ (.mk rfl) rfl (.mk rfl)) ?_;refine go ?_;refine St.known 19 _ true rfl (dt (by omega)) ?_;refine St.cF rfl rfl ?_;refine go ?_;refine St.cF rfl rfl ?_;refine go ?_;refine St.cF rfl rfl ?_;refine go ?_;refine St.cF rfl rfl ?_;refine go ?_;refine St.ee (Ev.gZ (.mk rfl) rfl (.mk rfl)) ?_;refine go ?_;refine St.known 25 _ true rfl (dt (by omega)) ?_;refine St.cF rfl rfl ?_;refine go ?_;refine St.cF rfl rfl ?_;refine go ?_;refine St.ee (Ev.gZ (.mk rfl) rfl (.mk rfl)) ?_;refine go ?_;refine St.known 29 _ true rfl (dt (by omega)) ?_;refine St.cF rfl rfl ?_;refine go ?_;refine St.cF rfl rfl ?_;refine go ?_;refine St.cF rfl rfl ?_;refine go ?_;refine St.cF rfl rfl ?_;refine go ?_;refine St.cF rfl rfl ?_;refine go ?_;refine St.cF rfl rfl ?_;refine go ?_;refine St.cF rfl rfl ?_;refine go ?_;refine St.ee (Ev.gZ (.mk rfl) rfl (.mk rfl)) ?_;refine go ?_;refine St.split 38 _ rfl (λb=> ?_) (λb=> ?_)
  ·have d:((j+1:Nat):Int)≤k:=ei b
   have B:=m (by omega)
   obtain⟨bv,p⟩:=aE (show pl<(x.at_ j).2.length by omega);refine St.cF rfl rfl ?_;refine go ?_;refine St.cF rfl rfl ?_;refine go ?_;refine St.cF rfl rfl ?_;refine go ?_;refine St.cF rfl rfl ?_;refine go ?_;refine St.cF rfl rfl ?_;refine go ?_;refine St.cF rfl rfl ?_;refine go ?_;refine St.cF rfl rfl ?_;refine St.ee (Ev.xV (j:=j) r (.mk rfl) (.mk rfl) zu qW (by omega) (by omega)) ?_;refine St.cF rfl rfl ?_;refine St.ee (Ev.ld1 (.mk rfl) hx jj trivial (x.cell (by omega))) ?_;refine St.cF rfl rfl ?_;refine go ?_;refine St.cF rfl rfl ?_;refine go ?_;refine St.cF rfl rfl ?_;refine go ?_;refine St.ee (Ev.gZ (.mk rfl) rfl (.mk rfl)) ?_;refine g4 ?_;refine St.rV [_] [] ?_;exact⟨by unfold q7;rw[i,dt (show(0:Int)≤(pl:Nat) by omega),dt (show 1≤j+1 by omega),g,dt d,q];show _=Value.bool (true&&true&&true&&((x.at_ j).2.getD pl false));rw[aw,p];rfl,rfl⟩
  ·have d:¬((j+1:Nat):Int)≤k:=iX b
   refine St.bq rfl rfl rfl ?_;refine St.bq rfl rfl rfl ?_;refine St.bq rfl rfl rfl ?_;refine St.bq rfl rfl rfl ?_;refine St.bq rfl rfl rfl ?_;refine St.bq rfl rfl rfl ?_;refine St.bq rfl rfl rfl ?_;refine St.bq rfl rfl rfl ?_;refine St.bq rfl rfl rfl ?_;refine St.bq rfl rfl rfl ?_;refine St.bq rfl rfl rfl ?_;refine St.ee (Ev.kR (.mk rfl) rfl (.mk rfl)) ?_;refine g4 ?_;refine St.rV [_] [] ?_;exact⟨by unfold q7;rw[g,fK d,Bool.and_false,Bool.false_and];rfl,rfl⟩
 ·have o:¬0≤po f.nr f.nl top:=iX hp
  refine St.bq rfl rfl rfl ?_;refine St.bq rfl rfl rfl ?_;refine St.ee (Ev.kR (.mk rfl) rfl (.mk rfl)) ?_;refine go ?_;refine St.bq rfl rfl rfl ?_;refine St.bq rfl rfl rfl ?_;refine St.bq rfl rfl rfl ?_;refine St.bq rfl rfl rfl ?_;refine St.ee (Ev.kR (.mk rfl) rfl (.mk rfl)) ?_;refine go ?_;refine St.bq rfl rfl rfl ?_;refine St.bq rfl rfl rfl ?_;refine St.ee (Ev.kR (.mk rfl) rfl (.mk rfl)) ?_;refine go ?_;refine St.bq rfl rfl rfl ?_;refine St.bq rfl rfl rfl ?_;refine St.bq rfl rfl rfl ?_;refine St.bq rfl rfl rfl ?_;refine St.bq rfl rfl rfl ?_;refine St.bq rfl rfl rfl ?_;refine St.bq rfl rfl rfl ?_;refine St.ee (Ev.kR (.mk rfl) rfl (.mk rfl)) ?_;refine go ?_;refine St.bq rfl rfl rfl ?_;refine St.bq rfl rfl rfl ?_;refine St.bq rfl rfl rfl ?_;refine St.bq rfl rfl rfl ?_;refine St.bq rfl rfl rfl ?_;refine St.bq rfl rfl rfl ?_;refine St.bq rfl rfl rfl ?_;refine St.bq rfl rfl rfl ?_;refine St.bq rfl rfl rfl ?_;refine St.bq rfl rfl rfl ?_;refine St.bq rfl rfl rfl ?_;refine St.ee (Ev.kR (.mk rfl) rfl (.mk rfl)) ?_;refine g4 ?_;refine St.rV [_] [] ?_;exact⟨by unfold q7;rw[fK o];rfl,rfl⟩
theorem Dl (v0:Value)(xs:List Int)(y:Int):eD prog 157 #[v0,iv y] [sl aI v0 xs] (iv (ix (λx=>decide (y=x)) xs)):=by
 refine eD.nD (args:=[v0,iv y]) 19 func157 rfl ntmps157 rfl (λc=> ?_);refine go ?_;refine St.wf v0 (λf hlen=> ?_);refine g13 ?_;refine St.lS (ι:=Nat) (λk T=>(8,iv k)::T) (λk=>k≤xs.length∧(xs.take k).all (λx=> !decide (y=x))=true) (λk=>xs.length-k) 0 (aD.cons 0 rfl (aD.cons 1 rfl (aD.cons 7 rfl aD.nil))) ⟨aO _,rfl⟩ ?_;intro k d;obtain⟨hk,a⟩:=d;refine g6 ?_;refine St.cq (λe=> ?_) (λe=> ?_)
 ·obtain⟨x,hx⟩:=aE (show k<xs.length by omega)
  refine g20 ?_;refine St.cq (λb=> ?_) (λb=> ?_)
  ·refine g12 ?_
   refine St.rV [_] [] ?_;exact ie (yr a hx (by simpa using b)).symm
  ·refine g8 ?_
   refine St.aS (k+1) ⟨by omega,nX a hx (by simpa using b)⟩
 ·refine g11 ?_
  refine St.rV [_] [] ?_;exact ie (D2 a (by omega)).symm
theorem xo (v0:Value)(xs:List Int)(y:Int):eD prog 143 #[v0,iv y] [sl aI v0 xs] (.bool (xs.any (λx=>decide (y=x)))):=by
 refine eD.nD (args:=[v0,iv y]) 9 func143 rfl ntmps143 rfl (λc=> ?_);refine g9 ?_;refine St.ee (Ev.call (Dl v0 xs y) Za (.aY rfl rfl)) ?_;refine g5 ?_;refine St.rV [_] [] ?_;exact be (vE _ _)
theorem CD (v0:Value)(xs:List Int)(a:FuncId)(f:aJ prog a)(caps:List Value)(ds:List du)(b:Int→Bool)(g:∀p∈xs,eD prog a ([iv p]++caps).toArray ds (.bool (b p))):
 eD prog 158 #[v0,.func (.func a) #[] caps.toArray] (sl aI v0 xs::ds) (iv (ix b xs)):=by
 refine eD.Ma (args:=[v0,.func (.func a) #[] caps.toArray]) 19 func158 rfl ntmps158 rfl (λc=> ?_);refine go ?_;refine St.wf v0 (λj hlen=> ?_);refine g13 ?_;refine St.lS (ι:=Nat) (λk T=>(8,iv k)::T) (λk=>k≤xs.length∧(xs.take k).all (λy=> !b y)=true) (λk=>xs.length-k) 0 (aD.cons 0 rfl (aD.cons 1 rfl (aD.cons 7 rfl aD.nil))) ⟨aO _,rfl⟩ ?_;intro k h;obtain⟨hk,d⟩:=h;refine g6 ?_;refine St.cq (λi=> ?_) (λi=> ?_)
 ·obtain⟨p,hp⟩:=aE (show k<xs.length by omega)
  refine g17 ?_;refine St.ee (Ev.ep (g p (ae hp)) f (.mk rfl) (.ar rfl)) ?_;refine g2 ?_;refine St.cond _ rfl (λe=> ?_) (λe=> ?_)
  ·skip
   refine g12 ?_;refine St.LL [_] _ results158 ⟨rfl,trivial⟩ ?_ (λ_ hw=>hw);exact ie (yr d hp e).symm
  ·skip
   refine g8 ?_;refine St.MG (k+1) ⟨by omega,nX d hp (by simpa using e)⟩ (by first|omega|(dsimp only;omega)) (by repeat(first|exact Sub.nil|refine Sub.cons (by first|rfl|exact congrArg (λz=>some (iv z)) (by first|omega|(dsimp only;omega))|exact congrArg (λz=>some (Value.bool z)) (by first|assumption|exact j5 (by assumption))) ?_)) (λ_ hw=>hw)
 ·refine g11 ?_
  refine St.LL [_] _ results158 ⟨rfl,trivial⟩ ?_ (λ_ hw=>hw);exact ie (D2 d (by omega)).symm
theorem wi (v0:Value)(xs:List Int)(a:FuncId)(d:aJ prog a)(caps:List Value)(ds:List du)(b:Int→Bool)(e:∀p∈xs,eD prog a ([iv p]++caps).toArray ds (.bool (b p))):
 eD prog 144 #[v0,.func (.func a) #[] caps.toArray] (sl aI v0 xs::ds) (.bool (xs.any b)):=by
 refine eD.Ma (args:=[v0,.func (.func a) #[] caps.toArray]) 9 func144 rfl ntmps144 rfl (λc=> ?_);refine g9 ?_;refine St.ee (Ev.call (CD v0 xs a d caps ds b e) Zb (.aY rfl rfl)) ?_;refine g5 ?_;refine St.LL [_] _ results144 ⟨rfl,trivial⟩ ?_ (λ_ hw=>hw);exact be (vE _ _)
theorem CK (f:kr)(k:xx f)(i:List Value)(j:(i.drop 7).take 6=Rt f)(b rule a:Nat)(l:rule<f.nr)(hk:1≤a)(m:a≤1000)(d e g:Nat)(top:Int)(ht:aa top):dx prog 145 #[iv top,.pointer (some ⟨d,0,none⟩),.pointer (some ⟨e,0,none⟩),.pointer (some ⟨g,0,none⟩)] ([ri d (.pointer (some ⟨b,0,none⟩)),ri e (iv (rule:Nat)),ri g (iv (a:Nat)),fO b i,hY f].map aB) (λv H'=>v= .bool (q7 f rule a top)∧H'=[]):=by
 refine dx.body (args:=[iv top,.pointer (some ⟨d,0,none⟩),.pointer (some ⟨e,0,none⟩),.pointer (some ⟨g,0,none⟩)]) 14 func145 rfl ntmps145 rfl (λc=> ?_);refine St.cast (H':=[aB (ri d (.pointer (some ⟨b,0,none⟩))),aB (ri e (iv (rule:Nat))),aB (ri g (iv (a:Nat))),aB (fO b i),aB (hY f)]) rfl ?_;refine g6 ?_;refine St.da [] mixed (λn o=> ?_);refine SW.gd 0 ?_;refine SW.gd 1 ?_;refine SW.gd 2 ?_;refine SW.dd 3 rfl (λ_=>Ev.Sl 6 (.mk rfl) underlying174 trivial Jh j rfl) ?_;refine SW.slot 9 (Kd f) rfl rfl ?_;refine SW.gd 4 ?_;refine SW.gd 5 ?_;refine SW.gd 6 ?_;refine SW.dd 7 rfl (λ_=>Ev.call ((Dj f k rule a l hk m top ht).mono λ_ _ h=>h.1) ZX (.gW rfl rfl rfl rfl)) ?_;refine SW.gd 8 ?_;refine SW.dn ?_;refine g2 ?_;refine St.rV [_] [] ?_;exact⟨rfl,rfl⟩
theorem sy (f:kr)(o:xx f)(d:List Value)(i:(d.drop 7).take 6=Rt f)(a rule b:Nat)(p:rule<f.nr)(hk:1≤b)(q:b≤1000)(g:aV)(j:d[13]?=some g.1)(its:List dJ)(e:Nat)(x:dJ)(hx:its[e]?=some x)(n:∀t∈x.ba,aa t):dx prog 123 #[.pointer (some ⟨a,0,none⟩),iv (rule:Nat),iv (b:Nat),iv (e:Nat)] [aB (hY f),aW a (.cells d.toArray 180 (0,0)),row g.1 186 6 its.length (rows eB its),row x.tv.1 3 1 x.ba.length (rows aI x.ba)] (λv H'=>v= .bool (x.ba.any (q7 f rule b))∧H'=[aW a (.cells d.toArray 180 (0,0)),row g.1 186 6 its.length (rows eB its),row x.tv.1 3 1 x.ba.length (rows aI x.ba)]):=by
 refine dx.body (args:=[.pointer (some ⟨a,0,none⟩),iv (rule:Nat),iv (b:Nat),iv (e:Nat)]) 19 func123 rfl ntmps123 rfl (λc=> ?_);refine go ?_
 have r:=ah hx
 refine go ?_;refine St.Mc (.mk rfl) rfl rfl (λk=> ?_);refine St.Mc (.mk rfl) rfl rfl (λl=> ?_);refine St.Mc (.mk rfl) rfl rfl (λm=> ?_);refine g8 ?_;refine St.ee (Ev.kP (.mk rfl) nT trivial j) ?_;refine g3 ?_;refine St.ee (Ev.ct (.mk rfl) bI trivial (by omega) (eL eB _ e 5 _ hx (by decide))) ?_;refine St.ee (Ev.func (.eh rfl rfl rfl)) ?_;refine St.ee (Ev.yQ (wi x.tv.1 x.ba 145 ZW [.pointer (some ⟨k,0,none⟩),.pointer (some ⟨l,0,none⟩),.pointer (some ⟨m,0,none⟩)] [ri k (.pointer (some ⟨a,0,none⟩)),ri l (iv (rule:Nat)),ri m (iv (b:Nat)),fO a d,hY f] (q7 f rule b) (λt ht=>(CK f o d i a rule b p hk q k l m t (n t ht)).mono λ_ _ h=>h.1)) ZV (.aY rfl rfl) (dm.row (dm.aW (dm.aW (dm.aW (dm.ag0 (dm.aB dm.nil))))) rfl rfl rfl n)) ?_;refine g4 ?_;refine St.rV [_] [aW a (.cells d.toArray 180 (0,0)),row g.1 186 6 its.length (rows eB its),row x.tv.1 3 1 x.ba.length (rows aI x.ba)] ?_;exact⟨rfl,rfl⟩
theorem Ev.kf {P:Program}{n:Nat}{F:Fr}{A:World→Prop}{ty:TypeId}{x:Operand}{b o' cap m size k off:Nat}{v:Value}(a:v= .slice (some ⟨b,o',none⟩) m cap)(hx:ai F x (cY v size k off)):Ev P n F A (.nilCheck x) ty (cY v size k off):= .of_run λac w c _=>by
 subst a;rw[eE]at hx
 simp[execOp,hx.eval c,eE]
def mq (g:gb)(a b:aV)(f:kr)(n:Nat)(c vs:Value)(d:Nat):List Value:=iu g++ [a.1,b.1]++Rt f++ [c,iv (n:Nat),vs,.map (some d)]
instance (g:gb)(a b:aV)(f:kr)(n:Nat)(d vs u:Value)(c:Nat):Ds (mq g a b f n d vs c) 13 u (mq g a b f n u vs c):=⟨rfl⟩
theorem El {α:Type}(l:List α)(a:α)(f:α→α):(l++ [a]).modify l.length f=l++ [f a]:=by
 induction l with
 |nil=>rfl
 |cons b l c=>rw[wZ,fA,List.modify_succ_cons,c];rfl
theorem Gl {α:Type}(l:List α)(a:α):(l++ [a]).eraseIdx l.length=l:=by
 induction l with
 |nil=>rfl
 |cons b l c=>rw[wZ,fA,List.eraseIdx_cons_succ,c]
theorem sU {α β:Type}(g:α→β)(f:β→β):∀{l:List α} {i:Nat} {a b:α},l[i]?=some a→g b=f (g a)→(l.set i b).map g=(l.map g).modify i f
 | [],_,_,_,h,_=>by cases h
 |c::l,0,a,b,h,d=>by
  obtain rfl:=Option.some.inj h;rw[sD,fL,fL,List.modify_zero_cons,d]
 |c::l,i+1,a,b,h,d=>by
  rw[wg,fL,fL,List.modify_succ_cons,sU g f (l:=l) h d]
structure lK (d:nA):Prop where
 ba:∀x∈d.its,∀t∈x.ba,aa t
 keys:wm d.m (d.its.map cE)
 nd:((d.its.map cE).map λx=>fZ x.ed).Nodup
theorem Wr {its:List lJ}{k:bB}{i:Nat}(h:xX its k=some i):i<its.length:=by
 obtain⟨it,h1,_⟩:=yu h;exact ah h1
structure U1 (n frm tqo:Nat)(d:nA)(e:oh)(i:Nat)(x:dJ)(its:List dJ)(bz:List (aV×List Nat))(m:List (bB×Value)):Prop where
 at_:its[i]?=some x
 keys:wm m (its.map cE)
 ba:∀x∈its,∀t∈x.ba,aa t
 GF:bz.length=d.bz.length
 XO:∀k,k≠slt n frm tqo→bz[k]?=d.bz[k]?
 fin:∀w:ud,kZ n d.cs e w=⟨(its.map cE).modify i λit=>it.put w,bz.map Prod.snd⟩
 nd:((its.map cE).map λx=>fZ x.ed).Nodup
theorem U1.AA {n frm tqo:Nat}{d:nA}(h:lK d){e:oh}{i:Nat}(hk:xX (d.its.map cE) (fZ e)=some i){x:dJ}(hx:d.its[i]?=some x):U1 n frm tqo d e i x d.its d.bz d.m:=
 ⟨hx,h.keys,h.ba,rfl,λ_ _=>rfl,λw=>by unfold kZ;rw[show d.cs.its=d.its.map cE from rfl,hk];rfl,h.nd⟩
theorem U1.new {n frm tqo cw:Nat}{d:nA}(h:lK d){g:dD}(hk:xX (d.its.map cE) (fZ ⟨frm,tqo,cw,ay g⟩)=none){q:aV×List Nat}(c:d.bz[slt n frm tqo]?=some q)(u:aV):
 U1 n frm tqo d ⟨frm,tqo,cw,ay g⟩ d.its.length ⟨frm,tqo,cw,g,bT,[],bT,[]⟩ (d.its++ [⟨frm,tqo,cw,g,bT,[],bT,[]⟩]) (d.bz.set (slt n frm tqo) (u,q.2++ [d.its.length])) (l6 d.m (fZ ⟨frm,tqo,cw,ay g⟩) (iv d.its.length)):=by
 refine⟨by simp,?_,λx hx t ht=> ?_,by rw[List.length_set],λk hk=>by rw[ig (λh=>hk h.symm)],λw=> ?_,?_⟩
 ·have:=h.keys.new (it:=⟨⟨frm,tqo,cw,ay g⟩,[],[]⟩) hk
  rw[aN]at this;rw[cO];exact this
 ·rcases cD.1 hx with hx|hx
  ·exact h.ba x hx t ht
  ·rw[bO.1 hx]at ht;cases ht
 ·unfold kZ
  rw[show d.cs.its=d.its.map cE from rfl,hk]
  dsimp only
  congr 1
  ·rw[cO,show d.its.length=(d.its.map cE).length from(aN _).symm]
   exact(El (d.its.map cE) ⟨⟨frm,tqo,cw,ay g⟩,[],[]⟩ (λit=>it.put w)).symm
  ·rw[aN]
   exact(sU Prod.snd (λl=>l++ [d.its.length]) c rfl).symm
 ·rw[cO,cO,List.nodup_append]
  refine⟨h.nd,by simp,λa e b f=> ?_⟩;obtain⟨it,hit,rfl⟩:=cy.1 e
  have i:b=fZ ⟨frm,tqo,cw,ay g⟩:=bO.1 f
  subst i;exact O1 hk it hit
theorem FN {its:List dJ}{i:Nat}{x:dJ}(h:its[i]?=some x)(u:aV)(l:List re):(rows eB its).set (i*6+4) u.1=rows eB (its.set i ⟨x.frm,x.tqo,x.cw,x.gr,u,l,x.tv,x.ba⟩):=by
 induction its generalizing i with
 |nil=>cases h
 |cons a its b=>
  cases i with
  |zero=>obtain rfl:=Option.some.inj h;rfl
  |succ i=>
   have:=b (i:=i) h
   show(eB.cells a++rows eB its).set ((i+1)*6+4) u.1=eB.cells a++rows eB (its.set i _)
   rw[←this,lG _ _ (by show 6≤_;omega)]
   congr 2
   show(i+1)*6+4-6=_
   omega
theorem PA {its:List dJ}{i:Nat}{x:dJ}(h:its[i]?=some x)(u:aV)(l:List Int):(rows eB its).set (i*6+5) u.1=rows eB (its.set i ⟨x.frm,x.tqo,x.cw,x.gr,x.wv,x.cV,u,l⟩):=by
 induction its generalizing i with
 |nil=>cases h
 |cons a its b=>
  cases i with
  |zero=>obtain rfl:=Option.some.inj h;rfl
  |succ i=>
   have:=b (i:=i) h
   show(eB.cells a++rows eB its).set ((i+1)*6+5) u.1=eB.cells a++rows eB (its.set i _)
   rw[←this,lG _ _ (by show 6≤_;omega)]
   congr 2
   show(i+1)*6+5-6=_
   omega
theorem pI (f:dJ→List ak)(g:aV×List Nat→List ak)(its:List dJ){bz:List (aV×List Nat)}{k:Nat}{q:aV×List Nat}(h:bz[k]?=some q):(bE f its++bE g bz).Perm (g q++(bE f its++bE g (bz.eraseIdx k))):=by
 refine((nI g h).append_left (bE f its)).trans ?_;rw[←dp,←dp];exact jX.append_right _
theorem ae1 (f:dJ→List ak)(g:aV×List Nat→List ak)(its:List dJ){bz:List (aV×List Nat)}{k:Nat}(q:aV×List Nat)(h:k<bz.length):(g q++(bE f its++bE g (bz.eraseIdx k))).Perm (bE f its++bE g (bz.set k q)):=by
 refine List.Perm.trans ?_ ((sN g q h).append_left (bE f its));rw[←dp,←dp];exact jX.append_right _
theorem yq (f:dJ→List ak)(X:List ak){its:List dJ}{i:Nat}{x:dJ}(h:its[i]?=some x):(bE f its++X).Perm (f x++(bE f (its.eraseIdx i)++X)):=by
 rw[←dp];exact(nI f h).append_right X
theorem ad0 (f:dJ→List ak)(X:List ak){its:List dJ}{i:Nat}(x:dJ)(h:i<its.length):(f x++(bE f (its.eraseIdx i)++X)).Perm (bE f (its.set i x)++X):=by
 rw[←dp];exact(sN f x h).append_right X
theorem QH (b a:TypeId)(X:List ak){its:List dJ}{i:Nat}(x:dJ){cV:List re}{w:re}(hw:x.cV=cV++ [w])(h:i<its.length):
 ([row x.wv.1 b 3 x.cV.length (rows mH x.cV),row x.tv.1 a 1 x.ba.length (rows aI x.ba),row w.kv.1 a 1 w.kids.length (rows aI (bW w.kids))]++(bE (jF a) cV++(bE (ek b a) (its.eraseIdx i)++X))).Perm (bE (ek b a) (its.set i x)++X):=by
 refine List.Perm.trans ?_ (ad0 (ek b a) X x h)
 show(row x.wv.1 b 3 x.cV.length (rows mH x.cV)::row x.tv.1 a 1 x.ba.length (rows aI x.ba)::(jF a w++(bE (jF a) cV++(bE (ek b a) (its.eraseIdx i)++X)))).Perm (row x.wv.1 b 3 x.cV.length (rows mH x.cV)::row x.tv.1 a 1 x.ba.length (rows aI x.ba)::(bE (jF a) x.cV++(bE (ek b a) (its.eraseIdx i)++X)))
 refine .cons _ (.cons _ ?_);rw[hw,S3,show bE (jF a) [w]=jF a w from gq _,←dp];exact jX.append_right _
theorem JA {n frm tqo:Nat}{d:nA}{e:oh}{i:Nat}{x x3:dJ}{its:List dJ}{bz:List (aV×List Nat)}{m:List (bB×Value)}(h:U1 n frm tqo d e i x its bz m){w:ud}(f:cE x3=(cE x).put w)(ht:∀t∈x3.ba,aa t)(b:aV):
 (⟨b,its.set i x3,d.nQ,bz,m⟩:nA).cs=kZ n d.cs e w∧lK ⟨b,its.set i x3,d.nQ,bz,m⟩:=by
 have a:(its.set i x3).map cE=(its.map cE).modify i λit=>it.put w:=sU cE _ h.at_ f
 refine⟨?_,?_,?_,?_⟩
 ·rw[h.fin w];show(⟨(its.set i x3).map cE,_⟩:Cs)=_;rw[a]
 ·intro y hy
  rcases lF hy with hy|rfl
  ·exact h.ba y hy
  ·exact ht
 ·show wm m ((its.set i x3).map cE)
  rw[a];exact h.keys.put i w
 ·show((((its.set i x3).map cE)).map λx=>fZ x.ed).Nodup
  have e2:(((its.set i x3).map cE).map λx=>fZ x.ed)=(its.map cE).map λx=>fZ x.ed:=by
   rw[a]
   refine pa λk=> ?_
   rw[bQ,bQ,List.getElem?_modify]
   cases (its.map cE)[k]? with
   |none=>rfl
   |some y=>by_cases c:i=k<;>simp[c,lJ.put]
  rw[e2];exact h.nd
theorem ug (g:gb)(F G:aV)(f:kr)(n:Nat)(hn:n≤12)(d:nA)(hp:lK d)(B s frm tqo cw:Nat)(gr:dD)(U:gr.nodes.length≤100)(hgl:∀t∈gr.nodes,t.aq.length≤1000)(V:frm≤n)(YK:tqo≤n)
 (rule lex:Int) (K:aa rule) (hle: -1000000≤lex∧lex≤1000000) (kv:aV) (kids:List Nat) (q:aV×List Nat) (Q:d.bz[slt n frm tqo]?=some q) (hql:q.2.length≤1400000000000) (SH:d.its.length+1≤1400000000000) (Nr:∀x∈d.its,x.cV.length+1≤3000000000000∧x.ba.length≤x.cV.length):
 dx prog 120 #[.pointer (some ⟨B,0,none⟩),Gk frm tqo cw gr.nv.1,.agg #[iv rule,iv lex,kv.1]] (aB (aG gr)::aB (aF (λx:dJ=>aG x.gr) (d.its))::aW B (.cells (mq g F G f n d.eC.1 d.nQ.1 s).toArray 180 (0,0))::aW s (eU mkStr (d.m))::row d.eC.1 186 6 (d.its).length (rows eB (d.its))::row d.nQ.1 58 1 (d.bz).length (rows bS ((d.bz).map Prod.fst))::row kv.1 3 1 kids.length (rows aI (bW kids))::(bE (ek 200 3) (d.its)++bE (fq 3) (d.bz)))
  (λv H'=>∃d2:nA,d2.cs=kZ n d.cs (⟨frm,tqo,cw,ay gr⟩:oh) (⟨rule,lex,kids⟩:ud)∧d2.nQ=d.nQ∧lK d2∧d2.bz.length=d.bz.length∧(∀k,k≠slt n frm tqo→d2.bz[k]?=d.bz[k]?)∧H'=aB (aF (λx:dJ=>aG x.gr) (d2.its))::aW B (.cells (mq g F G f n d2.eC.1 d.nQ.1 s).toArray 180 (0,0))::aW s (eU mkStr (d2.m))::row d2.eC.1 186 6 (d2.its).length (rows eB (d2.its))::row d2.nQ.1 58 1 (d2.bz).length (rows bS ((d2.bz).map Prod.fst))::(bE (ek 200 3) (d2.its)++bE (fq 3) (d2.bz))):=by
 refine dx.body (args:=[.pointer (some ⟨B,0,none⟩),Gk frm tqo cw gr.nv.1,.agg #[iv rule,iv lex,kv.1]]) 96 func120 rfl ntmps120 rfl (λc=> ?_);refine go ?_
 have W:=ah Q
 have anM:=K.1
 have anN:=K.2
 refine go ?_;refine St.dK (.mk rfl) rfl (λb4=> ?_);refine St.dK (.mk rfl) rfl (λb5=> ?_);refine g9 ?_;refine St.join (ι:=Int) (λtop T=>(6,iv top)::T) (λtop=>aW b4 (.cells [iv (frm:Nat),iv (tqo:Nat),iv (cw:Nat),gr.nv.1].toArray 183 (0,0))::aW b5 (.cells [iv rule,iv lex,kv.1].toArray 200 (0,0))::aB (aG gr)::aB (aF (λx:dJ=>aG x.gr) (d.its))::aW B (.cells (mq g F G f n d.eC.1 d.nQ.1 s).toArray 180 (0,0))::aW s (eU mkStr (d.m))::row d.eC.1 186 6 (d.its).length (rows eB (d.its))::row d.nQ.1 58 1 (d.bz).length (rows bS ((d.bz).map Prod.fst))::row kv.1 3 1 kids.length (rows aI (bW kids))::(bE (ek 200 3) (d.its)++bE (fq 3) (d.bz))) (λtop=>top=sb (⟨rule,lex,kids⟩:ud)) (aD.cons 0 rfl (aD.cons 4 rfl (aD.cons 5 rfl aD.nil))) ?_ ?_
 ·refine g6 ?_
  refine St.cq (λh14=> ?_) (λh14=> ?_)
  ·refine g7 ?_
   refine St.mE (1000+lex) (by unfold sb;rw[aC (show rule<0 by omega)])
  ·refine g2 ?_
   refine St.mE rule (by unfold sb;rw[aA (show ¬rule<0 by omega)])
 ·intro top R
  refine g3 ?_;refine St.slot 18 (Gk frm tqo cw gr.nv.1) rfl rfl ?_;refine St.ee (Ev.call ((Nz frm tqo cw gr U hgl).mono λ_ _ h=>h.1) ZS (.ar rfl)) ?_;refine g4 ?_
  have L:=hp.keys (fZ (⟨frm,tqo,cw,ay gr⟩:oh))
  refine g6 ?_;refine St.ee (Ev.th mkStr (k:=(fZ (⟨frm,tqo,cw,ay gr⟩:oh))) (.mk rfl) (.mk rfl) pY (by exact wW) eQ) ?_;refine g7 ?_;refine St.join (ι:=Nat×dJ×List dJ×List dJ×List (aV×List Nat)×List (bB×Value)×aV) (λ⟨i,a,b,J,l,m1,o⟩ T=>(8,iv ((i:Nat):Int))::T) (λ⟨i,a,b,J,l,m1,o⟩=>aW b4 (.cells [iv (frm:Nat),iv (tqo:Nat),iv (cw:Nat),gr.nv.1].toArray 183 (0,0))::aW b5 (.cells [iv rule,iv lex,kv.1].toArray 200 (0,0))::aW B (.cells (mq g F G f n o.1 d.nQ.1 s).toArray 180 (0,0))::aW s (eU mkStr (m1))::row o.1 186 6 (b).length (rows eB (b))::row d.nQ.1 58 1 (l).length (rows bS ((l).map Prod.fst))::row kv.1 3 1 kids.length (rows aI (bW kids))::aB (aF (λx:dJ=>aG x.gr) (b))::aB (aG gr)::row a.wv.1 200 3 (a.cV).length (rows mH (a.cV))::row a.tv.1 3 1 (a.ba).length (rows aI (a.ba))::(bE (jF 3) a.cV++(bE (ek 200 3) J++bE (fq 3) l))) (λ⟨i,a,b,J,l,m1,o⟩=>U1 n frm tqo d (⟨frm,tqo,cw,ay gr⟩:oh) i a b l m1∧J=b.eraseIdx i∧b.length≤1400000000000∧a.cV.length+1≤3000000000000∧a.ba.length≤a.cV.length) (aD.cons 0 rfl (aD.cons 5 rfl (aD.cons 6 rfl aD.nil))) ?_ ?_
  ·refine g6 ?_
   refine St.cq (λM=> ?_) (λM=> ?_)
   ·have Nd:xX (d.its.map cE) (fZ (⟨frm,tqo,cw,ay gr⟩:oh))=none:=by cases X:xX (d.its.map cE) (fZ (⟨frm,tqo,cw,ay gr⟩:oh))with|none=>rfl|some j=>rw[X]at L;rw[L]at M;simp at M
    refine g18 ?_;refine St.mapUpdate mkStr (k:=(fZ (⟨frm,tqo,cw,ay gr⟩:oh))) (.mk rfl) (.mk rfl) (.mk rfl) pY (by exact wW) ?_;refine g3 ?_;refine St.da (aW B (.cells (mq g F G f n d.eC.1 d.nQ.1 s).toArray 180 (0,0))::row d.eC.1 186 6 (d.its).length (rows eB (d.its))::(bE (ek 200 3) (d.its)++bE (fq 3) (d.bz))) mixed (λnp ns=> ?_);refine SW.gd 0 ?_;refine SW.gd 1 ?_;refine SW.gd 2 ?_;refine SW.gd 3 ?_;refine SW.gd 5 ?_;refine SW.slot 47 (Gk frm tqo cw gr.nv.1) rfl rfl ?_;refine SW.dd 6 rfl (λ_=>Ev.build (ps:=[(0,(.tmp 47))]) (bH.ar rfl) (λw=>MW w)) ?_;refine SW.slot 48 (.agg #[iv (frm:Nat),iv (tqo:Nat),iv (cw:Nat),gr.nv.1,(.slice none 0 0),(.slice none 0 0)]) rfl rfl ?_;refine SW.t2 4 7 ?_ ?_
    focus
     refine g3 ?_;refine SW.go ?_;refine SW.t1 7 ?_;refine St.fp rfl (.ar rfl) nT oX GC rfl rfl (by simp[Value.cells]) rfl rfl (λY=> ?_);refine g2 ?_;refine SW.go ?_;refine SW.t1 8 ?_;refine St.aj (.mk rfl) (.mk rfl) nT oX GC Me (by intro u hu;have A:u∈[iv (frm:Nat),iv (tqo:Nat),iv (cw:Nat),gr.nv.1,.slice none 0 0,.slice none 0 0]:=hu;simp only[List.mem_cons,List.not_mem_nil,or_false]at A;rcases A with rfl|rfl|rfl|rfl|rfl|rfl;exact rfl;exact rfl;exact rfl;exact gr.nv.2;exact rfl;exact rfl) (by omega) (by omega) rfl rfl rfl rfl (λv50 Z=> ?_);refine St.aM v50 (show _=(d.its++ [(⟨frm,tqo,cw,gr,bT,[],bT,[]⟩:dJ)]).length by rw[bN];rfl) (show _=rows eB (d.its++ [(⟨frm,tqo,cw,gr,bT,[],bT,[]⟩:dJ)]) by rw[ax];rfl) ?_;refine St.bZ v50 (λS _=> ?_);refine g2 ?_;refine SW.go ?_;refine SW.gd 9 ?_;refine SW.gd 10 ?_;refine SW.t1 11 ?_;refine St.cJ (.mk rfl) (.mk rfl) Pe S (by rfl) ?_;refine g2 ?_;refine SW.go ?_;refine SW.dn ?_
    rotate_left
    focus
     refine St.fp rfl (.ar rfl) nT oX GC rfl rfl (by simp[Value.cells]) rfl rfl (λY=> ?_);refine g2 ?_;refine SW.go ?_;refine SW.t1 4 ?_;refine g3 ?_;refine SW.go ?_;refine SW.t1 8 ?_;refine St.aj (.mk rfl) (.mk rfl) nT oX GC Me (by intro u hu;have A:u∈[iv (frm:Nat),iv (tqo:Nat),iv (cw:Nat),gr.nv.1,.slice none 0 0,.slice none 0 0]:=hu;simp only[List.mem_cons,List.not_mem_nil,or_false]at A;rcases A with rfl|rfl|rfl|rfl|rfl|rfl;exact rfl;exact rfl;exact rfl;exact gr.nv.2;exact rfl;exact rfl) (by omega) (by omega) rfl rfl rfl rfl (λv50 Z=> ?_);refine St.aM v50 (show _=(d.its++ [(⟨frm,tqo,cw,gr,bT,[],bT,[]⟩:dJ)]).length by rw[bN];rfl) (show _=rows eB (d.its++ [(⟨frm,tqo,cw,gr,bT,[],bT,[]⟩:dJ)]) by rw[ax];rfl) ?_;refine St.bZ v50 (λS _=> ?_);refine g2 ?_;refine SW.go ?_;refine SW.gd 9 ?_;refine SW.gd 10 ?_;refine SW.t1 11 ?_;refine St.cJ (.mk rfl) (.mk rfl) Pe S (by rfl) ?_;refine g2 ?_;refine SW.go ?_;refine SW.dn ?_
    all_goals
     refine go ?_;refine St.tail (bE (ek 200 3) (d.its)++bE (fq 3) (d.bz)) (row q.1.1 3 1 (q.2).length (rows aI (bW (q.2)))::(bE (ek 200 3) (d.its)++bE (fq 3) (d.bz.eraseIdx (slt n frm tqo)))) (pI _ _ _ Q) ?_;refine St.da (row d.nQ.1 58 1 (d.bz).length (rows bS ((d.bz).map Prod.fst))::row q.1.1 3 1 (q.2).length (rows aI (bW (q.2)))::(bE (ek 200 3) (d.its)++bE (fq 3) (d.bz.eraseIdx (slt n frm tqo)))) mixed (λnp ns=> ?_);refine SW.gd 0 ?_;refine SW.gd 1 ?_;refine SW.gd 2 ?_;refine SW.dd 3 rfl (λ_=>Ev.iV 2 (.mk rfl) Bm trivial Bh rfl rfl) ?_;refine SW.slot 56 (.agg #[iv (n:Nat),d.nQ.1]) rfl rfl ?_;refine SW.gd 4 ?_;refine SW.gd 5 ?_;refine SW.gd 6 ?_;refine SW.gd 7 ?_;refine SW.gd 8 ?_;refine SW.t1 9 ?_;refine St.call (Hv n frm tqo (slt n frm tqo) hn V YK rfl d.nQ d.bz q Q d.its.length (by omega) hql) ZT (.gW rfl rfl rfl rfl) rfl ?_;rintro v62 _ ⟨u,rfl⟩;refine St.dQ ?_;refine g2 ?_;refine SW.go ?_;refine SW.dn ?_;refine go ?_;refine St.e9 200 3 ?_;refine St.aM (.slice none 0 0) (show _=([]:List re).length from rfl) (show _=rows mH []from rfl) ?_;refine St.e9 3 1 ?_;refine St.aM (.slice none 0 0) (show _=([]:List Int).length from rfl) (show _=rows aI []from rfl) ?_;refine St.ma [row u.1 3 1 (q.2++ [d.its.length]).length (rows aI (bW (q.2++ [d.its.length])))] (bE (ek 200 3) (d.its)++bE (fq 3) (d.bz.eraseIdx (slt n frm tqo))) (bE (jF 3) ([]:List re)++(bE (ek 200 3) (d.its)++bE (fq 3) (d.bz.set (slt n frm tqo) (u,q.2++ [d.its.length])))) (ae1 (ek 200 3) (fq 3) d.its (u,q.2++ [d.its.length]) W) ?_;refine St.eY (aF (λx:dJ=>aG x.gr) (d.its++ [(⟨frm,tqo,cw,gr,bT,[],bT,[]⟩:dJ)])) [aF (λx:dJ=>aG x.gr) d.its,aG gr] (λρ h x hx=>by rcases cD.1 hx with hx|hx;exact h _ (aP ..) x hx;rw[bO.1 hx];exact h _ (cN _ (aP ..))) ?_;refine St.mE ⟨d.its.length,(⟨frm,tqo,cw,gr,bT,[],bT,[]⟩:dJ),d.its++ [(⟨frm,tqo,cw,gr,bT,[],bT,[]⟩:dJ)],d.its,d.bz.set (slt n frm tqo) (u,q.2++ [d.its.length]),l6 d.m (fZ (⟨frm,tqo,cw,ay gr⟩:oh)) (iv d.its.length),⟨v50,S⟩⟩ ⟨U1.new hp Nd Q u,(Gl _ _).symm,by rw[bN];exact SH,by show 0+1≤3000000000000;omega,aO _⟩
   ·obtain⟨i0,hki⟩:∃i,xX (d.its.map cE) (fZ (⟨frm,tqo,cw,ay gr⟩:oh))=some i:=by cases X:xX (d.its.map cE) (fZ (⟨frm,tqo,cw,ay gr⟩:oh))with|none=>(rw[X]at L;rw[L]at M;simp at M)|some j=>exact⟨j,rfl⟩
    have N:=Wr hki
    rw[aN]at N;obtain⟨x0,H8⟩:=aE N
    have Wm:=Nr x0 (ae H8)
    refine St.slot 8 (iv ((i0:Nat):Int)) rfl (by rw[L,hki];rfl) ?_;refine g2 ?_;refine St.tail (bE (ek 200 3) (d.its)++bE (fq 3) (d.bz)) (row x0.wv.1 200 3 (x0.cV).length (rows mH (x0.cV))::row x0.tv.1 3 1 (x0.ba).length (rows aI (x0.ba))::(bE (jF 3) x0.cV++(bE (ek 200 3) (d.its.eraseIdx i0)++bE (fq 3) (d.bz)))) (yq _ _ H8) ?_;refine St.mE ⟨i0,x0,d.its,d.its.eraseIdx i0,d.bz,d.m,d.eC⟩ ⟨U1.AA hp hki H8,rfl,by omega,Wm⟩
  ·rintro ⟨i,a,b,J,l,m1,o⟩ ⟨p,O,hi1,hw1,ht1⟩
   refine go ?_
   have E:=ah p.at_
   have H:=ae p.at_
   refine St.l8 o.1 (by omega) (λbs cs z=> ?_);refine g6 ?_;refine St.ee (Ev.mo (k:=i) z (.mk rfl) (.mk rfl) nT oX (by omega) (by omega)) ?_;refine g4 ?_;refine St.da (row o.1 186 6 (b).length (rows eB (b))::row a.wv.1 200 3 (a.cV).length (rows mH (a.cV))::(bE (jF 3) a.cV++(bE (ek 200 3) J++bE (fq 3) l))) mixed (λnp ns=> ?_);refine SW.gd 0 ?_;refine SW.gd 1 ?_;refine SW.dd 2 rfl (λ_=>Ev.kf z (.mk rfl)) ?_;refine SW.dd 3 rfl (λ_=>Ev.jZ z (.mk rfl) tU) ?_;refine SW.gd 5 ?_;refine SW.slot 74 (.agg #[iv rule,iv lex,kv.1]) rfl rfl ?_;refine SW.t2 4 6 ?_ ?_
   focus
    refine St.ee (Ev.ct (.mk rfl) uP trivial (by omega) (eL eB _ i 4 _ p.at_ (by decide))) ?_;refine g2 ?_;refine SW.go ?_;refine SW.t1 6 ?_;refine St.fp rfl (.ar rfl) uP wR K9 rfl rfl (by simp[Value.cells]) rfl rfl (λb75=> ?_);refine g2 ?_;refine SW.go ?_;refine SW.t1 7 ?_;refine St.aj (.mk rfl) (.mk rfl) uP wR K9 U8 (by intro u hu;have A:u∈[iv rule,iv lex,kv.1]:=hu;simp only[List.mem_cons,List.not_mem_nil,or_false]at A;rcases A with rfl|rfl|rfl;exact rfl;exact rfl;exact kv.2) (by omega) (by omega) rfl rfl rfl rfl (λv76 akD=> ?_);refine St.aM v76 (show _=(a.cV++ [(⟨rule,lex,kv,kids⟩:re)]).length from cR) (show _=rows mH (a.cV++ [(⟨rule,lex,kv,kids⟩:re)]) by rw[ax];rfl) ?_;refine St.bZ v76 (λe _=> ?_);refine g2 ?_;refine SW.go ?_;refine SW.dd 8 rfl (λ_=>Ev.kf z (.mk rfl)) ?_;refine SW.dd 9 rfl (λ_=>Ev.jZ z (.mk rfl) tU) ?_;refine SW.t1 10 ?_;refine St.cG (.mk rfl) (.mk rfl) V7 e (by omega) (by decide) ?_
    obtain⟨C,I⟩:∃C:dJ,C=⟨a.frm,a.tqo,a.cw,a.gr,⟨v76,e⟩,a.cV++ [⟨rule,lex,kv,kids⟩],a.tv,a.ba⟩:=⟨_,rfl⟩
    refine St.aM o.1 (show _=(b.set i C).length by rw[cn]) (show _=rows eB (b.set i C) by rw[I];exact FN p.at_ ⟨v76,e⟩ _) ?_;refine g2 ?_;refine SW.go ?_;refine SW.dn ?_
   rotate_left
   focus
    refine St.fp rfl (.ar rfl) uP wR K9 rfl rfl (by simp[Value.cells]) rfl rfl (λb75=> ?_);refine g2 ?_;refine SW.go ?_;refine SW.t1 4 ?_;refine St.ee (Ev.ct (.mk rfl) uP trivial (by omega) (eL eB _ i 4 _ p.at_ (by decide))) ?_;refine g2 ?_;refine SW.go ?_;refine SW.t1 7 ?_;refine St.aj (.mk rfl) (.mk rfl) uP wR K9 U8 (by intro u hu;have A:u∈[iv rule,iv lex,kv.1]:=hu;simp only[List.mem_cons,List.not_mem_nil,or_false]at A;rcases A with rfl|rfl|rfl;exact rfl;exact rfl;exact kv.2) (by omega) (by omega) rfl rfl rfl rfl (λv76 akD=> ?_);refine St.aM v76 (show _=(a.cV++ [(⟨rule,lex,kv,kids⟩:re)]).length from cR) (show _=rows mH (a.cV++ [(⟨rule,lex,kv,kids⟩:re)]) by rw[ax];rfl) ?_;refine St.bZ v76 (λe _=> ?_);refine g2 ?_;refine SW.go ?_;refine SW.dd 8 rfl (λ_=>Ev.kf z (.mk rfl)) ?_;refine SW.dd 9 rfl (λ_=>Ev.jZ z (.mk rfl) tU) ?_;refine SW.t1 10 ?_;refine St.cG (.mk rfl) (.mk rfl) V7 e (by omega) (by decide) ?_
    obtain⟨C,I⟩:∃C:dJ,C=⟨a.frm,a.tqo,a.cw,a.gr,⟨v76,e⟩,a.cV++ [⟨rule,lex,kv,kids⟩],a.tv,a.ba⟩:=⟨_,rfl⟩
    refine St.aM o.1 (show _=(b.set i C).length by rw[cn]) (show _=rows eB (b.set i C) by rw[I];exact FN p.at_ ⟨v76,e⟩ _) ?_;refine g2 ?_;refine SW.go ?_;refine SW.dn ?_
   all_goals
    refine g4 ?_;refine St.ee (Ev.kf z (.mk rfl)) ?_;refine St.ee (Ev.jZ z (.mk rfl) tV) ?_;refine St.ee (Ev.ct (.mk rfl) bI trivial (by rw[cn];exact E) (eL eB _ i 5 _ (fU E) (by decide))) ?_;refine St.slot 82 a.tv.1 rfl (by rw[I]) ?_;refine go ?_;refine St.ee (Ev.yQ (xo a.tv.1 a.ba top) ZU (.aY rfl rfl) (dm.row dm.nil rfl rfl rfl (p.ba a H))) ?_;refine g3 ?_;refine St.cq (λD=> ?_) (λD=> ?_)
    ·have hnt:top∉a.ba:=λhm=>by simp at D;exact D top hm rfl
     refine g3 ?_;refine St.ee (Ev.kf z (.mk rfl)) ?_;refine St.ee (Ev.jZ z (.mk rfl) tV) ?_;refine St.ee (Ev.ct (.mk rfl) bI trivial (by rw[cn];exact E) (eL eB _ i 5 _ (fU E) (by decide))) ?_;refine St.slot 90 a.tv.1 rfl (by rw[I]) ?_;refine go ?_;refine St.fp rfl (.ar rfl) bI dL eQ rfl rfl (by simp[Value.cells]) rfl rfl (λb92=> ?_);refine St.aj (.mk rfl) (.mk rfl) bI dL eQ xO (by simp[Value.oneCell',Value.cells]) (by omega) (by omega) rfl rfl rfl rfl (λv93 an1=> ?_);refine St.aM v93 (show _=(a.ba++ [top]).length from cR) (show _=rows aI (a.ba++ [top]) by rw[ax];rfl) ?_;refine St.bZ v93 (λr _=> ?_);refine St.ee (Ev.kf z (.mk rfl)) ?_;refine St.ee (Ev.jZ z (.mk rfl) tV) ?_;refine St.cG (.mk rfl) (.mk rfl) fE r (by rw[cn];exact E) (by decide) ?_;refine St.aM o.1 (show _=(b.set i (⟨a.frm,a.tqo,a.cw,a.gr,⟨v76,e⟩,a.cV++ [⟨rule,lex,kv,kids⟩],⟨v93,r⟩,a.ba++ [top]⟩:dJ)).length by rw[cn,cn]) (show _=rows eB (b.set i (⟨a.frm,a.tqo,a.cw,a.gr,⟨v76,e⟩,a.cV++ [⟨rule,lex,kv,kids⟩],⟨v93,r⟩,a.ba++ [top]⟩:dJ)) by rw[PA (fU E) ⟨v93,r⟩ (a.ba++ [top]),List.set_set,I]) ?_;refine go ?_;refine St.eF ?_;subst O;refine St.ma [row v76 200 3 (a.cV++ [(⟨rule,lex,kv,kids⟩:re)]).length (rows mH (a.cV++ [(⟨rule,lex,kv,kids⟩:re)])),row (⟨v93,r⟩:aV).1 3 1 (a.ba++ [top]).length (rows aI (a.ba++ [top])),row kv.1 3 1 kids.length (rows aI (bW kids))] (bE (jF 3) a.cV++(bE (ek 200 3) (b.eraseIdx i)++bE (fq 3) l)) (bE (ek 200 3) (b.set i (⟨a.frm,a.tqo,a.cw,a.gr,⟨v76,e⟩,a.cV++ [⟨rule,lex,kv,kids⟩],⟨v93,r⟩,a.ba++ [top]⟩:dJ))++bE (fq 3) (l)) (QH 200 3 (bE (fq 3) l) (⟨a.frm,a.tqo,a.cw,a.gr,⟨v76,e⟩,a.cV++ [⟨rule,lex,kv,kids⟩],⟨v93,r⟩,a.ba++ [top]⟩:dJ) rfl E) ?_;refine St.eY (aF (λx:dJ=>aG x.gr) (b.set i (⟨a.frm,a.tqo,a.cw,a.gr,⟨v76,e⟩,a.cV++ [⟨rule,lex,kv,kids⟩],⟨v93,r⟩,a.ba++ [top]⟩:dJ))) [aF (λx:dJ=>aG x.gr) b] (λρ h y hy=>by rcases lF hy with hy|rfl;exact h _ (aP ..) y hy;exact h _ (aP ..) a H) ?_;refine St.rV [] (aB (aF (λx:dJ=>aG x.gr) (b.set i (⟨a.frm,a.tqo,a.cw,a.gr,⟨v76,e⟩,a.cV++ [⟨rule,lex,kv,kids⟩],⟨v93,r⟩,a.ba++ [top]⟩:dJ)))::aW B (.cells (mq g F G f n o.1 d.nQ.1 s).toArray 180 (0,0))::aW s (eU mkStr (m1))::row o.1 186 6 (b.set i (⟨a.frm,a.tqo,a.cw,a.gr,⟨v76,e⟩,a.cV++ [⟨rule,lex,kv,kids⟩],⟨v93,r⟩,a.ba++ [top]⟩:dJ)).length (rows eB (b.set i (⟨a.frm,a.tqo,a.cw,a.gr,⟨v76,e⟩,a.cV++ [⟨rule,lex,kv,kids⟩],⟨v93,r⟩,a.ba++ [top]⟩:dJ)))::row d.nQ.1 58 1 (l).length (rows bS ((l).map Prod.fst))::(bE (ek 200 3) (b.set i (⟨a.frm,a.tqo,a.cw,a.gr,⟨v76,e⟩,a.cV++ [⟨rule,lex,kv,kids⟩],⟨v93,r⟩,a.ba++ [top]⟩:dJ))++bE (fq 3) (l))) ?_
     have P:=JA (x3:=(⟨a.frm,a.tqo,a.cw,a.gr,⟨v76,e⟩,a.cV++ [⟨rule,lex,kv,kids⟩],⟨v93,r⟩,a.ba++ [top]⟩:dJ)) (w:=(⟨rule,lex,kids⟩:ud)) p (by show(⟨_,_,_⟩:lJ)=⟨_,_,_⟩;congr 1;exact cO;show a.ba++ [top]=if sb (⟨rule,lex,kids⟩:ud)∈a.ba then a.ba else a.ba++ [sb (⟨rule,lex,kids⟩:ud)];rw[←R,aA hnt]) (λt ht=>by first|exact p.ba a H t ht|(rcases cD.1 ht with ht|ht;exact p.ba a H t ht;rw[bO.1 ht,R];unfold sb aa;dsimp only;split<;>omega)) o
     exact⟨⟨o,b.set i (⟨a.frm,a.tqo,a.cw,a.gr,⟨v76,e⟩,a.cV++ [⟨rule,lex,kv,kids⟩],⟨v93,r⟩,a.ba++ [top]⟩:dJ),d.nQ,l,m1⟩,P.1,rfl,P.2,p.GF,p.XO,rfl⟩
    ·have hnt:top∈a.ba:=by simpa using D
     subst I;refine go ?_;refine St.eF ?_;subst O;refine St.ma [row v76 200 3 (a.cV++ [(⟨rule,lex,kv,kids⟩:re)]).length (rows mH (a.cV++ [(⟨rule,lex,kv,kids⟩:re)])),row a.tv.1 3 1 (a.ba).length (rows aI (a.ba)),row kv.1 3 1 kids.length (rows aI (bW kids))] (bE (jF 3) a.cV++(bE (ek 200 3) (b.eraseIdx i)++bE (fq 3) l)) (bE (ek 200 3) (b.set i (⟨a.frm,a.tqo,a.cw,a.gr,⟨v76,e⟩,a.cV++ [⟨rule,lex,kv,kids⟩],a.tv,a.ba⟩:dJ))++bE (fq 3) (l)) (QH 200 3 (bE (fq 3) l) (⟨a.frm,a.tqo,a.cw,a.gr,⟨v76,e⟩,a.cV++ [⟨rule,lex,kv,kids⟩],a.tv,a.ba⟩:dJ) rfl E) ?_;refine St.eY (aF (λx:dJ=>aG x.gr) (b.set i (⟨a.frm,a.tqo,a.cw,a.gr,⟨v76,e⟩,a.cV++ [⟨rule,lex,kv,kids⟩],a.tv,a.ba⟩:dJ))) [aF (λx:dJ=>aG x.gr) b] (λρ h y hy=>by rcases lF hy with hy|rfl;exact h _ (aP ..) y hy;exact h _ (aP ..) a H) ?_;refine St.rV [] (aB (aF (λx:dJ=>aG x.gr) (b.set i (⟨a.frm,a.tqo,a.cw,a.gr,⟨v76,e⟩,a.cV++ [⟨rule,lex,kv,kids⟩],a.tv,a.ba⟩:dJ)))::aW B (.cells (mq g F G f n o.1 d.nQ.1 s).toArray 180 (0,0))::aW s (eU mkStr (m1))::row o.1 186 6 (b.set i (⟨a.frm,a.tqo,a.cw,a.gr,⟨v76,e⟩,a.cV++ [⟨rule,lex,kv,kids⟩],a.tv,a.ba⟩:dJ)).length (rows eB (b.set i (⟨a.frm,a.tqo,a.cw,a.gr,⟨v76,e⟩,a.cV++ [⟨rule,lex,kv,kids⟩],a.tv,a.ba⟩:dJ)))::row d.nQ.1 58 1 (l).length (rows bS ((l).map Prod.fst))::(bE (ek 200 3) (b.set i (⟨a.frm,a.tqo,a.cw,a.gr,⟨v76,e⟩,a.cV++ [⟨rule,lex,kv,kids⟩],a.tv,a.ba⟩:dJ))++bE (fq 3) (l))) ?_
     have P:=JA (x3:=(⟨a.frm,a.tqo,a.cw,a.gr,⟨v76,e⟩,a.cV++ [⟨rule,lex,kv,kids⟩],a.tv,a.ba⟩:dJ)) (w:=(⟨rule,lex,kids⟩:ud)) p (by show(⟨_,_,_⟩:lJ)=⟨_,_,_⟩;congr 1;exact cO;show a.ba=if sb (⟨rule,lex,kids⟩:ud)∈a.ba then a.ba else a.ba++ [sb (⟨rule,lex,kids⟩:ud)];rw[←R,aC hnt]) (λt ht=>by first|exact p.ba a H t ht|(rcases cD.1 ht with ht|ht;exact p.ba a H t ht;rw[bO.1 ht,R];unfold sb aa;dsimp only;split<;>omega)) o
     exact⟨⟨o,b.set i (⟨a.frm,a.tqo,a.cw,a.gr,⟨v76,e⟩,a.cV++ [⟨rule,lex,kv,kids⟩],a.tv,a.ba⟩:dJ),d.nQ,l,m1⟩,P.1,rfl,P.2,p.GF,p.XO,rfl⟩
end Go.Proofs.YtblifkgpebebmaaGreatDoor
namespace Go.J
open Go
def pR:List Int→List Int→Bool
 | [],[]=>false
 | [],_::_=>true
 |_::_,[]=>false
 |a::x,b::y=>decide (a<b)||(decide (a=b)&&pR x y)
theorem p7:∀x:List Int,pR x x=false
 | []=>rfl
 |a::x=>by simp[pR,p7 x]
theorem qz:∀{x y z:List Int},pR x y=true→pR y z=true→pR x z=true
 | [],[],_,h,_=>by simp[pR]at h
 | [],_::_,[],_,h=>by simp[pR]at h
 | [],_::_,_::_,_,_=>rfl
 |_::_,[],_,h,_=>by simp[pR]at h
 |_::_,_::_,[],_,h=>by simp[pR]at h
 |a::x,b::y,c::z,h,k=>by
  simp only[pR,Bool.or_eq_true,Bool.and_eq_true,decide_eq_true_eq]at h k⊢
  rcases h with h|⟨h,d⟩
  ·left;rcases k with k|⟨k,_⟩<;>omega
  ·rcases k with k|⟨k,e⟩
   ·left;omega
   ·right;exact⟨by omega,qz d e⟩
theorem xY:∀(x y:List Int),pR x y=true∨x=y∨pR y x=true
 | [],[]=> .inr (.inl rfl)
 | [],_::_=> .inl rfl
 |_::_,[]=> .inr (.inr rfl)
 |a::x,b::y=>by
  simp only[pR,Bool.or_eq_true,Bool.and_eq_true,decide_eq_true_eq,List.cons.injEq]
  rcases Int.lt_trichotomy a b with h|h|h
  ·exact .inl (.inl h)
  ·rcases xY x y with k|k|k
   ·exact .inl (.inr ⟨h,k⟩)
   ·exact .inr (.inl ⟨h,k⟩)
   ·exact .inr (.inr (.inr ⟨h.symm,k⟩))
  ·exact .inr (.inr (.inl h))
section
variable (p:List Int)
def pre (L i:Nat):List Int:=(p.drop i).take L
variable {p}
end
section
variable {n:Nat}{key:Nat→List Int}{cf:Nat→Nat→Int}{l:List Nat}
end
section
variable {p:List Int}{L:Nat}{cf:Nat→Nat→Int}{l:List Nat}{rk:List Int}
end
end Go.J
namespace Go.Proofs.YtblifkgpebebmaaGreatDoor
open Go Go.J Tryz
structure PF {α:Type}(f:α→α→Int)(k:α→List Int):Prop where
 app:∀a b u v,pR (k a++u) (k b++v)=true↔f a b<0∨(f a b=0∧pR u v=true)
 eq:∀a b,f a b=0↔a=b
theorem um {a b:Int}:lg a b<0↔a<b:=by unfold lg;split;omega;split<;>omega
theorem iq {a b:Int}:lg a b=0↔a=b:=by unfold lg;split;omega;split<;>omega
theorem qR {a b:Int}:si a b<0↔a<0∨(a=0∧b<0):=by unfold si;split<;>omega
theorem ny {a b:Int}:si a b=0↔a=0∧b=0:=by unfold si;split<;>omega
theorem PF.int:PF lg (λa:Int=>[a]):=⟨λa b u v=>by
 show pR (a::u) (b::v)=true↔_
 rw[pR,um,iq];simp,λa b=>iq⟩
theorem PF.pair {α β:Type}{f:α→α→Int}{g:β→β→Int}{k:α→List Int}{h:β→List Int}(F:PF f k)(G:PF g h):PF (λx y:α×β=>si (f x.1 y.1) (g x.2 y.2)) (λx=>k x.1++h x.2):=⟨λa b u v=>by
 rw[dp,dp,F.app,G.app,qR,ny]
 constructor
 ·rintro (h1|⟨h1,c|⟨c,d⟩⟩)
  ·exact .inl (.inl h1)
  ·exact .inl (.inr ⟨h1,c⟩)
  ·exact .inr ⟨⟨h1,c⟩,d⟩
 ·rintro ((h1|⟨h1,c⟩)|⟨⟨h1,c⟩,d⟩)
  ·exact .inl h1
  ·exact .inr ⟨h1,.inl c⟩
  ·exact .inr ⟨h1,.inr ⟨c,d⟩⟩,λa b=>by
 rw[ny,F.eq,G.eq]
 exact⟨λ⟨h1,c⟩=>Prod.ext h1 c,λh=>by rw[h];exact⟨rfl,rfl⟩⟩⟩
theorem PF.list {α:Type}{f:α→α→Int}{k:α→List Int}(F:PF f k):∀(l m:List α) (u v:List Int),l.length=m.length→(pR (l.flatMap k++u) (m.flatMap k++v)=true↔kO f l m<0∨(kO f l m=0∧pR u v=true))
 | [],[],u,v,_=>by simp[kO]
 |a::l,b::m,u,v,h=>by
  rw[jU,jU,dp,dp,F.app,PF.list F l m u v (by simpa using h),kO]
  by_cases e:f a b=0
  ·rw[aA (λx=>x e),e]
   exact⟨λh=>h.elim (λx=>absurd x (by decide)) (λx=>x.2),λh=> .inr ⟨rfl,h⟩⟩
  ·rw[aC e]
   exact⟨λh=>h.elim .inl (λx=>absurd x.1 e),λh=>h.elim .inl (λx=>absurd x.1 e)⟩
 | [],_::_,_,_,h=>by cases h
 |_::_,[],_,_,h=>by cases h
theorem Gi {α:Type}{f:α→α→Int}(he:∀a b,f a b=0↔a=b):∀l m:List α,kO f l m=0↔l=m
 | [],[]=>by simp[kO]
 | [],_::_=>by simp[kO]
 |_::_,[]=>by simp[kO]
 |a::l,b::m=>by
  rw[kO]
  by_cases e:f a b=0
  ·rw[aA (λx=>x e),Gi he l m,(he a b).1 e];simp
  ·rw[aC e]
   exact⟨λx=>absurd x e,λx=>by rw[List.cons.injEq]at x;exact absurd ((he a b).2 x.1) e⟩
theorem PF.lens {α:Type}{f:α→α→Int}{k:α→List Int}(F:PF f k):PF (λl m:List α=>si (lg l.length m.length) (kO f l m)) (λl=>(l.length:Int)::l.flatMap k):=⟨λl m u v=>by
 show pR ((l.length:Int)::(l.flatMap k++u)) ((m.length:Int)::(m.flatMap k++v))=true↔_
 rw[pR,qR,ny,um,iq,Bool.or_eq_true,qj,fz,fz]
 by_cases e:(l.length:Int)=m.length
 ·rw[F.list l m u v (by omega)]
  constructor
  ·rintro (h|⟨_,h|h⟩)
   ·exact .inl (.inl h)
   ·exact .inl (.inr ⟨e,h⟩)
   ·exact .inr ⟨⟨e,h.1⟩,h.2⟩
  ·rintro ((h|h)|h)
   ·exact .inl h
   ·exact .inr ⟨e,.inl h.2⟩
   ·exact .inr ⟨e,.inr ⟨h.1.2,h.2⟩⟩
 ·constructor
  ·rintro (h|⟨h,_⟩)
   ·exact .inl (.inl h)
   ·exact absurd h e
  ·rintro ((h|h)|h)
   ·exact .inl h
   ·exact absurd h.1 e
   ·exact absurd h.1.1 e,λl m=>by
 rw[ny,iq,Gi F.eq]
 exact⟨λh=>h.2,λh=>by rw[h];exact⟨rfl,rfl⟩⟩⟩
theorem PF.node:PF wq (λx:KF=>([x.1]++((x.2.length:Int)::x.2.flatMap λp=>[p.1]++ [p.2])):KF→List Int):=PF.pair PF.int (PF.lens (PF.pair PF.int PF.int))
abbrev kN (x:KF):List Int:=[x.1]++((x.2.length:Int)::x.2.flatMap λp=>[p.1]++ [p.2])
theorem Mx:∀l m:dz,pR (l.flatMap kN) (m.flatMap kN)=true↔kO wq l m<0
 | [],[]=>by simp[kO,pR]
 | [],b::m=>by rw[jU];simp[kO,pR]
 |a::l,[]=>by rw[jU];simp[kO,pR]
 |a::l,b::m=>by
  rw[jU,jU,PF.node.app,Mx l m,kO]
  by_cases e:wq a b=0
  ·rw[aA (λx=>x e),e]
   exact⟨λh=>h.elim (λx=>absurd x (by decide)) (λx=>x.2),λh=> .inr ⟨rfl,h⟩⟩
  ·rw[aC e]
   exact⟨λh=>h.elim id (λx=>absurd x.1 e),.inl⟩
def kE (x:oh):List Int:=[(x.frm:Int)]++([(x.tqo:Int)]++([(x.cw:Int)]++x.gr.flatMap kN))
theorem Cf (x y:oh):xP x y<0↔pR (kE x) (kE y)=true:=by
 unfold kE xP;rw[PF.int.app,PF.int.app,PF.int.app,qR,qR,qR,Mx]
theorem Vx (x y:oh):xP x y=0↔x=y:=by
 unfold xP;rw[ny,ny,ny,iq,iq,iq,Gi PF.node.eq]
 cases x;cases y
 simp only[oh.mk.injEq,Int.natCast_inj]
theorem Ig (x:oh):¬xP x x<0:=by rw[Cf,p7];decide
theorem BA {x y z:oh}(h:xP x y<0)(k:xP y z<0):xP x z<0:=by rw[Cf]at*;exact qz h k
theorem HJ {x y z:List Int}(h:¬pR x y=true)(k:¬pR y z=true):¬pR x z=true:=λc=>by
 rcases xY y z with h1|h1|h1
 ·exact k h1
 ·subst h1;exact h c
 ·exact h (qz c h1)
theorem yW {x y z:oh}(h:¬xP x y<0)(k:¬xP y z<0):¬xP x z<0:=by rw[Cf]at*;exact HJ h k
theorem XC {x y:List Int}(h:¬pR x y=true)(k:¬pR y x=true):x=y:=by
 rcases xY x y with h1|h1|h1
 ·exact absurd h1 h
 ·exact h1
 ·exact absurd h1 k
theorem RY {x y:oh}(h:¬xP x y<0)(k:¬xP y x<0):xP x y=0:=by
 rcases Int.lt_trichotomy (xP x y) 0 with h1|h1|h1
 ·exact absurd h1 h
 ·exact h1
 ·rw[Cf]at h k
  have:=XC h k
  -- j lists n equal,I A comes ahead of j other;then all parts n equal
  exfalso
  have e:∀a b:oh,kE a=kE b→¬0<xP a b:=by
   intro a b o;unfold kE at o;rw[C7,C7,C7,C7,C7,C7,List.cons.injEq,List.cons.injEq,List.cons.injEq]at o;obtain⟨h1,B,C,D⟩:=o
   have J:kO wq a.gr b.gr≤0:=by
    refine Int.not_lt.1 λK=> ?_
    have gen:∀l m:dz,l.flatMap kN=m.flatMap kN→kO wq l m=0:=by
     intro l
     induction l with
     |nil=>intro m hm;cases m with
      |nil=>rfl
      |cons b m=>rw[jU]at hm;cases hm
     |cons a l r=>
      intro m hm
      cases m with
      |nil=>rw[jU]at hm;cases hm
      |cons b m=>
       rw[jU,jU]at hm
       have E:¬wq a b<0:=λf=>by
        have:=(PF.node.app a b (l.flatMap kN) (m.flatMap kN)).2 (.inl f)
        rw[hm,p7]at this;cases this
       have F:¬wq b a<0:=λf=>by
        have:=(PF.node.app b a (m.flatMap kN) (l.flatMap kN)).2 (.inl f)
        rw[hm,p7]at this;cases this
       have G:∀x y:KF,¬wq x y<0→¬wq y x<0→wq x y=0:=by
        intro x y p q;unfold wq at p q⊢;rw[qR,qR,um,iq,um,iq]at p q;rw[ny,ny,iq,iq]
        have t1:x.1=y.1:=by omega
        have t2:(x.2.length:Int)=y.2.length:=by omega
        refine⟨t1,t2,?_⟩
        have g:¬kO EC x.2 y.2<0:=by omega
        have i:¬kO EC y.2 x.2<0:=by omega
        clear p q t1
        generalize x.2=u at*
        generalize y.2=v at*
        induction u generalizing v with
        |nil=>cases v with
         |nil=>rfl
         |cons _ _=>simp at t2;omega
        |cons c u r=>
         cases v with
         |nil=>simp at t2;omega
         |cons d v=>
          rw[kO]at g i⊢
          have t:EC c d=0:=by
           have w:¬EC c d<0:=λf=>g (by rw[aC (by omega)];exact f)
           have z:¬EC d c<0:=λf=>i (by rw[aC (by omega)];exact f)
           unfold EC at w z⊢;rw[qR,um,iq,um]at w z
           rw[ny,iq,iq];omega
          have s:c=d:=(PF.pair PF.int PF.int).eq c d|>.1 t
          subst s;rw[aA (λx=>x t)]at g i⊢;exact r v (by simpa using t2) g i
       have e0:=G a b E F
       have H:=(PF.node.eq a b).1 e0
       subst H;rw[kO,aA (λx=>x e0)];exact r m (List.append_cancel_left hm)
    have:=gen a.gr b.gr D
    omega
   unfold xP;rw[iq.2 h1,iq.2 B,iq.2 C]
   show ¬0<kO wq a.gr b.gr
   omega
  exact e x y this h1
theorem vD {α:Type}(f:α→α→Int)(a:α):∀l:List α,(Kw f a l).Perm (a::l)
 | []=> .refl _
 |b::l=>by
  rw[Kw];split
  ·exact .refl _
  ·exact((vD f a l).cons b).trans (.swap _ _ _)
theorem jg {α:Type}(f:α→α→Int):∀l:List α,(TU f l).Perm l
 | []=> .refl _
 |a::l=>(vD f a _).trans ((jg f l).cons a)
theorem wJ {α:Type}{f:α→α→Int}{Z:α→Prop}(g:∀a b c,Z a→Z b→Z c→¬f a b<0→¬f b c<0→¬f a c<0)(has:∀a b,Z a→Z b→f a b<0→¬f b a<0)(a:α)(d:Z a):∀l:List α,(∀x∈l,Z x)→l.Pairwise (λx y=>¬f y x<0)→(Kw f a l).Pairwise (λx y=>¬f y x<0)
 | [],_,_=>GA _ _
 |b::l,hz,h=>by
  have e:=hz b (by simp)
  rw[Kw];split
  ·rename_i c
   refine List.Pairwise.cons (λx hx=> ?_) h
   rcases cH.1 hx with rfl|hx
   ·exact has _ _ d e c
   ·exact g x b a (hz x (by simp[hx])) e d ((jW.1 h).1 x hx) (has _ _ d e c)
  ·rename_i c
   refine List.Pairwise.cons (λx hx=> ?_) (wJ g has a d l (λx hx=>hz x (by simp[hx])) (jW.1 h).2)
   rcases cH.1 ((vD f a l).mem_iff.1 hx)with rfl|hx
   ·exact c
   ·exact(jW.1 h).1 x hx
theorem wP {α:Type}{f:α→α→Int}{Z:α→Prop}(d:∀a b c,Z a→Z b→Z c→¬f a b<0→¬f b c<0→¬f a c<0)(has:∀a b,Z a→Z b→f a b<0→¬f b a<0):∀l:List α,(∀x∈l,Z x)→(TU f l).Pairwise (λx y=>¬f y x<0)
 | [],_=> .nil
 |a::l,hz=>wJ d has a (hz a (by simp)) _ (λx hx=>hz x (by simp[(jg f l).mem_iff.1 hx])) (wP d has l λx hx=>hz x (by simp[hx]))
theorem Oe {its:List lJ}(hd:(its.map λx=>fZ x.ed).Nodup){l:List Nat}(hp:l.Perm (List.range its.length))(n:l.Pairwise (λa b=>¬xP (its.getD b gh).ed (its.getD a gh).ed<0)):l=l7 its:=by
 have h1:=jg (λi j=>xP (its.getD i gh).ed (its.getD j gh).ed) (List.range its.length)
 have o:=wP (f:=λi j=>xP (its.getD i gh).ed (its.getD j gh).ed) (Z:=λ_=>True) (λa b c _ _ _=>yW) (λa b _ _ h k=>Ig _ (BA h k)) (List.range its.length) (λ_ _=>trivial)
 refine(hp.trans h1.symm).eq_of_pairwise (λa b d g p q=> ?_) n o
 have d:=dq.1 (hp.mem_iff.1 d)
 have g:=dq.1 (h1.mem_iff.1 g)
 have e:=(Vx _ _).1 (RY p q)
 refine Decidable.byContradiction λr=> ?_
 have m:∀i,i<its.length→(its.map λx=>fZ x.ed)[i]?=some (fZ (its.getD i gh).ed):=λi s=>by
  rw[bQ,aw,bU s];rfl
 refine r ?_;exact(List.getElem?_inj (l:=its.map λx=>fZ x.ed) (by rw[aN];exact d) hd).1 (by rw[m a d,m b g,e])
theorem My (a b:Int):oC a b=lg a b:=rfl
def LG:List Int→Int
 | []=>0
 |a::l=>si a (LG l)
theorem JH (a:Int):si a 0=a:=by unfold si;split;omega;rfl
theorem BS {l:List Int}{k:Nat}{x:Int}(h:l[k]?=some x):LG (l.drop k)=if x=0 then LG (l.drop (k+1))else x:=by rw[bP h];rfl
theorem oB (a b:Int): -1≤lg a b∧lg a b≤1:=by unfold lg;split;omega;split<;>omega
theorem Od {a b:Int}(h: -1≤a∧a≤1)(k: -1≤b∧b≤1): -1≤si a b∧si a b≤1:=by unfold si;split<;>omega
theorem yX {α:Type}{f:α→α→Int}(h:∀a b,-1≤f a b∧f a b≤1):∀l m:List α,-1≤kO f l m∧kO f l m≤1
 | [],[]=>by simp[kO]
 | [],_::_=>by simp[kO]
 |_::_,[]=>by simp[kO]
 |a::l,b::m=>by rw[kO];split;exact h a b;exact yX h l m
theorem Mz (a b:Int×Int): -1≤EC a b∧EC a b≤1:=Od (oB _ _) (oB _ _)
theorem Vy (a b:KF): -1≤wq a b∧wq a b≤1:=Od (oB _ _) (Od (oB _ _) (yX Mz _ _))
theorem Yy {x:Int}(h: -1≤x∧x≤1):aI.wf x:=by show aa x;unfold aa;omega
theorem CS {l:List Int}(h:∀x∈l,-1≤x∧x≤1):∀x∈l,aI.wf x:=λx hx=>Yy (h x hx)
theorem oA {α:Type}{f:α→α→Int}{l m:List α}{k:Nat}{x y:α}(hx:l[k]?=some x)(hy:m[k]?=some y):kO f (l.drop k) (m.drop k)=if f x y≠0 then f x y else kO f (l.drop (k+1)) (m.drop (k+1)):=by rw[bP hx,bP hy];rfl
theorem yZ {α:Type}{f:α→α→Int}{l m:List α}{k:Nat}{x:α}(hx:l[k]?=some x)(hm:m.length≤k):kO f (l.drop k) (m.drop k)=1:=by rw[bP hx,j6 hm];rfl
theorem uo {α:Type}{f:α→α→Int}{l m:List α}{k:Nat}{y:α}(hy:m[k]?=some y)(a:l.length≤k):kO f (l.drop k) (m.drop k)= -1:=by rw[bP hy,j6 a];rfl
theorem yY {α:Type}{f:α→α→Int}{l m:List α}{k:Nat}(a:l.length≤k)(hm:m.length≤k):kO f (l.drop k) (m.drop k)=0:=by rw[j6 a,j6 hm];rfl
theorem sq (v0:Value)(p:List Int):eD prog 99 #[v0] [sl aI v0 p] (iv (LG p)):=by
 refine eD.nD (args:=[v0]) 18 func99 rfl ntmps99 rfl (λc=> ?_);refine go ?_;refine St.wf v0 (λf hlen=> ?_);refine g18 ?_;refine St.lS (ι:=Nat) (λk T=>(8,iv k)::T) (λk=>k≤p.length∧LG p=LG (p.drop k)) (λk=>p.length-k) 0 (aD.cons 3 rfl (aD.cons 6 rfl (aD.cons 7 rfl aD.nil))) ⟨aO _,rfl⟩ ?_;intro k d;obtain⟨hk,a⟩:=d;refine g6 ?_;refine St.cq (λe=> ?_) (λe=> ?_)
 ·obtain⟨x,hx⟩:=aE (show k<p.length by omega)
  refine g18 ?_;refine St.cq (λb=> ?_) (λb=> ?_)
  ·refine g12 ?_
   refine St.rV [_] [] ?_;exact ie (by rw[a,BS hx,aA b])
  ·refine g8 ?_
   refine St.aS (k+1) ⟨by omega,by rw[a,BS hx,aC (by omega)]⟩
 ·refine g12 ?_
  refine St.rV [_] [] ?_;exact ie (by rw[a,j6 (by omega)];rfl)
theorem AJ (v0 v1:Value)(a b:List Int):eD prog 101 #[v0,v1] [sl aI v0 a,sl aI v1 b] (iv (kO lg a b)):=by
 refine eD.nE (args:=[v0,v1]) 36 func101 rfl ntmps101 rfl (λc=> ?_);refine go ?_;refine St.wf v0 (λl m=> ?_);refine St.wf v1 (λn o=> ?_);refine g13 ?_;refine St.lS (ι:=Nat) (λk T=>(11,iv k)::T) (λk=>k≤a.length∧k≤b.length∧kO lg a b=kO lg (a.drop k) (b.drop k)) (λk=>a.length-k) 0 (aD.cons 0 rfl (aD.cons 1 rfl (aD.cons 9 rfl (aD.cons 10 rfl aD.nil)))) ⟨aO _,aO _,rfl⟩ ?_;intro k g;obtain⟨hk,p,d⟩:=g;refine g6 ?_;refine St.cq (λi=> ?_) (λi=> ?_)
 ·obtain⟨x,hx⟩:=aE (show k<a.length by omega)
  refine g22 ?_;refine St.cq (λj=> ?_) (λj=> ?_)
  ·refine g12 ?_
   refine St.rV [_] [] ?_;exact ie (by rw[d,yZ hx (by omega)])
  ·obtain⟨y,hy⟩:=aE (show k<b.length by omega)
   refine g15 ?_;refine St.ee (Ev.call (ea _ _) qE (.aY rfl rfl)) ?_;refine g9 ?_;refine St.cq (λf=> ?_) (λf=> ?_)
   ·refine g12 ?_
    refine St.rV [_] [] ?_;exact ie (by rw[d,oA hx hy,aC (by rw[←My];exact f)];rfl)
   ·refine g8 ?_
    refine St.aS (k+1) ⟨by omega,by omega,by rw[d,oA hx hy,aA (λh=>h (by rw[←My];omega))]⟩
 ·refine g15 ?_
  refine St.cq (λe=> ?_) (λe=> ?_)
  ·refine g7 ?_
   refine St.rV [_] [] ?_;exact ie (by obtain⟨y,hy⟩:=aE (show k<b.length by omega);rw[d,uo hy (by omega)])
  ·refine g8 ?_
   refine St.rV [_] [] ?_;exact ie (by rw[d,yY (by omega) (by omega)])
theorem CB (x y:dw):eD prog 173 #[Value.agg #[iv x.dF,iv x.tqo],Value.agg #[iv y.dF,iv y.tqo]] [] (iv (EC (fR x) (fR y))):=by
 refine eD.qB (args:=[Value.agg #[iv x.dF,iv x.tqo],Value.agg #[iv y.dF,iv y.tqo]]) 17 func173 rfl ntmps173 rfl (λc=> ?_);refine g2 ?_;refine St.dK (.mk rfl) rfl (λb=> ?_);refine St.dK (.mk rfl) rfl (λd=> ?_);refine g4 ?_;refine St.qS [] mixed (λe f=> ?_);refine SW.gd 0 ?_;refine SW.gd 1 ?_;refine SW.gd 2 ?_;refine SW.gd 3 ?_;refine SW.dd 4 rfl (λ_=>Ev.call (ea _ _) qE (.aY rfl rfl)) ?_;refine SW.gd 5 ?_;refine SW.gd 6 ?_;refine SW.gd 7 ?_;refine SW.gd 8 ?_;refine SW.dd 9 rfl (λ_=>Ev.call (ea _ _) qE (.aY rfl rfl)) ?_;refine SW.t1 10 ?_;refine St.fp rfl (.aY rfl rfl) bI dL eQ rfl rfl (by simp[Value.cells]) rfl rfl (λa=> ?_);refine St.aM (.slice (some ⟨a,0,none⟩) 2 2) (show _=([(lg x.dF y.dF),(lg x.tqo y.tqo)]).length from rfl) (show _=rows aI ([(lg x.dF y.dF),(lg x.tqo y.tqo)])from rfl) ?_;refine g2 ?_;refine SW.go ?_;refine SW.t1 11 ?_;refine St.ee (Ev.yQ (sq (.slice (some ⟨a,0,none⟩) 2 2) [(lg x.dF y.dF),(lg x.tqo y.tqo)]) RM (.ar rfl) (dm.row dm.nil rfl rfl rfl (CS (λx hx=>by simp only[List.mem_cons,List.not_mem_nil,or_false]at hx;rcases hx with rfl|rfl;exact oB _ _;exact oB _ _)))) ?_;refine g2 ?_;refine SW.go ?_;refine SW.gd 12 ?_;refine SW.dn ?_;refine g2 ?_;refine St.rV [_] [] ?_;exact ie (show si _ (si _ 0)=_ by rw[JH];rfl)
theorem AE (x y:dw):eD prog 173 ([Value.agg #[iv x.dF,iv x.tqo],Value.agg #[iv y.dF,iv y.tqo]]++ []).toArray [] (iv (EC (fR x) (fR y))):=CB x y
theorem AF (v0 v1:Value)(a b:List dw):eD prog 172 #[v0,v1,.func (.func 173) #[] #[]] [sl au v0 a,sl au v1 b] (iv (kO EC (a.map fR) (b.map fR))):=by
 refine eD.nE (args:=[v0,v1,.func (.func 173) #[] #[]]) 39 func172 rfl ntmps172 rfl (λc=> ?_);refine go ?_;refine St.wf v0 (λn o=> ?_);refine St.wf v1 (λp q=> ?_);refine g13 ?_;refine St.lS (ι:=Nat) (λk T=>(13,iv k)::T) (λk=>k≤a.length∧k≤b.length∧kO EC (a.map fR) (b.map fR)=kO EC ((a.map fR).drop k) ((b.map fR).drop k)) (λk=>a.length-k) 0 (aD.cons 0 rfl (aD.cons 1 rfl (aD.cons 2 rfl (aD.cons 11 rfl (aD.cons 12 rfl aD.nil))))) ⟨aO _,aO _,rfl⟩ ?_;intro k i;obtain⟨hk,r,d⟩:=i;refine g6 ?_;refine St.cq (λj=> ?_) (λj=> ?_)
 ·obtain⟨x,hx⟩:=aE (show k<a.length by omega)
  have f:(a.map fR)[k]?=some (fR x):=by rw[bQ,hx];rfl
  refine g8 ?_;refine St.ee (Ev.jr (.mk rfl) hx lB trivial dh j7.eq) ?_;refine St.al (λs=> ?_);refine go ?_;refine St.sA (.mk rfl) (.mk rfl) dh ?_ (h1:=(eW.2 λu hu=>au.one x u hu));refine g11 ?_;refine St.cq (λl=> ?_) (λl=> ?_)
  ·refine g12 ?_
   refine St.rV [_] [] ?_;exact ie (by rw[d,yZ f (by rw[aN];omega)])
  ·obtain⟨y,hy⟩:=aE (show k<b.length by omega)
   have e:(b.map fR)[k]?=some (fR y):=by rw[bQ,hy];rfl
   refine g7 ?_;refine St.ee (Ev.jr (.mk rfl) hy lB trivial dh j7.eq) ?_;refine St.al (λt=> ?_);refine St.sA (.mk rfl) (.mk rfl) dh ?_ (h1:=(eW.2 λu hu=>au.one y u hu));refine g6 ?_;refine St.slot 27 (Value.agg #[iv x.dF,iv x.tqo]) rfl rfl ?_;refine go ?_;refine St.slot 28 (Value.agg #[iv y.dF,iv y.tqo]) rfl rfl ?_;refine St.ee (Ev.ep (AE x y) Zh (.mk rfl) (.aY rfl rfl)) ?_;refine g9 ?_;refine St.cq (λg=> ?_) (λg=> ?_)
   ·refine g12 ?_
    refine St.rV [_] [] ?_;exact ie (by rw[d,oA f e,aC g])
   ·refine g8 ?_
    refine St.aS (k+1) ⟨by omega,by omega,by rw[d,oA f e,aA (λh=>h g)]⟩
 ·refine g15 ?_
  refine St.cq (λm=> ?_) (λm=> ?_)
  ·refine g7 ?_
   refine St.rV [_] [] ?_;exact ie (by obtain⟨y,hy⟩:=aE (show k<(b.map fR).length by rw[aN];omega);rw[d,uo hy (by rw[aN];omega)])
  ·refine g8 ?_
   refine St.rV [_] [] ?_;exact ie (by rw[d,yY (by rw[aN];omega) (by rw[aN];omega)])
theorem CC (x y:df):eD prog 171 #[Value.agg #[iv x.type,x.lv.1],Value.agg #[iv y.type,y.lv.1]] [cA x,cA y] (iv (wq (lx x) (lx y))):=by
 refine eD.nE (args:=[Value.agg #[iv x.type,x.lv.1],Value.agg #[iv y.type,y.lv.1]]) 24 func171 rfl ntmps171 rfl (λc=> ?_);refine go ?_;refine St.eY (sl au x.lv.1 x.aq) [cA x] (λρ h=>h _ (aP ..)) ?_;refine St.eY (sl au y.lv.1 y.aq) [cA y] (λρ h=>h _ (aP ..)) ?_;refine go ?_;refine St.dK (.mk rfl) rfl (λb=> ?_);refine St.dK (.mk rfl) rfl (λd=> ?_);refine g4 ?_;refine St.qS [] mixed (λe f=> ?_);refine SW.gd 0 ?_;refine SW.gd 1 ?_;refine SW.gd 2 ?_;refine SW.gd 3 ?_;refine SW.dd 4 rfl (λ_=>Ev.call (ea _ _) qE (.aY rfl rfl)) ?_;refine SW.gd 5 ?_;refine SW.gd 6 ?_;refine SW.gd 7 ?_;refine SW.gd 8 ?_;refine SW.gd 9 ?_;refine SW.gd 10 ?_;refine SW.dd 11 rfl (λ_=>Ev.call (ea _ _) qE (.aY rfl rfl)) ?_;refine SW.gd 12 ?_;refine SW.gd 13 ?_;refine SW.gd 14 ?_;refine SW.gd 15 ?_;refine SW.dd 16 rfl (λ_=>Ev.call (AF x.lv.1 y.lv.1 x.aq y.aq) Zg (.eh rfl rfl rfl)) ?_;refine SW.t1 17 ?_;refine St.fp rfl (.eh rfl rfl rfl) bI dL eQ rfl rfl (by simp[Value.cells]) rfl rfl (λa=> ?_);refine St.aM (.slice (some ⟨a,0,none⟩) 3 3) (show _=([(lg x.type y.type),(lg (x.aq.length:Nat) (y.aq.length:Nat)),(kO EC (x.aq.map fR) (y.aq.map fR))]).length from rfl) (show _=rows aI ([(lg x.type y.type),(lg (x.aq.length:Nat) (y.aq.length:Nat)),(kO EC (x.aq.map fR) (y.aq.map fR))])from rfl) ?_;refine g2 ?_;refine SW.go ?_;refine SW.t1 18 ?_;refine St.ee (Ev.yQ (sq (.slice (some ⟨a,0,none⟩) 3 3) [(lg x.type y.type),(lg (x.aq.length:Nat) (y.aq.length:Nat)),(kO EC (x.aq.map fR) (y.aq.map fR))]) RM (.ar rfl) (dm.row dm.nil rfl rfl rfl (CS (λx hx=>by simp only[List.mem_cons,List.not_mem_nil,or_false]at hx;rcases hx with rfl|rfl|rfl;exact oB _ _;exact oB _ _;exact yX Mz _ _)))) ?_;refine g2 ?_;refine SW.go ?_;refine SW.gd 19 ?_;refine SW.dn ?_;refine g2 ?_;refine St.rV [_] [] ?_;exact ie (show si _ (si _ (si _ 0))=_ by rw[JH];unfold wq lx;rw[aN,aN])
theorem AG (x y:df):eD prog 171 ([Value.agg #[iv x.type,x.lv.1],Value.agg #[iv y.type,y.lv.1]]++ []).toArray [cA x,cA y] (iv (wq (lx x) (lx y))):=CC x y
theorem AH (v0 v1:Value)(a b:List df):eD prog 170 #[v0,v1,.func (.func 171) #[] #[]] [sl bh v0 a,sl bh v1 b,aF cA a,aF cA b] (iv (kO wq (a.map lx) (b.map lx))):=by
 refine eD.Mb (args:=[v0,v1,.func (.func 171) #[] #[]]) 39 func170 rfl ntmps170 rfl (λc=> ?_);refine go ?_;refine St.wf v0 (λn o=> ?_);refine St.wf v1 (λp q=> ?_);refine g13 ?_;refine St.lS (ι:=Nat) (λk T=>(13,iv k)::T) (λk=>k≤a.length∧k≤b.length∧kO wq (a.map lx) (b.map lx)=kO wq ((a.map lx).drop k) ((b.map lx).drop k)) (λk=>a.length-k) 0 (aD.cons 0 rfl (aD.cons 1 rfl (aD.cons 2 rfl (aD.cons 11 rfl (aD.cons 12 rfl aD.nil))))) ⟨aO _,aO _,rfl⟩ ?_;intro k i;obtain⟨hk,r,d⟩:=i;refine g6 ?_;refine St.cq (λj=> ?_) (λj=> ?_)
 ·obtain⟨x,hx⟩:=aE (show k<a.length by omega)
  have f:(a.map lx)[k]?=some (lx x):=by rw[bQ,hx];rfl
  refine g8 ?_;refine St.ee (Ev.jr (.mk rfl) hx wU trivial jS j7.eq) ?_;refine St.al (λs=> ?_);refine go ?_;refine St.sA (.mk rfl) (.mk rfl) jS ?_ (h1:=(eW.2 λu hu=>bh.one x u hu));refine g11 ?_;refine St.cq (λl=> ?_) (λl=> ?_)
  ·refine g12 ?_
   refine St.rV [_] [] ?_;exact ie (by rw[d,yZ f (by rw[aN];omega)])
  ·obtain⟨y,hy⟩:=aE (show k<b.length by omega)
   have e:(b.map lx)[k]?=some (lx y):=by rw[bQ,hy];rfl
   refine g7 ?_;refine St.ee (Ev.jr (.mk rfl) hy wU trivial jS j7.eq) ?_;refine St.al (λt=> ?_);refine St.sA (.mk rfl) (.mk rfl) jS ?_ (h1:=(eW.2 λu hu=>bh.one y u hu));refine g6 ?_;refine St.slot 27 (Value.agg #[iv x.type,x.lv.1]) rfl rfl ?_;refine go ?_;refine St.slot 28 (Value.agg #[iv y.type,y.lv.1]) rfl rfl ?_;refine St.cI cA a (x:=x) (ae hx) ?_;refine St.cI cA b (x:=y) (ae hy) ?_;refine St.ee (Ev.ep (AG x y) Zf (.mk rfl) (.aY rfl rfl)) ?_;refine g9 ?_;refine St.cq (λg=> ?_) (λg=> ?_)
   ·refine g12 ?_
    refine St.rV [_] [] ?_;exact ie (by rw[d,oA f e,aC g])
   ·refine g8 ?_
    refine St.aS (k+1) ⟨by omega,by omega,by rw[d,oA f e,aA (λh=>h g)]⟩
 ·refine g15 ?_
  refine St.cq (λm=> ?_) (λm=> ?_)
  ·refine g7 ?_
   refine St.rV [_] [] ?_;exact ie (by obtain⟨y,hy⟩:=aE (show k<(b.map lx).length by rw[aN];omega);rw[d,uo hy (by rw[aN];omega)])
  ·refine g8 ?_
   refine St.rV [_] [] ?_;exact ie (by rw[d,yY (by rw[aN];omega) (by rw[aN];omega)])
theorem AD (x y:dD):eD prog 149 #[bA x,bA y] [aG x,aG y] (iv (kO wq (ay x) (ay y))):=by
 refine eD.nE (args:=[bA x,bA y]) 10 func149 rfl ntmps149 rfl (λc=> ?_);refine go ?_
 refine St.jP (aG x) (λ_:Unit=>kb x) (λρ h=>⟨(),h⟩) λ_=> ?_
 refine St.cast (H':=[aB (sl bh x.nv.1 x.nodes),aB (aF cA x.nodes),aB (aG x),aB (aG y)]) rfl ?_
 refine St.jP (aG y) (λ_:Unit=>kb y) (λρ h=>⟨(),h⟩) λ_=> ?_
 refine St.cast (H':=[aB (sl bh y.nv.1 y.nodes),aB (aF cA y.nodes),aB (sl bh x.nv.1 x.nodes),aB (aF cA x.nodes),aB (aG x),aB (aG y)]) rfl ?_;refine go ?_;refine St.dK (.mk rfl) rfl (λa=> ?_);refine St.dK (.mk rfl) rfl (λb=> ?_);refine g9 ?_;refine St.ee (Ev.call (AH x.nv.1 y.nv.1 x.nodes y.nodes) Ze (.eh rfl rfl rfl)) ?_;refine g4 ?_;refine St.rV [_] [] ?_;exact ie rfl
theorem CA (x y:dJ):eD prog 127 #[Gk x.frm x.tqo x.cw x.gr.nv.1,Gk y.frm y.tqo y.cw y.gr.nv.1] [aG x.gr,aG y.gr] (iv (xP (cE x).ed (cE y).ed)):=by
 refine eD.nE (args:=[Gk x.frm x.tqo x.cw x.gr.nv.1,Gk y.frm y.tqo y.cw y.gr.nv.1]) 27 func127 rfl ntmps127 rfl (λc=> ?_);refine g2 ?_;refine St.dK (.mk rfl) rfl (λb=> ?_);refine St.dK (.mk rfl) rfl (λd=> ?_);refine g4 ?_;refine St.qS [] mixed (λe f=> ?_);refine SW.gd 0 ?_;refine SW.gd 1 ?_;refine SW.gd 2 ?_;refine SW.gd 3 ?_;refine SW.dd 4 rfl (λ_=>Ev.call (ea _ _) qE (.aY rfl rfl)) ?_;refine SW.gd 5 ?_;refine SW.gd 6 ?_;refine SW.gd 7 ?_;refine SW.gd 8 ?_;refine SW.dd 9 rfl (λ_=>Ev.call (ea _ _) qE (.aY rfl rfl)) ?_;refine SW.gd 10 ?_;refine SW.gd 11 ?_;refine SW.gd 12 ?_;refine SW.gd 13 ?_;refine SW.dd 14 rfl (λ_=>Ev.call (ea _ _) qE (.aY rfl rfl)) ?_;refine SW.gd 15 ?_;refine SW.dd 16 rfl (λ_=>Ev.iV 1 (.mk rfl) mf trivial jT rfl rfl) ?_;refine SW.slot 21 (bA x.gr) rfl rfl ?_;refine SW.gd 17 ?_;refine SW.dd 18 rfl (λ_=>Ev.iV 1 (.mk rfl) mf trivial jT rfl rfl) ?_;refine SW.slot 23 (bA y.gr) rfl rfl ?_;refine SW.dd 19 rfl (λ_=>Ev.call (AD x.gr y.gr) ZY (.aY rfl rfl)) ?_;refine SW.t1 20 ?_;refine St.fp rfl (.gW rfl rfl rfl rfl) bI dL eQ rfl rfl (by simp[Value.cells]) rfl rfl (λa=> ?_);refine St.aM (.slice (some ⟨a,0,none⟩) 4 4) (show _=([(lg (x.frm:Nat) (y.frm:Nat)),(lg (x.tqo:Nat) (y.tqo:Nat)),(lg (x.cw:Nat) (y.cw:Nat)),(kO wq (ay x.gr) (ay y.gr))]).length from rfl) (show _=rows aI ([(lg (x.frm:Nat) (y.frm:Nat)),(lg (x.tqo:Nat) (y.tqo:Nat)),(lg (x.cw:Nat) (y.cw:Nat)),(kO wq (ay x.gr) (ay y.gr))])from rfl) ?_;refine g2 ?_;refine SW.go ?_;refine SW.t1 21 ?_;refine St.ee (Ev.yQ (sq (.slice (some ⟨a,0,none⟩) 4 4) [(lg (x.frm:Nat) (y.frm:Nat)),(lg (x.tqo:Nat) (y.tqo:Nat)),(lg (x.cw:Nat) (y.cw:Nat)),(kO wq (ay x.gr) (ay y.gr))]) RM (.ar rfl) (dm.row dm.nil rfl rfl rfl (CS (λx hx=>by simp only[List.mem_cons,List.not_mem_nil,or_false]at hx;rcases hx with rfl|rfl|rfl|rfl;exact oB _ _;exact oB _ _;exact oB _ _;exact yX Vy _ _)))) ?_;refine g2 ?_;refine SW.go ?_;refine SW.gd 22 ?_;refine SW.dn ?_;refine g2 ?_;refine St.rV [_] [] ?_;exact ie (show si _ (si _ (si _ (si _ 0)))=_ by rw[JH];rfl)
theorem Ht (a b:Nat)(eC:aV)(its:List dJ)(i j:Nat)(x y:dJ)(hx:its[i]?=some x)(hy:its[j]?=some y):eD prog 126 #[iv (i:Nat),iv (j:Nat),.pointer (some ⟨a,0,none⟩)] [ri a (.pointer (some ⟨b,0,none⟩)),ri b eC.1,sl eB eC.1 its,aF (λx:dJ=>aG x.gr) its] (iv (xP (cE x).ed (cE y).ed)):=by
 refine eD.Mb (args:=[iv (i:Nat),iv (j:Nat),.pointer (some ⟨a,0,none⟩)]) 23 func126 rfl ntmps126 rfl (λc=> ?_);refine go ?_;refine St.eY (aG x.gr) [aF (λx:dJ=>aG x.gr) its] (λρ h=>h _ (aP ..) x (ae hx)) ?_;refine St.eY (aG y.gr) [aF (λx:dJ=>aG x.gr) its] (λρ h=>h _ (aP ..) y (ae hy)) ?_
 have e:=ah hx
 have d:=ah hy
 refine g5 ?_;refine St.rq mixed (by kernel_rfl) (Mm.drawn _ _) ?_;refine g7 ?_;refine Sq.ee (Ev.Ea (Rr:=eB) (sz:=4) (.mk rfl) hx Fv trivial zj (by decide) (by decide)) ?_;refine Sq.slot 13 (Gk x.frm x.tqo x.cw x.gr.nv.1) rfl rfl ?_;refine g7 ?_;refine Sq.ee (Ev.Ea (Rr:=eB) (sz:=4) (.mk rfl) hy Fv trivial zj (by decide) (by decide)) ?_;refine Sq.slot 21 (Gk y.frm y.tqo y.cw y.gr.nv.1) rfl rfl ?_;refine Sq.ee (Ev.call (CA x y) ZN (.aY rfl rfl)) ?_;refine g4 ?_;refine St.rV [_] [] ?_;exact ie rfl
structure jq where
 wt:Int
 code:List Int
 tree:jY
structure jH where
 rk:jq
 fy:Nat
 ranks:List Nat
structure wD where
 done:List jq
 next:List jH
 begun:Bool
def rk0:jq:=⟨0,[],.mk 0 0 []⟩
def Ie:jH:=⟨rk0,0,[]⟩
def nq:wD:=⟨[],[],false⟩
abbrev eA:=List wD
def Qb (a b:jq):Int:=si (lg a.wt b.wt) (kO lg a.code b.code)
def vK (q:List jH)(i j:Nat):Bool:=decide (Qb (q.getD i Ie).rk (q.getD j Ie).rk<0)
def xH (q:List jH)(i j:Nat):List jH:=(q.set i (q.getD j Ie)).set j (q.getD i Ie)
def Js:Nat→List jH→Nat→List jH
 |0,q,_=>q
 |f+1,q,j=>if(j-1)/2=j∨vK q j ((j-1)/2)=false then q else Js f (xH q ((j-1)/2) j) ((j-1)/2)
def p6 (q:List jH)(i n:Nat):Nat:=if 2*i+2<n∧vK q (2*i+2) (2*i+1)=true then 2*i+2 else 2*i+1
def oE:Nat→List jH→Nat→Nat→List jH
 |0,q,_,_=>q
 |f+1,q,i,n=>if n≤2*i+1 then q else if vK q (p6 q i n) i=false then q else oE f (xH q i (p6 q i n)) (p6 q i n) n
def td (n:Nat):Nat→List jH→List jH
 |0,q=>q
 |k+1,q=>td n k (oE n q k n)
def Ak (q:List jH)(x:jH):List jH:=Js (q.length+1) (q++ [x]) q.length
def pC (q:List jH):List jH:=oE (q.length-1) (xH q 0 (q.length-1)) 0 (q.length-1)
structure cr where
 its:List lJ
 rules:List Int
 aL:List Int
def wy0:ud:=⟨0,0,[]⟩
def cr.fy (B:cr)(e w:Nat):ud:=(B.its.getD e gh).cV.getD w wy0
def vG (get:eA→Nat→Nat→eA×Option jq):List (Nat×Nat)→eA→jq→eA×Option jq
 | [],st,c=>(st,some c)
 |(k,r)::l,st,c=>match get st k r with
  |(st,none)=>(st,none)
  |(st,some x)=>vG get l st ⟨c.wt+x.wt,c.code++x.code,.mk c.tree.rule c.tree.lex (c.tree.kids++ [x.tree])⟩
def mn (B:cr)(get:eA→Nat→Nat→eA×Option jq)(st:eA)(e w:Nat)(ranks:List Nat):eA×Option jH:=
 if(B.fy e w).rule<0 then(st,some ⟨⟨B.aL.getD (B.fy e w).lex.toNat 0,[1000+(B.fy e w).lex],.mk (B.fy e w).rule (B.fy e w).lex []⟩,w,ranks⟩)
 else match vG get ((B.fy e w).kids.zip ranks) st ⟨B.rules.getD (B.fy e w).rule.toNat 0,[(B.fy e w).rule],.mk (B.fy e w).rule (B.fy e w).lex []⟩with
  |(st,none)=>(st,none)
  |(st,some x)=>(st,some ⟨x,w,ranks⟩)
def DA (st:eA)(e:Nat)(q:List jH):eA:=st.set e ⟨(st.getD e nq).done,q,(st.getD e nq).begun⟩
def AQ (B:cr)(get:eA→Nat→Nat→eA×Option jq)(e:Nat)(st:eA)(w:Nat):eA:=
 match mn B get st e w (List.replicate (B.fy e w).kids.length 0)with
 |(st,none)=>st
 |(st,some c)=>DA st e ((st.getD e nq).next++ [c])
def yK (B:cr)(get:eA→Nat→Nat→eA×Option jq)(e:Nat)(st:eA):eA:=
 if(st.getD e nq).begun then st else
  (λst:eA=>DA st e (td (st.getD e nq).next.length ((st.getD e nq).next.length/2) (st.getD e nq).next))
   ((List.range (B.its.getD e gh).cV.length).foldl (AQ B get e) (st.set e ⟨(st.getD e nq).done,(st.getD e nq).next,true⟩))
def Al (B:cr)(get:eA→Nat→Nat→eA×Option jq)(e:Nat)(c:jH):Nat→Nat→eA→eA
 |0,_,st=>st
 |m+1,d,st=>
  let st2:=match mn B get st e c.fy (c.ranks.set d (c.ranks.getD d 0+1))with
   |(st,none)=>st
   |(st,some x)=>DA st e (Ak (st.getD e nq).next x)
  if 0<c.ranks.getD d 0 then st2 else Al B get e c m (d+1) st2
def LI (st:eA)(e:Nat):eA:=
 st.set e ⟨(st.getD e nq).done++ [((pC (st.getD e nq).next).getD ((st.getD e nq).next.length-1) Ie).rk],(pC (st.getD e nq).next).take ((st.getD e nq).next.length-1),(st.getD e nq).begun⟩
def FC (st:eA)(e:Nat):jH:=(pC (st.getD e nq).next).getD ((st.getD e nq).next.length-1) Ie
def tq (B:cr)(get:eA→Nat→Nat→eA×Option jq)(e a:Nat):Nat→eA→eA
 |0,st=>st
 |m+1,st=>if(st.getD e nq).done.length≤a∧0<(st.getD e nq).next.length then
  tq B get e a m (Al B get e (FC st e) (FC st e).ranks.length 0 (LI st e))
  else st
def fh (B:cr):Nat→eA→Nat→Nat→eA×Option jq
 |0,st,_,_=>(st,none)
 |f+1,st,e,r=>
  let st2:=tq B (fh B f) e r (r+1) (yK B (fh B f) e st)
  (st2,(st2.getD e nq).done[r]?)
def pD (get:eA→Nat→Nat→eA×Option jq)(ranks:List Nat):List Nat→Nat→eA→Option (Nat×jq)→eA×Option (Nat×jq)
 | [],_,st,b=>(st,b)
 |e::l,i,st,b=>match get st e (ranks.getD i 0)with
  |(st,none)=>pD get ranks l (i+1) st b
  |(st,some x)=>pD get ranks l (i+1) st (match b with
   |none=>some (i,x)
   |some y=>if Qb x y.2<0 then some (i,x)else some y)
def tL (get:eA→Nat→Nat→eA×Option jq)(full:List Nat):Nat→eA→List Nat→List jY→List jY
 |0,_,_,out=>out
 |m+1,st,ranks,out=>match pD get ranks full 0 st none with
  |(_,none)=>out
  |(st,some x)=>tL get full m st (ranks.set x.1 (ranks.getD x.1 0+1)) (out++ [x.2.tree])
def YB (g:gB)(its:List lJ):cr:=⟨its,g.rules.map (·.weight),g.aL.map (·.weight)⟩
def lL (g:gB)(words:List bB)(n:Int):List jY×(Int×Int):=
 if(jN g).1≠0 then([],jN g)else if n<0∨200<n then([],(3,-3))else if(dS g words).2.1≠0 then([],(dS g words).2)
 else(tL (fh (YB g (dS g words).1.1) 60) (dS g words).1.2 n.toNat (List.replicate (dS g words).1.1.length nq) (List.replicate (dS g words).1.2.length 0) [],(0,0))
structure xL where
 wt:Int
 cv:aV
 code:List Int
 tree:dE
structure kq where
 rk:xL
 fy:Nat
 rv:aV
 ranks:List Nat
structure jJ where
 dv:aV
 done:List xL
 nv:aV
 next:List kq
 begun:Bool
def rkC (x:xL):List Value:=[iv x.wt,x.cv.1,iv x.tree.rule,iv x.tree.lex,x.tree.kv.1]
def LM:Rp xL:=⟨5,by decide,rkC,λ_=>True,λ_=>rfl,λx u h=>cC rfl (cC x.cv.2 (cC rfl (cC rfl (cC x.tree.kv.2 λ_ h=>by cases h)))) u h⟩
def chC (x:kq):List Value:=[iv x.rk.wt,x.rk.cv.1,iv x.rk.tree.rule,iv x.rk.tree.lex,x.rk.tree.kv.1,iv (x.fy:Nat),x.rv.1]
def jM:Rp kq:=⟨7,by decide,chC,λ_=>True,λ_=>rfl,λx u h=>cC rfl (cC x.rk.cv.2 (cC rfl (cC rfl (cC x.rk.tree.kv.2 (cC rfl (cC x.rv.2 λ_ h=>by cases h)))))) u h⟩
def fM:Rp jJ:=⟨3,by decide,λx=>[x.dv.1,x.nv.1,.bool x.begun],λ_=>True,λ_=>rfl,λx u h=>cC x.dv.2 (cC x.nv.2 (cC rfl λ_ h=>by cases h)) u h⟩
abbrev rkL (x:xL):List du:=[sl aI x.cv.1 x.code,br x.tree]
abbrev chL (x:kq):List du:=[sl aI x.rk.cv.1 x.rk.code,br x.rk.tree,sl aI x.rv.1 (bW x.ranks)]
def oL (x:xL):du:=iP (rkL x)
def hS (x:kq):du:=iP (chL x)
def kK (a b:TypeId)(x:jJ):List ak:=[row x.dv.1 a 5 x.done.length (rows LM x.done),row x.nv.1 b 7 x.next.length (rows jM x.next),aB (aF oL x.done),aB (aF hS x.next)]
def mV (x:xL):jq:=⟨x.wt,x.code,cx x.tree⟩
def iR (x:kq):jH:=⟨mV x.rk,x.fy,x.ranks⟩
def fi (x:jJ):wD:=⟨x.done.map mV,x.next.map iR,x.begun⟩
end Go.Proofs.YtblifkgpebebmaaGreatDoor
