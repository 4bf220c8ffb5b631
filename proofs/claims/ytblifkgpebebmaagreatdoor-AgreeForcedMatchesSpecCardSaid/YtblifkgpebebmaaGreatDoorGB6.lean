/-
  Laws of walks through programs, and facts on grammars, trees and queries.
  Conditions: none.
-/
import Derived.Test.YtblifkgpebebmaaGreatDoorGB5
set_option maxHeartbeats 1000000
set_option maxRecDepth 20000
set_option linter.unusedVariables false
set_option linter.unusedSimpArgs false
namespace Go.Proofs.YtblifkgpebebmaaGreatDoor
open Go Go.J Tryz
theorem Rt {p:Pl}{i:Nat}(h:i<p.ro.length):(ph p)[i]?=some (p.tt i,if p.rt i=i then(p.ll i).map (λl=>(l.1,(p.rt l.2.toNat:Int)))else []):=by
 unfold ph;rw[bQ,nY h];rfl
def tlk (p:Pl)(l:kq):kq:=l.map λl=>(l.1,(p.rt l.2.toNat:Int))
theorem Gy (f:Nat)(l m:aV)(pv tv lv:Value)(nt nf n:Nat)(hn:n≤120)(hn0:0<n)(P0:List Nat)(p:Pl)(ls:List CG)(o:mM nt nf n p)(X:UF P0 p.ro)(Uf:ls.map zA=p.lk)(Y:∀q∈ls,∀x∈q.2,au.wf x)(hlen:∀q∈ls,q.2.length≤1000000)(hnt:nt≤1000000)(r:Nat)(hr:r<n):dz prog 130 #[.pointer (some ⟨f,0,none⟩),iv r] [aW f (.cells [l.1,m.1,pv,tv,lv].toArray 245 (0,0)),row pv 3 1 p.ro.length (rows aJ (cX (P0))),row tv 3 1 p.ty.length (rows aJ p.ty),row lv 161 1 ls.length (rows bN (ls.map Prod.fst)),aB (aF pk ls)] (λv H'=>H'=[aB (bL (gl (ph p) (p.rt r)) v)]):=by
 refine dz.body (args:=[.pointer (some ⟨f,0,none⟩),iv r]) 68 func130 rfl ntmps130 rfl (λc=> ?_);refine go ?_
 have Z:=o.lr
 have hTl:=o.lt
 have V:=o.ll
 have hll:ls.length=n:=by rw[←V,←Uf,aO]
 refine go ?_;refine St.al (λW=> ?_);refine g4 ?_;refine St.al (λb5=> ?_);refine g14 ?_;refine St.dw 163 2 ?_;refine St.aM (.slice none 0 0) (show _=([]:List dh).length from rfl) (show _=rows bq []from rfl) ?_;refine St.dN cB ?_;refine St.tm (ι:=Nat) (κ:=Value×List dh×List Nat) (λk z T=>(15,iv k)::T) (λk z=>[aW b5 (.cells [z.1].toArray 30 (0,0)),row z.1 163 2 (z.2.1).length (rows bq (z.2.1)),aW W (.cells [(.slice none 0 0)].toArray 30 (0,0)),aW f (.cells [l.1,m.1,pv,tv,lv].toArray 245 (0,0)),row pv 3 1 p.ro.length (rows aJ (cX (z.2.2))),row tv 3 1 p.ty.length (rows aJ p.ty),row lv 161 1 ls.length (rows bN (ls.map Prod.fst)),aB (aF pk ls),aB (aF cB z.2.1)]) (λk z=>k≤n∧z.1.oneCell'=true∧z.2.1.map mB=(ph p).take k∧z.2.1.length=k∧UF z.2.2 p.ro∧(∀x∈z.2.1,bq.wf x)∧∀x∈z.2.1,x.aq.length≤1000000) (λk z=>n-k) 0 ((.slice none 0 0),[],P0) (aD.cons 0 rfl (aD.cons 1 rfl (aD.cons 4 rfl (aD.cons 5 rfl (aD.cons 14 rfl aD.nil))))) ⟨aP _,rfl,rfl,rfl,X,λx hx=>(by cases hx),λx hx=>(by cases hx)⟩ ?_;rintro k ⟨gv,N,P1⟩ ⟨hk,a,s,H,I,A,C⟩
 dsimp only at a s H I A C⊢
 obtain⟨rk,B,J⟩:=I;refine g6 ?_;refine St.cq (λh16=> ?_) (λh16=> ?_)
 ·have NY:k<n:=by omega
  have hkt:=o.tt NY
  have SG:aa (p.tt k):=by unfold aa;omega
  refine g18 ?_;refine St.ee (Ev.ct (.mk rfl) gD trivial (by omega) (gU (Ph (by omega)))) ?_;refine St.ee (Ev.build (bH.ar rfl) (λw=>E5 rfl w)) ?_;refine St.al (λb7=> ?_);refine g3 ?_;refine St.join (ι:=aV×List dx×List Nat) (λ⟨b,L,g⟩ T=>T) (λ⟨b,L,g⟩=>[aW b7 (.cells [iv (p.tt k),b.1].toArray 163 (0,0)),aW b5 (.cells [gv].toArray 30 (0,0)),row gv 163 2 (N).length (rows bq (N)),aW W (.cells [(.slice none 0 0)].toArray 30 (0,0)),aW f (.cells [l.1,m.1,pv,tv,lv].toArray 245 (0,0)),row pv 3 1 p.ro.length (rows aJ (cX (g))),row tv 3 1 p.ty.length (rows aJ p.ty),row lv 161 1 ls.length (rows bN (ls.map Prod.fst)),aB (aF pk ls),aB (aF cB N),aB (sl au b.1 L)]) (λ⟨b,L,g⟩=>UF g p.ro∧L.map fP=(if p.rt k=k then tlk p (p.ll k)else [])∧L.length≤1000000) (aD.cons 0 rfl (aD.cons 1 rfl (aD.cons 4 rfl (aD.cons 5 rfl (aD.cons 7 rfl (aD.cons 14 rfl (aD.cons 15 rfl aD.nil))))))) ?_ ?_
  ·refine g4 ?_
   refine St.call (find_spec f l m pv tv lv rk B p.ro (by omega) P1 J k (by omega)) E6 (.aX rfl rfl) rfl ?_;rintro v28 _ ⟨P3,rfl,K,rfl⟩;refine St.dQ ?_;refine g4 ?_;refine St.cq (λh30=> ?_) (λh30=> ?_)
   ·have GG:p.rt k=k:=(show p.ro.getD k 0=k by omega)
    obtain⟨q,D⟩:=aE (show k<ls.length by omega)
    have hqm:=aZ D
    have M:p.ll k=q.2.map fP:=HM Uf D
    have hqL:=hlen q hqm
    refine St.cL pk ls (x:=q) hqm ?_;refine St.ea (sl au q.1.1 q.2) [pk q] (λρ h=>h _ (aQ ..)) ?_;refine g8 ?_;refine St.ee (Ev.ct (.mk rfl) eX trivial (by omega) (r6 (show(ls.map Prod.fst)[k]?=some q.1 by rw[bQ,D];rfl))) ?_;refine g5 ?_;refine St.dw 165 2 ?_;refine St.aM (.slice none 0 0) (show _=([]:List dx).length from rfl) (show _=rows au []from rfl) ?_;refine St.tm (ι:=Nat) (κ:=Value×List dx×List Nat) (λj z T=>(39,iv j)::T) (λj z=>[aW b7 (.cells [iv (p.tt k),z.1].toArray 163 (0,0)),row z.1 165 2 (z.2.1).length (rows au (z.2.1)),aW b5 (.cells [gv].toArray 30 (0,0)),row gv 163 2 (N).length (rows bq (N)),aW W (.cells [(.slice none 0 0)].toArray 30 (0,0)),aW f (.cells [l.1,m.1,pv,tv,lv].toArray 245 (0,0)),row pv 3 1 p.ro.length (rows aJ (cX (z.2.2))),row tv 3 1 p.ty.length (rows aJ p.ty),row lv 161 1 ls.length (rows bN (ls.map Prod.fst)),aB (aF pk ls),aB (aF cB N),aB (sl au q.1.1 q.2)]) (λj z=>j≤q.2.length∧z.1.oneCell'=true∧UF z.2.2 p.ro∧z.2.1.map fP=tlk p ((q.2.take j).map fP)∧z.2.1.length=j∧∀x∈z.2.1,au.wf x) (λj z=>q.2.length-j) 0 ((.slice none 0 0),[],P3) (aD.cons 0 rfl (aD.cons 1 rfl (aD.cons 4 rfl (aD.cons 5 rfl (aD.cons 7 rfl (aD.cons 14 rfl (aD.cons 15 rfl (aD.cons 37 rfl (aD.cons 38 rfl aD.nil))))))))) ⟨aP _,rfl,⟨rk,B,K⟩,rfl,rfl,λx hx=>(by cases hx)⟩ ?_;rintro j ⟨lw,L,g⟩ ⟨hj,O,t,G,V,E⟩
    dsimp only at O t G V E⊢
    obtain⟨F,B2,P⟩:=t;refine g6 ?_;refine St.cq (λh40=> ?_) (λh40=> ?_)
    ·obtain⟨x,hx⟩:=aE (show j<q.2.length by omega)
     obtain⟨_,HF,hx1⟩:=o.QY _ (o.lm NY) (fP x) (by rw[M];exact eQ (aZ hx))
     replace HF:0≤x.tqo:=HF
     replace hx1:x.tqo<n:=hx1
     obtain⟨d,SR⟩:∃d,d=x.tqo.toNat:=⟨_,rfl⟩
     have SU:x.tqo=(d:Int):=by omega
     have hrx:p.ro.getD d 0<n:=o.AE d (by omega)
     refine g7 ?_;refine St.ee (Ev.js (.mk rfl) hx lD trivial dm j7.eq) ?_;refine St.al (λb9=> ?_);refine g3 ?_;refine St.dc [aW b7 (.cells [iv (p.tt k),lw].toArray 163 (0,0)),row lw 165 2 (L).length (rows au (L)),aW f (.cells [l.1,m.1,pv,tv,lv].toArray 245 (0,0)),row pv 3 1 p.ro.length (rows aJ (cX (g)))] mixed (λnp ns=> ?_)
     repeat' first
      |with_reducible refine SW.me ?_
       first
        |refine SW.gd 0 ?_
        |refine SW.gd 2 ?_
        |refine SW.gd 3 ?_
        |refine SW.gd 4 ?_
        |refine SW.gd 5 ?_
        |refine SW.gd 6 ?_
         refine SW.slot 49 (iv (d:Nat)) rfl (congrArg iv SU) ?_
        |refine SW.dd 8 rfl (λ_=>Ev.build (ps:=[(0,(.tmp 46)),(1,(.tmp 50))]) (bH.aX rfl rfl) (λw=>ou rfl rfl w)) ?_
        |refine SW.gd 11 ?_
        |refine SW.t2 1 7 ?_ ?_
        |refine SW.t1 7 ?_
        |refine SW.t1 9 ?_
        |refine SW.t1 10 ?_
        |refine SW.t1 12 ?_
        |refine SW.t2 1 9 ?_ ?_
        |refine SW.t1 1 ?_
      |with_reducible refine SW.tg 1 ?_
       refine g3 ?_;refine SW.go ?_
      |with_reducible refine SW.tg 7 ?_
       refine St.call (find_spec f l m pv tv lv F B2 p.ro (by omega) g P d (by omega)) E6 (.aX rfl rfl) rfl ?_;rintro v50 _ ⟨P4,rfl,Q,rfl⟩;refine St.dQ ?_;refine g2 ?_;refine SW.go ?_
      |with_reducible refine SW.tg 9 ?_
       refine St.gV rfl (.ar rfl) eX dm kI rfl rfl (by simp[Value.cells]) rfl rfl (λb52=> ?_);refine g2 ?_;refine SW.go ?_
      |with_reducible refine SW.tg 10 ?_
       refine St.aj (.mk rfl) (.mk rfl) eX dm kI qE (by simp[Value.oneCell',Value.cells]) (by omega) (by omega) rfl rfl rfl rfl (λv53 anS=> ?_);refine St.aM v53 (show _=(L++ [(⟨x.dF,(p.ro.getD d 0:Nat)⟩:dx)]).length from cS) (show _=rows au (L++ [(⟨x.dF,(p.ro.getD d 0:Nat)⟩:dx)]) by rw[ay];rfl) ?_;refine St.ba v53 (λR _=> ?_);refine g2 ?_;refine SW.go ?_
      |with_reducible refine SW.tg 12 ?_
       refine St.cI (.mk rfl) (.mk rfl) pW R (by rfl) ?_;refine g2 ?_;refine SW.go ?_
     all_goals refine SW.dn ?_
     all_goals
      refine g7 ?_;refine St.ui (j+1) (v53,L++ [⟨x.dF,(p.ro.getD d 0:Nat)⟩],P4) ⟨by omega,R,⟨F,B2,Q⟩,by dsimp only;rw[cP,G,ag hx,cP];unfold tlk;rw[cP];congr 1;show [(x.dF,((p.ro.getD d 0:Nat):Int))]=[(x.dF,((p.rt x.tqo.toNat:Nat):Int))];rw[←SR];rfl,by dsimp only;rw[bR,V];rfl,λy hy=>by rcases cG.1 hy with h|h;exact E y h;rw[bP.1 h];exact⟨(Y q hqm x (aZ hx)).1,by show aa ((p.ro.getD d 0:Nat):Int);unfold aa;omega⟩⟩
    ·obtain rfl:j=q.2.length:=by omega
     rw[fZ (aR _)]at G;refine St.bS lw au L rfl rfl E ?_;refine g5 ?_;refine St.mE ⟨⟨lw,O⟩,L,g⟩ ⟨⟨F,B2,P⟩,by rw[aC GG,M];exact G,by dsimp only;omega⟩
   ·have GG:p.rt k≠k:=λe=>by have e2:p.ro.getD k 0=k:=e;omega
    refine g2 ?_;refine St.fp au ?_;refine St.mE ⟨bT,[],P3⟩ ⟨⟨rk,B,K⟩,by rw[aA GG];rfl,aP _⟩
  ·rintro ⟨b,L,g⟩ ⟨t,G,aiB⟩
   refine g4 ?_;refine St.slot 58 (.agg #[iv (p.tt k),b.1]) rfl rfl ?_;refine St.gV rfl (.ar rfl) oY jT GD rfl rfl (by simp[Value.cells]) rfl rfl (λb59=> ?_);refine St.aj (.mk rfl) (.mk rfl) oY jT GD MZ (by intro u hu;have SN:u∈[iv (p.tt k),b.1]:=hu;simp only[List.mem_cons,List.not_mem_nil,or_false]at SN;rcases SN with rfl|rfl;rfl;exact b.2) (by omega) (by omega) rfl rfl rfl rfl (λv60 anV=> ?_);refine St.aM v60 (show _=(N++ [(⟨p.tt k,b,L⟩:dh)]).length from cS) (show _=rows bq (N++ [(⟨p.tt k,b,L⟩:dh)]) by rw[ay];rfl) ?_;refine St.ba v60 (λS _=> ?_);refine St.ea (aF cB (N++ [(⟨p.tt k,b,L⟩:dh)])) [aF cB N,sl au b.1 L] (λρ h x hx=>by rcases cG.1 hx with hx|hx;exact h _ (aQ ..) x hx;rw[bP.1 hx];exact h _ (cO _ (aQ ..))) ?_;refine go ?_;refine St.cI (.mk rfl) (.mk rfl) ae8 S (by rfl) ?_;refine g8 ?_;refine St.ui (k+1) (v60,N++ [⟨p.tt k,b,L⟩],g) ⟨by omega,S,by dsimp only;rw[cP,s,ag (Rt (p:=p) (i:=k) (by omega))];congr 1;show [(p.tt k,L.map fP)]=_;rw[G];rfl,by dsimp only;rw[bR,H];rfl,t,λx hx=>by rcases cG.1 hx with h|h;exact A x h;rw[bP.1 h];exact SG,λx hx=>by rcases cG.1 hx with h|h;exact C x h;rw[bP.1 h];exact aiB⟩
 ·obtain rfl:k=n:=by omega
  have hgl:(ph p).length=k:=by rw[te];exact Z
  rw[fZ (by omega)]at s
  have H4:=NI o (by omega)
  have Wf:=o.AE r hr
  refine St.bS gv bq N rfl rfl A ?_;refine St.ea (aG ⟨⟨gv,a⟩,N⟩) [sl bq gv N,aF cB N] (λρ h=>h) ?_
  have U:ax ⟨⟨gv,a⟩,N⟩=ph p:=s
  refine g6 ?_;refine St.dc [aW f (.cells [l.1,m.1,pv,tv,lv].toArray 245 (0,0)),row pv 3 1 p.ro.length (rows aJ (cX (P1))),aW W (.cells [(.slice none 0 0)].toArray 30 (0,0)),aB (aG ⟨⟨gv,a⟩,N⟩)] mixed (λnp ns=> ?_);refine SW.gd 0 ?_;refine SW.slot 63 (bA ⟨⟨gv,a⟩,N⟩) rfl rfl ?_;refine SW.gd 1 ?_;refine SW.gd 2 ?_;refine SW.t1 3 ?_;refine St.call (find_spec f l m pv tv lv rk B p.ro (by omega) P1 J r (by omega)) E6 (.aX rfl rfl) rfl ?_;rintro v66 _ ⟨P4,rfl,Q,rfl⟩;refine St.dQ ?_;refine g2 ?_;refine SW.go ?_;refine SW.t1 4 ?_;refine St.ae (ue ⟨⟨gv,a⟩,N⟩ (by rw[U];exact H4.lk) (by show N.length≤120;omega) C (p.ro.getD r 0) (show p.rt r<N.length by omega)) Mg (.aX rfl rfl) rfl ?_;rintro v67 _ rfl;refine St.ao ?_;rw[U];refine St.bL (gl (ph p) (p.ro.getD r 0)) v67 (λy hy=> ?_);obtain⟨rfl,YP⟩:=hy;refine g2 ?_;refine SW.go ?_;refine SW.t1 5 ?_;refine g3 ?_;refine SW.go ?_;refine SW.dn ?_;refine g2 ?_;refine St.rV [_] [aB (bL (gl (ph p) (p.ro.getD r 0)) (bA y))] ?_;exact rfl
theorem mM.short {nt nf n:Nat}{p:Pl}(hp:mM nt nf n p){l:kq}(c:l∈p.lk):l.length≤nf:=by
 have d:=hp.YA l c
 have hk:=hp.QY l c
 have e:(l.map λz=>z.1.toNat).Nodup:=by
  unfold List.Nodup;rw[sF];exact wc (λ{a b} h1 f h=>by have:=(hk a h1).1;have:=(hk b f).1;omega) d
 have:=kh e (n:=nf) (λj g=>by obtain⟨z,hz,rfl⟩:=dC.1 g;have:=(hk z hz).1;omega)
 rwa[aO]at this
theorem aeC {x y:e8}{a b:List CG}{m:Nat}(hm:x.length=m)(h1:a.map zA=([]:List CG).map zA++x.map (λn=>n.2.map λx=>(x.1,((0:Nat):Int)+x.2)))(c:b.map zA=a.map zA++y.map (λn=>n.2.map λx=>(x.1,(m:Int)+x.2))):b.map zA=(Pl.of x y).lk:=by
 rw[c,h1,←hm]
 show([]++x.map _)++_=x.map (·.2)++_
 rw[C7]
 congr 1
 refine C1 λn _=> ?_
 conv=>rhs;rw[←List.map_id n.2]
 exact C1 λz _=>by simp
theorem aeA {nt nf n:Nat}{p:Pl}(hp:mM nt nf n p)(e:nf≤100)(f:n≤240){ls:List CG}(h:ls.map zA=p.lk):∀q∈ls,∀x∈q.2,au.wf x:=λq d x hx=>by
 have hm:zA q∈p.lk:=by rw[←h];exact eQ d
 obtain⟨⟨h1,a⟩,b,c⟩:=hp.QY _ hm (fP x) (eQ hx)
 have h1:0≤x.dF:=h1
 have a:x.dF<nf:=a
 have b:0≤x.tqo:=b
 have c:x.tqo<n:=c
 exact⟨by unfold aa;omega,by unfold aa;omega⟩
theorem PG {nt nf n:Nat}{p:Pl}(hp:mM nt nf n p)(b:nf≤100){ls:List CG}(h:ls.map zA=p.lk):∀q∈ls,q.2.length≤1000000:=λq a=>by
 have hm:zA q∈p.lk:=by rw[←h];exact eQ a
 have:=hp.short hm
 have e:(zA q).length=q.2.length:=aO _
 omega
theorem aeE (x y:e8):(Pl.of x y).ro=List.range (x.length+y.length):=rfl
theorem aeD {nt nf:Nat}{x y:e8}(hx:e9 nt nf x)(hy:e9 nt nf y)(h1:x.length≤60)(c:y.length≤60)(o:nf≤100)(w:List (Int×Int))(hw:w.length≤10):(Pl.of x y).mu w≤1000000:=by
 have hp:=Pl.OP hx hy
 have e:∀i,i<x.length+y.length→((Pl.of x y).ll i).length≤100:=λi d=>by
  have f:=hp.YA _ (hp.lm d)
  have hk:=hp.QY _ (hp.lm d)
  have:((Pl.of x y).ll i).length≤nf:=by
   have g:(((Pl.of x y).ll i).map λz=>z.1.toNat).Nodup:=by
    unfold List.Nodup;rw[sF];exact wc (λ{a b} h1 c h=>by have:=(hk a h1).1;have:=(hk b c).1;omega) f
   have:=kh g (n:=nf) (λj k=>by obtain⟨z,hz,rfl⟩:=dC.1 k;have:=(hk z hz).1;omega)
   rwa[aO]at this
  omega
 have l:∀n,n≤x.length+y.length→fy (λi=>if(Pl.of x y).rt i=i then((Pl.of x y).ll i).length else 0) n≤n*100:=by
  intro n
  induction n with
  |zero=>intro _;exact aP _
  |succ n m=>
   intro h
   have:=m (by omega)
   have:=e n (by omega)
   rw[fy]
   split<;>omega
 have:=l _ (aR _)
 unfold Pl.mu Pl.left;rw[hp.lr];omega
theorem ql (d e:aV)(T:List eo)(Q:ir T)(nf:Nat)(A:nf≤100)(a b:dD)(B:e9 T.length nf (ax a))(x:e9 T.length nf (ax b))(hla:a.nodes.length≤60)(W:b.nodes.length≤60)(C:∀t∈a.nodes,t.aq.length≤1000000)(D:∀t∈b.nodes,t.aq.length≤1000000)(node:Nat)(Km:node<a.nodes.length):dz prog 92 #[kB d e,bA a,iv node,bA b] ([sl bI d.1 (dg T),sl bI e.1 (de T),tz,aG a,aG b].map aB) (λv H'=>∃u,v= .tuple #[u,.bool (dT (hC T) (ax a) node (ax b)).isSome]∧H'=[aB (bL ((dT (hC T) (ax a) node (ax b)).getD []) u)]):=by
 refine dz.body (args:=[kB d e,bA a,iv node,bA b]) 27 func92 rfl ntmps92 rfl (λc=> ?_);refine St.cast (H':=[aB (sl bI d.1 (dg T)),aB (sl bI e.1 (de T)),aB (tz),aB (aG a),aB (aG b)]) rfl ?_;refine go ?_
 have f:=cy a
 have j:=cy b
 have hTl:=Q.len
 have k:=Pl.OP B x
 have E:=aeD B x (by omega) (by omega) A [((node:Int),((ax a).length:Int))] (by simp)
 refine go ?_;refine St.dJ (.mk rfl) rfl (λb4=> ?_);refine St.dJ (.mk rfl) rfl (λb5=> ?_);refine St.dJ (.mk rfl) rfl (λb7=> ?_);refine St.al (λb8=> ?_);refine g6 ?_;refine St.slot 11 (kB d e) rfl rfl ?_;refine St.ee (Ev.build (bH.ar rfl) (λw=>MU w)) ?_;refine St.dJ (.mk rfl) rfl (λz=> ?_);refine g4 ?_;refine St.dw 3 1 ?_;refine St.aM (.slice none 0 0) (show _=(List.range 0).length from rfl) (show _=rows aJ (cX (List.range 0))from rfl) ?_;refine St.dw 161 1 ?_;refine St.aM (.slice none 0 0) (show _=([]:List CG).length from rfl) (show _=rows bN (([]:List CG).map Prod.fst)from rfl) ?_;refine St.dw 3 1 ?_;refine St.aM (.slice none 0 0) (show _=([]:List Int).length from rfl) (show _=rows aJ []from rfl) ?_;refine St.dN pk ?_;refine g3 ?_;refine St.slot 15 (bA a) rfl rfl ?_;refine St.call (uF z d e a B.lk (by omega) C 0 (by omega) [] rfl [] rfl (.slice none 0 0) (.slice none 0 0) (.slice none 0 0) ⟨rfl,rfl,rfl⟩) UE (.aX rfl rfl) rfl ?_;rintro X _ ⟨pv,tv,lv,l,rfl,⟨h1,Y,Z⟩,m,rfl⟩;refine St.CP ?_;refine g9 ?_;refine St.slot 20 (bA b) rfl rfl ?_
 have F:l.length=a.nodes.length:=by have:=congrArg List.length m;simpa[f]using this
 refine St.aM pv (show _=(List.range a.nodes.length).length by rw[iW]) (show _=rows aJ (cX (List.range a.nodes.length)) by rw[iW]) ?_;refine St.aM tv (show _=(a.nodes.map dh.type).length from rfl) (show _=rows aJ (a.nodes.map dh.type)from rfl) ?_;refine St.call (uF z d e b x.lk (by omega) D a.nodes.length (by omega) (a.nodes.map dh.type) (aO _) l F pv tv lv ⟨h1,Y,Z⟩) UE (.aX rfl rfl) rfl ?_;rintro v21 _ ⟨g,i,n,o,rfl,G,H,rfl⟩;refine St.CP ?_
 have q:(Pl.of (ax a) (ax b)).ro=List.range (a.nodes.length+b.nodes.length):=by rw[aeE,f,j]
 have R:(Pl.of (ax a) (ax b)).ty=a.nodes.map dh.type++b.nodes.map dh.type:=by show(ax a).map Prod.fst++(ax b).map Prod.fst=_;show(a.nodes.map mB).map Prod.fst++(b.nodes.map mB).map Prod.fst=_;rw[kH,kH];rfl
 have S:o.map zA=(Pl.of (ax a) (ax b)).lk:=aeC f m H
 have I:=aeA k A (by omega) S
 refine St.aM g (show _=(Pl.of (ax a) (ax b)).ro.length by rw[q]) (show _=rows aJ (cX (List.range (a.nodes.length+b.nodes.length)))from rfl) ?_;refine St.aM i (show _=(Pl.of (ax a) (ax b)).ty.length by rw[R]) (show _=rows aJ (Pl.of (ax a) (ax b)).ty by rw[R]) ?_;refine St.call (Kz z d e g i n G T Q nf (a.nodes.length+b.nodes.length) 1000000 (by omega) (aR _) (List.range (a.nodes.length+b.nodes.length)) (Pl.of (ax a) (ax b)) o node (a.nodes.length:Nat) ⟨by omega,by omega⟩ ⟨by omega,by have:=x.pos;omega⟩ (by rw[←f,←j];exact k) (by rw[q];exact UF.range _) S I (by rw[←f];exact E)) ZO (.ek rfl rfl rfl) rfl ?_;rintro v22 _ ⟨U,P1,p,J,rfl,WX,K,rfl⟩;refine St.CP ?_;refine g3 ?_;refine St.cond _ rfl (λL=> ?_) (λL=> ?_)
 ·skip
  have M:U=false:=by simpa using L
  have N:=WX M
  have r:dT (hC T) (ax a) node (ax b)=none:=by unfold dT;rw[f];rw[N];rfl
  refine g2 ?_;refine St.ee (Ev.build (bH.nil) (λw=>Vf w)) ?_;refine g6 ?_;refine St.fp bq ?_;refine St.dN cB ?_;refine St.ea (bL ((dT (hC T) (ax a) node (ax b)).getD []) (.agg #[(.slice none 0 0)])) [sl bq (.slice none 0 0) [],aF cB []] (λρ h=>⟨⟨bT,[]⟩,rfl,by rw[r];rfl,h⟩) ?_;refine St.rV [_,_] [aB (bL ((dT (hC T) (ax a) node (ax b)).getD []) (.agg #[(.slice none 0 0)]))] ?_;exact⟨_,by rw[r];rfl,rfl⟩
 ·skip
  have GG:U=true:=by simpa using L
  obtain⟨N,V,O,s,P⟩:=K GG
  have r:dT (hC T) (ax a) node (ax b)=some (gl (ph p) (p.rt 0)):=by unfold dT;rw[f,N];rfl
  refine g5 ?_;refine St.call (Gy z d e g i n T.length nf (a.nodes.length+b.nodes.length) (by omega) (by omega) P1 p J V O s P (PG V A s) (by omega) 0 (by omega)) ZQ (.aX rfl rfl) rfl ?_;rintro v26 _ rfl;refine St.ao ?_;refine St.bL (gl (ph p) (p.rt 0)) v26 (λy hy=> ?_);obtain⟨rfl,YP⟩:=hy;refine g5 ?_;refine St.ea (bL ((dT (hC T) (ax a) node (ax b)).getD []) (bA y)) [bL (gl (ph p) (p.rt 0)) (bA y)] (λρ h=>by rw[r];exact h _ (aQ ..)) ?_;refine St.rV [_,_] [aB (bL ((dT (hC T) (ax a) node (ax b)).getD []) (bA y))] ?_;exact⟨_,by rw[r];rfl,rfl⟩
theorem gO {nt nf:Nat}{g:dD}(h:e9 nt nf (ax g))(m:nf≤100):∀t∈g.nodes,Asc t.aq∧t.aq.length≤100:=λt ht=>by
 obtain⟨_,c,hk⟩:=h.nd (mB t) (eQ ht)
 have c:sH (t.aq.map fP):=c
 have hk:∀x∈t.aq.map fP,(0≤x.1∧x.1<nf)∧0≤x.2∧x.2<(ax g).length:=hk
 refine⟨λi j x y e hx hy=> ?_,?_⟩
 ·have d:=ai hy
  have f:=ai hx
  have:=List.pairwise_iff_getElem.1 c i j (by simpa using f) (by simpa using d) e
  rw[List.getElem_map,List.getElem_map]at this;rw[bU f]at hx;rw[bU d]at hy;obtain rfl:=Option.some.inj hx;obtain rfl:=Option.some.inj hy;exact this
 ·have k:((t.aq.map fP).map λz=>z.1.toNat).Nodup:=by
   unfold List.Nodup;rw[sF];exact wc (λ{a b} h1 l h=>by have:=(hk a h1).1;have:=(hk b l).1;omega) c
  have:=kh k (n:=nf) (λj d=>by obtain⟨z,hz,rfl⟩:=dC.1 d;have:=(hk z hz).1;omega)
  rw[aO,aO]at this;omega
theorem zp (G:e8)(k:Int):Fl G 0 k=rX G k:=rfl
theorem Xj {mt:Nat→Nat→Option Nat}{x y:e8}{a:Int}{n:Nat}(b:(rX x a).toNat=n){z:e8}(hz:z=(dT mt x n y).getD []):((dT mt x n y).isSome&&decide ((z.length:Int)≤60))=(nC mt x a y).isSome∧∀w,nC mt x a y=some w→z=w:=by
 subst b;unfold nC
 cases h:dT mt x (rX x a).toNat y with
 |none=>rw[h]at hz;exact⟨rfl,λw hw=>by cases hw⟩
 |some u=>
  rw[h]at hz;obtain rfl:z=u:=hz
  dsimp only
  by_cases c:z.length≤60
  ·rw[aC c];exact⟨by simp;omega,λw hw=>Option.some.inj hw⟩
  ·rw[aA c];exact⟨by simp;omega,λw hw=>by cases hw⟩
theorem pz (x:dD)(nt nf:Nat)(d:nf≤100)(hx:e9 nt nf (ax x))(e:x.nodes.length≤120)(h:0≤rX (ax x) 0):dz prog 118 #[bA x] ([aG x].map aB) (λv H'=>H'=[aB (bL (mA (ax x)) v)]):=by
 refine dz.body (args:=[bA x]) 7 func118 rfl ntmps118 rfl (λc=> ?_);refine St.cast (H':=[aB (aG x)]) rfl ?_;refine go ?_
 have i:=cy x
 have a:=gO hx d
 have j:=hx.pos
 have k:=zo hx 0
 obtain⟨r,f⟩:∃r,r=(rX (ax x) 0).toNat:=⟨_,rfl⟩
 refine go ?_;refine St.dJ (.mk rfl) rfl (λl=> ?_);refine St.al (λg=> ?_);refine g3 ?_;refine St.dup (aG x) ?_;refine St.dc [aW g (.cells [(.slice none 0 0)].toArray 30 (0,0)),aB (aG x)] mixed (λm o=> ?_);refine SW.gd 0 ?_;refine SW.slot 3 (bA x) rfl rfl ?_;refine SW.gd 1 ?_;refine SW.slot 4 (bA x) rfl rfl ?_;refine SW.dd 2 rfl (λ_=>Ev.call (nF x 0 0 (by omega) (λn b=>⟨(a n b).1,by have:=(a n b).2;omega⟩)) Ib (.ek rfl rfl rfl)) ?_;refine SW.slot 5 (iv (r:Nat)) rfl (congrArg iv (by rw[zp];omega)) ?_;refine SW.t1 3 ?_;refine St.ae (ue x hx.lk e (λt ht=>by have:=(a t ht).2;omega) r (by omega)) Mg (.aX rfl rfl) rfl ?_;rintro v6 _ rfl;refine St.ao ?_;rw[show gl (ax x) r=mA (ax x) by unfold mA;rw[←f]];refine St.bL (mA (ax x)) v6 (λy hy=> ?_);obtain⟨rfl,p⟩:=hy;refine g2 ?_;refine SW.go ?_;refine SW.t1 4 ?_;refine g3 ?_;refine SW.go ?_;refine SW.dn ?_;refine g2 ?_;refine St.rV [_] [aB (bL (mA (ax x)) (bA y))] ?_;exact rfl
theorem qp (b d:aV)(T:List eo)(p:ir T)(nf:Nat)(l:nf≤100)(x y:dD)(e:Int)(hx:e9 T.length nf (ax x))(hy:e9 T.length nf (ax y))(q:x.nodes.length≤60)(s:y.nodes.length≤60)(G:0≤rX (ax x) e):dz prog 124 #[kB b d,bA x,iv e,bA y] ([sl bI b.1 (dg T),sl bI d.1 (de T),tz,aG x,aG y].map aB) (λv H'=>∃u z,v= .tuple #[u,.bool (nC (hC T) (ax x) e (ax y)).isSome]∧(∀w,nC (hC T) (ax x) e (ax y)=some w→z=w)∧H'=[aB (bL z u)]):=by
 refine dz.body (args:=[kB b d,bA x,iv e,bA y]) 30 func124 rfl ntmps124 rfl (λc=> ?_);refine St.cast (H':=[aB (sl bI b.1 (dg T)),aB (sl bI d.1 (de T)),aB (tz),aB (aG x),aB (aG y)]) rfl ?_;refine go ?_
 have H:=cy x
 have a:=gO hx l
 have g:=gO hy l
 have I:=hx.pos
 have J:=zo hx e
 obtain⟨r,B⟩:∃r,r=(rX (ax x) e).toNat:=⟨_,rfl⟩
 refine go ?_;refine St.dJ (.mk rfl) rfl (λK=> ?_);refine St.dJ (.mk rfl) rfl (λL=> ?_);refine St.dJ (.mk rfl) rfl (λM=> ?_);refine St.al (λC=> ?_);refine g4 ?_;refine St.dup (aG x) ?_;refine St.dc [aB (sl bI b.1 (dg T)),aB (sl bI d.1 (de T)),aB tz,aB (aG x),aB (aG y)] mixed (λi j=> ?_);refine SW.gd 0 ?_;refine SW.slot 13 (kB b d) rfl rfl ?_;refine SW.gd 1 ?_;refine SW.slot 14 (bA x) rfl rfl ?_;refine SW.gd 2 ?_;refine SW.slot 15 (bA x) rfl rfl ?_;refine SW.gd 3 ?_;refine SW.dd 4 rfl (λ_=>Ev.call (nF x 0 e (by omega) (λn A=>⟨(a n A).1,by have:=(a n A).2;omega⟩)) Ib (.ek rfl rfl rfl)) ?_;refine SW.slot 17 (iv (r:Nat)) rfl (congrArg iv (by rw[zp];omega)) ?_;refine SW.gd 5 ?_;refine SW.slot 18 (bA y) rfl rfl ?_;refine SW.t2 6 10 ?_ ?_
 focus
  refine St.ae (ql b d T p nf l x y hx hy q s (λt ht=>by have:=(a t ht).2;omega) (λt ht=>by have:=(g t ht).2;omega) r (by omega)) R9 (.gY rfl rfl rfl rfl) rfl ?_;rintro m _ ⟨u,rfl,rfl⟩;refine St.ao ?_;refine St.bL ((dT (hC T) (ax x) r (ax y)).getD []) u (λz hz=> ?_);obtain⟨rfl,k⟩:=hz;refine g2 ?_;refine SW.go ?_;refine SW.gd 7 ?_;refine SW.gd 8 ?_;refine SW.gd 9 ?_;refine SW.t1 10 ?_;refine St.al (λD=> ?_);refine g2 ?_;refine SW.go ?_;refine SW.t1 11 ?_;refine g3 ?_;refine SW.go ?_;refine SW.gd 12 ?_;refine SW.dn ?_
 rotate_left
 focus
  refine St.al (λD=> ?_);refine g2 ?_;refine SW.go ?_;refine SW.t1 6 ?_;refine St.ae (ql b d T p nf l x y hx hy q s (λt ht=>by have:=(a t ht).2;omega) (λt ht=>by have:=(g t ht).2;omega) r (by omega)) R9 (.gY rfl rfl rfl rfl) rfl ?_;rintro m _ ⟨u,rfl,rfl⟩;refine St.ao ?_;refine St.bL ((dT (hC T) (ax x) r (ax y)).getD []) u (λz hz=> ?_);obtain⟨rfl,k⟩:=hz;refine g2 ?_;refine SW.go ?_;refine SW.gd 7 ?_;refine SW.gd 8 ?_;refine SW.gd 9 ?_;refine SW.t1 11 ?_;refine g3 ?_;refine SW.go ?_;refine SW.gd 12 ?_;refine SW.dn ?_
 all_goals
  refine g2 ?_;refine St.ea (sl bq z.nv.1 z.nodes) [aG z] (λρ h=>h (aG z) (aQ ..) _ (aQ ..)) ?_;obtain⟨E,F⟩:=Xj (mt:=hC T) (y:=ax y) B.symm k
  have o:=cy z
  refine St.dc [aW C (.cells [(.slice none 0 0)].toArray 30 (0,0))] mixed (λi j=> ?_);refine SW.gd 0 ?_;refine SW.slot 22 (bA z) rfl rfl ?_;refine SW.gd 1 ?_;refine SW.gd 2 ?_;refine SW.gt 3 _ i j rfl rfl rfl (λR f=>Ev.da (.mk rfl) vC) (by kernel_rfl) rfl ?_;refine SW.gt 4 _ i j rfl rfl rfl (λR f=>Ev.ke (ah.gv rfl f) oY trivial (by rfl)) (by kernel_rfl) rfl ?_;refine SW.gt 5 _ i j rfl rfl rfl (λR f=>Ev.fc (ah.gv rfl f) oY) (by kernel_rfl) rfl ?_;refine SW.gt 6 _ i j rfl rfl rfl (λR f=>Ev.leq (ah.gv rfl f) (.mk rfl)) (by kernel_rfl) rfl ?_;refine SW.gd 7 ?_;refine SW.t1 8 ?_;refine g3 ?_;refine SW.go ?_;refine SW.gd 9 ?_;refine SW.dn ?_;refine g2 ?_;refine St.ea (bL (ax z) (bA z)) [aG z] (λρ h=>⟨z,rfl,rfl,h _ (aQ ..)⟩) ?_;refine St.rV [_,_] [aB (bL (ax z) (bA z))] ?_;refine⟨bA z,ax z,?_,F,rfl⟩;rw[←E,o]
  first|rfl|(cases N:(dT (hC T) (ax x) r (ax y)).isSome<;>simp)
structure GW (nt nf n frm tqo ch:Nat)(cs fi:Cs)(a:Nat):Prop where
 ok:gi nt nf n fi
 gr:Grow n frm tqo cs fi a
 news:∃news,fi.at_ n frm tqo=cs.at_ n frm tqo++news∧news.length≤a∧∀e∈news,(fi.ed e).cw=ch
theorem GW.refl {nt nf n frm tqo ch:Nat}{cs:Cs}(h:gi nt nf n cs):GW nt nf n frm tqo ch cs cs 0:=⟨h,Grow.refl ..,[],by simp,aR _,λe h=>by cases h⟩
theorem GW.mono {nt nf n frm tqo ch:Nat}{cs fi:Cs}{a b:Nat}(h:GW nt nf n frm tqo ch cs fi a)(c:a≤b):GW nt nf n frm tqo ch cs fi b:=
 let⟨news,h1,e,d⟩:=h.news
 ⟨h.ok,h.gr.mono c,news,h1,by omega,d⟩
theorem GW.trans {nt nf n frm tqo ch:Nat}{x y z:Cs}{a b:Nat}(h:GW nt nf n frm tqo ch x y a)(k:GW nt nf n frm tqo ch y z b):GW nt nf n frm tqo ch x z (a+b):=by
 obtain⟨u,h1,f,c⟩:=h.news;obtain⟨v,d,g,k3⟩:=k.news;refine⟨k.ok,h.gr.trans k.gr,u++v,by rw[d,h1,dq],by rw[bR];omega,λe he=> ?_⟩
 rcases cG.1 he with he|he
 ·rw[k.gr.ed e (h.ok.qA (show e∈y.at_ n frm tqo by rw[h1];simp[he]))];exact c e he
 ·exact k3 e he
theorem Qq {n:Nat}(cs:Cs)(e:og)(w:uh)(h:slt n e.frm e.tqo<cs.sp.length):∃news,(kZ n cs e w).at_ n e.frm e.tqo=cs.at_ n e.frm e.tqo++news∧news.length≤1∧∀i∈news,(kZ n cs e w).ed i=e:=by
 unfold kZ
 cases b:xj cs.its (fa e)with
 |some i=>exact⟨[],by simp[Cs.at_],aP _,λi h=>by cases h⟩
 |none=>
  refine⟨[cs.its.length],?_,aR _,λi a=> ?_⟩
  ·unfold Cs.at_
   dsimp only
   rw[getD_modify (show e.frm*(n+1)+e.tqo<cs.sp.length from h),aC rfl]
  ·rw[bP.1 a]
   unfold Cs.ed
   dsimp only
   rw[aw,lg (aR _),fh];rfl
theorem Jp {nt nf:Nat}{Q:Qr}(c:qo nt nf Q){frm tqo:Nat}(d:frm<tqo)(ht:tqo≤Q.n){cs:Cs}(h:gi nt nf Q.n cs){e ch i:Nat}(he:e<cs.its.length)(f:(cs.ed e).cw=ch)(s:ch<3)(g:i<Q.rules.length):
 GW nt nf Q.n frm tqo (ch+1) cs (qd Q frm tqo e cs i) (if decide ((Q.rules.getD i oP).kids=1)=true then 1 else 0):=by
 obtain⟨_,l,_⟩:=c.vb g;unfold qd
 by_cases hk:(Q.rules.getD i oP).kids=1
 ·rw[aA (λx=>x hk),aC (eB hk)]
  cases hy:lQ Q cs i (Q.rules.getD i oP).graph 1 e with
  |none=>exact(GW.refl h).mono (aP _)
  |some x=>
   dsimp only
   obtain⟨m,o,_⟩:=vq c.mt h l he hy;obtain⟨m1,m2⟩:=qR m o;obtain⟨a,b⟩:=yL c.n h (e:=⟨frm,tqo,(cs.ed e).cw+1,mA x⟩) (w:=⟨i,0,[e]⟩) ⟨d,ht,by dsimp only;omega,m1,m2⟩ (λk hk=>by rw[bP.1 hk];exact he);obtain⟨news,p,q,n3⟩:=Qq cs ⟨frm,tqo,(cs.ed e).cw+1,mA x⟩ ⟨i,0,[e]⟩ (by rw[h.GH];exact sa (by dsimp only;omega) ht);exact⟨a,b,news,p,q,λj r=>by rw[n3 j r];dsimp only;rw[f]⟩
 ·rw[aC hk,aA (λx=>hk (fJ x))]
  exact GW.refl h
theorem zz {nt nf:Nat}{Q:Qr}(a:qo nt nf Q){frm tqo:Nat}(b:frm<tqo)(ht:tqo≤Q.n){e ch:Nat}(c:ch<3):∀(l:List Nat) (cs:Cs),(∀i∈l,i<Q.rules.length)→gi nt nf Q.n cs→e<cs.its.length→(cs.ed e).cw=ch→
 GW nt nf Q.n frm tqo (ch+1) cs (l.foldl (qd Q frm tqo e) cs) ((l.map λi=>if decide ((Q.rules.getD i oP).kids=1)=true then 1 else 0).sum)
 | [],cs,_,h,_,_=>GW.refl h
 |i::l,cs,d,h,he,f=>by
  have h1:=Jp a b ht h he f c (d i (by simp))
  have g:=zz a b ht c l (qd Q frm tqo e cs i) (λj k=>d j (by simp[k])) h1.ok (fO he h1.gr.more) (by rw[h1.gr.ed e he];exact f)
  exact h1.trans g
theorem Br {nt nf:Nat}{Q:Qr}(a:qo nt nf Q){frm tqo:Nat}(b:frm<tqo)(ht:tqo≤Q.n){e ch:Nat}(c:ch<3){cs:Cs}(h:gi nt nf Q.n cs)(he:e<cs.its.length)(d:(cs.ed e).cw=ch):
 GW nt nf Q.n frm tqo (ch+1) cs ((List.range Q.rules.length).foldl (qd Q frm tqo e) cs) (hP Q):=by
 have:=zz a b ht c (List.range Q.rules.length) cs (λi f=>dt.1 f) h he d
 rw[rD (λr:sm=>decide (r.kids=1)) oP 1 Q.rules,gZ]at this;exact this
def vT (Q:Qr)(cs:Cs)(l:List Nat):Nat:=(l.map λe=>jx (hP Q) (3-(cs.ed e).cw)).sum
theorem oJ {α:Type}(f:α→Nat){l:List α}{k:Nat}{a:α}(h:l[k]?=some a):((l.drop k).map f).sum=f a+((l.drop (k+1)).map f).sum:=by
 rw[bO h,fK,ob]
theorem tx {α:Type}{f g:α→Nat}{l:List α}(h:∀a∈l,f a=g a):(l.map f).sum=(l.map g).sum:=by rw[C1 h]
theorem G0 {nt nf:Nat}{Q:Qr}(m:qo nt nf Q){frm tqo:Nat}(o:frm<tqo)(ht:tqo≤Q.n){cs:Cs}(h:gi nt nf Q.n cs){k e:Nat}(hk:(cs.at_ Q.n frm tqo)[k]?=some e)(q:(cs.ed e).cw≠3){fi:Cs}(b:fi=(List.range Q.rules.length).foldl (qd Q frm tqo e) cs):
 gi nt nf Q.n fi∧Grow Q.n frm tqo cs fi (hP Q)∧k+1≤(fi.at_ Q.n frm tqo).length∧qU Q fi ((fi.at_ Q.n frm tqo).drop (k+1))+1≤qU Q cs ((cs.at_ Q.n frm tqo).drop k)∧hP Q+vT Q fi ((fi.at_ Q.n frm tqo).drop (k+1))≤vT Q cs ((cs.at_ Q.n frm tqo).drop k):=by
 have c:=aZ hk
 have d:=h.qA c
 have r:(cs.ed e).cw≤3:=by
  unfold Cs.ed;rw[aw,bU d];exact(h.gr _ (iG d)).2.2.1
 have hu:=Br m o ht (e:=e) (ch:=(cs.ed e).cw) (by omega) h d rfl
 rw[←b]at hu;obtain⟨news,f,g,n3⟩:=hu.news
 have s:=ai hk
 have hd:(fi.at_ Q.n frm tqo).drop (k+1)=(cs.at_ Q.n frm tqo).drop (k+1)++news:=by rw[f,List.drop_append_of_le_length (by omega)]
 have hold:∀j∈(cs.at_ Q.n frm tqo).drop (k+1),fi.ed j=cs.ed j:=λj a=>hu.gr.ed j (h.qA (GB a))
 have p:3-(cs.ed e).cw=(2-(cs.ed e).cw)+1:=by omega
 have i:jx (hP Q) (3-(cs.ed e).cw)=hP Q*(1+jx (hP Q) (2-(cs.ed e).cw)):=by rw[p];rfl
 have l:∀j∈news,jx (hP Q) (3-(fi.ed j).cw)=jx (hP Q) (2-(cs.ed e).cw):=λj a=>by rw[n3 j a];congr 1;omega
 have hmul:news.length*(1+jx (hP Q) (2-(cs.ed e).cw))≤hP Q*(1+jx (hP Q) (2-(cs.ed e).cw)):=iV _ g
 refine⟨hu.ok,hu.gr,by rw[f,bR];omega,?_,?_⟩
 ·unfold qU
  rw[hd,cP,List.sum_append,oJ _ hk,tx (λj a=>by rw[hold j a]:∀j∈(cs.at_ Q.n frm tqo).drop (k+1),1+jx (hP Q) (3-(fi.ed j).cw)=1+jx (hP Q) (3-(cs.ed j).cw)),
   tx (λj a=>by rw[l j a]:∀j∈news,1+jx (hP Q) (3-(fi.ed j).cw)=1+jx (hP Q) (2-(cs.ed e).cw)),jj,i]
  omega
 ·unfold vT
  rw[hd,cP,List.sum_append,oJ _ hk,tx (λj a=>by rw[hold j a]:∀j∈(cs.at_ Q.n frm tqo).drop (k+1),jx (hP Q) (3-(fi.ed j).cw)=jx (hP Q) (3-(cs.ed j).cw)),
   tx (λj a=>by rw[l j a]:∀j∈news,jx (hP Q) (3-(fi.ed j).cw)=jx (hP Q) (2-(cs.ed e).cw)),jj,i]
  rw[Nat.mul_add,gZ]at hmul⊢
  have:news.length*jx (hP Q) (2-(cs.ed e).cw)≤hP Q*jx (hP Q) (2-(cs.ed e).cw):=iV _ g
  omega
theorem DX {nt nf:Nat}{Q:Qr}(d:qo nt nf Q){frm tqo:Nat}(e:frm<tqo)(ht:tqo≤Q.n):∀(f k:Nat) (cs:Cs),gi nt nf Q.n cs→gi nt nf Q.n (qe Q frm tqo f k cs)∧Grow Q.n frm tqo cs (qe Q frm tqo f k cs) (vT Q cs ((cs.at_ Q.n frm tqo).drop k))
 |0,k,cs,h=>⟨h,(Grow.refl ..).mono (aP _)⟩
 |f+1,k,cs,h=>by
  rw[qe]
  split
  ·rename_i hk
   have c:(cs.at_ Q.n frm tqo)[k]?=some ((cs.at_ Q.n frm tqo).getD k 0):=by rw[aw,bU hk];rfl
   split
   ·obtain⟨a,b⟩:=DX d e ht f (k+1) cs h
    refine⟨a,b.mono ?_⟩;unfold vT
    rw[oJ _ c];omega
   ·rename_i g
    obtain⟨s1,s2,j,l,i⟩:=G0 d e ht h c g rfl;obtain⟨a,b⟩:=DX d e ht f (k+1) _ s1;exact⟨a,(s2.trans b).mono i⟩
  ·exact⟨h,(Grow.refl ..).mono (aP _)⟩
theorem OZ (r:Nat):∀k:Nat,k≤3→jx r k≤jx r 3
 |0,_=>aP _
 |1,_=>by
  show r*(1+0)≤r*(1+r*(1+r*(1+0)))
  exact A4 _ (by omega)
 |2,_=>by
  show r*(1+r*(1+0))≤r*(1+r*(1+r*(1+0)))
  exact A4 _ (Nat.add_le_add_left (A4 _ (by omega)) _)
 |3,_=>aR _
def vf:Nat:=1117240000000
theorem alG:∀r,r≤40→(40-r)*4000000*(1+jx r 3)≤1117240000000:=by decide+kernel
theorem alH:∀r,r≤40→100*(1+jx r 3)≤1117240000000:=by decide+kernel
def Tw (len frm:Nat)(cs:Cs):Prop:=∀i,i<cs.its.length→(cs.ed i).tqo-(cs.ed i).frm<len∨((cs.ed i).tqo-(cs.ed i).frm=len∧(cs.ed i).frm<frm)
theorem Kf {nt nf n len frm:Nat}{cs:Cs}(h:gi nt nf n cs)(a:Tw len frm cs)(ht:frm+len≤n):cs.at_ n frm (frm+len)=[]:=by
 cases e:cs.at_ n frm (frm+len)with
 |nil=>rfl
 |cons x l=>
  have hx:x∈cs.sp.getD (slt n frm (frm+len)) []:=by show x∈cs.at_ n frm (frm+len);rw[e];simp
  obtain⟨h1,b⟩:=h.prt _ _ x ht hx
  have:=a x (h.GZ hx)
  omega
theorem B9 {nt nf:Nat}{Q:Qr}(a:qo nt nf Q){frm tqo:Nat}:CU Q frm tqo*(1+jx (hP Q) 3)≤vf:=by
 have h1:=OQ a
 have b:=a.rn
 unfold CU vf
 split
 ·exact alH _ (by omega)
 ·refine dW (iV _ ?_) (alG (hP Q) (by omega))
  exact iV _ (by omega)
theorem T8 (Q:Qr)(cs:Cs)(l:List Nat):vT Q cs l≤l.length*jx (hP Q) 3:=by
 unfold vT;rw[←jj]
 exact I4 λe _=>OZ _ _ (by omega)
structure nZ (nt nf n len frm:Nat)(cs:Cs):Prop where
 ok:gi nt nf n cs
 xV:cs.its.length≤300
 cW:∀it∈cs.its,it.cW.length≤vf
 fresh:Tw len frm cs
theorem nZ.room {nt nf n len frm:Nat}{cs:Cs}(h:nZ nt nf n len frm cs):Room cs vf:=⟨by have:=h.xV;unfold vf;omega,λit hit=>by have:=h.cW it hit;unfold vf at*;omega⟩
theorem DS {nt nf len:Nat}{Q:Qr}(a:qo nt nf Q){words:List bC}{frm:Nat}(f:1≤len)(ht:frm+len≤Q.n){cs:Cs}(h:nZ nt nf Q.n len frm cs):
 gi nt nf Q.n (mz Q words frm (frm+len) cs)∧Grow Q.n frm (frm+len) cs (mz Q words frm (frm+len) cs) (CU Q frm (frm+len))∧CU Q frm (frm+len)+vT Q (mz Q words frm (frm+len) cs) ((mz Q words frm (frm+len) cs).at_ Q.n frm (frm+len))≤vf:=by
 obtain⟨c,b⟩:=MM a (words:=words) (show frm<frm+len by omega) ht h.ok h.xV;refine⟨c.ok,b,?_⟩
 have g:=b.own
 have i:(cs.sp.getD (slt Q.n frm (frm+len)) []).length=0:=by
  have:=Kf h.ok h.fresh ht
  show(cs.at_ Q.n frm (frm+len)).length=0
  rw[this];rfl
 have h1:=T8 Q (mz Q words frm (frm+len) cs) ((mz Q words frm (frm+len) cs).at_ Q.n frm (frm+len))
 have d:((mz Q words frm (frm+len) cs).at_ Q.n frm (frm+len)).length≤CU Q frm (frm+len):=by
  show((mz Q words frm (frm+len) cs).sp.getD (slt Q.n frm (frm+len)) []).length≤_
  omega
 have e:=B9 a (frm:=frm) (tqo:=frm+len)
 rw[Nat.mul_add,gZ]at e
 have j:=iV (jx (hP Q) 3) d
 omega
theorem PJ {nt nf len:Nat}{Q:Qr}(a:qo nt nf Q){words:List bC}{frm:Nat}(c:1≤len)(ht:frm+len≤Q.n){cs:Cs}(h:nZ nt nf Q.n len frm cs):
 gi nt nf Q.n (pJ Q words frm (frm+len) cs)∧Grow Q.n frm (frm+len) cs (pJ Q words frm (frm+len) cs) vf:=by
 obtain⟨d,e,f⟩:=DS a (words:=words) c ht h;obtain⟨g,b⟩:=DX a (show frm<frm+len by omega) ht (qU Q (mz Q words frm (frm+len) cs) ((mz Q words frm (frm+len) cs).at_ Q.n frm (frm+len))+1) 0 (mz Q words frm (frm+len) cs) d;rw[List.drop_zero]at b;exact⟨g,(e.trans b).mono f⟩
theorem Fa {nt nf len:Nat}{Q:Qr}(b:qo nt nf Q){words:List bC}{frm:Nat}(d:1≤len)(ht:frm+len≤Q.n){cs:Cs}(h:nZ nt nf Q.n len frm cs)(hm:¬300<(pJ Q words frm (frm+len) cs).its.length):
 nZ nt nf Q.n len (frm+1) (pJ Q words frm (frm+len) cs):=by
 obtain⟨g1,g2⟩:=PJ b (words:=words) d ht h;refine⟨g1,by omega,λit hit=> ?_,λi a=> ?_⟩
 ·obtain⟨i,a,rfl⟩:=GA.1 hit
  have e:(pJ Q words frm (frm+len) cs).its[i]=(pJ Q words frm (frm+len) cs).its.getD i gh:=by rw[aw,bU a];rfl
  rw[e]
  by_cases c:i<cs.its.length
  ·have g:=h.fresh i c
   rw[g2.far i c (λj=>by omega),aw,bU c];exact h.cW _ (iG c)
  ·have h1:=g2.cW i a
   have e2:cs.its.getD i gh=gh:=by rw[aw,ij (by omega)];rfl
   rw[e2]at h1
   have:gh.cW.length=0:=rfl
   omega
 ·by_cases c:i<cs.its.length
  ·rw[g2.ed i c]
   have:=h.fresh i c;omega
  ·obtain⟨f,e2⟩:=g2.new i (by omega) a
   rw[f,e2];omega
theorem JY {nt nf n len frm:Nat}{cs:Cs}(h:nZ nt nf n len frm cs):nZ nt nf n (len+1) 0 cs:=⟨h.ok,h.xV,h.cW,λi a=>by have:=h.fresh i a;omega⟩
structure ri where
 rule:Int
 lex:Int
 kv:aV
 kids:List Nat
structure dL where
 frm:Nat
 tqo:Nat
 cw:Nat
 gr:dD
 wv:aV
 cW:List ri
 tv:aV
 bf:List Int
def mK:Rp ri:=⟨3,by decide,λw=>[iv w.rule,iv w.lex,w.kv.1],λw=>aa w.rule∧aa w.lex,λ_=>rfl,λw u h=>cF rfl (cF rfl (cF w.kv.2 λ_ h=>by cases h)) u h⟩
def eD:Rp dL:=⟨6,by decide,λx=>[iv (x.frm:Nat),iv (x.tqo:Nat),iv (x.cw:Nat),x.gr.nv.1,x.wv.1,x.tv.1],λ_=>True,λ_=>rfl,λx u h=>cF rfl (cF rfl (cF rfl (cF x.gr.nv.2 (cF x.wv.2 (cF x.tv.2 λ_ h=>by cases h))))) u h⟩
abbrev bW (l:List Nat):List Int:=l.map λi:Nat=>(i:Int)
theorem dY (l:List Nat):(bW l).length=l.length:=aO _
theorem kf (l:List Nat)(i:Nat):bW (l++ [i])=bW l++ [(i:Int)]:=by rw[bW,cP];rfl
theorem gQ {l:List Nat}{k i:Nat}(h:l[k]?=some i):(bW l)[k]?=some (i:Int):=by rw[bQ,h];rfl
def jH (a:TypeId)(w:ri):List ak:=[row w.kv.1 a 1 w.kids.length (rows aJ (bW w.kids))]
def ep (b a:TypeId)(x:dL):List ak:=row x.wv.1 b 3 x.cW.length (rows mK x.cW)::row x.tv.1 a 1 x.bf.length (rows aJ x.bf)::bF (jH a) x.cW
def fx (a:TypeId)(p:aV×List Nat):List ak:=[row p.1.1 a 1 p.2.length (rows aJ (bW p.2))]
def wyE (w:ri):uh:=⟨w.rule,w.lex,w.kids⟩
def cH (x:dL):lL:=⟨⟨x.frm,x.tqo,x.cw,ax x.gr⟩,x.cW.map wyE,x.bf⟩
def xA (m:List (bC×Value))(its:List lL):Prop:=∀k,qP m k=(xj its k).map λi:Nat=>iv (i:Int)
theorem Sd {its:List lL}{i:Nat}(w:uh)(k:bC):xj (its.modify i λit=>it.put w) k=xj its k:=by
 unfold xj
 induction its generalizing i with
 |nil=>simp
 |cons a its b=>
  cases i with
  |zero=>rw[List.modify_zero_cons,List.findIdx?_cons,List.findIdx?_cons];rfl
  |succ i=>rw[List.modify_succ_cons,List.findIdx?_cons,List.findIdx?_cons,b]
theorem Nv (its:List lL)(it:lL)(k:bC):xj (its++ [it]) k=match xj its k with
 |some i=>some i
 |none=>if fa it.ed=k then some its.length else none:=by
 unfold xj;rw[List.findIdx?_append]
 cases h:its.findIdx? λit=>decide (fa it.ed=k)with
 |some i=>rfl
 |none=>
  rw[Option.none_or,List.findIdx?_cons]
  by_cases e:fa it.ed=k
  ·rw[eB e,aC rfl,aC e];simp
  ·rw[fI e,aA (by decide),aA e];rfl
theorem xA.nil:xA [] []:=λ_=>rfl
theorem xA.put {m:List (bC×Value)}{its:List lL}(h:xA m its)(i:Nat)(w:uh):xA m (its.modify i λit=>it.put w):=λk=>by rw[Sd];exact h k
theorem xA.new {m:List (bC×Value)}{its:List lL}(h:xA m its){it:lL}(a:xj its (fa it.ed)=none):xA (l8 m (fa it.ed) (iv its.length)) (its++ [it]):=λk=>by
 rw[Nv,Ek]
 by_cases e:k=fa it.ed
 ·subst e;rw[aC rfl,a];dsimp only;rw[aC rfl];rfl
 ·rw[aA e,h k]
  cases xj its k with
  |some i=>rfl
  |none=>dsimp only;rw[aA (λx=>e x.symm)]
structure nE where
 eF:aV
 its:List dL
 nS:aV
 cA:List (aV×List Nat)
 m:List (bC×Value)
def nE.cs (d:nE):Cs:=⟨d.its.map cH,d.cA.map Prod.snd⟩
def nE.tail (b a:TypeId)(d:nE):List ak:=bF (ep b a) d.its++bF (fx a) d.cA
theorem Y4 (i:Int):IntKind.u8.wrap i=((jv i).toNat:Int):=by
 have h:∀k:Nat,k<256→(UInt8.ofNat k).toNat=k:=λk hk=>by
  show k%256=k
  omega
 unfold jv;rw[h _ (by omega)];unfold IntKind.wrap
 simp[IntKind.bits,IntKind.signed]
 omega
abbrev Gp (frm tqo cw:Nat)(u:Value):Value:= .agg #[iv (frm:Nat),iv (tqo:Nat),iv (cw:Nat),u]
theorem L0 (l:e8)(n:KE):yu (l++ [n])=yu l++(jv n.1::jv (n.2.length:Nat)::vI n.2):=by
 unfold yu;rw[Bx];simp
theorem L6 (l:kq)(n:Int×Int):vI (l++ [n])=vI l++ [jv n.1,jv n.2]:=by
 unfold vI;rw[Bx];simp
theorem Ns (frm tqo cw:Nat)(g:dD)(l:g.nodes.length≤100)(m:∀t∈g.nodes,t.aq.length≤1000):dz prog 141 #[Gp frm tqo cw g.nv.1] ([aG g].map aB) (λv H'=>v=sv (fa ⟨frm,tqo,cw,ax g⟩)∧H'=[]):=by
 refine dz.body (args:=[Gp frm tqo cw g.nv.1]) 56 func141 rfl ntmps141 rfl (λc=> ?_);refine St.cast (H':=[aB (aG g)]) rfl ?_;refine go ?_
 refine St.jQ (aG g) (λ_:Unit=>kb g) (λρ h=>⟨(),h⟩) λ_=> ?_
 refine St.cast (H':=[aB (sl bq g.nv.1 g.nodes),aB (aF cB g.nodes),aB (aG g)]) rfl ?_
 have QV:=cy g
 refine go ?_;refine St.dJ (.mk rfl) rfl (λf=> ?_);refine g7 ?_;refine St.ee (Ev.tL (.mk rfl) (by rw[gD];rfl) GI) ?_;refine St.slot 10 (.int .u8 ((jv (frm:Nat)).toNat:Int)) rfl (congrArg (Value.int .u8) (Y4 _)) ?_;refine g2 ?_;refine St.ee (Ev.tL (.mk rfl) (by rw[gD];rfl) GI) ?_;refine St.slot 13 (.int .u8 ((jv (tqo:Nat)).toNat:Int)) rfl (congrArg (Value.int .u8) (Y4 _)) ?_;refine g2 ?_;refine St.ee (Ev.tL (.mk rfl) (by rw[gD];rfl) GI) ?_;refine St.slot 16 (.int .u8 ((jv (cw:Nat)).toNat:Int)) rfl (congrArg (Value.int .u8) (Y4 _)) ?_;refine St.gV rfl (.ek rfl rfl rfl) Lg sz5 zv5 rfl rfl (by simp[Value.cells]) rfl rfl (λi=> ?_);refine St.aM (.slice (some ⟨i,0,none⟩) 3 3) (show _=([jv (frm:Nat),jv (tqo:Nat),jv (cw:Nat)]).length from rfl) (show _=rows YW [jv (frm:Nat),jv (tqo:Nat),jv (cw:Nat)]from rfl) ?_;refine g14 ?_;refine St.tm (ι:=Nat) (κ:=Value×bC) (λk z T=>(22,iv k)::(3,z.1)::T) (λk z=>[row z.1 5 1 (z.2).length (rows YW (z.2)),aW f (.cells [iv (frm:Nat),iv (tqo:Nat),iv (cw:Nat),g.nv.1].toArray 183 (0,0)),aB (sl bq g.nv.1 g.nodes),aB (aF cB g.nodes),aB (aG g)]) (λk z=>k≤g.nodes.length∧z.1.oneCell'=true∧z.2=[jv (frm:Nat),jv (tqo:Nat),jv (cw:Nat)]++yu ((ax g).take k)∧z.2.length≤3+k*2002) (λk z=>g.nodes.length-k) 0 ((.slice (some ⟨i,0,none⟩) 3 3),[jv (frm:Nat),jv (tqo:Nat),jv (cw:Nat)]) (aD.cons 2 rfl (aD.cons 20 rfl (aD.cons 21 rfl aD.nil))) ⟨aP _,rfl,rfl,aR 3⟩ ?_;rintro k ⟨v,L⟩ ⟨hk,n,a,o⟩
 dsimp only at n a o⊢
 refine g6 ?_;refine St.cq (λr=> ?_) (λr=> ?_)
 ·obtain⟨t,ht⟩:=aE (show k<g.nodes.length by omega)
  have j:=aZ ht
  have s:=m t j
  have l6:=ka ht
  refine St.cL cB g.nodes (x:=t) j ?_;refine St.ea (sl au t.lv.1 t.aq) [cB t] (λρ h=>h _ (aQ ..)) ?_;refine g7 ?_;refine St.ee (Ev.js (.mk rfl) ht wY trivial jT j7.eq) ?_;refine St.al (λu=> ?_);refine g8 ?_;refine St.ee (Ev.tL (.mk rfl) (by rw[gD];rfl) GI) ?_;refine St.slot 29 (.int .u8 ((jv (t.type)).toNat:Int)) rfl (congrArg (Value.int .u8) (Y4 _)) ?_;refine g3 ?_;refine St.ee (Ev.tL (.mk rfl) (by rw[gD];rfl) GI) ?_;refine St.slot 33 (.int .u8 ((jv ((t.aq.length:Nat))).toNat:Int)) rfl (congrArg (Value.int .u8) (Y4 _)) ?_;refine St.gV rfl (.aX rfl rfl) Lg sz5 zv5 rfl rfl (by simp[Value.cells]) rfl rfl (λE=> ?_);refine St.aj (.mk rfl) (.mk rfl) Lg sz5 zv5 by5 (by simp[Value.oneCell',Value.cells]) (by omega) (by omega) rfl rfl rfl rfl (λv35 y=> ?_);refine St.aM v35 (show _=(L++ [jv t.type,jv (t.aq.length:Nat)]).length by rw[bR];rfl) (show _=rows YW (L++ [jv t.type,jv (t.aq.length:Nat)]) by rw[uJ,uJ,cP];rfl) ?_;refine St.ba v35 (λd _=> ?_);refine g12 ?_;refine St.tm (ι:=Nat) (κ:=Value×bC) (λq z T=>(39,iv q)::(3,z.1)::T) (λq z=>[row z.1 5 1 (z.2).length (rows YW (z.2)),aW f (.cells [iv (frm:Nat),iv (tqo:Nat),iv (cw:Nat),g.nv.1].toArray 183 (0,0)),aW u (.cells [iv t.type,t.lv.1].toArray 163 (0,0)),aB (sl bq g.nv.1 g.nodes),aB (aF cB g.nodes),aB (aG g),aB (sl au t.lv.1 t.aq)]) (λq z=>q≤t.aq.length∧z.1.oneCell'=true∧z.2=L++(jv t.type::jv (t.aq.length:Nat)::vI ((t.aq.map fP).take q))∧z.2.length≤5+k*2002+2*q) (λq z=>t.aq.length-q) 0 (v35,L++ [jv t.type,jv (t.aq.length:Nat)]) (aD.cons 2 rfl (aD.cons 20 rfl (aD.cons 21 rfl (aD.cons 22 rfl (aD.cons 37 rfl (aD.cons 38 rfl aD.nil)))))) ⟨aP _,d,rfl,by dsimp only;rw[bR];simp only[List.length_cons,List.length_nil];omega⟩ ?_;rintro q ⟨w,M⟩ ⟨F,hw,b,e⟩
  dsimp only at hw b e⊢
  refine g6 ?_;refine St.cq (λA=> ?_) (λA=> ?_)
  ·obtain⟨p,hp⟩:=aE (show q<t.aq.length by omega)
   refine g7 ?_;refine St.ee (Ev.js (.mk rfl) hp lD trivial dm j7.eq) ?_;refine St.al (λG=> ?_);refine g7 ?_;refine St.ee (Ev.tL (.mk rfl) (by rw[gD];rfl) GI) ?_;refine St.slot 46 (.int .u8 ((jv (p.dF)).toNat:Int)) rfl (congrArg (Value.int .u8) (Y4 _)) ?_;refine g2 ?_;refine St.ee (Ev.tL (.mk rfl) (by rw[gD];rfl) GI) ?_;refine St.slot 49 (.int .u8 ((jv (p.tqo)).toNat:Int)) rfl (congrArg (Value.int .u8) (Y4 _)) ?_;refine St.gV rfl (.aX rfl rfl) Lg sz5 zv5 rfl rfl (by simp[Value.cells]) rfl rfl (λH=> ?_);refine St.aj (.mk rfl) (.mk rfl) Lg sz5 zv5 by5 (by simp[Value.oneCell',Value.cells]) (by omega) (by omega) rfl rfl rfl rfl (λv51 B=> ?_);refine St.aM v51 (show _=(M++ [jv p.dF,jv p.tqo]).length by rw[bR];rfl) (show _=rows YW (M++ [jv p.dF,jv p.tqo]) by rw[uJ,uJ,cP];rfl) ?_;refine St.ba v51 (λC _=> ?_);refine g9 ?_;refine St.ui (q+1) (v51,M++ [jv p.dF,jv p.tqo]) ⟨by omega,C,by dsimp only;rw[b,ag (show(t.aq.map fP)[q]?=some (fP p) by rw[bQ,hp];rfl),L6,dq];rfl,by dsimp only;rw[bR];simp only[List.length_cons,List.length_nil];omega⟩
  ·obtain rfl:q=t.aq.length:=by omega
   rw[fZ (by rw[aO];exact aR _)]at b;refine g11 ?_;refine St.ui (k+1) (w,M) ⟨by omega,hw,by dsimp only;rw[b,a,ag l6,L0,dq];show _=_++(_++(jv t.type::jv ((t.aq.map fP).length:Nat)::vI (t.aq.map fP)));rw[aO],by dsimp only;omega⟩
 ·obtain rfl:k=g.nodes.length:=by omega
  have D:(ax g).take g.nodes.length=ax g:=fZ (by omega)
  rw[D]at a;refine g8 ?_;refine St.ee (Ev.Xk (fa ⟨frm,tqo,cw,ax g⟩) (.mk rfl) (show _=(fa ⟨frm,tqo,cw,ax g⟩).length by rw[a];rfl) (by rw[a,uJ];rfl) (by unfold fa;simp) Lg GI vt) ?_;refine g4 ?_;refine St.rV [_] [] ?_;exact⟨rfl,rfl⟩
theorem CR (n i j k:Nat)(d:n≤12)(e:i≤n)(f:j≤n)(hk:k=slt n i j)(sv:aV)(cA:List (aV×List Nat))(q:aV×List Nat)(b:cA[k]?=some q):dz prog 122 #[.agg #[iv (n:Nat),sv.1],iv (i:Nat),iv (j:Nat)] [row sv.1 58 1 (cA).length (rows bN ((cA).map Prod.fst))] (λv H'=>v=q.1.1∧H'=[row sv.1 58 1 (cA).length (rows bN ((cA).map Prod.fst))]):=by
 refine dz.body (args:=[.agg #[iv (n:Nat),sv.1],iv (i:Nat),iv (j:Nat)]) 18 func122 rfl ntmps122 rfl (λc=> ?_);refine go ?_
 obtain⟨m,hm⟩:∃m,m=i*(n+1):=⟨_,rfl⟩
 have a:((i:Nat):Int)*(((n:Nat):Int)+1)=(m:Nat):=by rw[hm];push_cast;rfl
 have g:m≤156:=by rw[hm];exact dW (Nat.mul_le_mul (show i≤12 by omega) (show n+1≤13 by omega)) (by decide)
 have h:k=m+j:=by rw[hk,hm];rfl
 have l:=ai b
 refine go ?_;refine St.dJ (.mk rfl) rfl (λo=> ?_);refine g11 ?_;refine St.ee (Ev.mul (.mk rfl) (.mk rfl) (by rw[a];omega)) ?_;refine St.slot 13 (iv (m:Nat)) rfl (congrArg iv a) ?_;refine g2 ?_;refine St.ee (Ev.dZ (k:=k) (.mk rfl) (.mk rfl) fH fD (by omega) (by omega)) ?_;refine St.ee (Ev.ct (.mk rfl) bJ trivial (by omega) (r6 (show(cA.map Prod.fst)[k]?=some q.1 by rw[bQ,b];rfl))) ?_;refine g4 ?_;refine St.rV [_] [row sv.1 58 1 (cA).length (rows bN ((cA).map Prod.fst))] ?_;exact⟨rfl,rfl⟩
theorem Hz (n i j k:Nat)(l:n≤12)(o:i≤n)(p:j≤n)(hk:k=slt n i j)(sv:aV)(cA:List (aV×List Nat))(q:aV×List Nat)(d:cA[k]?=some q)(e:Nat)(he:e≤1400000000000)(r:q.2.length≤1400000000000):dz prog 142 #[.agg #[iv (n:Nat),sv.1],iv (i:Nat),iv (j:Nat),iv (e:Nat)] [row sv.1 58 1 (cA).length (rows bN ((cA).map Prod.fst)),row q.1.1 3 1 (q.2).length (rows aJ (bW (q.2)))] (λv H'=>∃u:aV,H'=[row sv.1 58 1 (cA.set k (u,q.2++ [e])).length (rows bN ((cA.set k (u,q.2++ [e])).map Prod.fst)),row u.1 3 1 (q.2++ [e]).length (rows aJ (bW (q.2++ [e])))]):=by
 refine dz.body (args:=[.agg #[iv (n:Nat),sv.1],iv (i:Nat),iv (j:Nat),iv (e:Nat)]) 28 func142 rfl ntmps142 rfl (λc=> ?_);refine go ?_
 obtain⟨m,hm⟩:∃m,m=i*(n+1):=⟨_,rfl⟩
 have b:((i:Nat):Int)*(((n:Nat):Int)+1)=(m:Nat):=by rw[hm];push_cast;rfl
 have s:m≤156:=by rw[hm];exact dW (Nat.mul_le_mul (show i≤12 by omega) (show n+1≤13 by omega)) (by decide)
 have t:k=m+j:=by rw[hk,hm];rfl
 have w:=ai d
 refine St.lA sv.1 (by omega) (λbs cs f=> ?_);refine go ?_;refine St.dJ (.mk rfl) rfl (λx=> ?_);refine g8 ?_;refine St.ee (Ev.mul (.mk rfl) (.mk rfl) (by rw[b];omega)) ?_;refine St.slot 13 (iv (m:Nat)) rfl (congrArg iv b) ?_;refine g5 ?_;refine St.dc [row sv.1 58 1 (cA).length (rows bN ((cA).map Prod.fst)),row q.1.1 3 1 (q.2).length (rows aJ (bW (q.2)))] mixed (λy z=> ?_);refine SW.gd 0 ?_;refine SW.gd 1 ?_;refine SW.gd 2 ?_;refine SW.gd 3 ?_;refine SW.gd 4 ?_;refine SW.gd 5 ?_;refine SW.dd 6 rfl (λ_=>Ev.n9 (k:=k) f (.mk rfl) (.mk rfl) fH fD (by omega) (by omega)) ?_;refine SW.gd 8 ?_;refine SW.t2 7 9 ?_ ?_
 focus
  refine St.ee (Ev.ct (.mk rfl) bJ trivial (by omega) (r6 (show(cA.map Prod.fst)[k]?=some q.1 by rw[bQ,d];rfl))) ?_;refine g2 ?_;refine SW.go ?_;refine SW.t1 9 ?_;refine St.gV rfl (.ar rfl) bJ dK eT rfl rfl (by simp[Value.cells]) rfl rfl (λg=> ?_);refine g2 ?_;refine SW.go ?_;refine SW.t1 10 ?_;refine St.aj (.mk rfl) (.mk rfl) bJ dK eT xT (by simp[Value.oneCell',Value.cells]) (by omega) (by omega) rfl rfl rfl rfl (λv26 h=> ?_);refine St.aM v26 (show _=(q.2++ [e]).length by rw[bR];rfl) (show _=rows aJ (bW (q.2++ [e])) by rw[kf,ay];rfl) ?_;refine St.ba v26 (λa _=> ?_);refine g2 ?_;refine SW.go ?_;refine SW.dd 11 rfl (λ_=>Ev.n9 (k:=k) f (.mk rfl) (.mk rfl) fH fD (by omega) (by omega)) ?_;refine SW.t1 12 ?_;refine St.cJ (.mk rfl) (.mk rfl) fD a (by omega) (by decide) ?_;refine St.aM sv.1 (show _=(cA.set k (⟨v26,a⟩,q.2++ [e])).length by rw[cn]) (show _=rows bN ((cA.set k (⟨v26,a⟩,q.2++ [e])).map Prod.fst) by rw[jm];exact zS _ _ ⟨v26,a⟩) ?_;refine g2 ?_;refine SW.go ?_;refine SW.dn ?_
 rotate_left
 focus
  refine St.gV rfl (.ar rfl) bJ dK eT rfl rfl (by simp[Value.cells]) rfl rfl (λg=> ?_);refine g2 ?_;refine SW.go ?_;refine SW.t1 7 ?_;refine St.ee (Ev.ct (.mk rfl) bJ trivial (by omega) (r6 (show(cA.map Prod.fst)[k]?=some q.1 by rw[bQ,d];rfl))) ?_;refine g2 ?_;refine SW.go ?_;refine SW.t1 10 ?_;refine St.aj (.mk rfl) (.mk rfl) bJ dK eT xT (by simp[Value.oneCell',Value.cells]) (by omega) (by omega) rfl rfl rfl rfl (λv26 h=> ?_);refine St.aM v26 (show _=(q.2++ [e]).length by rw[bR];rfl) (show _=rows aJ (bW (q.2++ [e])) by rw[kf,ay];rfl) ?_;refine St.ba v26 (λa _=> ?_);refine g2 ?_;refine SW.go ?_;refine SW.dd 11 rfl (λ_=>Ev.n9 (k:=k) f (.mk rfl) (.mk rfl) fH fD (by omega) (by omega)) ?_;refine SW.t1 12 ?_;refine St.cJ (.mk rfl) (.mk rfl) fD a (by omega) (by decide) ?_;refine St.aM sv.1 (show _=(cA.set k (⟨v26,a⟩,q.2++ [e])).length by rw[cn]) (show _=rows bN ((cA.set k (⟨v26,a⟩,q.2++ [e])).map Prod.fst) by rw[jm];exact zS _ _ ⟨v26,a⟩) ?_;refine g2 ?_;refine SW.go ?_;refine SW.dn ?_
 all_goals
  refine St.eH ?_;refine St.rV [] [row sv.1 58 1 (cA.set k (⟨v26,a⟩,q.2++ [e])).length (rows bN ((cA.set k (⟨v26,a⟩,q.2++ [e])).map Prod.fst)),row v26 3 1 (q.2++ [e]).length (rows aJ (bW (q.2++ [e])))] ?_;exact⟨⟨v26,a⟩,rfl⟩
end Go.Proofs.YtblifkgpebebmaaGreatDoor
namespace Go.J
open Go Go.RowKit
def fM (b:Nat)(L:List Value):du where
 f ρ:=∃e fr,ρ b=some (.cells L.toArray e fr)
 mono ρ jq h:=by
  rintro ⟨e,fr,h1⟩;exact⟨e,fr,h _ _ h1⟩
class mL (b:Nat)(H:List ak)(L:outParam (List Value)):Prop where
 mem:aB (fM b L)∈H
instance (priority:=high) mL.here (b:Nat)(L:List Value)(H:List ak):mL b (aB (fM b L)::H) L:=⟨aQ ..⟩
instance mL.there (b:Nat)(L:List Value)(E:ak)(H:List ak)[h:mL b H L]:mL b (E::H) L:=⟨cO _ h.mem⟩
instance (priority:=low) mL.app (b:Nat)(v:List Value)(L R:List ak)[h:mL b L v]:mL b (L++R) v:=⟨kW _ h.mem⟩
section
variable {P:Program}{n:Nat}{F:Fr}{A:World→Prop}{c:Ctx}{H R:List ak}{ty t e:TypeId}{x y:Operand}{v:Value}{T:Act→World→Prop}
theorem Ev.HK {b:Nat}{d:TypeDesc}{L:List Value}[f:mL b H L](hx:ah F x (.pointer (some ⟨b,0,none⟩)))(ht:P.underlying t=some d)(g:(match d with| .struct _| .array _ _=>True|_=>False))
 (h:(P.info? t).map (·.size)=some L.length):Ev P n F (Mm c H) (.load t x) ty (.agg L.toArray):= .of_run λa w i hw=>by
 obtain⟨ρ,hm⟩:=hw.out;obtain⟨e,fr,h1⟩:=dA.1 (hm.dM _ f.mem)
 have h1:=hm.fits _ _ h1
 have k:=eS (P:=P) (w:=w) (b:=b) (off:=0) (L:=L) ht g h (λj u l=>by rw[cV h1];simpa using l)
 simp[execOp,hx.eval i,Instr.loadAt,Instr.sureAddr,k]
theorem Ev.Sh {b off:Nat}{d:TypeDesc}{L L':List Value}[g:mL b H L](m:Nat)(hx:ah F x (.pointer (some ⟨b,off,none⟩)))(ht:P.underlying t=some d)(h:(match d with| .struct _| .array _ _=>True|_=>False))
 (i:(P.info? t).map (·.size)=some m) (k:(L.drop off).take m=L') (l:L'.length=m):Ev P n F (Mm c H) (.load t x) ty (.agg L'.toArray):= .of_run λa w o hw=>by
 obtain⟨ρ,hm⟩:=hw.out;obtain⟨e,fr,h1⟩:=dA.1 (hm.dM _ g.mem)
 have h1:=hm.fits _ _ h1
 have p:=eS (P:=P) (w:=w) (b:=b) (off:=off) (L:=L') ht h (by rw[l];exact i) (λj u f=>by
  rw[cV h1];rw[←k,sB]at f
  split at f
  ·rw[A6]at f;simpa using f
  ·cases f)
 simp[execOp,hx.eval o,Instr.loadAt,Instr.sureAddr,p]
theorem dV.ag0 {ds:List du}{b:Nat}{e:TypeId}{fr:Nat×Nat}{L:List Value}(h:dV c H ds)[f:Ay b H (.cells L.toArray e fr)]:dV c H (fM b L::ds):=λρ w d g a=>by
 rcases cK.1 a with rfl|a
 ·exact⟨e,fr,fq.1 (d.dM _ f.mem)⟩
 ·exact h ρ w d g a
theorem St.vW (b:Nat){L:List Value}[tk:l3 b H (.cells L.toArray e (0,0)) R](h:St n F (Mm c (aB (fM b L)::R)) T):St n F (Mm c H) T:=by
 refine h.o6 λw hw=> ?_
 obtain⟨ρ,hm⟩:=hw.out
 have hm:=hm.perm tk.perm
 have f:=fq.1 (hm.dM _ (aQ ..))
 have g:=hm.own _ (aQ ..) b (iZ _ _)
 have q:b<w.heap.size:=(wC.1 f).1
 have i:=jW.1 hm.EG
 refine Mm.mk (ρ:=λk=>if k=b then some (.cells L.toArray e (0,0))else ρ k) ?_
 have hle:Ro.le ρ (λk=>if k=b then some (.cells L.toArray e (0,0))else ρ k):=by
  intro k o hk
  by_cases a:k=b
  ·subst a;rw[g.1]at hk;cases hk
  ·simp only[a,if_false];exact hk
 refine ez.fact ⟨hm.os,hm.tape,hm.output,hm.size,hm.AD,?_,Ro.le_trans hm.le hle,?_,?_,?_,i.2⟩ _ ?_
 ·intro k o hk
  by_cases a:k=b
  ·subst a;simp only[if_true,Option.some.injEq]at hk;subst hk;exact f
  ·simp only[a,if_false]at hk;exact hm.fits k o hk
 ·intro k hk j
  by_cases a:k=b
  ·subst a
   rcases g.2 with l|l
   ·omega
   ·exact absurd l j
  ·simp only[a,if_false];exact hm.new k hk j
 ·intro E d
  exact E.loc hle (λ_ _=>rfl) (hm.dM E (cO _ d))
 ·intro E d m p
  have h1:=hm.own E (cO _ d) m p
  refine⟨?_,h1.2⟩
  by_cases a:m=b
  ·subst a;exact absurd p (i.1 E d _ (iZ _ _))
  ·simp only[a,if_false];exact h1.1
 ·exact⟨e,(0,0),by simp⟩
end
end Go.J
namespace Go.Proofs.YtblifkgpebebmaaGreatDoor
open Go Go.J Tryz
theorem Ur {x y:e8}{i:Nat}(h:i<x.length+y.length):(Pl.of x y).rt i=i:=by unfold Pl.rt Pl.of;exact TF h
theorem XL {x y:e8}{i:Nat}(h:i<x.length):(Pl.of x y).tt i=(x.getD i iK).1:=by
 unfold Pl.tt Pl.of
 simp only[List.getD_eq_getElem?_getD]
 rw[oa (by rw[aO];exact h),bQ,bU h];rfl
theorem XM {x y:e8}(h:0<y.length):(Pl.of x y).tt x.length=(y.getD 0 iK).1:=by
 unfold Pl.tt Pl.of
 simp only[List.getD_eq_getElem?_getD]
 rw[lg (by rw[aO];exact aR _),aO,fh,bQ,bU h];rfl
theorem SY {mt:Nat→Nat→Option Nat}{x y:e8}{node:Nat}(b:node<x.length)(hy:0<y.length)(hm:mt (x.getD node iK).1.toNat (y.getD 0 iK).1.toNat=none):dT mt x node y=none:=by
 unfold dT
 have a:(Pl.of x y).rt ((node:Int),(x.length:Int)).1.toNat=node:=Ur (by show node<_;omega)
 have e2:(Pl.of x y).rt ((node:Int),(x.length:Int)).2.toNat=x.length:=Ur (by show x.length<_;omega)
 rw[J5 (by rw[a,e2];omega) (by rw[a,e2,XL b,XM hy];exact hm)];rfl
theorem Kd (g:Nat)(a b:aV)(T:List eo)(C:ir T)(nf:Nat)(r:nf≤100)(x y:dD)(hx:e9 T.length nf (ax x))(hy:e9 T.length nf (ax y))(F:x.nodes.length≤60)(G:y.nodes.length≤60)(node:Nat)(H:node<x.nodes.length):dz prog 119 #[bA x,iv (node:Nat),bA y,.pointer (some ⟨g,0,none⟩)] ([fM g [a.1,b.1],sl bI a.1 (dg T),sl bI b.1 (de T),tz,aG x,aG y].map aB) (λv H'=>v= .bool (dT (hC T) (ax x) node (ax y)).isSome∧H'=[]):=by
 refine dz.body (args:=[bA x,iv (node:Nat),bA y,.pointer (some ⟨g,0,none⟩)]) 41 func119 rfl ntmps119 rfl (λc=> ?_);refine St.cast (H':=[aB (fM g [a.1,b.1]),aB (sl bI a.1 (dg T)),aB (sl bI b.1 (de T)),aB (tz),aB (aG x),aB (aG y)]) rfl ?_;refine go ?_
 have s:=gO hx r
 have w:=gO hy r
 have j:=hy.pos
 have M:=cy x
 have I:=cy y
 obtain⟨p,hp⟩:=aE H;obtain⟨q,J⟩:=aE (show 0<y.nodes.length by omega)
 have l:(ax x).getD node iK=mB p:=by rw[aw,ka hp];rfl
 have m:(ax y).getD 0 iK=mB q:=by rw[aw,ka J];rfl
 have e:=(hx.at_ (i:=node) (by omega)).1
 have f:=(hy.at_ (i:=0) j).1
 rw[l]at e;rw[m]at f
 obtain⟨n,D⟩:∃n:Nat,p.type=(n:Int):=⟨p.type.toNat,by have:=e.1;show p.type=_;have h:0≤p.type:=this;omega⟩
 obtain⟨d,o⟩:∃d:Nat,q.type=(d:Int):=⟨q.type.toNat,by have h:0≤q.type:=f.1;omega⟩
 have A:n<T.length:=by have h:p.type<T.length:=e.2;omega
 have B:d<T.length:=by have h:q.type<T.length:=f.2;omega
 refine St.jQ (aG x) (λ_:Unit=>kb x) (λρ h=>⟨(),h⟩) λ_=> ?_
 refine St.cast (H':=[aB (sl bq x.nv.1 x.nodes),aB (aF cB x.nodes),aB (fM g [a.1,b.1]),aB (sl bI a.1 (dg T)),aB (sl bI b.1 (de T)),aB (tz),aB (aG x),aB (aG y)]) rfl ?_
 refine St.jQ (aG y) (λ_:Unit=>kb y) (λρ h=>⟨(),h⟩) λ_=> ?_
 refine St.cast (H':=[aB (sl bq y.nv.1 y.nodes),aB (aF cB y.nodes),aB (sl bq x.nv.1 x.nodes),aB (aF cB x.nodes),aB (fM g [a.1,b.1]),aB (sl bI a.1 (dg T)),aB (sl bI b.1 (de T)),aB (tz),aB (aG x),aB (aG y)]) rfl ?_;refine go ?_;refine St.dJ (.mk rfl) rfl (λN=> ?_);refine St.dJ (.mk rfl) rfl (λO=> ?_);refine g5 ?_;refine St.dc [] mixed (λP Q=> ?_);refine SW.dd 0 rfl (λ_=>Ev.HK (.mk rfl) wX trivial (by exact wU)) ?_;refine SW.slot 14 (kB a b) rfl rfl ?_;refine SW.gd 1 ?_;refine SW.gd 2 ?_;refine SW.gd 3 ?_;refine SW.gd 4 ?_;refine SW.gd 5 ?_;refine SW.gd 6 ?_;refine SW.slot 20 (iv (n:Nat)) rfl (congrArg iv D) ?_;refine SW.gd 7 ?_;refine SW.gd 8 ?_;refine SW.dd 9 rfl (λ_=>Ev.cE (k:=0) (.mk rfl) (.mk rfl) oY jT (by omega) (by omega)) ?_;refine SW.gd 10 ?_;refine SW.gd 11 ?_;refine SW.slot 25 (iv (d:Nat)) rfl (congrArg iv o) ?_;refine SW.dd 12 rfl (λ_=>Ev.call ((yC a b T C n d A B).mono λ_ _ h=>h.1) Vv (.ek rfl rfl rfl)) ?_;refine SW.gd 13 ?_;refine SW.gd 14 ?_;refine SW.gd 15 ?_;refine SW.gd 16 ?_;refine SW.gd 17 ?_;refine SW.gd 18 ?_;refine SW.gd 19 ?_;refine SW.dn ?_;refine g7 ?_;refine St.cq (λE=> ?_) (λE=> ?_)
 ·have hm:hC T ((ax x).getD node iK).1.toNat ((ax y).getD 0 iK).1.toNat=none:=by rw[l,m];show hC T p.type.toNat q.type.toNat=none;rw[D,o];simpa using E
  have K:=SY (mt:=hC T) (by omega) j hm
  refine g7 ?_;refine St.rV [_] [] ?_;exact⟨by rw[K];rfl,rfl⟩
 ·refine g4 ?_
  refine St.ee (Ev.HK (.mk rfl) wX trivial (by exact wU)) ?_;refine St.slot 33 (kB a b) rfl rfl ?_;refine go ?_;refine St.slot 34 (bA x) rfl rfl ?_;refine g2 ?_;refine St.slot 36 (bA y) rfl rfl ?_;refine St.ae (ql a b T C nf r x y hx hy F G (λt ht=>by have:=(s t ht).2;omega) (λt ht=>by have:=(w t ht).2;omega) node (by omega)) R9 (.gY rfl rfl rfl rfl) rfl ?_;rintro v37 _ ⟨u,rfl,rfl⟩;refine St.ao ?_;refine St.bL ((dT (hC T) (ax x) node (ax y)).getD []) u (λz hz=> ?_);obtain⟨rfl,L⟩:=hz;refine g3 ?_;refine St.al (λR=> ?_);refine g11 ?_;refine St.rV [_] [] ?_;exact⟨rfl,rfl⟩
structure rF where
 a:aV
 b:aV
 c:aV
 la:List Bool
 lb:List Bool
 lc:List Bool
def rF.at_ (x:rF)(j:Nat):aV×List Bool:=if j=0 then(x.a,x.la)else if j=1 then(x.b,x.lb)else(x.c,x.lc)
def sN:Rp rF:=⟨3,by decide,λx=>[x.a.1,x.b.1,x.c.1],λ_=>True,λ_=>rfl,λx u h=>by
 simp only[List.mem_cons,List.not_mem_nil,or_false]at h
 rcases h with rfl|rfl|rfl
 ·exact x.a.2
 ·exact x.b.2
 ·exact x.c.2⟩
theorem rF.cell (x:rF){j:Nat}(h:j<3):(sN.cells x)[0+j]?=some (x.at_ j).1.1:=by
 rcases j with _|_|_|j
 ·rfl
 ·rfl
 ·rfl
 ·omega
def na (x:rF):du:=iP [sl eK x.a.1 x.la,sl eK x.b.1 x.lb,sl eK x.c.1 x.lc]
theorem IV (x:rF)(j:Nat)(ρ:Ro)(h:(na x).f ρ):(sl eK (x.at_ j).1.1 (x.at_ j).2).f ρ:=by
 have h1:=h (sl eK x.a.1 x.la) (by simp)
 have d:=h (sl eK x.b.1 x.lb) (by simp)
 have e:=h (sl eK x.c.1 x.lc) (by simp)
 unfold rF.at_
 split
 ·exact h1
 ·split
  ·exact d
  ·exact e
structure kz where
 nr:Nat
 nl:Nat
 kv:aV
 av:aV
 nS:aV
 fv:aV
 kids:List Int
 rJ:List rF
def Rh (f:kz):List Value:=[iv (f.nr:Nat),iv (f.nl:Nat),f.kv.1,f.av.1,f.nS.1,f.fv.1]
def Kc (f:kz):Value:= .agg (Rh f).toArray
def hY (f:kz):du:=iP [sl aJ f.kv.1 f.kids,sl sN f.av.1 f.rJ,aF na f.rJ]
def pq (nr nl:Nat)(top:Int):Int:=if 0≤top∧top<nr then top else if 1000≤top∧top<1000+(nl:Int)then nr+top-1000 else-1
def Va:rF:=⟨bT,bT,bT,[],[],[]⟩
def q9 (f:kz)(rule a:Nat)(top:Int):Bool:=decide (0≤pq f.nr f.nl top)&&decide (1≤a)&&decide ((a:Int)≤f.kids.getD rule 0)&&(((f.rJ.getD rule Va).at_ (a-1)).2.getD (pq f.nr f.nl top).toNat false)
structure yA (f:kz):Prop where
 nr:f.nr≤1000
 nl:f.nl≤1000
 kl:f.kids.length=f.nr
 al:f.rJ.length=f.nr
 k3:∀k∈f.kids,k≤3
 ln:∀(r:Nat) (x:rF) (k:Int) (j:Nat),f.rJ[r]?=some x→f.kids[r]?=some k→(j:Int)<k→(x.at_ j).2.length=f.nr+f.nl
theorem JL {nr nl:Nat}{top:Int}(h:0≤pq nr nl top):(pq nr nl top).toNat<nr+nl:=by
 unfold pq at h⊢
 split
 ·omega
 ·split
  ·omega
  ·rename_i h1 a;rw[aA h1,aA a]at h;omega
theorem HZ (f:kz)(b:yA f)(top:Int)(ht:aa top):eE prog 159 #[Kc f,iv top] [] (iv (pq f.nr f.nl top)):=by
 refine eE.qD (args:=[Kc f,iv top]) 28 func159 rfl ntmps159 rfl (λc=> ?_);refine go ?_
 have d:=b.nr
 have h:=b.nl
 unfold aa at ht;refine go ?_;refine St.dJ (.mk rfl) rfl (λi=> ?_);refine g9 ?_;refine St.gt _ rfl rfl (λa=>Ev.move (.mk rfl)) rfl ?_;refine St.gt _ rfl rfl (λa=>Ev.da (.mk rfl) Ct) rfl ?_;refine St.gt _ rfl rfl (λa=>Ev.ke (ah.gv rfl a) gD trivial (by rfl)) rfl ?_;refine St.gt _ rfl rfl (λa=>Ev.lss (ah.gv rfl a) (ah.gv rfl a)) rfl ?_;refine g3 ?_;refine St.cq (λe=> ?_) (λe=> ?_)
 ·refine g8 ?_
  refine St.rV [_] [] ?_;exact ie (show top=pq f.nr f.nl top by unfold pq;rw[aC (by omega)])
 ·refine g8 ?_
  refine St.gt _ rfl rfl (λa=>Ev.move (.mk rfl)) rfl ?_;refine St.gt _ rfl rfl (λa=>Ev.da (.mk rfl) Rq) rfl ?_;refine St.gt _ rfl rfl (λa=>Ev.ke (ah.gv rfl a) gD trivial (by rfl)) rfl ?_;refine St.gt _ rfl rfl (λa=>Ev.add (.mk rfl) (ah.gv rfl a) (by first|omega|(simp only[eM]at a;omega))) rfl ?_;refine St.gt _ rfl rfl (λa=>Ev.lss (ah.gv rfl a) (ah.gv rfl a)) rfl ?_;refine g3 ?_;refine St.cq (λg=> ?_) (λg=> ?_)
  ·refine g12 ?_
   refine St.rV [_] [] ?_;exact ie (show(f.nr:Int)+top-1000=pq f.nr f.nl top by unfold pq;rw[aA (by omega),aC (by omega)])
  ·refine g8 ?_
   refine St.rV [_] [] ?_;exact ie (show(-1:Int)=pq f.nr f.nl top by unfold pq;rw[aA (by omega),aA (by omega)])
theorem Dh (f:kz)(e:yA f)(rule a:Nat)(s:rule<f.nr)(hk:1≤a)(t:a≤1000)(top:Int)(ht:aa top):dz prog 146 #[Kc f,iv (rule:Nat),iv (a:Nat),iv top] ([hY f].map aB) (λv H'=>v= .bool (q9 f rule a top)∧H'=[]):=by
 refine dz.body (args:=[Kc f,iv (rule:Nat),iv (a:Nat),iv top]) 51 func146 rfl ntmps146 rfl (λc=> ?_);refine St.cast (H':=[aB (hY f)]) rfl ?_;refine go ?_
 refine St.jQ (hY f) (λ_:Unit=>[sl aJ f.kv.1 f.kids,sl sN f.av.1 f.rJ,aF na f.rJ]) (λρ h=>⟨(),h⟩) λ_=> ?_
 refine St.cast (H':=[aB (sl aJ f.kv.1 f.kids),aB (sl sN f.av.1 f.rJ),aB (aF na f.rJ),aB (hY f)]) rfl ?_
 have u:=e.kl
 have w:=e.al
 obtain⟨k,l⟩:=aE (show rule<f.kids.length by omega);obtain⟨x,hx⟩:=aE (show rule<f.rJ.length by omega)
 have y:=e.k3 k (aZ l)
 have g:f.kids.getD rule 0=k:=by rw[aw,l];rfl
 have q:f.rJ.getD rule Va=x:=by rw[aw,hx];rfl
 obtain⟨j,rfl⟩:∃j,a=j+1:=⟨a-1,by omega⟩
 have m:=e.ln rule x k j hx l
 have n:=JL (nr:=f.nr) (nl:=f.nl) (top:=top)
 refine St.cL na f.rJ (x:=x) (aZ hx) ?_;refine St.ea (sl eK (x.at_ j).1.1 (x.at_ j).2) [na x] (λρ h=>IV x j ρ (h _ (aQ ..))) ?_;refine St.JW f.av.1 (by omega) (λbs os cs r=> ?_);refine go ?_;refine St.dJ (.mk rfl) rfl (λz=> ?_);refine g7 ?_;refine St.ee (Ev.call (HZ f e top ht) Zd (.aX rfl rfl)) ?_;refine g8 ?_;refine St.split 15 _ rfl (λhp=> ?_) (λhp=> ?_)
 ·have o:0≤pq f.nr f.nl top:=fJ hp
  have A:=n o
  obtain⟨pl,i⟩:∃pl:Nat,pq f.nr f.nl top=(pl:Int):=⟨(pq f.nr f.nl top).toNat,by omega⟩
  rw[i];refine St.cD rfl rfl ?_;refine go ?_;refine St.cD rfl rfl ?_;refine go ?_;refine St.ee (Ev.gT (.mk rfl) rfl (.mk rfl)) ?_;refine go ?_;refine St.known 19 _ true rfl (eB (by omega)) ?_;refine St.cD rfl rfl ?_;refine go ?_;refine St.cD rfl rfl ?_;refine go ?_;refine St.cD rfl rfl ?_;refine go ?_;refine St.cD rfl rfl ?_;refine go ?_;refine St.ee (Ev.gT (.mk rfl) rfl (.mk rfl)) ?_;refine go ?_;refine St.known 25 _ true rfl (eB (by omega)) ?_;refine St.cD rfl rfl ?_;refine go ?_;refine St.cD rfl rfl ?_;refine go ?_;refine St.ee (Ev.gT (.mk rfl) rfl (.mk rfl)) ?_;refine go ?_;refine St.known 29 _ true rfl (eB (by omega)) ?_;refine St.cD rfl rfl ?_;refine go ?_;refine St.cD rfl rfl ?_;refine go ?_;refine St.cD rfl rfl ?_;refine go ?_;refine St.cD rfl rfl ?_;refine go ?_;refine St.cD rfl rfl ?_;refine go ?_;refine St.cD rfl rfl ?_;refine go ?_;refine St.cD rfl rfl ?_;refine go ?_;refine St.ee (Ev.gT (.mk rfl) rfl (.mk rfl)) ?_;refine go ?_;refine St.split 38 _ rfl (λb=> ?_) (λb=> ?_)
  ·have d:((j+1:Nat):Int)≤k:=fJ b
   have B:=m (by omega)
   obtain⟨bv,p⟩:=aE (show pl<(x.at_ j).2.length by omega);refine St.cD rfl rfl ?_;refine go ?_;refine St.cD rfl rfl ?_;refine go ?_;refine St.cD rfl rfl ?_;refine go ?_;refine St.cD rfl rfl ?_;refine go ?_;refine St.cD rfl rfl ?_;refine go ?_;refine St.cD rfl rfl ?_;refine go ?_;refine St.cD rfl rfl ?_;refine St.ee (Ev.xg (j:=j) r (.mk rfl) (.mk rfl) zx qW (by omega) (by omega)) ?_;refine St.cD rfl rfl ?_;refine St.ee (Ev.ld1 (.mk rfl) hx jl trivial (x.cell (by omega))) ?_;refine St.cD rfl rfl ?_;refine go ?_;refine St.cD rfl rfl ?_;refine go ?_;refine St.cD rfl rfl ?_;refine go ?_;refine St.ee (Ev.gT (.mk rfl) rfl (.mk rfl)) ?_;refine g4 ?_;refine St.rV [_] [] ?_;exact⟨by unfold q9;rw[i,eB (show(0:Int)≤(pl:Nat) by omega),eB (show 1≤j+1 by omega),g,eB d,q];show _=Value.bool (true&&true&&true&&((x.at_ j).2.getD pl false));rw[aw,p];rfl,rfl⟩
  ·have d:¬((j+1:Nat):Int)≤k:=iX b
   refine St.br rfl rfl rfl ?_;refine St.br rfl rfl rfl ?_;refine St.br rfl rfl rfl ?_;refine St.br rfl rfl rfl ?_;refine St.br rfl rfl rfl ?_;refine St.br rfl rfl rfl ?_;refine St.br rfl rfl rfl ?_;refine St.br rfl rfl rfl ?_;refine St.br rfl rfl rfl ?_;refine St.br rfl rfl rfl ?_;refine St.br rfl rfl rfl ?_;refine St.ee (Ev.kR (.mk rfl) rfl (.mk rfl)) ?_;refine g4 ?_;refine St.rV [_] [] ?_;exact⟨by unfold q9;rw[g,fI d,Bool.and_false,Bool.false_and];rfl,rfl⟩
 ·have o:¬0≤pq f.nr f.nl top:=iX hp
  refine St.br rfl rfl rfl ?_;refine St.br rfl rfl rfl ?_;refine St.ee (Ev.kR (.mk rfl) rfl (.mk rfl)) ?_;refine go ?_;refine St.br rfl rfl rfl ?_;refine St.br rfl rfl rfl ?_;refine St.br rfl rfl rfl ?_;refine St.br rfl rfl rfl ?_;refine St.ee (Ev.kR (.mk rfl) rfl (.mk rfl)) ?_;refine go ?_;refine St.br rfl rfl rfl ?_;refine St.br rfl rfl rfl ?_;refine St.ee (Ev.kR (.mk rfl) rfl (.mk rfl)) ?_;refine go ?_;refine St.br rfl rfl rfl ?_;refine St.br rfl rfl rfl ?_;refine St.br rfl rfl rfl ?_;refine St.br rfl rfl rfl ?_;refine St.br rfl rfl rfl ?_;refine St.br rfl rfl rfl ?_;refine St.br rfl rfl rfl ?_;refine St.ee (Ev.kR (.mk rfl) rfl (.mk rfl)) ?_;refine go ?_;refine St.br rfl rfl rfl ?_;refine St.br rfl rfl rfl ?_;refine St.br rfl rfl rfl ?_;refine St.br rfl rfl rfl ?_;refine St.br rfl rfl rfl ?_;refine St.br rfl rfl rfl ?_;refine St.br rfl rfl rfl ?_;refine St.br rfl rfl rfl ?_;refine St.br rfl rfl rfl ?_;refine St.br rfl rfl rfl ?_;refine St.br rfl rfl rfl ?_;refine St.ee (Ev.kR (.mk rfl) rfl (.mk rfl)) ?_;refine g4 ?_;refine St.rV [_] [] ?_;exact⟨by unfold q9;rw[fI o];rfl,rfl⟩
theorem Dm (v0:Value)(xs:List Int)(y:Int):eE prog 157 #[v0,iv y] [sl aJ v0 xs] (iv (ix (λx=>decide (y=x)) xs)):=by
 refine eE.nH (args:=[v0,iv y]) 19 func157 rfl ntmps157 rfl (λc=> ?_);refine go ?_;refine St.wf v0 (λf hlen=> ?_);refine g13 ?_;refine St.lS (ι:=Nat) (λk T=>(8,iv k)::T) (λk=>k≤xs.length∧(xs.take k).all (λx=> !decide (y=x))=true) (λk=>xs.length-k) 0 (aD.cons 0 rfl (aD.cons 1 rfl (aD.cons 7 rfl aD.nil))) ⟨aP _,rfl⟩ ?_;intro k d;obtain⟨hk,a⟩:=d;refine g6 ?_;refine St.cq (λe=> ?_) (λe=> ?_)
 ·obtain⟨x,hx⟩:=aE (show k<xs.length by omega)
  refine g20 ?_;refine St.cq (λb=> ?_) (λb=> ?_)
  ·refine g12 ?_
   refine St.rV [_] [] ?_;exact ie (tj a hx (by simpa using b)).symm
  ·refine g8 ?_
   refine St.aS (k+1) ⟨by omega,kr a hx (by simpa using b)⟩
 ·refine g11 ?_
  refine St.rV [_] [] ?_;exact ie (xi a (by omega)).symm
theorem y8 (v0:Value)(xs:List Int)(y:Int):eE prog 143 #[v0,iv y] [sl aJ v0 xs] (.bool (xs.any (λx=>decide (y=x)))):=by
 refine eE.nH (args:=[v0,iv y]) 9 func143 rfl ntmps143 rfl (λc=> ?_);refine g9 ?_;refine St.ee (Ev.call (Dm v0 xs y) Zb (.aX rfl rfl)) ?_;refine g5 ?_;refine St.rV [_] [] ?_;exact be (qw _ _)
theorem CF (v0:Value)(xs:List Int)(a:FuncId)(f:aI prog a)(caps:List Value)(ds:List du)(b:Int→Bool)(g:∀p∈xs,eE prog a ([iv p]++caps).toArray ds (.bool (b p))):
 eE prog 158 #[v0,.func (.func a) #[] caps.toArray] (sl aJ v0 xs::ds) (iv (ix b xs)):=by
 refine eE.CZ (args:=[v0,.func (.func a) #[] caps.toArray]) 19 func158 rfl ntmps158 rfl (λc=> ?_);refine go ?_;refine St.wf v0 (λj hlen=> ?_);refine g13 ?_;refine St.lS (ι:=Nat) (λk T=>(8,iv k)::T) (λk=>k≤xs.length∧(xs.take k).all (λy=> !b y)=true) (λk=>xs.length-k) 0 (aD.cons 0 rfl (aD.cons 1 rfl (aD.cons 7 rfl aD.nil))) ⟨aP _,rfl⟩ ?_;intro k h;obtain⟨hk,d⟩:=h;refine g6 ?_;refine St.cq (λi=> ?_) (λi=> ?_)
 ·obtain⟨p,hp⟩:=aE (show k<xs.length by omega)
  refine g17 ?_;refine St.ee (Ev.ei (g p (aZ hp)) f (.mk rfl) (.ar rfl)) ?_;refine g2 ?_;refine St.cond _ rfl (λe=> ?_) (λe=> ?_)
  ·skip
   refine g12 ?_;refine St.DH [_] _ results158 ⟨rfl,trivial⟩ ?_ (λ_ hw=>hw);exact ie (tj d hp e).symm
  ·skip
   refine g8 ?_;refine St.GX (k+1) ⟨by omega,kr d hp (by simpa using e)⟩ (by first|omega|(dsimp only;omega)) (by repeat(first|exact Sub.nil|refine Sub.cons (by first|rfl|exact congrArg (λz=>some (iv z)) (by first|omega|(dsimp only;omega))|exact congrArg (λz=>some (Value.bool z)) (by first|assumption|exact ig (by assumption))) ?_)) (λ_ hw=>hw)
 ·refine g11 ?_
  refine St.DH [_] _ results158 ⟨rfl,trivial⟩ ?_ (λ_ hw=>hw);exact ie (xi d (by omega)).symm
theorem wq (v0:Value)(xs:List Int)(a:FuncId)(d:aI prog a)(caps:List Value)(ds:List du)(b:Int→Bool)(e:∀p∈xs,eE prog a ([iv p]++caps).toArray ds (.bool (b p))):
 eE prog 144 #[v0,.func (.func a) #[] caps.toArray] (sl aJ v0 xs::ds) (.bool (xs.any b)):=by
 refine eE.CZ (args:=[v0,.func (.func a) #[] caps.toArray]) 9 func144 rfl ntmps144 rfl (λc=> ?_);refine g9 ?_;refine St.ee (Ev.call (CF v0 xs a d caps ds b e) Zc (.aX rfl rfl)) ?_;refine g5 ?_;refine St.DH [_] _ results144 ⟨rfl,trivial⟩ ?_ (λ_ hw=>hw);exact be (qw _ _)
theorem CL (f:kz)(k:yA f)(i:List Value)(j:(i.drop 7).take 6=Rh f)(b rule a:Nat)(l:rule<f.nr)(hk:1≤a)(m:a≤1000)(d e g:Nat)(top:Int)(ht:aa top):dz prog 145 #[iv top,.pointer (some ⟨d,0,none⟩),.pointer (some ⟨e,0,none⟩),.pointer (some ⟨g,0,none⟩)] ([pe d (.pointer (some ⟨b,0,none⟩)),pe e (iv (rule:Nat)),pe g (iv (a:Nat)),fM b i,hY f].map aB) (λv H'=>v= .bool (q9 f rule a top)∧H'=[]):=by
 refine dz.body (args:=[iv top,.pointer (some ⟨d,0,none⟩),.pointer (some ⟨e,0,none⟩),.pointer (some ⟨g,0,none⟩)]) 14 func145 rfl ntmps145 rfl (λc=> ?_);refine St.cast (H':=[aB (pe d (.pointer (some ⟨b,0,none⟩))),aB (pe e (iv (rule:Nat))),aB (pe g (iv (a:Nat))),aB (fM b i),aB (hY f)]) rfl ?_;refine g6 ?_;refine St.dc [] mixed (λn o=> ?_);refine SW.gd 0 ?_;refine SW.gd 1 ?_;refine SW.gd 2 ?_;refine SW.dd 3 rfl (λ_=>Ev.Sh 6 (.mk rfl) underlying174 trivial Jh j rfl) ?_;refine SW.slot 9 (Kc f) rfl rfl ?_;refine SW.gd 4 ?_;refine SW.gd 5 ?_;refine SW.gd 6 ?_;refine SW.dd 7 rfl (λ_=>Ev.call ((Dh f k rule a l hk m top ht).mono λ_ _ h=>h.1) ZY (.gY rfl rfl rfl rfl)) ?_;refine SW.gd 8 ?_;refine SW.dn ?_;refine g2 ?_;refine St.rV [_] [] ?_;exact⟨rfl,rfl⟩
theorem tF (f:kz)(o:yA f)(d:List Value)(i:(d.drop 7).take 6=Rh f)(a rule b:Nat)(p:rule<f.nr)(hk:1≤b)(q:b≤1000)(g:aV)(j:d[13]?=some g.1)(its:List dL)(e:Nat)(x:dL)(hx:its[e]?=some x)(n:∀t∈x.bf,aa t):dz prog 123 #[.pointer (some ⟨a,0,none⟩),iv (rule:Nat),iv (b:Nat),iv (e:Nat)] [aB (hY f),aW a (.cells d.toArray 180 (0,0)),row g.1 186 6 its.length (rows eD its),row x.tv.1 3 1 x.bf.length (rows aJ x.bf)] (λv H'=>v= .bool (x.bf.any (q9 f rule b))∧H'=[aW a (.cells d.toArray 180 (0,0)),row g.1 186 6 its.length (rows eD its),row x.tv.1 3 1 x.bf.length (rows aJ x.bf)]):=by
 refine dz.body (args:=[.pointer (some ⟨a,0,none⟩),iv (rule:Nat),iv (b:Nat),iv (e:Nat)]) 19 func123 rfl ntmps123 rfl (λc=> ?_);refine go ?_
 have r:=ai hx
 refine go ?_;refine St.MY (.mk rfl) rfl rfl (λk=> ?_);refine St.MY (.mk rfl) rfl rfl (λl=> ?_);refine St.MY (.mk rfl) rfl rfl (λm=> ?_);refine g8 ?_;refine St.ee (Ev.ke (.mk rfl) nV trivial j) ?_;refine g3 ?_;refine St.ee (Ev.ct (.mk rfl) bJ trivial (by omega) (eO eD _ e 5 _ hx (by decide))) ?_;refine St.ee (Ev.func (.ek rfl rfl rfl)) ?_;refine St.ee (Ev.wI (wq x.tv.1 x.bf 145 ZX [.pointer (some ⟨k,0,none⟩),.pointer (some ⟨l,0,none⟩),.pointer (some ⟨m,0,none⟩)] [pe k (.pointer (some ⟨a,0,none⟩)),pe l (iv (rule:Nat)),pe m (iv (b:Nat)),fM a d,hY f] (q9 f rule b) (λt ht=>(CL f o d i a rule b p hk q k l m t (n t ht)).mono λ_ _ h=>h.1)) ZW (.aX rfl rfl) (dV.row (dV.aW (dV.aW (dV.aW (dV.ag0 (dV.aB dV.nil))))) rfl rfl rfl n)) ?_;refine g4 ?_;refine St.rV [_] [aW a (.cells d.toArray 180 (0,0)),row g.1 186 6 its.length (rows eD its),row x.tv.1 3 1 x.bf.length (rows aJ x.bf)] ?_;exact⟨rfl,rfl⟩
theorem Ev.kg {P:Program}{n:Nat}{F:Fr}{A:World→Prop}{ty:TypeId}{x:Operand}{b o' cap m size k off:Nat}{v:Value}(a:v= .slice (some ⟨b,o',none⟩) m cap)(hx:ah F x (cZ v size k off)):Ev P n F A (.nilCheck x) ty (cZ v size k off):= .of_run λac w c _=>by
 subst a;rw[eG]at hx
 simp[execOp,hx.eval c,eG]
def nA (g:gW)(a b:aV)(f:kz)(n:Nat)(c vs:Value)(d:Nat):List Value:=jG g++ [a.1,b.1]++Rh f++ [c,iv (n:Nat),vs,.map (some d)]
instance (g:gW)(a b:aV)(f:kz)(n:Nat)(d vs u:Value)(c:Nat):Dt (nA g a b f n d vs c) 13 u (nA g a b f n u vs c):=⟨rfl⟩
theorem El {α:Type}(l:List α)(a:α)(f:α→α):(l++ [a]).modify l.length f=l++ [f a]:=by
 induction l with
 |nil=>rfl
 |cons b l c=>rw[we,fU,List.modify_succ_cons,c];rfl
theorem Gq {α:Type}(l:List α)(a:α):(l++ [a]).eraseIdx l.length=l:=by
 induction l with
 |nil=>rfl
 |cons b l c=>rw[we,fU,List.eraseIdx_cons_succ,c]
theorem sY {α β:Type}(g:α→β)(f:β→β):∀{l:List α} {i:Nat} {a b:α},l[i]?=some a→g b=f (g a)→(l.set i b).map g=(l.map g).modify i f
 | [],_,_,_,h,_=>by cases h
 |c::l,0,a,b,h,d=>by
  obtain rfl:=Option.some.inj h;rw[sG,fK,fK,List.modify_zero_cons,d]
 |c::l,i+1,a,b,h,d=>by
  rw[wm,fK,fK,List.modify_succ_cons,sY g f (l:=l) h d]
structure lM (d:nE):Prop where
 bf:∀x∈d.its,∀t∈x.bf,aa t
 keys:xA d.m (d.its.map cH)
 nd:((d.its.map cH).map λx=>fa x.ed).Nodup
theorem Ws {its:List lL}{k:bC}{i:Nat}(h:xj its k=some i):i<its.length:=by
 obtain⟨it,h1,_⟩:=yw h;exact ai h1
structure Ty (n frm tqo:Nat)(d:nE)(e:og)(i:Nat)(x:dL)(its:List dL)(cA:List (aV×List Nat))(m:List (bC×Value)):Prop where
 at_:its[i]?=some x
 keys:xA m (its.map cH)
 bf:∀x∈its,∀t∈x.bf,aa t
 GH:cA.length=d.cA.length
 XP:∀k,k≠slt n frm tqo→cA[k]?=d.cA[k]?
 fin:∀w:uh,kZ n d.cs e w=⟨(its.map cH).modify i λit=>it.put w,cA.map Prod.snd⟩
 nd:((its.map cH).map λx=>fa x.ed).Nodup
theorem Ty.AD {n frm tqo:Nat}{d:nE}(h:lM d){e:og}{i:Nat}(hk:xj (d.its.map cH) (fa e)=some i){x:dL}(hx:d.its[i]?=some x):Ty n frm tqo d e i x d.its d.cA d.m:=
 ⟨hx,h.keys,h.bf,rfl,λ_ _=>rfl,λw=>by unfold kZ;rw[show d.cs.its=d.its.map cH from rfl,hk];rfl,h.nd⟩
theorem Ty.new {n frm tqo cw:Nat}{d:nE}(h:lM d){g:dD}(hk:xj (d.its.map cH) (fa ⟨frm,tqo,cw,ax g⟩)=none){q:aV×List Nat}(c:d.cA[slt n frm tqo]?=some q)(u:aV):
 Ty n frm tqo d ⟨frm,tqo,cw,ax g⟩ d.its.length ⟨frm,tqo,cw,g,bT,[],bT,[]⟩ (d.its++ [⟨frm,tqo,cw,g,bT,[],bT,[]⟩]) (d.cA.set (slt n frm tqo) (u,q.2++ [d.its.length])) (l8 d.m (fa ⟨frm,tqo,cw,ax g⟩) (iv d.its.length)):=by
 refine⟨by simp,?_,λx hx t ht=> ?_,by rw[List.length_set],λk hk=>by rw[ik (λh=>hk h.symm)],λw=> ?_,?_⟩
 ·have:=h.keys.new (it:=⟨⟨frm,tqo,cw,ax g⟩,[],[]⟩) hk
  rw[aO]at this;rw[cP];exact this
 ·rcases cG.1 hx with hx|hx
  ·exact h.bf x hx t ht
  ·rw[bP.1 hx]at ht;cases ht
 ·unfold kZ
  rw[show d.cs.its=d.its.map cH from rfl,hk]
  dsimp only
  congr 1
  ·rw[cP,show d.its.length=(d.its.map cH).length from(aO _).symm]
   exact(El (d.its.map cH) ⟨⟨frm,tqo,cw,ax g⟩,[],[]⟩ (λit=>it.put w)).symm
  ·rw[aO]
   exact(sY Prod.snd (λl=>l++ [d.its.length]) c rfl).symm
 ·rw[cP,cP,List.nodup_append]
  refine⟨h.nd,by simp,λa e b f=> ?_⟩;obtain⟨it,hit,rfl⟩:=dC.1 e
  have i:b=fa ⟨frm,tqo,cw,ax g⟩:=bP.1 f
  subst i;exact Nu hk it hit
theorem FO {its:List dL}{i:Nat}{x:dL}(h:its[i]?=some x)(u:aV)(l:List ri):(rows eD its).set (i*6+4) u.1=rows eD (its.set i ⟨x.frm,x.tqo,x.cw,x.gr,u,l,x.tv,x.bf⟩):=by
 induction its generalizing i with
 |nil=>cases h
 |cons a its b=>
  cases i with
  |zero=>obtain rfl:=Option.some.inj h;rfl
  |succ i=>
   have:=b (i:=i) h
   show(eD.cells a++rows eD its).set ((i+1)*6+4) u.1=eD.cells a++rows eD (its.set i _)
   rw[←this,lJ _ _ (by show 6≤_;omega)]
   congr 2
   show(i+1)*6+4-6=_
   omega
theorem Ov {its:List dL}{i:Nat}{x:dL}(h:its[i]?=some x)(u:aV)(l:List Int):(rows eD its).set (i*6+5) u.1=rows eD (its.set i ⟨x.frm,x.tqo,x.cw,x.gr,x.wv,x.cW,u,l⟩):=by
 induction its generalizing i with
 |nil=>cases h
 |cons a its b=>
  cases i with
  |zero=>obtain rfl:=Option.some.inj h;rfl
  |succ i=>
   have:=b (i:=i) h
   show(eD.cells a++rows eD its).set ((i+1)*6+5) u.1=eD.cells a++rows eD (its.set i _)
   rw[←this,lJ _ _ (by show 6≤_;omega)]
   congr 2
   show(i+1)*6+5-6=_
   omega
theorem pI (f:dL→List ak)(g:aV×List Nat→List ak)(its:List dL){cA:List (aV×List Nat)}{k:Nat}{q:aV×List Nat}(h:cA[k]?=some q):(bF f its++bF g cA).Perm (g q++(bF f its++bF g (cA.eraseIdx k))):=by
 refine((nK g h).append_left (bF f its)).trans ?_;rw[←dq,←dq];exact jX.append_right _
theorem ae0 (f:dL→List ak)(g:aV×List Nat→List ak)(its:List dL){cA:List (aV×List Nat)}{k:Nat}(q:aV×List Nat)(h:k<cA.length):(g q++(bF f its++bF g (cA.eraseIdx k))).Perm (bF f its++bF g (cA.set k q)):=by
 refine List.Perm.trans ?_ ((sR g q h).append_left (bF f its));rw[←dq,←dq];exact jX.append_right _
theorem yt (f:dL→List ak)(X:List ak){its:List dL}{i:Nat}{x:dL}(h:its[i]?=some x):(bF f its++X).Perm (f x++(bF f (its.eraseIdx i)++X)):=by
 rw[←dq];exact(nK f h).append_right X
theorem adZ (f:dL→List ak)(X:List ak){its:List dL}{i:Nat}(x:dL)(h:i<its.length):(f x++(bF f (its.eraseIdx i)++X)).Perm (bF f (its.set i x)++X):=by
 rw[←dq];exact(sR f x h).append_right X
theorem Q5 (b a:TypeId)(X:List ak){its:List dL}{i:Nat}(x:dL){cW:List ri}{w:ri}(hw:x.cW=cW++ [w])(h:i<its.length):
 ([row x.wv.1 b 3 x.cW.length (rows mK x.cW),row x.tv.1 a 1 x.bf.length (rows aJ x.bf),row w.kv.1 a 1 w.kids.length (rows aJ (bW w.kids))]++(bF (jH a) cW++(bF (ep b a) (its.eraseIdx i)++X))).Perm (bF (ep b a) (its.set i x)++X):=by
 refine List.Perm.trans ?_ (adZ (ep b a) X x h)
 show(row x.wv.1 b 3 x.cW.length (rows mK x.cW)::row x.tv.1 a 1 x.bf.length (rows aJ x.bf)::(jH a w++(bF (jH a) cW++(bF (ep b a) (its.eraseIdx i)++X)))).Perm (row x.wv.1 b 3 x.cW.length (rows mK x.cW)::row x.tv.1 a 1 x.bf.length (rows aJ x.bf)::(bF (jH a) x.cW++(bF (ep b a) (its.eraseIdx i)++X)))
 refine .cons _ (.cons _ ?_);rw[hw,Rv,show bF (jH a) [w]=jH a w from gu _,←dq];exact jX.append_right _
theorem JA {n frm tqo:Nat}{d:nE}{e:og}{i:Nat}{x x3:dL}{its:List dL}{cA:List (aV×List Nat)}{m:List (bC×Value)}(h:Ty n frm tqo d e i x its cA m){w:uh}(f:cH x3=(cH x).put w)(ht:∀t∈x3.bf,aa t)(b:aV):
 (⟨b,its.set i x3,d.nS,cA,m⟩:nE).cs=kZ n d.cs e w∧lM ⟨b,its.set i x3,d.nS,cA,m⟩:=by
 have a:(its.set i x3).map cH=(its.map cH).modify i λit=>it.put w:=sY cH _ h.at_ f
 refine⟨?_,?_,?_,?_⟩
 ·rw[h.fin w];show(⟨(its.set i x3).map cH,_⟩:Cs)=_;rw[a]
 ·intro y hy
  rcases lI hy with hy|rfl
  ·exact h.bf y hy
  ·exact ht
 ·show xA m ((its.set i x3).map cH)
  rw[a];exact h.keys.put i w
 ·show((((its.set i x3).map cH)).map λx=>fa x.ed).Nodup
  have e2:(((its.set i x3).map cH).map λx=>fa x.ed)=(its.map cH).map λx=>fa x.ed:=by
   rw[a]
   refine pZ λk=> ?_
   rw[bQ,bQ,List.getElem?_modify]
   cases (its.map cH)[k]? with
   |none=>rfl
   |some y=>by_cases c:i=k<;>simp[c,lL.put]
  rw[e2];exact h.nd
theorem uj (g:gW)(G H:aV)(f:kz)(n:Nat)(hn:n≤12)(d:nE)(hp:lM d)(C s frm tqo cw:Nat)(gr:dD)(U:gr.nodes.length≤100)(hgl:∀t∈gr.nodes,t.aq.length≤1000)(V:frm≤n)(YL:tqo≤n)
 (rule lex:Int) (L:aa rule) (hle: -1000000≤lex∧lex≤1000000) (kv:aV) (kids:List Nat) (q:aV×List Nat) (Q:d.cA[slt n frm tqo]?=some q) (hql:q.2.length≤1400000000000) (SC:d.its.length+1≤1400000000000) (Lu:∀x∈d.its,x.cW.length+1≤3000000000000∧x.bf.length≤x.cW.length):
 dz prog 120 #[.pointer (some ⟨C,0,none⟩),Gp frm tqo cw gr.nv.1,.agg #[iv rule,iv lex,kv.1]] (aB (aG gr)::aB (aF (λx:dL=>aG x.gr) (d.its))::aW C (.cells (nA g G H f n d.eF.1 d.nS.1 s).toArray 180 (0,0))::aW s (eW mkStr (d.m))::row d.eF.1 186 6 (d.its).length (rows eD (d.its))::row d.nS.1 58 1 (d.cA).length (rows bN ((d.cA).map Prod.fst))::row kv.1 3 1 kids.length (rows aJ (bW kids))::(bF (ep 200 3) (d.its)++bF (fx 3) (d.cA)))
  (λv H'=>∃d2:nE,d2.cs=kZ n d.cs (⟨frm,tqo,cw,ax gr⟩:og) (⟨rule,lex,kids⟩:uh)∧d2.nS=d.nS∧lM d2∧d2.cA.length=d.cA.length∧(∀k,k≠slt n frm tqo→d2.cA[k]?=d.cA[k]?)∧H'=aB (aF (λx:dL=>aG x.gr) (d2.its))::aW C (.cells (nA g G H f n d2.eF.1 d.nS.1 s).toArray 180 (0,0))::aW s (eW mkStr (d2.m))::row d2.eF.1 186 6 (d2.its).length (rows eD (d2.its))::row d2.nS.1 58 1 (d2.cA).length (rows bN ((d2.cA).map Prod.fst))::(bF (ep 200 3) (d2.its)++bF (fx 3) (d2.cA))):=by
 refine dz.body (args:=[.pointer (some ⟨C,0,none⟩),Gp frm tqo cw gr.nv.1,.agg #[iv rule,iv lex,kv.1]]) 96 func120 rfl ntmps120 rfl (λc=> ?_);refine go ?_
 have W:=ai Q
 have anL:=L.1
 have anM:=L.2
 refine go ?_;refine St.dJ (.mk rfl) rfl (λb4=> ?_);refine St.dJ (.mk rfl) rfl (λb5=> ?_);refine g9 ?_;refine St.join (ι:=Int) (λtop T=>(6,iv top)::T) (λtop=>aW b4 (.cells [iv (frm:Nat),iv (tqo:Nat),iv (cw:Nat),gr.nv.1].toArray 183 (0,0))::aW b5 (.cells [iv rule,iv lex,kv.1].toArray 200 (0,0))::aB (aG gr)::aB (aF (λx:dL=>aG x.gr) (d.its))::aW C (.cells (nA g G H f n d.eF.1 d.nS.1 s).toArray 180 (0,0))::aW s (eW mkStr (d.m))::row d.eF.1 186 6 (d.its).length (rows eD (d.its))::row d.nS.1 58 1 (d.cA).length (rows bN ((d.cA).map Prod.fst))::row kv.1 3 1 kids.length (rows aJ (bW kids))::(bF (ep 200 3) (d.its)++bF (fx 3) (d.cA))) (λtop=>top=sg (⟨rule,lex,kids⟩:uh)) (aD.cons 0 rfl (aD.cons 4 rfl (aD.cons 5 rfl aD.nil))) ?_ ?_
 ·refine g6 ?_
  refine St.cq (λh14=> ?_) (λh14=> ?_)
  ·refine g7 ?_
   refine St.mE (1000+lex) (by unfold sg;rw[aC (show rule<0 by omega)])
  ·refine g2 ?_
   refine St.mE rule (by unfold sg;rw[aA (show ¬rule<0 by omega)])
 ·intro top R
  refine g3 ?_;refine St.slot 18 (Gp frm tqo cw gr.nv.1) rfl rfl ?_;refine St.ee (Ev.call ((Ns frm tqo cw gr U hgl).mono λ_ _ h=>h.1) ZT (.ar rfl)) ?_;refine g4 ?_
  have A:=hp.keys (fa (⟨frm,tqo,cw,ax gr⟩:og))
  refine g6 ?_;refine St.ee (Ev.tn mkStr (k:=(fa (⟨frm,tqo,cw,ax gr⟩:og))) (.mk rfl) (.mk rfl) pX (by exact vt) eT) ?_;refine g7 ?_;refine St.join (ι:=Nat×dL×List dL×List dL×List (aV×List Nat)×List (bC×Value)×aV) (λ⟨i,a,b,K,l,m1,o⟩ T=>(8,iv ((i:Nat):Int))::T) (λ⟨i,a,b,K,l,m1,o⟩=>aW b4 (.cells [iv (frm:Nat),iv (tqo:Nat),iv (cw:Nat),gr.nv.1].toArray 183 (0,0))::aW b5 (.cells [iv rule,iv lex,kv.1].toArray 200 (0,0))::aW C (.cells (nA g G H f n o.1 d.nS.1 s).toArray 180 (0,0))::aW s (eW mkStr (m1))::row o.1 186 6 (b).length (rows eD (b))::row d.nS.1 58 1 (l).length (rows bN ((l).map Prod.fst))::row kv.1 3 1 kids.length (rows aJ (bW kids))::aB (aF (λx:dL=>aG x.gr) (b))::aB (aG gr)::row a.wv.1 200 3 (a.cW).length (rows mK (a.cW))::row a.tv.1 3 1 (a.bf).length (rows aJ (a.bf))::(bF (jH 3) a.cW++(bF (ep 200 3) K++bF (fx 3) l))) (λ⟨i,a,b,K,l,m1,o⟩=>Ty n frm tqo d (⟨frm,tqo,cw,ax gr⟩:og) i a b l m1∧K=b.eraseIdx i∧b.length≤1400000000000∧a.cW.length+1≤3000000000000∧a.bf.length≤a.cW.length) (aD.cons 0 rfl (aD.cons 5 rfl (aD.cons 6 rfl aD.nil))) ?_ ?_
  ·refine g6 ?_
   refine St.cq (λM=> ?_) (λM=> ?_)
   ·have NY:xj (d.its.map cH) (fa (⟨frm,tqo,cw,ax gr⟩:og))=none:=by cases X:xj (d.its.map cH) (fa (⟨frm,tqo,cw,ax gr⟩:og))with|none=>rfl|some j=>rw[X]at A;rw[A]at M;simp at M
    refine g18 ?_;refine St.mapUpdate mkStr (k:=(fa (⟨frm,tqo,cw,ax gr⟩:og))) (.mk rfl) (.mk rfl) (.mk rfl) pX (by exact vt) ?_;refine g3 ?_;refine St.dc (aW C (.cells (nA g G H f n d.eF.1 d.nS.1 s).toArray 180 (0,0))::row d.eF.1 186 6 (d.its).length (rows eD (d.its))::(bF (ep 200 3) (d.its)++bF (fx 3) (d.cA))) mixed (λnp ns=> ?_);refine SW.gd 0 ?_;refine SW.gd 1 ?_;refine SW.gd 2 ?_;refine SW.gd 3 ?_;refine SW.gd 5 ?_;refine SW.slot 47 (Gp frm tqo cw gr.nv.1) rfl rfl ?_;refine SW.dd 6 rfl (λ_=>Ev.build (ps:=[(0,(.tmp 47))]) (bH.ar rfl) (λw=>MT w)) ?_;refine SW.slot 48 (.agg #[iv (frm:Nat),iv (tqo:Nat),iv (cw:Nat),gr.nv.1,(.slice none 0 0),(.slice none 0 0)]) rfl rfl ?_;refine SW.t2 4 7 ?_ ?_
    focus
     refine g3 ?_;refine SW.go ?_;refine SW.t1 7 ?_;refine St.gV rfl (.ar rfl) nV oV GF rfl rfl (by simp[Value.cells]) rfl rfl (λY=> ?_);refine g2 ?_;refine SW.go ?_;refine SW.t1 8 ?_;refine St.aj (.mk rfl) (.mk rfl) nV oV GF Ma (by intro u hu;have B:u∈[iv (frm:Nat),iv (tqo:Nat),iv (cw:Nat),gr.nv.1,.slice none 0 0,.slice none 0 0]:=hu;simp only[List.mem_cons,List.not_mem_nil,or_false]at B;rcases B with rfl|rfl|rfl|rfl|rfl|rfl;exact rfl;exact rfl;exact rfl;exact gr.nv.2;exact rfl;exact rfl) (by omega) (by omega) rfl rfl rfl rfl (λv50 Z=> ?_);refine St.aM v50 (show _=(d.its++ [(⟨frm,tqo,cw,gr,bT,[],bT,[]⟩:dL)]).length by rw[bR];rfl) (show _=rows eD (d.its++ [(⟨frm,tqo,cw,gr,bT,[],bT,[]⟩:dL)]) by rw[ay];rfl) ?_;refine St.ba v50 (λS _=> ?_);refine g2 ?_;refine SW.go ?_;refine SW.gd 9 ?_;refine SW.gd 10 ?_;refine SW.t1 11 ?_;refine St.cI (.mk rfl) (.mk rfl) PS S (by rfl) ?_;refine g2 ?_;refine SW.go ?_;refine SW.dn ?_
    rotate_left
    focus
     refine St.gV rfl (.ar rfl) nV oV GF rfl rfl (by simp[Value.cells]) rfl rfl (λY=> ?_);refine g2 ?_;refine SW.go ?_;refine SW.t1 4 ?_;refine g3 ?_;refine SW.go ?_;refine SW.t1 8 ?_;refine St.aj (.mk rfl) (.mk rfl) nV oV GF Ma (by intro u hu;have B:u∈[iv (frm:Nat),iv (tqo:Nat),iv (cw:Nat),gr.nv.1,.slice none 0 0,.slice none 0 0]:=hu;simp only[List.mem_cons,List.not_mem_nil,or_false]at B;rcases B with rfl|rfl|rfl|rfl|rfl|rfl;exact rfl;exact rfl;exact rfl;exact gr.nv.2;exact rfl;exact rfl) (by omega) (by omega) rfl rfl rfl rfl (λv50 Z=> ?_);refine St.aM v50 (show _=(d.its++ [(⟨frm,tqo,cw,gr,bT,[],bT,[]⟩:dL)]).length by rw[bR];rfl) (show _=rows eD (d.its++ [(⟨frm,tqo,cw,gr,bT,[],bT,[]⟩:dL)]) by rw[ay];rfl) ?_;refine St.ba v50 (λS _=> ?_);refine g2 ?_;refine SW.go ?_;refine SW.gd 9 ?_;refine SW.gd 10 ?_;refine SW.t1 11 ?_;refine St.cI (.mk rfl) (.mk rfl) PS S (by rfl) ?_;refine g2 ?_;refine SW.go ?_;refine SW.dn ?_
    all_goals
     refine go ?_;refine St.tail (bF (ep 200 3) (d.its)++bF (fx 3) (d.cA)) (row q.1.1 3 1 (q.2).length (rows aJ (bW (q.2)))::(bF (ep 200 3) (d.its)++bF (fx 3) (d.cA.eraseIdx (slt n frm tqo)))) (pI _ _ _ Q) ?_;refine St.dc (row d.nS.1 58 1 (d.cA).length (rows bN ((d.cA).map Prod.fst))::row q.1.1 3 1 (q.2).length (rows aJ (bW (q.2)))::(bF (ep 200 3) (d.its)++bF (fx 3) (d.cA.eraseIdx (slt n frm tqo)))) mixed (λnp ns=> ?_);refine SW.gd 0 ?_;refine SW.gd 1 ?_;refine SW.gd 2 ?_;refine SW.dd 3 rfl (λ_=>Ev.iU 2 (.mk rfl) Bn trivial Bi rfl rfl) ?_;refine SW.slot 56 (.agg #[iv (n:Nat),d.nS.1]) rfl rfl ?_;refine SW.gd 4 ?_;refine SW.gd 5 ?_;refine SW.gd 6 ?_;refine SW.gd 7 ?_;refine SW.gd 8 ?_;refine SW.t1 9 ?_;refine St.call (Hz n frm tqo (slt n frm tqo) hn V YL rfl d.nS d.cA q Q d.its.length (by omega) hql) ZU (.gY rfl rfl rfl rfl) rfl ?_;rintro v62 _ ⟨u,rfl⟩;refine St.dQ ?_;refine g2 ?_;refine SW.go ?_;refine SW.dn ?_;refine go ?_;refine St.dw 200 3 ?_;refine St.aM (.slice none 0 0) (show _=([]:List ri).length from rfl) (show _=rows mK []from rfl) ?_;refine St.dw 3 1 ?_;refine St.aM (.slice none 0 0) (show _=([]:List Int).length from rfl) (show _=rows aJ []from rfl) ?_;refine St.mj [row u.1 3 1 (q.2++ [d.its.length]).length (rows aJ (bW (q.2++ [d.its.length])))] (bF (ep 200 3) (d.its)++bF (fx 3) (d.cA.eraseIdx (slt n frm tqo))) (bF (jH 3) ([]:List ri)++(bF (ep 200 3) (d.its)++bF (fx 3) (d.cA.set (slt n frm tqo) (u,q.2++ [d.its.length])))) (ae0 (ep 200 3) (fx 3) d.its (u,q.2++ [d.its.length]) W) ?_;refine St.ea (aF (λx:dL=>aG x.gr) (d.its++ [(⟨frm,tqo,cw,gr,bT,[],bT,[]⟩:dL)])) [aF (λx:dL=>aG x.gr) d.its,aG gr] (λρ h x hx=>by rcases cG.1 hx with hx|hx;exact h _ (aQ ..) x hx;rw[bP.1 hx];exact h _ (cO _ (aQ ..))) ?_;refine St.mE ⟨d.its.length,(⟨frm,tqo,cw,gr,bT,[],bT,[]⟩:dL),d.its++ [(⟨frm,tqo,cw,gr,bT,[],bT,[]⟩:dL)],d.its,d.cA.set (slt n frm tqo) (u,q.2++ [d.its.length]),l8 d.m (fa (⟨frm,tqo,cw,ax gr⟩:og)) (iv d.its.length),⟨v50,S⟩⟩ ⟨Ty.new hp NY Q u,(Gq _ _).symm,by rw[bR];exact SC,by show 0+1≤3000000000000;omega,aP _⟩
   ·obtain⟨i0,hki⟩:∃i,xj (d.its.map cH) (fa (⟨frm,tqo,cw,ax gr⟩:og))=some i:=by cases X:xj (d.its.map cH) (fa (⟨frm,tqo,cw,ax gr⟩:og))with|none=>(rw[X]at A;rw[A]at M;simp at M)|some j=>exact⟨j,rfl⟩
    have N:=Ws hki
    rw[aO]at N;obtain⟨x0,HF⟩:=aE N
    have Wn:=Lu x0 (aZ HF)
    refine St.slot 8 (iv ((i0:Nat):Int)) rfl (by rw[A,hki];rfl) ?_;refine g2 ?_;refine St.tail (bF (ep 200 3) (d.its)++bF (fx 3) (d.cA)) (row x0.wv.1 200 3 (x0.cW).length (rows mK (x0.cW))::row x0.tv.1 3 1 (x0.bf).length (rows aJ (x0.bf))::(bF (jH 3) x0.cW++(bF (ep 200 3) (d.its.eraseIdx i0)++bF (fx 3) (d.cA)))) (yt _ _ HF) ?_;refine St.mE ⟨i0,x0,d.its,d.its.eraseIdx i0,d.cA,d.m,d.eF⟩ ⟨Ty.AD hp hki HF,rfl,by omega,Wn⟩
  ·rintro ⟨i,a,b,K,l,m1,o⟩ ⟨p,O,hi1,hw1,ht1⟩
   refine go ?_
   have F:=ai p.at_
   have I:=aZ p.at_
   refine St.lA o.1 (by omega) (λbs cs z=> ?_);refine g6 ?_;refine St.ee (Ev.n9 (k:=i) z (.mk rfl) (.mk rfl) nV oV (by omega) (by omega)) ?_;refine g4 ?_;refine St.dc (row o.1 186 6 (b).length (rows eD (b))::row a.wv.1 200 3 (a.cW).length (rows mK (a.cW))::(bF (jH 3) a.cW++(bF (ep 200 3) K++bF (fx 3) l))) mixed (λnp ns=> ?_);refine SW.gd 0 ?_;refine SW.gd 1 ?_;refine SW.dd 2 rfl (λ_=>Ev.kg z (.mk rfl)) ?_;refine SW.dd 3 rfl (λ_=>Ev.jb z (.mk rfl) tY) ?_;refine SW.gd 5 ?_;refine SW.slot 74 (.agg #[iv rule,iv lex,kv.1]) rfl rfl ?_;refine SW.t2 4 6 ?_ ?_
   focus
    refine St.ee (Ev.ct (.mk rfl) uS trivial (by omega) (eO eD _ i 4 _ p.at_ (by decide))) ?_;refine g2 ?_;refine SW.go ?_;refine SW.t1 6 ?_;refine St.gV rfl (.ar rfl) uS wV K8 rfl rfl (by simp[Value.cells]) rfl rfl (λb75=> ?_);refine g2 ?_;refine SW.go ?_;refine SW.t1 7 ?_;refine St.aj (.mk rfl) (.mk rfl) uS wV K8 U6 (by intro u hu;have B:u∈[iv rule,iv lex,kv.1]:=hu;simp only[List.mem_cons,List.not_mem_nil,or_false]at B;rcases B with rfl|rfl|rfl;exact rfl;exact rfl;exact kv.2) (by omega) (by omega) rfl rfl rfl rfl (λv76 akG=> ?_);refine St.aM v76 (show _=(a.cW++ [(⟨rule,lex,kv,kids⟩:ri)]).length from cS) (show _=rows mK (a.cW++ [(⟨rule,lex,kv,kids⟩:ri)]) by rw[ay];rfl) ?_;refine St.ba v76 (λe _=> ?_);refine g2 ?_;refine SW.go ?_;refine SW.dd 8 rfl (λ_=>Ev.kg z (.mk rfl)) ?_;refine SW.dd 9 rfl (λ_=>Ev.jb z (.mk rfl) tY) ?_;refine SW.t1 10 ?_;refine St.cJ (.mk rfl) (.mk rfl) V6 e (by omega) (by decide) ?_
    obtain⟨D,J⟩:∃D:dL,D=⟨a.frm,a.tqo,a.cw,a.gr,⟨v76,e⟩,a.cW++ [⟨rule,lex,kv,kids⟩],a.tv,a.bf⟩:=⟨_,rfl⟩
    refine St.aM o.1 (show _=(b.set i D).length by rw[cn]) (show _=rows eD (b.set i D) by rw[J];exact FO p.at_ ⟨v76,e⟩ _) ?_;refine g2 ?_;refine SW.go ?_;refine SW.dn ?_
   rotate_left
   focus
    refine St.gV rfl (.ar rfl) uS wV K8 rfl rfl (by simp[Value.cells]) rfl rfl (λb75=> ?_);refine g2 ?_;refine SW.go ?_;refine SW.t1 4 ?_;refine St.ee (Ev.ct (.mk rfl) uS trivial (by omega) (eO eD _ i 4 _ p.at_ (by decide))) ?_;refine g2 ?_;refine SW.go ?_;refine SW.t1 7 ?_;refine St.aj (.mk rfl) (.mk rfl) uS wV K8 U6 (by intro u hu;have B:u∈[iv rule,iv lex,kv.1]:=hu;simp only[List.mem_cons,List.not_mem_nil,or_false]at B;rcases B with rfl|rfl|rfl;exact rfl;exact rfl;exact kv.2) (by omega) (by omega) rfl rfl rfl rfl (λv76 akG=> ?_);refine St.aM v76 (show _=(a.cW++ [(⟨rule,lex,kv,kids⟩:ri)]).length from cS) (show _=rows mK (a.cW++ [(⟨rule,lex,kv,kids⟩:ri)]) by rw[ay];rfl) ?_;refine St.ba v76 (λe _=> ?_);refine g2 ?_;refine SW.go ?_;refine SW.dd 8 rfl (λ_=>Ev.kg z (.mk rfl)) ?_;refine SW.dd 9 rfl (λ_=>Ev.jb z (.mk rfl) tY) ?_;refine SW.t1 10 ?_;refine St.cJ (.mk rfl) (.mk rfl) V6 e (by omega) (by decide) ?_
    obtain⟨D,J⟩:∃D:dL,D=⟨a.frm,a.tqo,a.cw,a.gr,⟨v76,e⟩,a.cW++ [⟨rule,lex,kv,kids⟩],a.tv,a.bf⟩:=⟨_,rfl⟩
    refine St.aM o.1 (show _=(b.set i D).length by rw[cn]) (show _=rows eD (b.set i D) by rw[J];exact FO p.at_ ⟨v76,e⟩ _) ?_;refine g2 ?_;refine SW.go ?_;refine SW.dn ?_
   all_goals
    refine g4 ?_;refine St.ee (Ev.kg z (.mk rfl)) ?_;refine St.ee (Ev.jb z (.mk rfl) tZ) ?_;refine St.ee (Ev.ct (.mk rfl) bJ trivial (by rw[cn];exact F) (eO eD _ i 5 _ (fT F) (by decide))) ?_;refine St.slot 82 a.tv.1 rfl (by rw[J]) ?_;refine go ?_;refine St.ee (Ev.wI (y8 a.tv.1 a.bf top) ZV (.aX rfl rfl) (dV.row dV.nil rfl rfl rfl (p.bf a I))) ?_;refine g3 ?_;refine St.cq (λE=> ?_) (λE=> ?_)
    ·have hnt:top∉a.bf:=λhm=>by simp at E;exact E top hm rfl
     refine g3 ?_;refine St.ee (Ev.kg z (.mk rfl)) ?_;refine St.ee (Ev.jb z (.mk rfl) tZ) ?_;refine St.ee (Ev.ct (.mk rfl) bJ trivial (by rw[cn];exact F) (eO eD _ i 5 _ (fT F) (by decide))) ?_;refine St.slot 90 a.tv.1 rfl (by rw[J]) ?_;refine go ?_;refine St.gV rfl (.ar rfl) bJ dK eT rfl rfl (by simp[Value.cells]) rfl rfl (λb92=> ?_);refine St.aj (.mk rfl) (.mk rfl) bJ dK eT xT (by simp[Value.oneCell',Value.cells]) (by omega) (by omega) rfl rfl rfl rfl (λv93 anX=> ?_);refine St.aM v93 (show _=(a.bf++ [top]).length from cS) (show _=rows aJ (a.bf++ [top]) by rw[ay];rfl) ?_;refine St.ba v93 (λr _=> ?_);refine St.ee (Ev.kg z (.mk rfl)) ?_;refine St.ee (Ev.jb z (.mk rfl) tZ) ?_;refine St.cJ (.mk rfl) (.mk rfl) fD r (by rw[cn];exact F) (by decide) ?_;refine St.aM o.1 (show _=(b.set i (⟨a.frm,a.tqo,a.cw,a.gr,⟨v76,e⟩,a.cW++ [⟨rule,lex,kv,kids⟩],⟨v93,r⟩,a.bf++ [top]⟩:dL)).length by rw[cn,cn]) (show _=rows eD (b.set i (⟨a.frm,a.tqo,a.cw,a.gr,⟨v76,e⟩,a.cW++ [⟨rule,lex,kv,kids⟩],⟨v93,r⟩,a.bf++ [top]⟩:dL)) by rw[Ov (fT F) ⟨v93,r⟩ (a.bf++ [top]),List.set_set,J]) ?_;refine go ?_;refine St.eH ?_;subst O;refine St.mj [row v76 200 3 (a.cW++ [(⟨rule,lex,kv,kids⟩:ri)]).length (rows mK (a.cW++ [(⟨rule,lex,kv,kids⟩:ri)])),row (⟨v93,r⟩:aV).1 3 1 (a.bf++ [top]).length (rows aJ (a.bf++ [top])),row kv.1 3 1 kids.length (rows aJ (bW kids))] (bF (jH 3) a.cW++(bF (ep 200 3) (b.eraseIdx i)++bF (fx 3) l)) (bF (ep 200 3) (b.set i (⟨a.frm,a.tqo,a.cw,a.gr,⟨v76,e⟩,a.cW++ [⟨rule,lex,kv,kids⟩],⟨v93,r⟩,a.bf++ [top]⟩:dL))++bF (fx 3) (l)) (Q5 200 3 (bF (fx 3) l) (⟨a.frm,a.tqo,a.cw,a.gr,⟨v76,e⟩,a.cW++ [⟨rule,lex,kv,kids⟩],⟨v93,r⟩,a.bf++ [top]⟩:dL) rfl F) ?_;refine St.ea (aF (λx:dL=>aG x.gr) (b.set i (⟨a.frm,a.tqo,a.cw,a.gr,⟨v76,e⟩,a.cW++ [⟨rule,lex,kv,kids⟩],⟨v93,r⟩,a.bf++ [top]⟩:dL))) [aF (λx:dL=>aG x.gr) b] (λρ h y hy=>by rcases lI hy with hy|rfl;exact h _ (aQ ..) y hy;exact h _ (aQ ..) a I) ?_;refine St.rV [] (aB (aF (λx:dL=>aG x.gr) (b.set i (⟨a.frm,a.tqo,a.cw,a.gr,⟨v76,e⟩,a.cW++ [⟨rule,lex,kv,kids⟩],⟨v93,r⟩,a.bf++ [top]⟩:dL)))::aW C (.cells (nA g G H f n o.1 d.nS.1 s).toArray 180 (0,0))::aW s (eW mkStr (m1))::row o.1 186 6 (b.set i (⟨a.frm,a.tqo,a.cw,a.gr,⟨v76,e⟩,a.cW++ [⟨rule,lex,kv,kids⟩],⟨v93,r⟩,a.bf++ [top]⟩:dL)).length (rows eD (b.set i (⟨a.frm,a.tqo,a.cw,a.gr,⟨v76,e⟩,a.cW++ [⟨rule,lex,kv,kids⟩],⟨v93,r⟩,a.bf++ [top]⟩:dL)))::row d.nS.1 58 1 (l).length (rows bN ((l).map Prod.fst))::(bF (ep 200 3) (b.set i (⟨a.frm,a.tqo,a.cw,a.gr,⟨v76,e⟩,a.cW++ [⟨rule,lex,kv,kids⟩],⟨v93,r⟩,a.bf++ [top]⟩:dL))++bF (fx 3) (l))) ?_
     have P:=JA (x3:=(⟨a.frm,a.tqo,a.cw,a.gr,⟨v76,e⟩,a.cW++ [⟨rule,lex,kv,kids⟩],⟨v93,r⟩,a.bf++ [top]⟩:dL)) (w:=(⟨rule,lex,kids⟩:uh)) p (by show(⟨_,_,_⟩:lL)=⟨_,_,_⟩;congr 1;exact cP;show a.bf++ [top]=if sg (⟨rule,lex,kids⟩:uh)∈a.bf then a.bf else a.bf++ [sg (⟨rule,lex,kids⟩:uh)];rw[←R,aA hnt]) (λt ht=>by first|exact p.bf a I t ht|(rcases cG.1 ht with ht|ht;exact p.bf a I t ht;rw[bP.1 ht,R];unfold sg aa;dsimp only;split<;>omega)) o
     exact⟨⟨o,b.set i (⟨a.frm,a.tqo,a.cw,a.gr,⟨v76,e⟩,a.cW++ [⟨rule,lex,kv,kids⟩],⟨v93,r⟩,a.bf++ [top]⟩:dL),d.nS,l,m1⟩,P.1,rfl,P.2,p.GH,p.XP,rfl⟩
    ·have hnt:top∈a.bf:=by simpa using E
     subst J;refine go ?_;refine St.eH ?_;subst O;refine St.mj [row v76 200 3 (a.cW++ [(⟨rule,lex,kv,kids⟩:ri)]).length (rows mK (a.cW++ [(⟨rule,lex,kv,kids⟩:ri)])),row a.tv.1 3 1 (a.bf).length (rows aJ (a.bf)),row kv.1 3 1 kids.length (rows aJ (bW kids))] (bF (jH 3) a.cW++(bF (ep 200 3) (b.eraseIdx i)++bF (fx 3) l)) (bF (ep 200 3) (b.set i (⟨a.frm,a.tqo,a.cw,a.gr,⟨v76,e⟩,a.cW++ [⟨rule,lex,kv,kids⟩],a.tv,a.bf⟩:dL))++bF (fx 3) (l)) (Q5 200 3 (bF (fx 3) l) (⟨a.frm,a.tqo,a.cw,a.gr,⟨v76,e⟩,a.cW++ [⟨rule,lex,kv,kids⟩],a.tv,a.bf⟩:dL) rfl F) ?_;refine St.ea (aF (λx:dL=>aG x.gr) (b.set i (⟨a.frm,a.tqo,a.cw,a.gr,⟨v76,e⟩,a.cW++ [⟨rule,lex,kv,kids⟩],a.tv,a.bf⟩:dL))) [aF (λx:dL=>aG x.gr) b] (λρ h y hy=>by rcases lI hy with hy|rfl;exact h _ (aQ ..) y hy;exact h _ (aQ ..) a I) ?_;refine St.rV [] (aB (aF (λx:dL=>aG x.gr) (b.set i (⟨a.frm,a.tqo,a.cw,a.gr,⟨v76,e⟩,a.cW++ [⟨rule,lex,kv,kids⟩],a.tv,a.bf⟩:dL)))::aW C (.cells (nA g G H f n o.1 d.nS.1 s).toArray 180 (0,0))::aW s (eW mkStr (m1))::row o.1 186 6 (b.set i (⟨a.frm,a.tqo,a.cw,a.gr,⟨v76,e⟩,a.cW++ [⟨rule,lex,kv,kids⟩],a.tv,a.bf⟩:dL)).length (rows eD (b.set i (⟨a.frm,a.tqo,a.cw,a.gr,⟨v76,e⟩,a.cW++ [⟨rule,lex,kv,kids⟩],a.tv,a.bf⟩:dL)))::row d.nS.1 58 1 (l).length (rows bN ((l).map Prod.fst))::(bF (ep 200 3) (b.set i (⟨a.frm,a.tqo,a.cw,a.gr,⟨v76,e⟩,a.cW++ [⟨rule,lex,kv,kids⟩],a.tv,a.bf⟩:dL))++bF (fx 3) (l))) ?_
     have P:=JA (x3:=(⟨a.frm,a.tqo,a.cw,a.gr,⟨v76,e⟩,a.cW++ [⟨rule,lex,kv,kids⟩],a.tv,a.bf⟩:dL)) (w:=(⟨rule,lex,kids⟩:uh)) p (by show(⟨_,_,_⟩:lL)=⟨_,_,_⟩;congr 1;exact cP;show a.bf=if sg (⟨rule,lex,kids⟩:uh)∈a.bf then a.bf else a.bf++ [sg (⟨rule,lex,kids⟩:uh)];rw[←R,aC hnt]) (λt ht=>by first|exact p.bf a I t ht|(rcases cG.1 ht with ht|ht;exact p.bf a I t ht;rw[bP.1 ht,R];unfold sg aa;dsimp only;split<;>omega)) o
     exact⟨⟨o,b.set i (⟨a.frm,a.tqo,a.cw,a.gr,⟨v76,e⟩,a.cW++ [⟨rule,lex,kv,kids⟩],a.tv,a.bf⟩:dL),d.nS,l,m1⟩,P.1,rfl,P.2,p.GH,p.XP,rfl⟩
end Go.Proofs.YtblifkgpebebmaaGreatDoor
namespace Go.J
open Go
def pR:List Int→List Int→Bool
 | [],[]=>false
 | [],_::_=>true
 |_::_,[]=>false
 |a::x,b::y=>decide (a<b)||(decide (a=b)&&pR x y)
theorem p6:∀x:List Int,pR x x=false
 | []=>rfl
 |a::x=>by simp[pR,p6 x]
theorem qy:∀{x y z:List Int},pR x y=true→pR y z=true→pR x z=true
 | [],[],_,h,_=>by simp[pR]at h
 | [],_::_,[],_,h=>by simp[pR]at h
 | [],_::_,_::_,_,_=>rfl
 |_::_,[],_,h,_=>by simp[pR]at h
 |_::_,_::_,[],_,h=>by simp[pR]at h
 |a::x,b::y,c::z,h,k=>by
  simp only[pR,Bool.or_eq_true,Bool.and_eq_true,decide_eq_true_eq]at h k⊢
  rcases h with h|⟨h,d⟩
  ·left;rcases k with k|⟨k,_⟩<;>omega
  ·rcases k with k|⟨k,e⟩
   ·left;omega
   ·right;exact⟨by omega,qy d e⟩
theorem xk:∀(x y:List Int),pR x y=true∨x=y∨pR y x=true
 | [],[]=> .inr (.inl rfl)
 | [],_::_=> .inl rfl
 |_::_,[]=> .inr (.inr rfl)
 |a::x,b::y=>by
  simp only[pR,Bool.or_eq_true,Bool.and_eq_true,decide_eq_true_eq,List.cons.injEq]
  rcases Int.lt_trichotomy a b with h|h|h
  ·exact .inl (.inl h)
  ·rcases xk x y with k|k|k
   ·exact .inl (.inr ⟨h,k⟩)
   ·exact .inr (.inl ⟨h,k⟩)
   ·exact .inr (.inr (.inr ⟨h.symm,k⟩))
  ·exact .inr (.inr (.inl h))
section
variable (p:List Int)
def pre (L i:Nat):List Int:=(p.drop i).take L
variable {p}
end
section
variable {n:Nat}{key:Nat→List Int}{cf:Nat→Nat→Int}{l:List Nat}
end
section
variable {p:List Int}{L:Nat}{cf:Nat→Nat→Int}{l:List Nat}{rk:List Int}
end
end Go.J
namespace Go.Proofs.YtblifkgpebebmaaGreatDoor
open Go Go.J Tryz
structure PF {α:Type}(f:α→α→Int)(k:α→List Int):Prop where
 app:∀a b u v,pR (k a++u) (k b++v)=true↔f a b<0∨(f a b=0∧pR u v=true)
 eq:∀a b,f a b=0↔a=b
theorem ur {a b:Int}:lp a b<0↔a<b:=by unfold lp;split;omega;split<;>omega
theorem iu {a b:Int}:lp a b=0↔a=b:=by unfold lp;split;omega;split<;>omega
theorem qT {a b:Int}:sq a b<0↔a<0∨(a=0∧b<0):=by unfold sq;split<;>omega
theorem ny {a b:Int}:sq a b=0↔a=0∧b=0:=by unfold sq;split<;>omega
theorem PF.int:PF lp (λa:Int=>[a]):=⟨λa b u v=>by
 show pR (a::u) (b::v)=true↔_
 rw[pR,ur,iu];simp,λa b=>iu⟩
theorem PF.pair {α β:Type}{f:α→α→Int}{g:β→β→Int}{k:α→List Int}{h:β→List Int}(F:PF f k)(G:PF g h):PF (λx y:α×β=>sq (f x.1 y.1) (g x.2 y.2)) (λx=>k x.1++h x.2):=⟨λa b u v=>by
 rw[dq,dq,F.app,G.app,qT,ny]
 constructor
 ·rintro (h1|⟨h1,c|⟨c,d⟩⟩)
  ·exact .inl (.inl h1)
  ·exact .inl (.inr ⟨h1,c⟩)
  ·exact .inr ⟨⟨h1,c⟩,d⟩
 ·rintro ((h1|⟨h1,c⟩)|⟨⟨h1,c⟩,d⟩)
  ·exact .inl h1
  ·exact .inr ⟨h1,.inl c⟩
  ·exact .inr ⟨h1,.inr ⟨c,d⟩⟩,λa b=>by
 rw[ny,F.eq,G.eq]
 exact⟨λ⟨h1,c⟩=>Prod.ext h1 c,λh=>by rw[h];exact⟨rfl,rfl⟩⟩⟩
theorem PF.list {α:Type}{f:α→α→Int}{k:α→List Int}(F:PF f k):∀(l m:List α) (u v:List Int),l.length=m.length→(pR (l.flatMap k++u) (m.flatMap k++v)=true↔kP f l m<0∨(kP f l m=0∧pR u v=true))
 | [],[],u,v,_=>by simp[kP]
 |a::l,b::m,u,v,h=>by
  rw[kF,kF,dq,dq,F.app,PF.list F l m u v (by simpa using h),kP]
  by_cases e:f a b=0
  ·rw[aA (λx=>x e),e]
   exact⟨λh=>h.elim (λx=>absurd x (by decide)) (λx=>x.2),λh=> .inr ⟨rfl,h⟩⟩
  ·rw[aC e]
   exact⟨λh=>h.elim .inl (λx=>absurd x.1 e),λh=>h.elim .inl (λx=>absurd x.1 e)⟩
 | [],_::_,_,_,h=>by cases h
 |_::_,[],_,_,h=>by cases h
theorem Gl {α:Type}{f:α→α→Int}(he:∀a b,f a b=0↔a=b):∀l m:List α,kP f l m=0↔l=m
 | [],[]=>by simp[kP]
 | [],_::_=>by simp[kP]
 |_::_,[]=>by simp[kP]
 |a::l,b::m=>by
  rw[kP]
  by_cases e:f a b=0
  ·rw[aA (λx=>x e),Gl he l m,(he a b).1 e];simp
  ·rw[aC e]
   exact⟨λx=>absurd x e,λx=>by rw[List.cons.injEq]at x;exact absurd ((he a b).2 x.1) e⟩
theorem PF.lens {α:Type}{f:α→α→Int}{k:α→List Int}(F:PF f k):PF (λl m:List α=>sq (lp l.length m.length) (kP f l m)) (λl=>(l.length:Int)::l.flatMap k):=⟨λl m u v=>by
 show pR ((l.length:Int)::(l.flatMap k++u)) ((m.length:Int)::(m.flatMap k++v))=true↔_
 rw[pR,qT,ny,ur,iu,Bool.or_eq_true,rY,gq,gq]
 by_cases e:(l.length:Int)=m.length
 ·rw[F.list l m u v (by omega)]
  constructor
  ·rintro (h|⟨_,h|h⟩)
   ·exact .inl (.inl h)
   ·exact .inl (.inr ⟨e,h⟩)
   ·exact .inr ⟨⟨e,h.1⟩,h.2⟩
  ·rintro ((h|h)|h)
   ·exact .inl h
   ·exact .inr ⟨e,.inl h.2⟩
   ·exact .inr ⟨e,.inr ⟨h.1.2,h.2⟩⟩
 ·constructor
  ·rintro (h|⟨h,_⟩)
   ·exact .inl (.inl h)
   ·exact absurd h e
  ·rintro ((h|h)|h)
   ·exact .inl h
   ·exact absurd h.1 e
   ·exact absurd h.1.1 e,λl m=>by
 rw[ny,iu,Gl F.eq]
 exact⟨λh=>h.2,λh=>by rw[h];exact⟨rfl,rfl⟩⟩⟩
theorem PF.node:PF xC (λx:KE=>([x.1]++((x.2.length:Int)::x.2.flatMap λp=>[p.1]++ [p.2])):KE→List Int):=PF.pair PF.int (PF.lens (PF.pair PF.int PF.int))
abbrev kN (x:KE):List Int:=[x.1]++((x.2.length:Int)::x.2.flatMap λp=>[p.1]++ [p.2])
theorem Mt:∀l m:e8,pR (l.flatMap kN) (m.flatMap kN)=true↔kP xC l m<0
 | [],[]=>by simp[kP,pR]
 | [],b::m=>by rw[kF];simp[kP,pR]
 |a::l,[]=>by rw[kF];simp[kP,pR]
 |a::l,b::m=>by
  rw[kF,kF,PF.node.app,Mt l m,kP]
  by_cases e:xC a b=0
  ·rw[aA (λx=>x e),e]
   exact⟨λh=>h.elim (λx=>absurd x (by decide)) (λx=>x.2),λh=> .inr ⟨rfl,h⟩⟩
  ·rw[aC e]
   exact⟨λh=>h.elim id (λx=>absurd x.1 e),.inl⟩
def kE (x:og):List Int:=[(x.frm:Int)]++([(x.tqo:Int)]++([(x.cw:Int)]++x.gr.flatMap kN))
theorem Ch (x y:og):xU x y<0↔pR (kE x) (kE y)=true:=by
 unfold kE xU;rw[PF.int.app,PF.int.app,PF.int.app,qT,qT,qT,Mt]
theorem Vw (x y:og):xU x y=0↔x=y:=by
 unfold xU;rw[ny,ny,ny,iu,iu,iu,Gl PF.node.eq]
 cases x;cases y
 simp only[og.mk.injEq,Int.natCast_inj]
theorem Ii (x:og):¬xU x x<0:=by rw[Ch,p6];decide
theorem BD {x y z:og}(h:xU x y<0)(k:xU y z<0):xU x z<0:=by rw[Ch]at*;exact qy h k
theorem HO {x y z:List Int}(h:¬pR x y=true)(k:¬pR y z=true):¬pR x z=true:=λc=>by
 rcases xk y z with h1|h1|h1
 ·exact k h1
 ·subst h1;exact h c
 ·exact h (qy c h1)
theorem ya {x y z:og}(h:¬xU x y<0)(k:¬xU y z<0):¬xU x z<0:=by rw[Ch]at*;exact HO h k
theorem XD {x y:List Int}(h:¬pR x y=true)(k:¬pR y x=true):x=y:=by
 rcases xk x y with h1|h1|h1
 ·exact absurd h1 h
 ·exact h1
 ·exact absurd h1 k
theorem RM {x y:og}(h:¬xU x y<0)(k:¬xU y x<0):xU x y=0:=by
 rcases Int.lt_trichotomy (xU x y) 0 with h1|h1|h1
 ·exact absurd h1 h
 ·exact h1
 ·rw[Ch]at h k
  have:=XD h k
  -- j lists n equal,I A comes ahead of j other;then all parts n equal
  exfalso
  have e:∀a b:og,kE a=kE b→¬0<xU a b:=by
   intro a b o;unfold kE at o;rw[C8,C8,C8,C8,C8,C8,List.cons.injEq,List.cons.injEq,List.cons.injEq]at o;obtain⟨h1,B,C,D⟩:=o
   have J:kP xC a.gr b.gr≤0:=by
    refine Int.not_lt.1 λK=> ?_
    have gen:∀l m:e8,l.flatMap kN=m.flatMap kN→kP xC l m=0:=by
     intro l
     induction l with
     |nil=>intro m hm;cases m with
      |nil=>rfl
      |cons b m=>rw[kF]at hm;cases hm
     |cons a l r=>
      intro m hm
      cases m with
      |nil=>rw[kF]at hm;cases hm
      |cons b m=>
       rw[kF,kF]at hm
       have E:¬xC a b<0:=λf=>by
        have:=(PF.node.app a b (l.flatMap kN) (m.flatMap kN)).2 (.inl f)
        rw[hm,p6]at this;cases this
       have F:¬xC b a<0:=λf=>by
        have:=(PF.node.app b a (m.flatMap kN) (l.flatMap kN)).2 (.inl f)
        rw[hm,p6]at this;cases this
       have G:∀x y:KE,¬xC x y<0→¬xC y x<0→xC x y=0:=by
        intro x y p q;unfold xC at p q⊢;rw[qT,qT,ur,iu,ur,iu]at p q;rw[ny,ny,iu,iu]
        have t1:x.1=y.1:=by omega
        have t2:(x.2.length:Int)=y.2.length:=by omega
        refine⟨t1,t2,?_⟩
        have g:¬kP EC x.2 y.2<0:=by omega
        have i:¬kP EC y.2 x.2<0:=by omega
        clear p q t1
        generalize x.2=u at*
        generalize y.2=v at*
        induction u generalizing v with
        |nil=>cases v with
         |nil=>rfl
         |cons _ _=>simp at t2;omega
        |cons c u r=>
         cases v with
         |nil=>simp at t2;omega
         |cons d v=>
          rw[kP]at g i⊢
          have t:EC c d=0:=by
           have w:¬EC c d<0:=λf=>g (by rw[aC (by omega)];exact f)
           have z:¬EC d c<0:=λf=>i (by rw[aC (by omega)];exact f)
           unfold EC at w z⊢;rw[qT,ur,iu,ur]at w z
           rw[ny,iu,iu];omega
          have s:c=d:=(PF.pair PF.int PF.int).eq c d|>.1 t
          subst s;rw[aA (λx=>x t)]at g i⊢;exact r v (by simpa using t2) g i
       have e0:=G a b E F
       have H:=(PF.node.eq a b).1 e0
       subst H;rw[kP,aA (λx=>x e0)];exact r m (List.append_cancel_left hm)
    have:=gen a.gr b.gr D
    omega
   unfold xU;rw[iu.2 h1,iu.2 B,iu.2 C]
   show ¬0<kP xC a.gr b.gr
   omega
  exact e x y this h1
theorem vH {α:Type}(f:α→α→Int)(a:α):∀l:List α,(Ku f a l).Perm (a::l)
 | []=> .refl _
 |b::l=>by
  rw[Ku];split
  ·exact .refl _
  ·exact((vH f a l).cons b).trans (.swap _ _ _)
theorem ji {α:Type}(f:α→α→Int):∀l:List α,(TQ f l).Perm l
 | []=> .refl _
 |a::l=>(vH f a _).trans ((ji f l).cons a)
theorem wN {α:Type}{f:α→α→Int}{Z:α→Prop}(g:∀a b c,Z a→Z b→Z c→¬f a b<0→¬f b c<0→¬f a c<0)(has:∀a b,Z a→Z b→f a b<0→¬f b a<0)(a:α)(d:Z a):∀l:List α,(∀x∈l,Z x)→l.Pairwise (λx y=>¬f y x<0)→(Ku f a l).Pairwise (λx y=>¬f y x<0)
 | [],_,_=>GC _ _
 |b::l,hz,h=>by
  have e:=hz b (by simp)
  rw[Ku];split
  ·rename_i c
   refine List.Pairwise.cons (λx hx=> ?_) h
   rcases cK.1 hx with rfl|hx
   ·exact has _ _ d e c
   ·exact g x b a (hz x (by simp[hx])) e d ((jW.1 h).1 x hx) (has _ _ d e c)
  ·rename_i c
   refine List.Pairwise.cons (λx hx=> ?_) (wN g has a d l (λx hx=>hz x (by simp[hx])) (jW.1 h).2)
   rcases cK.1 ((vH f a l).mem_iff.1 hx)with rfl|hx
   ·exact c
   ·exact(jW.1 h).1 x hx
theorem wT {α:Type}{f:α→α→Int}{Z:α→Prop}(d:∀a b c,Z a→Z b→Z c→¬f a b<0→¬f b c<0→¬f a c<0)(has:∀a b,Z a→Z b→f a b<0→¬f b a<0):∀l:List α,(∀x∈l,Z x)→(TQ f l).Pairwise (λx y=>¬f y x<0)
 | [],_=> .nil
 |a::l,hz=>wN d has a (hz a (by simp)) _ (λx hx=>hz x (by simp[(ji f l).mem_iff.1 hx])) (wT d has l λx hx=>hz x (by simp[hx]))
theorem OV {its:List lL}(hd:(its.map λx=>fa x.ed).Nodup){l:List Nat}(hp:l.Perm (List.range its.length))(n:l.Pairwise (λa b=>¬xU (its.getD b gh).ed (its.getD a gh).ed<0)):l=l9 its:=by
 have h1:=ji (λi j=>xU (its.getD i gh).ed (its.getD j gh).ed) (List.range its.length)
 have o:=wT (f:=λi j=>xU (its.getD i gh).ed (its.getD j gh).ed) (Z:=λ_=>True) (λa b c _ _ _=>ya) (λa b _ _ h k=>Ii _ (BD h k)) (List.range its.length) (λ_ _=>trivial)
 refine(hp.trans h1.symm).eq_of_pairwise (λa b d g p q=> ?_) n o
 have d:=dt.1 (hp.mem_iff.1 d)
 have g:=dt.1 (h1.mem_iff.1 g)
 have e:=(Vw _ _).1 (RM p q)
 refine Decidable.byContradiction λr=> ?_
 have m:∀i,i<its.length→(its.map λx=>fa x.ed)[i]?=some (fa (its.getD i gh).ed):=λi s=>by
  rw[bQ,aw,bU s];rfl
 refine r ?_;exact(List.getElem?_inj (l:=its.map λx=>fa x.ed) (by rw[aO];exact d) hd).1 (by rw[m a d,m b g,e])
theorem Mu (a b:Int):oC a b=lp a b:=rfl
def LD:List Int→Int
 | []=>0
 |a::l=>sq a (LD l)
theorem JH (a:Int):sq a 0=a:=by unfold sq;split;omega;rfl
theorem BT {l:List Int}{k:Nat}{x:Int}(h:l[k]?=some x):LD (l.drop k)=if x=0 then LD (l.drop (k+1))else x:=by rw[bO h];rfl
theorem oB (a b:Int): -1≤lp a b∧lp a b≤1:=by unfold lp;split;omega;split<;>omega
theorem OU {a b:Int}(h: -1≤a∧a≤1)(k: -1≤b∧b≤1): -1≤sq a b∧sq a b≤1:=by unfold sq;split<;>omega
theorem yb {α:Type}{f:α→α→Int}(h:∀a b,-1≤f a b∧f a b≤1):∀l m:List α,-1≤kP f l m∧kP f l m≤1
 | [],[]=>by simp[kP]
 | [],_::_=>by simp[kP]
 |_::_,[]=>by simp[kP]
 |a::l,b::m=>by rw[kP];split;exact h a b;exact yb h l m
theorem Mv (a b:Int×Int): -1≤EC a b∧EC a b≤1:=OU (oB _ _) (oB _ _)
theorem Vx (a b:KE): -1≤xC a b∧xC a b≤1:=OU (oB _ _) (OU (oB _ _) (yb Mv _ _))
theorem Yy {x:Int}(h: -1≤x∧x≤1):aJ.wf x:=by show aa x;unfold aa;omega
theorem CT {l:List Int}(h:∀x∈l,-1≤x∧x≤1):∀x∈l,aJ.wf x:=λx hx=>Yy (h x hx)
theorem oA {α:Type}{f:α→α→Int}{l m:List α}{k:Nat}{x y:α}(hx:l[k]?=some x)(hy:m[k]?=some y):kP f (l.drop k) (m.drop k)=if f x y≠0 then f x y else kP f (l.drop (k+1)) (m.drop (k+1)):=by rw[bO hx,bO hy];rfl
theorem yd {α:Type}{f:α→α→Int}{l m:List α}{k:Nat}{x:α}(hx:l[k]?=some x)(hm:m.length≤k):kP f (l.drop k) (m.drop k)=1:=by rw[bO hx,j6 hm];rfl
theorem uu {α:Type}{f:α→α→Int}{l m:List α}{k:Nat}{y:α}(hy:m[k]?=some y)(a:l.length≤k):kP f (l.drop k) (m.drop k)= -1:=by rw[bO hy,j6 a];rfl
theorem yc {α:Type}{f:α→α→Int}{l m:List α}{k:Nat}(a:l.length≤k)(hm:m.length≤k):kP f (l.drop k) (m.drop k)=0:=by rw[j6 a,j6 hm];rfl
theorem tA (v0:Value)(p:List Int):eE prog 99 #[v0] [sl aJ v0 p] (iv (LD p)):=by
 refine eE.nH (args:=[v0]) 18 func99 rfl ntmps99 rfl (λc=> ?_);refine go ?_;refine St.wf v0 (λf hlen=> ?_);refine g18 ?_;refine St.lS (ι:=Nat) (λk T=>(8,iv k)::T) (λk=>k≤p.length∧LD p=LD (p.drop k)) (λk=>p.length-k) 0 (aD.cons 3 rfl (aD.cons 6 rfl (aD.cons 7 rfl aD.nil))) ⟨aP _,rfl⟩ ?_;intro k d;obtain⟨hk,a⟩:=d;refine g6 ?_;refine St.cq (λe=> ?_) (λe=> ?_)
 ·obtain⟨x,hx⟩:=aE (show k<p.length by omega)
  refine g18 ?_;refine St.cq (λb=> ?_) (λb=> ?_)
  ·refine g12 ?_
   refine St.rV [_] [] ?_;exact ie (by rw[a,BT hx,aA b])
  ·refine g8 ?_
   refine St.aS (k+1) ⟨by omega,by rw[a,BT hx,aC (by omega)]⟩
 ·refine g12 ?_
  refine St.rV [_] [] ?_;exact ie (by rw[a,j6 (by omega)];rfl)
theorem AM (v0 v1:Value)(a b:List Int):eE prog 101 #[v0,v1] [sl aJ v0 a,sl aJ v1 b] (iv (kP lp a b)):=by
 refine eE.pO (args:=[v0,v1]) 36 func101 rfl ntmps101 rfl (λc=> ?_);refine go ?_;refine St.wf v0 (λg m=> ?_);refine St.wf v1 (λn o=> ?_);refine g13 ?_;refine St.lS (ι:=Nat) (λk T=>(11,iv k)::T) (λk=>k≤a.length∧k≤b.length∧kP lp a b=kP lp (a.drop k) (b.drop k)) (λk=>a.length-k) 0 (aD.cons 0 rfl (aD.cons 1 rfl (aD.cons 9 rfl (aD.cons 10 rfl aD.nil)))) ⟨aP _,aP _,rfl⟩ ?_;intro k i;obtain⟨hk,p,d⟩:=i;refine g6 ?_;refine St.cq (λj=> ?_) (λj=> ?_)
 ·obtain⟨x,hx⟩:=aE (show k<a.length by omega)
  refine g22 ?_;refine St.cq (λl=> ?_) (λl=> ?_)
  ·refine g12 ?_
   refine St.rV [_] [] ?_;exact ie (by rw[d,yd hx (by omega)])
  ·obtain⟨y,hy⟩:=aE (show k<b.length by omega)
   refine g15 ?_;refine St.ee (Ev.call (ef _ _) qG (.aX rfl rfl)) ?_;refine g9 ?_;refine St.cq (λf=> ?_) (λf=> ?_)
   ·refine g12 ?_
    refine St.rV [_] [] ?_;exact ie (by rw[d,oA hx hy,aC (by rw[←Mu];exact f)];rfl)
   ·refine g8 ?_
    refine St.aS (k+1) ⟨by omega,by omega,by rw[d,oA hx hy,aA (λh=>h (by rw[←Mu];omega))]⟩
 ·refine g15 ?_
  refine St.cq (λe=> ?_) (λe=> ?_)
  ·refine g7 ?_
   refine St.rV [_] [] ?_;exact ie (by obtain⟨y,hy⟩:=aE (show k<b.length by omega);rw[d,uu hy (by omega)])
  ·refine g8 ?_
   refine St.rV [_] [] ?_;exact ie (by rw[d,yc (by omega) (by omega)])
theorem CC (x y:dx):eE prog 173 #[Value.agg #[iv x.dF,iv x.tqo],Value.agg #[iv y.dF,iv y.tqo]] [] (iv (EC (fP x) (fP y))):=by
 refine eE.qD (args:=[Value.agg #[iv x.dF,iv x.tqo],Value.agg #[iv y.dF,iv y.tqo]]) 17 func173 rfl ntmps173 rfl (λc=> ?_);refine g2 ?_;refine St.dJ (.mk rfl) rfl (λb=> ?_);refine St.dJ (.mk rfl) rfl (λd=> ?_);refine g4 ?_;refine St.pA [] mixed (λe f=> ?_);refine SW.gd 0 ?_;refine SW.gd 1 ?_;refine SW.gd 2 ?_;refine SW.gd 3 ?_;refine SW.dd 4 rfl (λ_=>Ev.call (ef _ _) qG (.aX rfl rfl)) ?_;refine SW.gd 5 ?_;refine SW.gd 6 ?_;refine SW.gd 7 ?_;refine SW.gd 8 ?_;refine SW.dd 9 rfl (λ_=>Ev.call (ef _ _) qG (.aX rfl rfl)) ?_;refine SW.t1 10 ?_;refine St.gV rfl (.aX rfl rfl) bJ dK eT rfl rfl (by simp[Value.cells]) rfl rfl (λa=> ?_);refine St.aM (.slice (some ⟨a,0,none⟩) 2 2) (show _=([(lp x.dF y.dF),(lp x.tqo y.tqo)]).length from rfl) (show _=rows aJ ([(lp x.dF y.dF),(lp x.tqo y.tqo)])from rfl) ?_;refine g2 ?_;refine SW.go ?_;refine SW.t1 11 ?_;refine St.ee (Ev.wI (tA (.slice (some ⟨a,0,none⟩) 2 2) [(lp x.dF y.dF),(lp x.tqo y.tqo)]) RB (.ar rfl) (dV.row dV.nil rfl rfl rfl (CT (λx hx=>by simp only[List.mem_cons,List.not_mem_nil,or_false]at hx;rcases hx with rfl|rfl;exact oB _ _;exact oB _ _)))) ?_;refine g2 ?_;refine SW.go ?_;refine SW.gd 12 ?_;refine SW.dn ?_;refine g2 ?_;refine St.rV [_] [] ?_;exact ie (show sq _ (sq _ 0)=_ by rw[JH];rfl)
theorem AG (x y:dx):eE prog 173 ([Value.agg #[iv x.dF,iv x.tqo],Value.agg #[iv y.dF,iv y.tqo]]++ []).toArray [] (iv (EC (fP x) (fP y))):=CC x y
theorem AH (v0 v1:Value)(a b:List dx):eE prog 172 #[v0,v1,.func (.func 173) #[] #[]] [sl au v0 a,sl au v1 b] (iv (kP EC (a.map fP) (b.map fP))):=by
 refine eE.pO (args:=[v0,v1,.func (.func 173) #[] #[]]) 39 func172 rfl ntmps172 rfl (λc=> ?_);refine go ?_;refine St.wf v0 (λi o=> ?_);refine St.wf v1 (λp q=> ?_);refine g13 ?_;refine St.lS (ι:=Nat) (λk T=>(13,iv k)::T) (λk=>k≤a.length∧k≤b.length∧kP EC (a.map fP) (b.map fP)=kP EC ((a.map fP).drop k) ((b.map fP).drop k)) (λk=>a.length-k) 0 (aD.cons 0 rfl (aD.cons 1 rfl (aD.cons 2 rfl (aD.cons 11 rfl (aD.cons 12 rfl aD.nil))))) ⟨aP _,aP _,rfl⟩ ?_;intro k j;obtain⟨hk,r,d⟩:=j;refine g6 ?_;refine St.cq (λl=> ?_) (λl=> ?_)
 ·obtain⟨x,hx⟩:=aE (show k<a.length by omega)
  have f:(a.map fP)[k]?=some (fP x):=by rw[bQ,hx];rfl
  refine g8 ?_;refine St.ee (Ev.js (.mk rfl) hx lD trivial dm j7.eq) ?_;refine St.al (λs=> ?_);refine go ?_;refine St.sA (.mk rfl) (.mk rfl) dm ?_ (h1:=(eY.2 λu hu=>au.one x u hu));refine g11 ?_;refine St.cq (λm=> ?_) (λm=> ?_)
  ·refine g12 ?_
   refine St.rV [_] [] ?_;exact ie (by rw[d,yd f (by rw[aO];omega)])
  ·obtain⟨y,hy⟩:=aE (show k<b.length by omega)
   have e:(b.map fP)[k]?=some (fP y):=by rw[bQ,hy];rfl
   refine g7 ?_;refine St.ee (Ev.js (.mk rfl) hy lD trivial dm j7.eq) ?_;refine St.al (λt=> ?_);refine St.sA (.mk rfl) (.mk rfl) dm ?_ (h1:=(eY.2 λu hu=>au.one y u hu));refine g6 ?_;refine St.slot 27 (Value.agg #[iv x.dF,iv x.tqo]) rfl rfl ?_;refine go ?_;refine St.slot 28 (Value.agg #[iv y.dF,iv y.tqo]) rfl rfl ?_;refine St.ee (Ev.ei (AG x y) Zh (.mk rfl) (.aX rfl rfl)) ?_;refine g9 ?_;refine St.cq (λg=> ?_) (λg=> ?_)
   ·refine g12 ?_
    refine St.rV [_] [] ?_;exact ie (by rw[d,oA f e,aC g])
   ·refine g8 ?_
    refine St.aS (k+1) ⟨by omega,by omega,by rw[d,oA f e,aA (λh=>h g)]⟩
 ·refine g15 ?_
  refine St.cq (λn=> ?_) (λn=> ?_)
  ·refine g7 ?_
   refine St.rV [_] [] ?_;exact ie (by obtain⟨y,hy⟩:=aE (show k<(b.map fP).length by rw[aO];omega);rw[d,uu hy (by rw[aO];omega)])
  ·refine g8 ?_
   refine St.rV [_] [] ?_;exact ie (by rw[d,yc (by rw[aO];omega) (by rw[aO];omega)])
theorem CD (x y:dh):eE prog 171 #[Value.agg #[iv x.type,x.lv.1],Value.agg #[iv y.type,y.lv.1]] [cB x,cB y] (iv (xC (mB x) (mB y))):=by
 refine eE.pO (args:=[Value.agg #[iv x.type,x.lv.1],Value.agg #[iv y.type,y.lv.1]]) 24 func171 rfl ntmps171 rfl (λc=> ?_);refine go ?_;refine St.ea (sl au x.lv.1 x.aq) [cB x] (λρ h=>h _ (aQ ..)) ?_;refine St.ea (sl au y.lv.1 y.aq) [cB y] (λρ h=>h _ (aQ ..)) ?_;refine go ?_;refine St.dJ (.mk rfl) rfl (λb=> ?_);refine St.dJ (.mk rfl) rfl (λd=> ?_);refine g4 ?_;refine St.pA [] mixed (λe f=> ?_);refine SW.gd 0 ?_;refine SW.gd 1 ?_;refine SW.gd 2 ?_;refine SW.gd 3 ?_;refine SW.dd 4 rfl (λ_=>Ev.call (ef _ _) qG (.aX rfl rfl)) ?_;refine SW.gd 5 ?_;refine SW.gd 6 ?_;refine SW.gd 7 ?_;refine SW.gd 8 ?_;refine SW.gd 9 ?_;refine SW.gd 10 ?_;refine SW.dd 11 rfl (λ_=>Ev.call (ef _ _) qG (.aX rfl rfl)) ?_;refine SW.gd 12 ?_;refine SW.gd 13 ?_;refine SW.gd 14 ?_;refine SW.gd 15 ?_;refine SW.dd 16 rfl (λ_=>Ev.call (AH x.lv.1 y.lv.1 x.aq y.aq) Zg (.ek rfl rfl rfl)) ?_;refine SW.t1 17 ?_;refine St.gV rfl (.ek rfl rfl rfl) bJ dK eT rfl rfl (by simp[Value.cells]) rfl rfl (λa=> ?_);refine St.aM (.slice (some ⟨a,0,none⟩) 3 3) (show _=([(lp x.type y.type),(lp (x.aq.length:Nat) (y.aq.length:Nat)),(kP EC (x.aq.map fP) (y.aq.map fP))]).length from rfl) (show _=rows aJ ([(lp x.type y.type),(lp (x.aq.length:Nat) (y.aq.length:Nat)),(kP EC (x.aq.map fP) (y.aq.map fP))])from rfl) ?_;refine g2 ?_;refine SW.go ?_;refine SW.t1 18 ?_;refine St.ee (Ev.wI (tA (.slice (some ⟨a,0,none⟩) 3 3) [(lp x.type y.type),(lp (x.aq.length:Nat) (y.aq.length:Nat)),(kP EC (x.aq.map fP) (y.aq.map fP))]) RB (.ar rfl) (dV.row dV.nil rfl rfl rfl (CT (λx hx=>by simp only[List.mem_cons,List.not_mem_nil,or_false]at hx;rcases hx with rfl|rfl|rfl;exact oB _ _;exact oB _ _;exact yb Mv _ _)))) ?_;refine g2 ?_;refine SW.go ?_;refine SW.gd 19 ?_;refine SW.dn ?_;refine g2 ?_;refine St.rV [_] [] ?_;exact ie (show sq _ (sq _ (sq _ 0))=_ by rw[JH];unfold xC mB;rw[aO,aO])
theorem AJ (x y:dh):eE prog 171 ([Value.agg #[iv x.type,x.lv.1],Value.agg #[iv y.type,y.lv.1]]++ []).toArray [cB x,cB y] (iv (xC (mB x) (mB y))):=CD x y
theorem AK (v0 v1:Value)(a b:List dh):eE prog 170 #[v0,v1,.func (.func 171) #[] #[]] [sl bq v0 a,sl bq v1 b,aF cB a,aF cB b] (iv (kP xC (a.map mB) (b.map mB))):=by
 refine eE.MX (args:=[v0,v1,.func (.func 171) #[] #[]]) 39 func170 rfl ntmps170 rfl (λc=> ?_);refine go ?_;refine St.wf v0 (λi o=> ?_);refine St.wf v1 (λp q=> ?_);refine g13 ?_;refine St.lS (ι:=Nat) (λk T=>(13,iv k)::T) (λk=>k≤a.length∧k≤b.length∧kP xC (a.map mB) (b.map mB)=kP xC ((a.map mB).drop k) ((b.map mB).drop k)) (λk=>a.length-k) 0 (aD.cons 0 rfl (aD.cons 1 rfl (aD.cons 2 rfl (aD.cons 11 rfl (aD.cons 12 rfl aD.nil))))) ⟨aP _,aP _,rfl⟩ ?_;intro k j;obtain⟨hk,r,d⟩:=j;refine g6 ?_;refine St.cq (λl=> ?_) (λl=> ?_)
 ·obtain⟨x,hx⟩:=aE (show k<a.length by omega)
  have f:(a.map mB)[k]?=some (mB x):=by rw[bQ,hx];rfl
  refine g8 ?_;refine St.ee (Ev.js (.mk rfl) hx wY trivial jT j7.eq) ?_;refine St.al (λs=> ?_);refine go ?_;refine St.sA (.mk rfl) (.mk rfl) jT ?_ (h1:=(eY.2 λu hu=>bq.one x u hu));refine g11 ?_;refine St.cq (λm=> ?_) (λm=> ?_)
  ·refine g12 ?_
   refine St.rV [_] [] ?_;exact ie (by rw[d,yd f (by rw[aO];omega)])
  ·obtain⟨y,hy⟩:=aE (show k<b.length by omega)
   have e:(b.map mB)[k]?=some (mB y):=by rw[bQ,hy];rfl
   refine g7 ?_;refine St.ee (Ev.js (.mk rfl) hy wY trivial jT j7.eq) ?_;refine St.al (λt=> ?_);refine St.sA (.mk rfl) (.mk rfl) jT ?_ (h1:=(eY.2 λu hu=>bq.one y u hu));refine g6 ?_;refine St.slot 27 (Value.agg #[iv x.type,x.lv.1]) rfl rfl ?_;refine go ?_;refine St.slot 28 (Value.agg #[iv y.type,y.lv.1]) rfl rfl ?_;refine St.cL cB a (x:=x) (aZ hx) ?_;refine St.cL cB b (x:=y) (aZ hy) ?_;refine St.ee (Ev.ei (AJ x y) Zf (.mk rfl) (.aX rfl rfl)) ?_;refine g9 ?_;refine St.cq (λg=> ?_) (λg=> ?_)
   ·refine g12 ?_
    refine St.rV [_] [] ?_;exact ie (by rw[d,oA f e,aC g])
   ·refine g8 ?_
    refine St.aS (k+1) ⟨by omega,by omega,by rw[d,oA f e,aA (λh=>h g)]⟩
 ·refine g15 ?_
  refine St.cq (λn=> ?_) (λn=> ?_)
  ·refine g7 ?_
   refine St.rV [_] [] ?_;exact ie (by obtain⟨y,hy⟩:=aE (show k<(b.map mB).length by rw[aO];omega);rw[d,uu hy (by rw[aO];omega)])
  ·refine g8 ?_
   refine St.rV [_] [] ?_;exact ie (by rw[d,yc (by rw[aO];omega) (by rw[aO];omega)])
theorem AF (x y:dD):eE prog 149 #[bA x,bA y] [aG x,aG y] (iv (kP xC (ax x) (ax y))):=by
 refine eE.pO (args:=[bA x,bA y]) 10 func149 rfl ntmps149 rfl (λc=> ?_);refine go ?_
 refine St.jQ (aG x) (λ_:Unit=>kb x) (λρ h=>⟨(),h⟩) λ_=> ?_
 refine St.cast (H':=[aB (sl bq x.nv.1 x.nodes),aB (aF cB x.nodes),aB (aG x),aB (aG y)]) rfl ?_
 refine St.jQ (aG y) (λ_:Unit=>kb y) (λρ h=>⟨(),h⟩) λ_=> ?_
 refine St.cast (H':=[aB (sl bq y.nv.1 y.nodes),aB (aF cB y.nodes),aB (sl bq x.nv.1 x.nodes),aB (aF cB x.nodes),aB (aG x),aB (aG y)]) rfl ?_;refine go ?_;refine St.dJ (.mk rfl) rfl (λa=> ?_);refine St.dJ (.mk rfl) rfl (λb=> ?_);refine g9 ?_;refine St.ee (Ev.call (AK x.nv.1 y.nv.1 x.nodes y.nodes) Ze (.ek rfl rfl rfl)) ?_;refine g4 ?_;refine St.rV [_] [] ?_;exact ie rfl
theorem CB (x y:dL):eE prog 127 #[Gp x.frm x.tqo x.cw x.gr.nv.1,Gp y.frm y.tqo y.cw y.gr.nv.1] [aG x.gr,aG y.gr] (iv (xU (cH x).ed (cH y).ed)):=by
 refine eE.pO (args:=[Gp x.frm x.tqo x.cw x.gr.nv.1,Gp y.frm y.tqo y.cw y.gr.nv.1]) 27 func127 rfl ntmps127 rfl (λc=> ?_);refine g2 ?_;refine St.dJ (.mk rfl) rfl (λb=> ?_);refine St.dJ (.mk rfl) rfl (λd=> ?_);refine g4 ?_;refine St.pA [] mixed (λe f=> ?_);refine SW.gd 0 ?_;refine SW.gd 1 ?_;refine SW.gd 2 ?_;refine SW.gd 3 ?_;refine SW.dd 4 rfl (λ_=>Ev.call (ef _ _) qG (.aX rfl rfl)) ?_;refine SW.gd 5 ?_;refine SW.gd 6 ?_;refine SW.gd 7 ?_;refine SW.gd 8 ?_;refine SW.dd 9 rfl (λ_=>Ev.call (ef _ _) qG (.aX rfl rfl)) ?_;refine SW.gd 10 ?_;refine SW.gd 11 ?_;refine SW.gd 12 ?_;refine SW.gd 13 ?_;refine SW.dd 14 rfl (λ_=>Ev.call (ef _ _) qG (.aX rfl rfl)) ?_;refine SW.gd 15 ?_;refine SW.dd 16 rfl (λ_=>Ev.iU 1 (.mk rfl) mm trivial jU rfl rfl) ?_;refine SW.slot 21 (bA x.gr) rfl rfl ?_;refine SW.gd 17 ?_;refine SW.dd 18 rfl (λ_=>Ev.iU 1 (.mk rfl) mm trivial jU rfl rfl) ?_;refine SW.slot 23 (bA y.gr) rfl rfl ?_;refine SW.dd 19 rfl (λ_=>Ev.call (AF x.gr y.gr) ZZ (.aX rfl rfl)) ?_;refine SW.t1 20 ?_;refine St.gV rfl (.gY rfl rfl rfl rfl) bJ dK eT rfl rfl (by simp[Value.cells]) rfl rfl (λa=> ?_);refine St.aM (.slice (some ⟨a,0,none⟩) 4 4) (show _=([(lp (x.frm:Nat) (y.frm:Nat)),(lp (x.tqo:Nat) (y.tqo:Nat)),(lp (x.cw:Nat) (y.cw:Nat)),(kP xC (ax x.gr) (ax y.gr))]).length from rfl) (show _=rows aJ ([(lp (x.frm:Nat) (y.frm:Nat)),(lp (x.tqo:Nat) (y.tqo:Nat)),(lp (x.cw:Nat) (y.cw:Nat)),(kP xC (ax x.gr) (ax y.gr))])from rfl) ?_;refine g2 ?_;refine SW.go ?_;refine SW.t1 21 ?_;refine St.ee (Ev.wI (tA (.slice (some ⟨a,0,none⟩) 4 4) [(lp (x.frm:Nat) (y.frm:Nat)),(lp (x.tqo:Nat) (y.tqo:Nat)),(lp (x.cw:Nat) (y.cw:Nat)),(kP xC (ax x.gr) (ax y.gr))]) RB (.ar rfl) (dV.row dV.nil rfl rfl rfl (CT (λx hx=>by simp only[List.mem_cons,List.not_mem_nil,or_false]at hx;rcases hx with rfl|rfl|rfl|rfl;exact oB _ _;exact oB _ _;exact oB _ _;exact yb Vx _ _)))) ?_;refine g2 ?_;refine SW.go ?_;refine SW.gd 22 ?_;refine SW.dn ?_;refine g2 ?_;refine St.rV [_] [] ?_;exact ie (show sq _ (sq _ (sq _ (sq _ 0)))=_ by rw[JH];rfl)
theorem Hw (a b:Nat)(eF:aV)(its:List dL)(i j:Nat)(x y:dL)(hx:its[i]?=some x)(hy:its[j]?=some y):eE prog 126 #[iv (i:Nat),iv (j:Nat),.pointer (some ⟨a,0,none⟩)] [pe a (.pointer (some ⟨b,0,none⟩)),pe b eF.1,sl eD eF.1 its,aF (λx:dL=>aG x.gr) its] (iv (xU (cH x).ed (cH y).ed)):=by
 refine eE.MX (args:=[iv (i:Nat),iv (j:Nat),.pointer (some ⟨a,0,none⟩)]) 23 func126 rfl ntmps126 rfl (λc=> ?_);refine go ?_;refine St.ea (aG x.gr) [aF (λx:dL=>aG x.gr) its] (λρ h=>h _ (aQ ..) x (aZ hx)) ?_;refine St.ea (aG y.gr) [aF (λx:dL=>aG x.gr) its] (λρ h=>h _ (aQ ..) y (aZ hy)) ?_
 have e:=ai hx
 have d:=ai hy
 refine g5 ?_;refine St.rq mixed (by kernel_rfl) (Mm.drawn _ _) ?_;refine g7 ?_;refine Sq.ee (Ev.Ea (Rr:=eD) (sz:=4) (.mk rfl) hx Fx trivial zm (by decide) (by decide)) ?_;refine Sq.slot 13 (Gp x.frm x.tqo x.cw x.gr.nv.1) rfl rfl ?_;refine g7 ?_;refine Sq.ee (Ev.Ea (Rr:=eD) (sz:=4) (.mk rfl) hy Fx trivial zm (by decide) (by decide)) ?_;refine Sq.slot 21 (Gp y.frm y.tqo y.cw y.gr.nv.1) rfl rfl ?_;refine Sq.ee (Ev.call (CB x y) ZN (.aX rfl rfl)) ?_;refine g4 ?_;refine St.rV [_] [] ?_;exact ie rfl
structure jr where
 wt:Int
 code:List Int
 tree:jZ
structure jI where
 rk:jr
 fz:Nat
 ranks:List Nat
structure wF where
 done:List jr
 next:List jI
 begun:Bool
def rk0:jr:=⟨0,[],.mk 0 0 []⟩
def Ih:jI:=⟨rk0,0,[]⟩
def nq:wF:=⟨[],[],false⟩
abbrev eC:=List wF
def QR (a b:jr):Int:=sq (lp a.wt b.wt) (kP lp a.code b.code)
def vN (q:List jI)(i j:Nat):Bool:=decide (QR (q.getD i Ih).rk (q.getD j Ih).rk<0)
def xL (q:List jI)(i j:Nat):List jI:=(q.set i (q.getD j Ih)).set j (q.getD i Ih)
def Jr:Nat→List jI→Nat→List jI
 |0,q,_=>q
 |f+1,q,j=>if(j-1)/2=j∨vN q j ((j-1)/2)=false then q else Jr f (xL q ((j-1)/2) j) ((j-1)/2)
def p5 (q:List jI)(i n:Nat):Nat:=if 2*i+2<n∧vN q (2*i+2) (2*i+1)=true then 2*i+2 else 2*i+1
def oE:Nat→List jI→Nat→Nat→List jI
 |0,q,_,_=>q
 |f+1,q,i,n=>if n≤2*i+1 then q else if vN q (p5 q i n) i=false then q else oE f (xL q i (p5 q i n)) (p5 q i n) n
def ti (n:Nat):Nat→List jI→List jI
 |0,q=>q
 |k+1,q=>ti n k (oE n q k n)
def Am (q:List jI)(x:jI):List jI:=Jr (q.length+1) (q++ [x]) q.length
def pC (q:List jI):List jI:=oE (q.length-1) (xL q 0 (q.length-1)) 0 (q.length-1)
structure cr where
 its:List lL
 rules:List Int
 aN:List Int
def wy0:uh:=⟨0,0,[]⟩
def cr.fz (B:cr)(e w:Nat):uh:=(B.its.getD e gh).cW.getD w wy0
def vJ (get:eC→Nat→Nat→eC×Option jr):List (Nat×Nat)→eC→jr→eC×Option jr
 | [],st,c=>(st,some c)
 |(k,r)::l,st,c=>match get st k r with
  |(st,none)=>(st,none)
  |(st,some x)=>vJ get l st ⟨c.wt+x.wt,c.code++x.code,.mk c.tree.rule c.tree.lex (c.tree.kids++ [x.tree])⟩
def n5 (B:cr)(get:eC→Nat→Nat→eC×Option jr)(st:eC)(e w:Nat)(ranks:List Nat):eC×Option jI:=
 if(B.fz e w).rule<0 then(st,some ⟨⟨B.aN.getD (B.fz e w).lex.toNat 0,[1000+(B.fz e w).lex],.mk (B.fz e w).rule (B.fz e w).lex []⟩,w,ranks⟩)
 else match vJ get ((B.fz e w).kids.zip ranks) st ⟨B.rules.getD (B.fz e w).rule.toNat 0,[(B.fz e w).rule],.mk (B.fz e w).rule (B.fz e w).lex []⟩with
  |(st,none)=>(st,none)
  |(st,some x)=>(st,some ⟨x,w,ranks⟩)
def DB (st:eC)(e:Nat)(q:List jI):eC:=st.set e ⟨(st.getD e nq).done,q,(st.getD e nq).begun⟩
def AU (B:cr)(get:eC→Nat→Nat→eC×Option jr)(e:Nat)(st:eC)(w:Nat):eC:=
 match n5 B get st e w (List.replicate (B.fz e w).kids.length 0)with
 |(st,none)=>st
 |(st,some c)=>DB st e ((st.getD e nq).next++ [c])
def yQ (B:cr)(get:eC→Nat→Nat→eC×Option jr)(e:Nat)(st:eC):eC:=
 if(st.getD e nq).begun then st else
  (λst:eC=>DB st e (ti (st.getD e nq).next.length ((st.getD e nq).next.length/2) (st.getD e nq).next))
   ((List.range (B.its.getD e gh).cW.length).foldl (AU B get e) (st.set e ⟨(st.getD e nq).done,(st.getD e nq).next,true⟩))
def An (B:cr)(get:eC→Nat→Nat→eC×Option jr)(e:Nat)(c:jI):Nat→Nat→eC→eC
 |0,_,st=>st
 |m+1,d,st=>
  let st2:=match n5 B get st e c.fz (c.ranks.set d (c.ranks.getD d 0+1))with
   |(st,none)=>st
   |(st,some x)=>DB st e (Am (st.getD e nq).next x)
  if 0<c.ranks.getD d 0 then st2 else An B get e c m (d+1) st2
def LG (st:eC)(e:Nat):eC:=
 st.set e ⟨(st.getD e nq).done++ [((pC (st.getD e nq).next).getD ((st.getD e nq).next.length-1) Ih).rk],(pC (st.getD e nq).next).take ((st.getD e nq).next.length-1),(st.getD e nq).begun⟩
def FB (st:eC)(e:Nat):jI:=(pC (st.getD e nq).next).getD ((st.getD e nq).next.length-1) Ih
def u7 (B:cr)(get:eC→Nat→Nat→eC×Option jr)(e a:Nat):Nat→eC→eC
 |0,st=>st
 |m+1,st=>if(st.getD e nq).done.length≤a∧0<(st.getD e nq).next.length then
  u7 B get e a m (An B get e (FB st e) (FB st e).ranks.length 0 (LG st e))
  else st
def fk (B:cr):Nat→eC→Nat→Nat→eC×Option jr
 |0,st,_,_=>(st,none)
 |f+1,st,e,r=>
  let st2:=u7 B (fk B f) e r (r+1) (yQ B (fk B f) e st)
  (st2,(st2.getD e nq).done[r]?)
def pD (get:eC→Nat→Nat→eC×Option jr)(ranks:List Nat):List Nat→Nat→eC→Option (Nat×jr)→eC×Option (Nat×jr)
 | [],_,st,b=>(st,b)
 |e::l,i,st,b=>match get st e (ranks.getD i 0)with
  |(st,none)=>pD get ranks l (i+1) st b
  |(st,some x)=>pD get ranks l (i+1) st (match b with
   |none=>some (i,x)
   |some y=>if QR x y.2<0 then some (i,x)else some y)
def tP (get:eC→Nat→Nat→eC×Option jr)(full:List Nat):Nat→eC→List Nat→List jZ→List jZ
 |0,_,_,out=>out
 |m+1,st,ranks,out=>match pD get ranks full 0 st none with
  |(_,none)=>out
  |(st,some x)=>tP get full m st (ranks.set x.1 (ranks.getD x.1 0+1)) (out++ [x.2.tree])
def YC (g:fj)(its:List lL):cr:=⟨its,g.rules.map (·.weight),g.aN.map (·.weight)⟩
def lN (g:fj)(words:List bC)(n:Int):List jZ×(Int×Int):=
 if(jO g).1≠0 then([],jO g)else if n<0∨200<n then([],(3,-3))else if(dS g words).2.1≠0 then([],(dS g words).2)
 else(tP (fk (YC g (dS g words).1.1) 60) (dS g words).1.2 n.toNat (List.replicate (dS g words).1.1.length nq) (List.replicate (dS g words).1.2.length 0) [],(0,0))
structure xQ where
 wt:Int
 cv:aV
 code:List Int
 tree:dE
structure ku where
 rk:xQ
 fz:Nat
 rv:aV
 ranks:List Nat
structure jK where
 dv:aV
 done:List xQ
 nv:aV
 next:List ku
 begun:Bool
def rkC (x:xQ):List Value:=[iv x.wt,x.cv.1,iv x.tree.rule,iv x.tree.lex,x.tree.kv.1]
def LJ:Rp xQ:=⟨5,by decide,rkC,λ_=>True,λ_=>rfl,λx u h=>cF rfl (cF x.cv.2 (cF rfl (cF rfl (cF x.tree.kv.2 λ_ h=>by cases h)))) u h⟩
def chC (x:ku):List Value:=[iv x.rk.wt,x.rk.cv.1,iv x.rk.tree.rule,iv x.rk.tree.lex,x.rk.tree.kv.1,iv (x.fz:Nat),x.rv.1]
def jN:Rp ku:=⟨7,by decide,chC,λ_=>True,λ_=>rfl,λx u h=>cF rfl (cF x.rk.cv.2 (cF rfl (cF rfl (cF x.rk.tree.kv.2 (cF rfl (cF x.rv.2 λ_ h=>by cases h)))))) u h⟩
def fL:Rp jK:=⟨3,by decide,λx=>[x.dv.1,x.nv.1,.bool x.begun],λ_=>True,λ_=>rfl,λx u h=>cF x.dv.2 (cF x.nv.2 (cF rfl λ_ h=>by cases h)) u h⟩
abbrev rkL (x:xQ):List du:=[sl aJ x.cv.1 x.code,bx x.tree]
abbrev chL (x:ku):List du:=[sl aJ x.rk.cv.1 x.rk.code,bx x.rk.tree,sl aJ x.rv.1 (bW x.ranks)]
def oK (x:xQ):du:=iP (rkL x)
def hS (x:ku):du:=iP (chL x)
def kK (a b:TypeId)(x:jK):List ak:=[row x.dv.1 a 5 x.done.length (rows LJ x.done),row x.nv.1 b 7 x.next.length (rows jN x.next),aB (aF oK x.done),aB (aF hS x.next)]
def ma (x:xQ):jr:=⟨x.wt,x.code,cx x.tree⟩
def iR (x:ku):jI:=⟨ma x.rk,x.fz,x.ranks⟩
def fm (x:jK):wF:=⟨x.done.map ma,x.next.map iR,x.begun⟩
end Go.Proofs.YtblifkgpebebmaaGreatDoor
