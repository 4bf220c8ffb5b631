/-
  Laws of walks through programs, and facts on grammars, trees and queries.
  Conditions: none.
-/
import Derived.Test.YtblifkgpebebmaaGreatDoorGC5
set_option maxHeartbeats 1000000
set_option maxRecDepth 20000
set_option linter.unusedVariables false
set_option linter.unusedSimpArgs false
namespace Go.Proofs.YtblifkgpebebmaaGreatDoor
open Go Go.J Tryz
theorem S2 {p:Pl}{i:Nat}(h:i<p.ro.length):(ph p)[i]?=some (p.tt i,if p.rt i=i then(p.ll i).map (λl=>(l.1,(p.rt l.2.toNat:Int)))else []):=by
 unfold ph;rw[bP,nc h];rfl
def tlk (p:Pl)(l:kq):kq:=l.map λl=>(l.1,(p.rt l.2.toNat:Int))
theorem H7 (f:Nat)(l m:aV)(pv tv lv:Value)(nt nf n:Nat)(hn:n≤120)(hn0:0<n)(P0:List Nat)(p:Pl)(ls:List CQ)(o:mO nt nf n p)(X:UF P0 p.ro)(Un:ls.map zG=p.lk)(Y:∀q∈ls,∀x∈q.2,aw.wf x)(hlen:∀q∈ls,q.2.length≤1000000)(hnt:nt≤1000000)(r:Nat)(hr:r<n):dz prog 130 #[.pointer (some ⟨f,0,none⟩),iv r] [aW f (.cells [l.1,m.1,pv,tv,lv].toArray 245 (0,0)),row pv 3 1 p.ro.length (rows aJ (cX (P0))),row tv 3 1 p.ty.length (rows aJ p.ty),row lv 161 1 ls.length (rows bT (ls.map Prod.fst)),aB (aF pk ls)] (λv H'=>H'=[aB (bL (gj (ph p) (p.rt r)) v)]):=by
 refine dz.body (args:=[.pointer (some ⟨f,0,none⟩),iv r]) 68 func130 rfl ntmps130 rfl (λc=> ?_);refine go ?_
 have Z:=o.lr
 have hTl:=o.lt
 have V:=o.ll
 have hll:ls.length=n:=by rw[←V,←Un,aO]
 refine go ?_;refine St.al (λW=> ?_);refine g4 ?_;refine St.al (λb5=> ?_);refine g14 ?_;refine St.dw 163 2 ?_;refine St.aM (.slice none 0 0) (show _=([]:List dh).length from rfl) (show _=rows bh []from rfl) ?_;refine St.dN cA ?_;refine St.tn (ι:=Nat) (κ:=Value×List dh×List Nat) (λk z T=>(15,iv k)::T) (λk z=>[aW b5 (.cells [z.1].toArray 30 (0,0)),row z.1 163 2 (z.2.1).length (rows bh (z.2.1)),aW W (.cells [(.slice none 0 0)].toArray 30 (0,0)),aW f (.cells [l.1,m.1,pv,tv,lv].toArray 245 (0,0)),row pv 3 1 p.ro.length (rows aJ (cX (z.2.2))),row tv 3 1 p.ty.length (rows aJ p.ty),row lv 161 1 ls.length (rows bT (ls.map Prod.fst)),aB (aF pk ls),aB (aF cA z.2.1)]) (λk z=>k≤n∧z.1.oneCell'=true∧z.2.1.map mD=(ph p).take k∧z.2.1.length=k∧UF z.2.2 p.ro∧(∀x∈z.2.1,bh.wf x)∧∀x∈z.2.1,x.aq.length≤1000000) (λk z=>n-k) 0 ((.slice none 0 0),[],P0) (aD.cons 0 rfl (aD.cons 1 rfl (aD.cons 4 rfl (aD.cons 5 rfl (aD.cons 14 rfl aD.nil))))) ⟨aP _,rfl,rfl,rfl,X,λx hx=>(by cases hx),λx hx=>(by cases hx)⟩ ?_;rintro k ⟨gv,N,P1⟩ ⟨hk,a,s,H,I,A,C⟩
 dsimp only at a s H I A C⊢
 obtain⟨rk,B,J⟩:=I;refine g6 ?_;refine St.cq (λh16=> ?_) (λh16=> ?_)
 ·have Nf:k<n:=by omega
  have hkt:=o.tt Nf
  have SO:aZ (p.tt k):=by unfold aZ;omega
  refine g18 ?_;refine St.ee (Ev.cu (.mk rfl) gV trivial (by omega) (gP (Ps (by omega)))) ?_;refine St.ee (Ev.build (bF.au rfl) (λw=>EG rfl w)) ?_;refine St.al (λb7=> ?_);refine g3 ?_;refine St.join (ι:=aV×List dx×List Nat) (λ⟨b,L,g⟩ T=>T) (λ⟨b,L,g⟩=>[aW b7 (.cells [iv (p.tt k),b.1].toArray 163 (0,0)),aW b5 (.cells [gv].toArray 30 (0,0)),row gv 163 2 (N).length (rows bh (N)),aW W (.cells [(.slice none 0 0)].toArray 30 (0,0)),aW f (.cells [l.1,m.1,pv,tv,lv].toArray 245 (0,0)),row pv 3 1 p.ro.length (rows aJ (cX (g))),row tv 3 1 p.ty.length (rows aJ p.ty),row lv 161 1 ls.length (rows bT (ls.map Prod.fst)),aB (aF pk ls),aB (aF cA N),aB (sl aw b.1 L)]) (λ⟨b,L,g⟩=>UF g p.ro∧L.map fS=(if p.rt k=k then tlk p (p.ll k)else [])∧L.length≤1000000) (aD.cons 0 rfl (aD.cons 1 rfl (aD.cons 4 rfl (aD.cons 5 rfl (aD.cons 7 rfl (aD.cons 14 rfl (aD.cons 15 rfl aD.nil))))))) ?_ ?_
  ·refine g4 ?_
   refine St.call (find_spec f l m pv tv lv rk B p.ro (by omega) P1 J k (by omega)) EH (.aX rfl rfl) rfl ?_;rintro v28 _ ⟨P3,rfl,K,rfl⟩;refine St.dQ ?_;refine g4 ?_;refine St.cq (λh30=> ?_) (λh30=> ?_)
   ·have GN:p.rt k=k:=(show p.ro.getD k 0=k by omega)
    obtain⟨q,D⟩:=aE (show k<ls.length by omega)
    have hqm:=ae D
    have M:p.ll k=q.2.map fS:=HU Un D
    have hqL:=hlen q hqm
    refine St.cK pk ls (x:=q) hqm ?_;refine St.eZ (sl aw q.1.1 q.2) [pk q] (λρ h=>h _ (aQ ..)) ?_;refine g8 ?_;refine St.ee (Ev.cu (.mk rfl) eV trivial (by omega) (r7 (show(ls.map Prod.fst)[k]?=some q.1 by rw[bP,D];rfl))) ?_;refine g5 ?_;refine St.dw 165 2 ?_;refine St.aM (.slice none 0 0) (show _=([]:List dx).length from rfl) (show _=rows aw []from rfl) ?_;refine St.tn (ι:=Nat) (κ:=Value×List dx×List Nat) (λj z T=>(39,iv j)::T) (λj z=>[aW b7 (.cells [iv (p.tt k),z.1].toArray 163 (0,0)),row z.1 165 2 (z.2.1).length (rows aw (z.2.1)),aW b5 (.cells [gv].toArray 30 (0,0)),row gv 163 2 (N).length (rows bh (N)),aW W (.cells [(.slice none 0 0)].toArray 30 (0,0)),aW f (.cells [l.1,m.1,pv,tv,lv].toArray 245 (0,0)),row pv 3 1 p.ro.length (rows aJ (cX (z.2.2))),row tv 3 1 p.ty.length (rows aJ p.ty),row lv 161 1 ls.length (rows bT (ls.map Prod.fst)),aB (aF pk ls),aB (aF cA N),aB (sl aw q.1.1 q.2)]) (λj z=>j≤q.2.length∧z.1.oneCell'=true∧UF z.2.2 p.ro∧z.2.1.map fS=tlk p ((q.2.take j).map fS)∧z.2.1.length=j∧∀x∈z.2.1,aw.wf x) (λj z=>q.2.length-j) 0 ((.slice none 0 0),[],P3) (aD.cons 0 rfl (aD.cons 1 rfl (aD.cons 4 rfl (aD.cons 5 rfl (aD.cons 7 rfl (aD.cons 14 rfl (aD.cons 15 rfl (aD.cons 37 rfl (aD.cons 38 rfl aD.nil))))))))) ⟨aP _,rfl,⟨rk,B,K⟩,rfl,rfl,λx hx=>(by cases hx)⟩ ?_;rintro j ⟨lw,L,g⟩ ⟨hj,O,t,G,V,E⟩
    dsimp only at O t G V E⊢
    obtain⟨F,B2,P⟩:=t;refine g6 ?_;refine St.cq (λh40=> ?_) (λh40=> ?_)
    ·obtain⟨x,hx⟩:=aE (show j<q.2.length by omega)
     obtain⟨_,HM,hx1⟩:=o.Qg _ (o.lm Nf) (fS x) (by rw[M];exact eP (ae hx))
     replace HM:0≤x.tqo:=HM
     replace hx1:x.tqo<n:=hx1
     obtain⟨d,Sa⟩:∃d,d=x.tqo.toNat:=⟨_,rfl⟩
     have Sc:x.tqo=(d:Int):=by omega
     have hrx:p.ro.getD d 0<n:=o.AK d (by omega)
     refine g7 ?_;refine St.ee (Ev.jq (.mk rfl) hx lE trivial dm j5.eq) ?_;refine St.al (λb9=> ?_);refine g3 ?_;refine St.dc [aW b7 (.cells [iv (p.tt k),lw].toArray 163 (0,0)),row lw 165 2 (L).length (rows aw (L)),aW f (.cells [l.1,m.1,pv,tv,lv].toArray 245 (0,0)),row pv 3 1 p.ro.length (rows aJ (cX (g)))] mixed (λnp ns=> ?_)
     repeat' first
      |with_reducible refine SW.me ?_
       first
        |refine SW.gd 0 ?_
        |refine SW.gd 2 ?_
        |refine SW.gd 3 ?_
        |refine SW.gd 4 ?_
        |refine SW.gd 5 ?_
        |refine SW.gd 6 ?_
         refine SW.slot 49 (iv (d:Nat)) rfl (congrArg iv Sc) ?_
        |refine SW.dd 8 rfl (λ_=>Ev.build (ps:=[(0,(.tmp 46)),(1,(.tmp 50))]) (bF.aX rfl rfl) (λw=>ox rfl rfl w)) ?_
        |refine SW.gd 11 ?_
        |refine SW.t2 1 7 ?_ ?_
        |refine SW.t1 7 ?_
        |refine SW.t1 9 ?_
        |refine SW.t1 10 ?_
        |refine SW.t1 12 ?_
        |refine SW.t2 1 9 ?_ ?_
        |refine SW.t1 1 ?_
      |with_reducible refine SW.tg 1 ?_
       refine g3 ?_;refine SW.go ?_
      |with_reducible refine SW.tg 7 ?_
       refine St.call (find_spec f l m pv tv lv F B2 p.ro (by omega) g P d (by omega)) EH (.aX rfl rfl) rfl ?_;rintro v50 _ ⟨P4,rfl,Q,rfl⟩;refine St.dQ ?_;refine g2 ?_;refine SW.go ?_
      |with_reducible refine SW.tg 9 ?_
       refine St.gX rfl (.au rfl) eV dm kI rfl rfl (by simp[Value.cells]) rfl rfl (λb52=> ?_);refine g2 ?_;refine SW.go ?_
      |with_reducible refine SW.tg 10 ?_
       refine St.aj (.mk rfl) (.mk rfl) eV dm kI qD (by simp[Value.oneCell',Value.cells]) (by omega) (by omega) rfl rfl rfl rfl (λv53 an0=> ?_);refine St.aM v53 (show _=(L++ [(⟨x.dF,(p.ro.getD d 0:Nat)⟩:dx)]).length from cS) (show _=rows aw (L++ [(⟨x.dF,(p.ro.getD d 0:Nat)⟩:dx)]) by rw[bB];rfl) ?_;refine St.bZ v53 (λR _=> ?_);refine g2 ?_;refine SW.go ?_
      |with_reducible refine SW.tg 12 ?_
       refine St.cH (.mk rfl) (.mk rfl) pY R (by rfl) ?_;refine g2 ?_;refine SW.go ?_
     all_goals refine SW.dn ?_
     all_goals
      refine g7 ?_;refine St.uk (j+1) (v53,L++ [⟨x.dF,(p.ro.getD d 0:Nat)⟩],P4) ⟨by omega,R,⟨F,B2,Q⟩,by dsimp only;rw[cP,G,aa hx,cP];unfold tlk;rw[cP];congr 1;show [(x.dF,((p.ro.getD d 0:Nat):Int))]=[(x.dF,((p.rt x.tqo.toNat:Nat):Int))];rw[←Sa];rfl,by dsimp only;rw[bQ,V];rfl,λy hy=>by rcases cD.1 hy with h|h;exact E y h;rw[bO.1 h];exact⟨(Y q hqm x (ae hx)).1,by show aZ ((p.ro.getD d 0:Nat):Int);unfold aZ;omega⟩⟩
    ·obtain rfl:j=q.2.length:=by omega
     rw[fF (aR _)]at G;refine St.bS lw aw L rfl rfl E ?_;refine g5 ?_;refine St.mE ⟨⟨lw,O⟩,L,g⟩ ⟨⟨F,B2,P⟩,by rw[aC GN,M];exact G,by dsimp only;omega⟩
   ·have GN:p.rt k≠k:=λe=>by have e2:p.ro.getD k 0=k:=e;omega
    refine g2 ?_;refine St.fm aw ?_;refine St.mE ⟨bR,[],P3⟩ ⟨⟨rk,B,K⟩,by rw[aA GN];rfl,aP _⟩
  ·rintro ⟨b,L,g⟩ ⟨t,G,aiK⟩
   refine g4 ?_;refine St.slot 58 (.agg #[iv (p.tt k),b.1]) rfl rfl ?_;refine St.gX rfl (.au rfl) oa jQ GL rfl rfl (by simp[Value.cells]) rfl rfl (λb59=> ?_);refine St.aj (.mk rfl) (.mk rfl) oa jQ GL Mg (by intro u hu;have SV:u∈[iv (p.tt k),b.1]:=hu;simp only[List.mem_cons,List.not_mem_nil,or_false]at SV;rcases SV with rfl|rfl;rfl;exact b.2) (by omega) (by omega) rfl rfl rfl rfl (λv60 an3=> ?_);refine St.aM v60 (show _=(N++ [(⟨p.tt k,b,L⟩:dh)]).length from cS) (show _=rows bh (N++ [(⟨p.tt k,b,L⟩:dh)]) by rw[bB];rfl) ?_;refine St.bZ v60 (λS _=> ?_);refine St.eZ (aF cA (N++ [(⟨p.tt k,b,L⟩:dh)])) [aF cA N,sl aw b.1 L] (λρ h x hx=>by rcases cD.1 hx with hx|hx;exact h _ (aQ ..) x hx;rw[bO.1 hx];exact h _ (cO _ (aQ ..))) ?_;refine go ?_;refine St.cH (.mk rfl) (.mk rfl) afF S (by rfl) ?_;refine g8 ?_;refine St.uk (k+1) (v60,N++ [⟨p.tt k,b,L⟩],g) ⟨by omega,S,by dsimp only;rw[cP,s,aa (S2 (p:=p) (i:=k) (by omega))];congr 1;show [(p.tt k,L.map fS)]=_;rw[G];rfl,by dsimp only;rw[bQ,H];rfl,t,λx hx=>by rcases cD.1 hx with h|h;exact A x h;rw[bO.1 h];exact SO,λx hx=>by rcases cD.1 hx with h|h;exact C x h;rw[bO.1 h];exact aiK⟩
 ·obtain rfl:k=n:=by omega
  have hgl:(ph p).length=k:=by rw[th];exact Z
  rw[fF (by omega)]at s
  have HE:=NO o (by omega)
  have Wn:=o.AK r hr
  refine St.bS gv bh N rfl rfl A ?_;refine St.eZ (aG ⟨⟨gv,a⟩,N⟩) [sl bh gv N,aF cA N] (λρ h=>h) ?_
  have U:ay ⟨⟨gv,a⟩,N⟩=ph p:=s
  refine g6 ?_;refine St.dc [aW f (.cells [l.1,m.1,pv,tv,lv].toArray 245 (0,0)),row pv 3 1 p.ro.length (rows aJ (cX (P1))),aW W (.cells [(.slice none 0 0)].toArray 30 (0,0)),aB (aG ⟨⟨gv,a⟩,N⟩)] mixed (λnp ns=> ?_);refine SW.gd 0 ?_;refine SW.slot 63 (bA ⟨⟨gv,a⟩,N⟩) rfl rfl ?_;refine SW.gd 1 ?_;refine SW.gd 2 ?_;refine SW.t1 3 ?_;refine St.call (find_spec f l m pv tv lv rk B p.ro (by omega) P1 J r (by omega)) EH (.aX rfl rfl) rfl ?_;rintro v66 _ ⟨P4,rfl,Q,rfl⟩;refine St.dQ ?_;refine g2 ?_;refine SW.go ?_;refine SW.t1 4 ?_;refine St.ag (uh ⟨⟨gv,a⟩,N⟩ (by rw[U];exact HE.lk) (by show N.length≤120;omega) C (p.ro.getD r 0) (show p.rt r<N.length by omega)) Mo (.aX rfl rfl) rfl ?_;rintro v67 _ rfl;refine St.ao ?_;rw[U];refine St.bL (gj (ph p) (p.ro.getD r 0)) v67 (λy hy=> ?_);obtain⟨rfl,YY⟩:=hy;refine g2 ?_;refine SW.go ?_;refine SW.t1 5 ?_;refine g3 ?_;refine SW.go ?_;refine SW.dn ?_;refine g2 ?_;refine St.rV [_] [aB (bL (gj (ph p) (p.ro.getD r 0)) (bA y))] ?_;exact rfl
theorem mO.short {nt nf n:Nat}{p:Pl}(hp:mO nt nf n p){l:kq}(c:l∈p.lk):l.length≤nf:=by
 have d:=hp.YI l c
 have hk:=hp.Qg l c
 have e:(l.map λz=>z.1.toNat).Nodup:=by
  unfold List.Nodup;rw[sD];exact wi (λ{a b} h1 f h=>by have:=(hk a h1).1;have:=(hk b f).1;omega) d
 have:=kh e (n:=nf) (λj g=>by obtain⟨z,hz,rfl⟩:=cz.1 g;have:=(hk z hz).1;omega)
 rwa[aO]at this
theorem aeJ {x y:e8}{a b:List CQ}{m:Nat}(hm:x.length=m)(h1:a.map zG=([]:List CQ).map zG++x.map (λn=>n.2.map λx=>(x.1,((0:Nat):Int)+x.2)))(c:b.map zG=a.map zG++y.map (λn=>n.2.map λx=>(x.1,(m:Int)+x.2))):b.map zG=(Pl.of x y).lk:=by
 rw[c,h1,←hm]
 show([]++x.map _)++_=x.map (·.2)++_
 rw[AF]
 congr 1
 refine CF λn _=> ?_
 conv=>rhs;rw[←List.map_id n.2]
 exact CF λz _=>by simp
theorem aeH {nt nf n:Nat}{p:Pl}(hp:mO nt nf n p)(e:nf≤100)(f:n≤240){ls:List CQ}(h:ls.map zG=p.lk):∀q∈ls,∀x∈q.2,aw.wf x:=λq d x hx=>by
 have hm:zG q∈p.lk:=by rw[←h];exact eP d
 obtain⟨⟨h1,a⟩,b,c⟩:=hp.Qg _ hm (fS x) (eP hx)
 have h1:0≤x.dF:=h1
 have a:x.dF<nf:=a
 have b:0≤x.tqo:=b
 have c:x.tqo<n:=c
 exact⟨by unfold aZ;omega,by unfold aZ;omega⟩
theorem PO {nt nf n:Nat}{p:Pl}(hp:mO nt nf n p)(b:nf≤100){ls:List CQ}(h:ls.map zG=p.lk):∀q∈ls,q.2.length≤1000000:=λq a=>by
 have hm:zG q∈p.lk:=by rw[←h];exact eP a
 have:=hp.short hm
 have e:(zG q).length=q.2.length:=aO _
 omega
theorem aeL (x y:e8):(Pl.of x y).ro=List.range (x.length+y.length):=rfl
theorem aeK {nt nf:Nat}{x y:e8}(hx:e9 nt nf x)(hy:e9 nt nf y)(h1:x.length≤60)(c:y.length≤60)(o:nf≤100)(w:List (Int×Int))(hw:w.length≤10):(Pl.of x y).mu w≤1000000:=by
 have hp:=Pl.OX hx hy
 have e:∀i,i<x.length+y.length→((Pl.of x y).ll i).length≤100:=λi d=>by
  have f:=hp.YI _ (hp.lm d)
  have hk:=hp.Qg _ (hp.lm d)
  have:((Pl.of x y).ll i).length≤nf:=by
   have g:(((Pl.of x y).ll i).map λz=>z.1.toNat).Nodup:=by
    unfold List.Nodup;rw[sD];exact wi (λ{a b} h1 c h=>by have:=(hk a h1).1;have:=(hk b c).1;omega) f
   have:=kh g (n:=nf) (λj k=>by obtain⟨z,hz,rfl⟩:=cz.1 k;have:=(hk z hz).1;omega)
   rwa[aO]at this
  omega
 have l:∀n,n≤x.length+y.length→fw (λi=>if(Pl.of x y).rt i=i then((Pl.of x y).ll i).length else 0) n≤n*100:=by
  intro n
  induction n with
  |zero=>intro _;exact aP _
  |succ n m=>
   intro h
   have:=m (by omega)
   have:=e n (by omega)
   rw[fw]
   split<;>omega
 have:=l _ (aR _)
 unfold Pl.mu Pl.left;rw[hp.lr];omega
theorem qm (d e:aV)(T:List ek)(Q:im T)(nf:Nat)(A:nf≤100)(a b:dD)(B:e9 T.length nf (ay a))(x:e9 T.length nf (ay b))(hla:a.nodes.length≤60)(W:b.nodes.length≤60)(C:∀t∈a.nodes,t.aq.length≤1000000)(D:∀t∈b.nodes,t.aq.length≤1000000)(node:Nat)(Kt:node<a.nodes.length):dz prog 92 #[kB d e,bA a,iv node,bA b] ([sl bH d.1 (dg T),sl bH e.1 (de T),tz,aG a,aG b].map aB) (λv H'=>∃u,v= .tuple #[u,.bool (dU (gz T) (ay a) node (ay b)).isSome]∧H'=[aB (bL ((dU (gz T) (ay a) node (ay b)).getD []) u)]):=by
 refine dz.body (args:=[kB d e,bA a,iv node,bA b]) 27 func92 rfl ntmps92 rfl (λc=> ?_);refine St.cast (H':=[aB (sl bH d.1 (dg T)),aB (sl bH e.1 (de T)),aB (tz),aB (aG a),aB (aG b)]) rfl ?_;refine go ?_
 have f:=dA a
 have j:=dA b
 have hTl:=Q.len
 have k:=Pl.OX B x
 have E:=aeK B x (by omega) (by omega) A [((node:Int),((ay a).length:Int))] (by simp)
 refine go ?_;refine St.dJ (.mk rfl) rfl (λb4=> ?_);refine St.dJ (.mk rfl) rfl (λb5=> ?_);refine St.dJ (.mk rfl) rfl (λb7=> ?_);refine St.al (λb8=> ?_);refine g6 ?_;refine St.slot 11 (kB d e) rfl rfl ?_;refine St.ee (Ev.build (bF.au rfl) (λw=>Mb w)) ?_;refine St.dJ (.mk rfl) rfl (λz=> ?_);refine g4 ?_;refine St.dw 3 1 ?_;refine St.aM (.slice none 0 0) (show _=(List.range 0).length from rfl) (show _=rows aJ (cX (List.range 0))from rfl) ?_;refine St.dw 161 1 ?_;refine St.aM (.slice none 0 0) (show _=([]:List CQ).length from rfl) (show _=rows bT (([]:List CQ).map Prod.fst)from rfl) ?_;refine St.dw 3 1 ?_;refine St.aM (.slice none 0 0) (show _=([]:List Int).length from rfl) (show _=rows aJ []from rfl) ?_;refine St.dN pk ?_;refine g3 ?_;refine St.slot 15 (bA a) rfl rfl ?_;refine St.call (uG z d e a B.lk (by omega) C 0 (by omega) [] rfl [] rfl (.slice none 0 0) (.slice none 0 0) (.slice none 0 0) ⟨rfl,rfl,rfl⟩) UN (.aX rfl rfl) rfl ?_;rintro X _ ⟨pv,tv,lv,l,rfl,⟨h1,Y,Z⟩,m,rfl⟩;refine St.Ca ?_;refine g9 ?_;refine St.slot 20 (bA b) rfl rfl ?_
 have F:l.length=a.nodes.length:=by have:=congrArg List.length m;simpa[f]using this
 refine St.aM pv (show _=(List.range a.nodes.length).length by rw[hP]) (show _=rows aJ (cX (List.range a.nodes.length)) by rw[hP]) ?_;refine St.aM tv (show _=(a.nodes.map dh.type).length from rfl) (show _=rows aJ (a.nodes.map dh.type)from rfl) ?_;refine St.call (uG z d e b x.lk (by omega) D a.nodes.length (by omega) (a.nodes.map dh.type) (aO _) l F pv tv lv ⟨h1,Y,Z⟩) UN (.aX rfl rfl) rfl ?_;rintro v21 _ ⟨g,i,n,o,rfl,G,H,rfl⟩;refine St.Ca ?_
 have q:(Pl.of (ay a) (ay b)).ro=List.range (a.nodes.length+b.nodes.length):=by rw[aeL,f,j]
 have R:(Pl.of (ay a) (ay b)).ty=a.nodes.map dh.type++b.nodes.map dh.type:=by show(ay a).map Prod.fst++(ay b).map Prod.fst=_;show(a.nodes.map mD).map Prod.fst++(b.nodes.map mD).map Prod.fst=_;rw[kG,kG];rfl
 have S:o.map zG=(Pl.of (ay a) (ay b)).lk:=aeJ f m H
 have I:=aeH k A (by omega) S
 refine St.aM g (show _=(Pl.of (ay a) (ay b)).ro.length by rw[q]) (show _=rows aJ (cX (List.range (a.nodes.length+b.nodes.length)))from rfl) ?_;refine St.aM i (show _=(Pl.of (ay a) (ay b)).ty.length by rw[R]) (show _=rows aJ (Pl.of (ay a) (ay b)).ty by rw[R]) ?_;refine St.call (LA z d e g i n G T Q nf (a.nodes.length+b.nodes.length) 1000000 (by omega) (aR _) (List.range (a.nodes.length+b.nodes.length)) (Pl.of (ay a) (ay b)) o node (a.nodes.length:Nat) ⟨by omega,by omega⟩ ⟨by omega,by have:=x.pos;omega⟩ (by rw[←f,←j];exact k) (by rw[q];exact UF.range _) S I (by rw[←f];exact E)) ZW (.ej rfl rfl rfl) rfl ?_;rintro v22 _ ⟨U,P1,p,J,rfl,Wf,K,rfl⟩;refine St.Ca ?_;refine g3 ?_;refine St.cond _ rfl (λL=> ?_) (λL=> ?_)
 ·skip
  have M:U=false:=by simpa using L
  have N:=Wf M
  have r:dU (gz T) (ay a) node (ay b)=none:=by unfold dU;rw[f];rw[N];rfl
  refine g2 ?_;refine St.ee (Ev.build (bF.nil) (λw=>Vo w)) ?_;refine g6 ?_;refine St.fm bh ?_;refine St.dN cA ?_;refine St.eZ (bL ((dU (gz T) (ay a) node (ay b)).getD []) (.agg #[(.slice none 0 0)])) [sl bh (.slice none 0 0) [],aF cA []] (λρ h=>⟨⟨bR,[]⟩,rfl,by rw[r];rfl,h⟩) ?_;refine St.rV [_,_] [aB (bL ((dU (gz T) (ay a) node (ay b)).getD []) (.agg #[(.slice none 0 0)]))] ?_;exact⟨_,by rw[r];rfl,rfl⟩
 ·skip
  have GN:U=true:=by simpa using L
  obtain⟨N,V,O,s,P⟩:=K GN
  have r:dU (gz T) (ay a) node (ay b)=some (gj (ph p) (p.rt 0)):=by unfold dU;rw[f,N];rfl
  refine g5 ?_;refine St.call (H7 z d e g i n T.length nf (a.nodes.length+b.nodes.length) (by omega) (by omega) P1 p J V O s P (PO V A s) (by omega) 0 (by omega)) ZX (.aX rfl rfl) rfl ?_;rintro v26 _ rfl;refine St.ao ?_;refine St.bL (gj (ph p) (p.rt 0)) v26 (λy hy=> ?_);obtain⟨rfl,YY⟩:=hy;refine g5 ?_;refine St.eZ (bL ((dU (gz T) (ay a) node (ay b)).getD []) (bA y)) [bL (gj (ph p) (p.rt 0)) (bA y)] (λρ h=>by rw[r];exact h _ (aQ ..)) ?_;refine St.rV [_,_] [aB (bL ((dU (gz T) (ay a) node (ay b)).getD []) (bA y))] ?_;exact⟨_,by rw[r];rfl,rfl⟩
theorem gK {nt nf:Nat}{g:dD}(h:e9 nt nf (ay g))(m:nf≤100):∀t∈g.nodes,Asc t.aq∧t.aq.length≤100:=λt ht=>by
 obtain⟨_,c,hk⟩:=h.nd (mD t) (eP ht)
 have c:sG (t.aq.map fS):=c
 have hk:∀x∈t.aq.map fS,(0≤x.1∧x.1<nf)∧0≤x.2∧x.2<(ay g).length:=hk
 refine⟨λi j x y e hx hy=> ?_,?_⟩
 ·have d:=ah hy
  have f:=ah hx
  have:=List.pairwise_iff_getElem.1 c i j (by simpa using f) (by simpa using d) e
  rw[List.getElem_map,List.getElem_map]at this;rw[bU f]at hx;rw[bU d]at hy;obtain rfl:=Option.some.inj hx;obtain rfl:=Option.some.inj hy;exact this
 ·have k:((t.aq.map fS).map λz=>z.1.toNat).Nodup:=by
   unfold List.Nodup;rw[sD];exact wi (λ{a b} h1 l h=>by have:=(hk a h1).1;have:=(hk b l).1;omega) c
  have:=kh k (n:=nf) (λj d=>by obtain⟨z,hz,rfl⟩:=cz.1 d;have:=(hk z hz).1;omega)
  rw[aO,aO]at this;omega
theorem zx (G:e8)(k:Int):Fz G 0 k=rS G k:=rfl
theorem Xr {mt:Nat→Nat→Option Nat}{x y:e8}{a:Int}{n:Nat}(b:(rS x a).toNat=n){z:e8}(hz:z=(dU mt x n y).getD []):((dU mt x n y).isSome&&decide ((z.length:Int)≤60))=(nE mt x a y).isSome∧∀w,nE mt x a y=some w→z=w:=by
 subst b;unfold nE
 cases h:dU mt x (rS x a).toNat y with
 |none=>rw[h]at hz;exact⟨rfl,λw hw=>by cases hw⟩
 |some u=>
  rw[h]at hz;obtain rfl:z=u:=hz
  dsimp only
  by_cases c:z.length≤60
  ·rw[aC c];exact⟨by simp;omega,λw hw=>Option.some.inj hw⟩
  ·rw[aA c];exact⟨by simp;omega,λw hw=>by cases hw⟩
theorem py (x:dD)(nt nf:Nat)(d:nf≤100)(hx:e9 nt nf (ay x))(e:x.nodes.length≤120)(h:0≤rS (ay x) 0):dz prog 118 #[bA x] ([aG x].map aB) (λv H'=>H'=[aB (bL (mC (ay x)) v)]):=by
 refine dz.body (args:=[bA x]) 7 func118 rfl ntmps118 rfl (λc=> ?_);refine St.cast (H':=[aB (aG x)]) rfl ?_;refine go ?_
 have i:=dA x
 have a:=gK hx d
 have j:=hx.pos
 have k:=zw hx 0
 obtain⟨r,f⟩:∃r,r=(rS (ay x) 0).toNat:=⟨_,rfl⟩
 refine go ?_;refine St.dJ (.mk rfl) rfl (λl=> ?_);refine St.al (λg=> ?_);refine g3 ?_;refine St.dup (aG x) ?_;refine St.dc [aW g (.cells [(.slice none 0 0)].toArray 30 (0,0)),aB (aG x)] mixed (λm o=> ?_);refine SW.gd 0 ?_;refine SW.slot 3 (bA x) rfl rfl ?_;refine SW.gd 1 ?_;refine SW.slot 4 (bA x) rfl rfl ?_;refine SW.dd 2 rfl (λ_=>Ev.call (nH x 0 0 (by omega) (λn b=>⟨(a n b).1,by have:=(a n b).2;omega⟩)) Il (.ej rfl rfl rfl)) ?_;refine SW.slot 5 (iv (r:Nat)) rfl (congrArg iv (by rw[zx];omega)) ?_;refine SW.t1 3 ?_;refine St.ag (uh x hx.lk e (λt ht=>by have:=(a t ht).2;omega) r (by omega)) Mo (.aX rfl rfl) rfl ?_;rintro v6 _ rfl;refine St.ao ?_;rw[show gj (ay x) r=mC (ay x) by unfold mC;rw[←f]];refine St.bL (mC (ay x)) v6 (λy hy=> ?_);obtain⟨rfl,p⟩:=hy;refine g2 ?_;refine SW.go ?_;refine SW.t1 4 ?_;refine g3 ?_;refine SW.go ?_;refine SW.dn ?_;refine g2 ?_;refine St.rV [_] [aB (bL (mC (ay x)) (bA y))] ?_;exact rfl
theorem qq (b d:aV)(T:List ek)(p:im T)(nf:Nat)(l:nf≤100)(x y:dD)(e:Int)(hx:e9 T.length nf (ay x))(hy:e9 T.length nf (ay y))(q:x.nodes.length≤60)(s:y.nodes.length≤60)(G:0≤rS (ay x) e):dz prog 124 #[kB b d,bA x,iv e,bA y] ([sl bH b.1 (dg T),sl bH d.1 (de T),tz,aG x,aG y].map aB) (λv H'=>∃u z,v= .tuple #[u,.bool (nE (gz T) (ay x) e (ay y)).isSome]∧(∀w,nE (gz T) (ay x) e (ay y)=some w→z=w)∧H'=[aB (bL z u)]):=by
 refine dz.body (args:=[kB b d,bA x,iv e,bA y]) 30 func124 rfl ntmps124 rfl (λc=> ?_);refine St.cast (H':=[aB (sl bH b.1 (dg T)),aB (sl bH d.1 (de T)),aB (tz),aB (aG x),aB (aG y)]) rfl ?_;refine go ?_
 have H:=dA x
 have a:=gK hx l
 have g:=gK hy l
 have I:=hx.pos
 have J:=zw hx e
 obtain⟨r,B⟩:∃r,r=(rS (ay x) e).toNat:=⟨_,rfl⟩
 refine go ?_;refine St.dJ (.mk rfl) rfl (λK=> ?_);refine St.dJ (.mk rfl) rfl (λL=> ?_);refine St.dJ (.mk rfl) rfl (λM=> ?_);refine St.al (λC=> ?_);refine g4 ?_;refine St.dup (aG x) ?_;refine St.dc [aB (sl bH b.1 (dg T)),aB (sl bH d.1 (de T)),aB tz,aB (aG x),aB (aG y)] mixed (λi j=> ?_);refine SW.gd 0 ?_;refine SW.slot 13 (kB b d) rfl rfl ?_;refine SW.gd 1 ?_;refine SW.slot 14 (bA x) rfl rfl ?_;refine SW.gd 2 ?_;refine SW.slot 15 (bA x) rfl rfl ?_;refine SW.gd 3 ?_;refine SW.dd 4 rfl (λ_=>Ev.call (nH x 0 e (by omega) (λn A=>⟨(a n A).1,by have:=(a n A).2;omega⟩)) Il (.ej rfl rfl rfl)) ?_;refine SW.slot 17 (iv (r:Nat)) rfl (congrArg iv (by rw[zx];omega)) ?_;refine SW.gd 5 ?_;refine SW.slot 18 (bA y) rfl rfl ?_;refine SW.t2 6 10 ?_ ?_
 focus
  refine St.ag (qm b d T p nf l x y hx hy q s (λt ht=>by have:=(a t ht).2;omega) (λt ht=>by have:=(g t ht).2;omega) r (by omega)) RH (.gU rfl rfl rfl rfl) rfl ?_;rintro m _ ⟨u,rfl,rfl⟩;refine St.ao ?_;refine St.bL ((dU (gz T) (ay x) r (ay y)).getD []) u (λz hz=> ?_);obtain⟨rfl,k⟩:=hz;refine g2 ?_;refine SW.go ?_;refine SW.gd 7 ?_;refine SW.gd 8 ?_;refine SW.gd 9 ?_;refine SW.t1 10 ?_;refine St.al (λD=> ?_);refine g2 ?_;refine SW.go ?_;refine SW.t1 11 ?_;refine g3 ?_;refine SW.go ?_;refine SW.gd 12 ?_;refine SW.dn ?_
 rotate_left
 focus
  refine St.al (λD=> ?_);refine g2 ?_;refine SW.go ?_;refine SW.t1 6 ?_;refine St.ag (qm b d T p nf l x y hx hy q s (λt ht=>by have:=(a t ht).2;omega) (λt ht=>by have:=(g t ht).2;omega) r (by omega)) RH (.gU rfl rfl rfl rfl) rfl ?_;rintro m _ ⟨u,rfl,rfl⟩;refine St.ao ?_;refine St.bL ((dU (gz T) (ay x) r (ay y)).getD []) u (λz hz=> ?_);obtain⟨rfl,k⟩:=hz;refine g2 ?_;refine SW.go ?_;refine SW.gd 7 ?_;refine SW.gd 8 ?_;refine SW.gd 9 ?_;refine SW.t1 11 ?_;refine g3 ?_;refine SW.go ?_;refine SW.gd 12 ?_;refine SW.dn ?_
 all_goals
  refine g2 ?_;refine St.eZ (sl bh z.nv.1 z.nodes) [aG z] (λρ h=>h (aG z) (aQ ..) _ (aQ ..)) ?_;obtain⟨E,F⟩:=Xr (mt:=gz T) (y:=ay y) B.symm k
  have o:=dA z
  refine St.dc [aW C (.cells [(.slice none 0 0)].toArray 30 (0,0))] mixed (λi j=> ?_);refine SW.gd 0 ?_;refine SW.slot 22 (bA z) rfl rfl ?_;refine SW.gd 1 ?_;refine SW.gd 2 ?_;refine SW.gt 3 _ i j rfl rfl rfl (λR f=>Ev.da (.mk rfl) vF) (by kernel_rfl) rfl ?_;refine SW.gt 4 _ i j rfl rfl rfl (λR f=>Ev.ke (ai.gv rfl f) oa trivial (by rfl)) (by kernel_rfl) rfl ?_;refine SW.gt 5 _ i j rfl rfl rfl (λR f=>Ev.fk (ai.gv rfl f) oa) (by kernel_rfl) rfl ?_;refine SW.gt 6 _ i j rfl rfl rfl (λR f=>Ev.leq (ai.gv rfl f) (.mk rfl)) (by kernel_rfl) rfl ?_;refine SW.gd 7 ?_;refine SW.t1 8 ?_;refine g3 ?_;refine SW.go ?_;refine SW.gd 9 ?_;refine SW.dn ?_;refine g2 ?_;refine St.eZ (bL (ay z) (bA z)) [aG z] (λρ h=>⟨z,rfl,rfl,h _ (aQ ..)⟩) ?_;refine St.rV [_,_] [aB (bL (ay z) (bA z))] ?_;refine⟨bA z,ay z,?_,F,rfl⟩;rw[←E,o]
  first|rfl|(cases N:(dU (gz T) (ay x) r (ay y)).isSome<;>simp)
structure Gd (nt nf n frm tqo ch:Nat)(cs fg:Cs)(a:Nat):Prop where
 ok:gh nt nf n fg
 gr:Grow n frm tqo cs fg a
 news:∃news,fg.at_ n frm tqo=cs.at_ n frm tqo++news∧news.length≤a∧∀e∈news,(fg.ed e).cx=ch
theorem Gd.refl {nt nf n frm tqo ch:Nat}{cs:Cs}(h:gh nt nf n cs):Gd nt nf n frm tqo ch cs cs 0:=⟨h,Grow.refl ..,[],by simp,aR _,λe h=>by cases h⟩
theorem Gd.mono {nt nf n frm tqo ch:Nat}{cs fg:Cs}{a b:Nat}(h:Gd nt nf n frm tqo ch cs fg a)(c:a≤b):Gd nt nf n frm tqo ch cs fg b:=
 let⟨news,h1,e,d⟩:=h.news
 ⟨h.ok,h.gr.mono c,news,h1,by omega,d⟩
theorem Gd.trans {nt nf n frm tqo ch:Nat}{x y z:Cs}{a b:Nat}(h:Gd nt nf n frm tqo ch x y a)(k:Gd nt nf n frm tqo ch y z b):Gd nt nf n frm tqo ch x z (a+b):=by
 obtain⟨u,h1,f,c⟩:=h.news;obtain⟨v,d,g,k3⟩:=k.news;refine⟨k.ok,h.gr.trans k.gr,u++v,by rw[d,h1,dq],by rw[bQ];omega,λe he=> ?_⟩
 rcases cD.1 he with he|he
 ·rw[k.gr.ed e (h.ok.q9 (show e∈y.at_ n frm tqo by rw[h1];simp[he]))];exact c e he
 ·exact k3 e he
theorem Qz {n:Nat}(cs:Cs)(e:om)(w:uj)(h:slt n e.frm e.tqo<cs.sp.length):∃news,(kY n cs e w).at_ n e.frm e.tqo=cs.at_ n e.frm e.tqo++news∧news.length≤1∧∀i∈news,(kY n cs e w).ed i=e:=by
 unfold kY
 cases b:xx cs.its (fZ e)with
 |some i=>exact⟨[],by simp[Cs.at_],aP _,λi h=>by cases h⟩
 |none=>
  refine⟨[cs.its.length],?_,aR _,λi a=> ?_⟩
  ·unfold Cs.at_
   dsimp only
   rw[getD_modify (show e.frm*(n+1)+e.tqo<cs.sp.length from h),aC rfl]
  ·rw[bO.1 a]
   unfold Cs.ed
   dsimp only
   rw[ar,lp (aR _),ff];rfl
theorem Jx {nt nf:Nat}{Q:Qr}(c:qp nt nf Q){frm tqo:Nat}(d:frm<tqo)(ht:tqo≤Q.n){cs:Cs}(h:gh nt nf Q.n cs){e ch i:Nat}(he:e<cs.its.length)(f:(cs.ed e).cx=ch)(s:ch<3)(g:i<Q.rules.length):
 Gd nt nf Q.n frm tqo (ch+1) cs (qc Q frm tqo e cs i) (if decide ((Q.rules.getD i oS).kids=1)=true then 1 else 0):=by
 obtain⟨_,l,_⟩:=c.vg g;unfold qc
 by_cases hk:(Q.rules.getD i oS).kids=1
 ·rw[aA (λx=>x hk),aC (eB hk)]
  cases hy:lU Q cs i (Q.rules.getD i oS).graph 1 e with
  |none=>exact(Gd.refl h).mono (aP _)
  |some x=>
   dsimp only
   obtain⟨m,o,_⟩:=vx c.mt h l he hy;obtain⟨m1,m2⟩:=qP m o;obtain⟨a,b⟩:=yQ c.n h (e:=⟨frm,tqo,(cs.ed e).cx+1,mC x⟩) (w:=⟨i,0,[e]⟩) ⟨d,ht,by dsimp only;omega,m1,m2⟩ (λk hk=>by rw[bO.1 hk];exact he);obtain⟨news,p,q,n3⟩:=Qz cs ⟨frm,tqo,(cs.ed e).cx+1,mC x⟩ ⟨i,0,[e]⟩ (by rw[h.GO];exact sY (by dsimp only;omega) ht);exact⟨a,b,news,p,q,λj r=>by rw[n3 j r];dsimp only;rw[f]⟩
 ·rw[aC hk,aA (λx=>hk (fM x))]
  exact Gd.refl h
theorem A5 {nt nf:Nat}{Q:Qr}(a:qp nt nf Q){frm tqo:Nat}(b:frm<tqo)(ht:tqo≤Q.n){e ch:Nat}(c:ch<3):∀(l:List Nat) (cs:Cs),(∀i∈l,i<Q.rules.length)→gh nt nf Q.n cs→e<cs.its.length→(cs.ed e).cx=ch→
 Gd nt nf Q.n frm tqo (ch+1) cs (l.foldl (qc Q frm tqo e) cs) ((l.map λi=>if decide ((Q.rules.getD i oS).kids=1)=true then 1 else 0).sum)
 | [],cs,_,h,_,_=>Gd.refl h
 |i::l,cs,d,h,he,f=>by
  have h1:=Jx a b ht h he f c (d i (by simp))
  have g:=A5 a b ht c l (qc Q frm tqo e cs i) (λj k=>d j (by simp[k])) h1.ok (fR he h1.gr.more) (by rw[h1.gr.ed e he];exact f)
  exact h1.trans g
theorem C1 {nt nf:Nat}{Q:Qr}(a:qp nt nf Q){frm tqo:Nat}(b:frm<tqo)(ht:tqo≤Q.n){e ch:Nat}(c:ch<3){cs:Cs}(h:gh nt nf Q.n cs)(he:e<cs.its.length)(d:(cs.ed e).cx=ch):
 Gd nt nf Q.n frm tqo (ch+1) cs ((List.range Q.rules.length).foldl (qc Q frm tqo e) cs) (hC Q):=by
 have:=A5 a b ht c (List.range Q.rules.length) cs (λi f=>dt.1 f) h he d
 rw[rE (λr:sq=>decide (r.kids=1)) oS 1 Q.rules,gW]at this;exact this
def vW (Q:Qr)(cs:Cs)(l:List Nat):Nat:=(l.map λe=>jx (hC Q) (3-(cs.ed e).cx)).sum
theorem oL {α:Type}(f:α→Nat){l:List α}{k:Nat}{a:α}(h:l[k]?=some a):((l.drop k).map f).sum=f a+((l.drop (k+1)).map f).sum:=by
 rw[bN h,fN,od]
theorem u6 {α:Type}{f g:α→Nat}{l:List α}(h:∀a∈l,f a=g a):(l.map f).sum=(l.map g).sum:=by rw[CF h]
theorem G8 {nt nf:Nat}{Q:Qr}(m:qp nt nf Q){frm tqo:Nat}(o:frm<tqo)(ht:tqo≤Q.n){cs:Cs}(h:gh nt nf Q.n cs){k e:Nat}(hk:(cs.at_ Q.n frm tqo)[k]?=some e)(r:(cs.ed e).cx≠3){fg:Cs}(b:fg=(List.range Q.rules.length).foldl (qc Q frm tqo e) cs):
 gh nt nf Q.n fg∧Grow Q.n frm tqo cs fg (hC Q)∧k+1≤(fg.at_ Q.n frm tqo).length∧qS Q fg ((fg.at_ Q.n frm tqo).drop (k+1))+1≤qS Q cs ((cs.at_ Q.n frm tqo).drop k)∧hC Q+vW Q fg ((fg.at_ Q.n frm tqo).drop (k+1))≤vW Q cs ((cs.at_ Q.n frm tqo).drop k):=by
 have c:=ae hk
 have d:=h.q9 c
 have p:(cs.ed e).cx≤3:=by
  unfold Cs.ed;rw[ar,bU d];exact(h.gr _ (gy d)).2.2.1
 have hu:=C1 m o ht (e:=e) (ch:=(cs.ed e).cx) (by omega) h d rfl
 rw[←b]at hu;obtain⟨news,f,g,n3⟩:=hu.news
 have s:=ah hk
 have hd:(fg.at_ Q.n frm tqo).drop (k+1)=(cs.at_ Q.n frm tqo).drop (k+1)++news:=by rw[f,List.drop_append_of_le_length (by omega)]
 have hold:∀j∈(cs.at_ Q.n frm tqo).drop (k+1),fg.ed j=cs.ed j:=λj a=>hu.gr.ed j (h.q9 (GJ a))
 have q:3-(cs.ed e).cx=(2-(cs.ed e).cx)+1:=by omega
 have i:jx (hC Q) (3-(cs.ed e).cx)=hC Q*(1+jx (hC Q) (2-(cs.ed e).cx)):=by rw[q];rfl
 have l:∀j∈news,jx (hC Q) (3-(fg.ed j).cx)=jx (hC Q) (2-(cs.ed e).cx):=λj a=>by rw[n3 j a];congr 1;omega
 have hmul:news.length*(1+jx (hC Q) (2-(cs.ed e).cx))≤hC Q*(1+jx (hC Q) (2-(cs.ed e).cx)):=iU _ g
 refine⟨hu.ok,hu.gr,by rw[f,bQ];omega,?_,?_⟩
 ·unfold qS
  rw[hd,cP,List.sum_append,oL _ hk,u6 (λj a=>by rw[hold j a]:∀j∈(cs.at_ Q.n frm tqo).drop (k+1),1+jx (hC Q) (3-(fg.ed j).cx)=1+jx (hC Q) (3-(cs.ed j).cx)),
   u6 (λj a=>by rw[l j a]:∀j∈news,1+jx (hC Q) (3-(fg.ed j).cx)=1+jx (hC Q) (2-(cs.ed e).cx)),jh,i]
  omega
 ·unfold vW
  rw[hd,cP,List.sum_append,oL _ hk,u6 (λj a=>by rw[hold j a]:∀j∈(cs.at_ Q.n frm tqo).drop (k+1),jx (hC Q) (3-(fg.ed j).cx)=jx (hC Q) (3-(cs.ed j).cx)),
   u6 (λj a=>by rw[l j a]:∀j∈news,jx (hC Q) (3-(fg.ed j).cx)=jx (hC Q) (2-(cs.ed e).cx)),jh,i]
  rw[Nat.mul_add,gW]at hmul⊢
  have:news.length*jx (hC Q) (2-(cs.ed e).cx)≤hC Q*jx (hC Q) (2-(cs.ed e).cx):=iU _ g
  omega
theorem Dg {nt nf:Nat}{Q:Qr}(d:qp nt nf Q){frm tqo:Nat}(e:frm<tqo)(ht:tqo≤Q.n):∀(f k:Nat) (cs:Cs),gh nt nf Q.n cs→gh nt nf Q.n (qd Q frm tqo f k cs)∧Grow Q.n frm tqo cs (qd Q frm tqo f k cs) (vW Q cs ((cs.at_ Q.n frm tqo).drop k))
 |0,k,cs,h=>⟨h,(Grow.refl ..).mono (aP _)⟩
 |f+1,k,cs,h=>by
  rw[qd]
  split
  ·rename_i hk
   have c:(cs.at_ Q.n frm tqo)[k]?=some ((cs.at_ Q.n frm tqo).getD k 0):=by rw[ar,bU hk];rfl
   split
   ·obtain⟨a,b⟩:=Dg d e ht f (k+1) cs h
    refine⟨a,b.mono ?_⟩;unfold vW
    rw[oL _ c];omega
   ·rename_i g
    obtain⟨s1,s2,j,l,i⟩:=G8 d e ht h c g rfl;obtain⟨a,b⟩:=Dg d e ht f (k+1) _ s1;exact⟨a,(s2.trans b).mono i⟩
  ·exact⟨h,(Grow.refl ..).mono (aP _)⟩
theorem Oi (r:Nat):∀k:Nat,k≤3→jx r k≤jx r 3
 |0,_=>aP _
 |1,_=>by
  show r*(1+0)≤r*(1+r*(1+r*(1+0)))
  exact AA _ (by omega)
 |2,_=>by
  show r*(1+r*(1+0))≤r*(1+r*(1+r*(1+0)))
  exact AA _ (Nat.add_le_add_left (AA _ (by omega)) _)
 |3,_=>aR _
def vm:Nat:=1117240000000
theorem alP:∀r,r≤40→(40-r)*4000000*(1+jx r 3)≤1117240000000:=by decide+kernel
theorem alQ:∀r,r≤40→100*(1+jx r 3)≤1117240000000:=by decide+kernel
def U4 (len frm:Nat)(cs:Cs):Prop:=∀i,i<cs.its.length→(cs.ed i).tqo-(cs.ed i).frm<len∨((cs.ed i).tqo-(cs.ed i).frm=len∧(cs.ed i).frm<frm)
theorem Km {nt nf n len frm:Nat}{cs:Cs}(h:gh nt nf n cs)(a:U4 len frm cs)(ht:frm+len≤n):cs.at_ n frm (frm+len)=[]:=by
 cases e:cs.at_ n frm (frm+len)with
 |nil=>rfl
 |cons x l=>
  have hx:x∈cs.sp.getD (slt n frm (frm+len)) []:=by show x∈cs.at_ n frm (frm+len);rw[e];simp
  obtain⟨h1,b⟩:=h.prt _ _ x ht hx
  have:=a x (h.Gg hx)
  omega
theorem BH {nt nf:Nat}{Q:Qr}(a:qp nt nf Q){frm tqo:Nat}:Cf Q frm tqo*(1+jx (hC Q) 3)≤vm:=by
 have h1:=OY a
 have b:=a.rn
 unfold Cf vm
 split
 ·exact alQ _ (by omega)
 ·refine dS (iU _ ?_) (alP (hC Q) (by omega))
  exact iU _ (by omega)
theorem TG (Q:Qr)(cs:Cs)(l:List Nat):vW Q cs l≤l.length*jx (hC Q) 3:=by
 unfold vW;rw[←jh]
 exact IB λe _=>Oi _ _ (by omega)
structure ng (nt nf n len frm:Nat)(cs:Cs):Prop where
 ok:gh nt nf n cs
 xY:cs.its.length≤300
 cW:∀it∈cs.its,it.cW.length≤vm
 fresh:U4 len frm cs
theorem ng.room {nt nf n len frm:Nat}{cs:Cs}(h:ng nt nf n len frm cs):Room cs vm:=⟨by have:=h.xY;unfold vm;omega,λit hit=>by have:=h.cW it hit;unfold vm at*;omega⟩
theorem Db {nt nf len:Nat}{Q:Qr}(a:qp nt nf Q){words:List ax}{frm:Nat}(f:1≤len)(ht:frm+len≤Q.n){cs:Cs}(h:ng nt nf Q.n len frm cs):
 gh nt nf Q.n (n9 Q words frm (frm+len) cs)∧Grow Q.n frm (frm+len) cs (n9 Q words frm (frm+len) cs) (Cf Q frm (frm+len))∧Cf Q frm (frm+len)+vW Q (n9 Q words frm (frm+len) cs) ((n9 Q words frm (frm+len) cs).at_ Q.n frm (frm+len))≤vm:=by
 obtain⟨c,b⟩:=MT a (words:=words) (show frm<frm+len by omega) ht h.ok h.xY;refine⟨c.ok,b,?_⟩
 have g:=b.own
 have i:(cs.sp.getD (slt Q.n frm (frm+len)) []).length=0:=by
  have:=Km h.ok h.fresh ht
  show(cs.at_ Q.n frm (frm+len)).length=0
  rw[this];rfl
 have h1:=TG Q (n9 Q words frm (frm+len) cs) ((n9 Q words frm (frm+len) cs).at_ Q.n frm (frm+len))
 have d:((n9 Q words frm (frm+len) cs).at_ Q.n frm (frm+len)).length≤Cf Q frm (frm+len):=by
  show((n9 Q words frm (frm+len) cs).sp.getD (slt Q.n frm (frm+len)) []).length≤_
  omega
 have e:=BH a (frm:=frm) (tqo:=frm+len)
 rw[Nat.mul_add,gW]at e
 have j:=iU (jx (hC Q) 3) d
 omega
theorem PS {nt nf len:Nat}{Q:Qr}(a:qp nt nf Q){words:List ax}{frm:Nat}(c:1≤len)(ht:frm+len≤Q.n){cs:Cs}(h:ng nt nf Q.n len frm cs):
 gh nt nf Q.n (pL Q words frm (frm+len) cs)∧Grow Q.n frm (frm+len) cs (pL Q words frm (frm+len) cs) vm:=by
 obtain⟨d,e,f⟩:=Db a (words:=words) c ht h;obtain⟨g,b⟩:=Dg a (show frm<frm+len by omega) ht (qS Q (n9 Q words frm (frm+len) cs) ((n9 Q words frm (frm+len) cs).at_ Q.n frm (frm+len))+1) 0 (n9 Q words frm (frm+len) cs) d;rw[List.drop_zero]at b;exact⟨g,(e.trans b).mono f⟩
theorem Fq {nt nf len:Nat}{Q:Qr}(b:qp nt nf Q){words:List ax}{frm:Nat}(d:1≤len)(ht:frm+len≤Q.n){cs:Cs}(h:ng nt nf Q.n len frm cs)(hm:¬300<(pL Q words frm (frm+len) cs).its.length):
 ng nt nf Q.n len (frm+1) (pL Q words frm (frm+len) cs):=by
 obtain⟨g1,g2⟩:=PS b (words:=words) d ht h;refine⟨g1,by omega,λit hit=> ?_,λi a=> ?_⟩
 ·obtain⟨i,a,rfl⟩:=GI.1 hit
  have e:(pL Q words frm (frm+len) cs).its[i]=(pL Q words frm (frm+len) cs).its.getD i gg:=by rw[ar,bU a];rfl
  rw[e]
  by_cases c:i<cs.its.length
  ·have g:=h.fresh i c
   rw[g2.far i c (λj=>by omega),ar,bU c];exact h.cW _ (gy c)
  ·have h1:=g2.cW i a
   have e2:cs.its.getD i gg=gg:=by rw[ar,ib (by omega)];rfl
   rw[e2]at h1
   have:gg.cW.length=0:=rfl
   omega
 ·by_cases c:i<cs.its.length
  ·rw[g2.ed i c]
   have:=h.fresh i c;omega
  ·obtain⟨f,e2⟩:=g2.new i (by omega) a
   rw[f,e2];omega
theorem Jh {nt nf n len frm:Nat}{cs:Cs}(h:ng nt nf n len frm cs):ng nt nf n (len+1) 0 cs:=⟨h.ok,h.xY,h.cW,λi a=>by have:=h.fresh i a;omega⟩
structure rf where
 rule:Int
 lex:Int
 kv:aV
 kids:List Nat
structure dL where
 frm:Nat
 tqo:Nat
 cx:Nat
 gr:dD
 wv:aV
 cW:List rf
 tv:aV
 ba:List Int
def mM:Rp rf:=⟨3,by decide,λw=>[iv w.rule,iv w.lex,w.kv.1],λw=>aZ w.rule∧aZ w.lex,λ_=>rfl,λw u h=>cC rfl (cC rfl (cC w.kv.2 λ_ h=>by cases h)) u h⟩
def eE:Rp dL:=⟨6,by decide,λx=>[iv (x.frm:Nat),iv (x.tqo:Nat),iv (x.cx:Nat),x.gr.nv.1,x.wv.1,x.tv.1],λ_=>True,λ_=>rfl,λx u h=>cC rfl (cC rfl (cC rfl (cC x.gr.nv.2 (cC x.wv.2 (cC x.tv.2 λ_ h=>by cases h))))) u h⟩
abbrev bW (l:List Nat):List Int:=l.map λi:Nat=>(i:Int)
theorem dY (l:List Nat):(bW l).length=l.length:=aO _
theorem kf (l:List Nat)(i:Nat):bW (l++ [i])=bW l++ [(i:Int)]:=by rw[bW,cP];rfl
theorem gO {l:List Nat}{k i:Nat}(h:l[k]?=some i):(bW l)[k]?=some (i:Int):=by rw[bP,h];rfl
def jE (a:TypeId)(w:rf):List ak:=[row w.kv.1 a 1 w.kids.length (rows aJ (bW w.kids))]
def eo (b a:TypeId)(x:dL):List ak:=row x.wv.1 b 3 x.cW.length (rows mM x.cW)::row x.tv.1 a 1 x.ba.length (rows aJ x.ba)::bE (jE a) x.cW
def fq (a:TypeId)(p:aV×List Nat):List ak:=[row p.1.1 a 1 p.2.length (rows aJ (bW p.2))]
def wyE (w:rf):uj:=⟨w.rule,w.lex,w.kids⟩
def cF (x:dL):lM:=⟨⟨x.frm,x.tqo,x.cx,ay x.gr⟩,x.cW.map wyE,x.ba⟩
def xC (m:List (ax×Value))(its:List lM):Prop:=∀k,qN m k=(xx its k).map λi:Nat=>iv (i:Int)
theorem Sk {its:List lM}{i:Nat}(w:uj)(k:ax):xx (its.modify i λit=>it.put w) k=xx its k:=by
 unfold xx
 induction its generalizing i with
 |nil=>simp
 |cons a its b=>
  cases i with
  |zero=>rw[List.modify_zero_cons,List.findIdx?_cons,List.findIdx?_cons];rfl
  |succ i=>rw[List.modify_succ_cons,List.findIdx?_cons,List.findIdx?_cons,b]
theorem O2 (its:List lM)(it:lM)(k:ax):xx (its++ [it]) k=match xx its k with
 |some i=>some i
 |none=>if fZ it.ed=k then some its.length else none:=by
 unfold xx;rw[List.findIdx?_append]
 cases h:its.findIdx? λit=>decide (fZ it.ed=k)with
 |some i=>rfl
 |none=>
  rw[Option.none_or,List.findIdx?_cons]
  by_cases e:fZ it.ed=k
  ·rw[eB e,aC rfl,aC e];simp
  ·rw[fL e,aA (by decide),aA e];rfl
theorem xC.nil:xC [] []:=λ_=>rfl
theorem xC.put {m:List (ax×Value)}{its:List lM}(h:xC m its)(i:Nat)(w:uj):xC m (its.modify i λit=>it.put w):=λk=>by rw[Sk];exact h k
theorem xC.new {m:List (ax×Value)}{its:List lM}(h:xC m its){it:lM}(a:xx its (fZ it.ed)=none):xC (l9 m (fZ it.ed) (iv its.length)) (its++ [it]):=λk=>by
 rw[O2,Ey]
 by_cases e:k=fZ it.ed
 ·subst e;rw[aC rfl,a];dsimp only;rw[aC rfl];rfl
 ·rw[aA e,h k]
  cases xx its k with
  |some i=>rfl
  |none=>dsimp only;rw[aA (λx=>e x.symm)]
structure nG where
 eF:aV
 its:List dL
 nV:aV
 bz:List (aV×List Nat)
 m:List (ax×Value)
def nG.cs (d:nG):Cs:=⟨d.its.map cF,d.bz.map Prod.snd⟩
def nG.tail (b a:TypeId)(d:nG):List ak:=bE (eo b a) d.its++bE (fq a) d.bz
theorem YC (i:Int):IntKind.u8.wrap i=((ju i).toNat:Int):=by
 have h:∀k:Nat,k<256→(UInt8.ofNat k).toNat=k:=λk hk=>by
  show k%256=k
  omega
 unfold ju;rw[h _ (by omega)];unfold IntKind.wrap
 simp[IntKind.bits,IntKind.signed]
 omega
abbrev Gw (frm tqo cx:Nat)(u:Value):Value:= .agg #[iv (frm:Nat),iv (tqo:Nat),iv (cx:Nat),u]
theorem LB (l:e8)(n:KM):zA (l++ [n])=zA l++(ju n.1::ju (n.2.length:Nat)::vL n.2):=by
 unfold zA;rw[CA];simp
theorem LC (l:kq)(n:Int×Int):vL (l++ [n])=vL l++ [ju n.1,ju n.2]:=by
 unfold vL;rw[CA];simp
theorem Nz (frm tqo cx:Nat)(g:dD)(l:g.nodes.length≤100)(m:∀t∈g.nodes,t.aq.length≤1000):dz prog 141 #[Gw frm tqo cx g.nv.1] ([aG g].map aB) (λv H'=>v=sv (fZ ⟨frm,tqo,cx,ay g⟩)∧H'=[]):=by
 refine dz.body (args:=[Gw frm tqo cx g.nv.1]) 56 func141 rfl ntmps141 rfl (λc=> ?_);refine St.cast (H':=[aB (aG g)]) rfl ?_;refine go ?_
 refine St.jN (aG g) (λ_:Unit=>kb g) (λρ h=>⟨(),h⟩) λ_=> ?_
 refine St.cast (H':=[aB (sl bh g.nv.1 g.nodes),aB (aF cA g.nodes),aB (aG g)]) rfl ?_
 have Qd:=dA g
 refine go ?_;refine St.dJ (.mk rfl) rfl (λf=> ?_);refine g7 ?_;refine St.ee (Ev.tM (.mk rfl) (by rw[gV];rfl) GP) ?_;refine St.slot 10 (.int .u8 ((ju (frm:Nat)).toNat:Int)) rfl (congrArg (Value.int .u8) (YC _)) ?_;refine g2 ?_;refine St.ee (Ev.tM (.mk rfl) (by rw[gV];rfl) GP) ?_;refine St.slot 13 (.int .u8 ((ju (tqo:Nat)).toNat:Int)) rfl (congrArg (Value.int .u8) (YC _)) ?_;refine g2 ?_;refine St.ee (Ev.tM (.mk rfl) (by rw[gV];rfl) GP) ?_;refine St.slot 16 (.int .u8 ((ju (cx:Nat)).toNat:Int)) rfl (congrArg (Value.int .u8) (YC _)) ?_;refine St.gX rfl (.ej rfl rfl rfl) Ln sz5 zv5 rfl rfl (by simp[Value.cells]) rfl rfl (λi=> ?_);refine St.aM (.slice (some ⟨i,0,none⟩) 3 3) (show _=([ju (frm:Nat),ju (tqo:Nat),ju (cx:Nat)]).length from rfl) (show _=rows Ye [ju (frm:Nat),ju (tqo:Nat),ju (cx:Nat)]from rfl) ?_;refine g14 ?_;refine St.tn (ι:=Nat) (κ:=Value×ax) (λk z T=>(22,iv k)::(3,z.1)::T) (λk z=>[row z.1 5 1 (z.2).length (rows Ye (z.2)),aW f (.cells [iv (frm:Nat),iv (tqo:Nat),iv (cx:Nat),g.nv.1].toArray 183 (0,0)),aB (sl bh g.nv.1 g.nodes),aB (aF cA g.nodes),aB (aG g)]) (λk z=>k≤g.nodes.length∧z.1.oneCell'=true∧z.2=[ju (frm:Nat),ju (tqo:Nat),ju (cx:Nat)]++zA ((ay g).take k)∧z.2.length≤3+k*2002) (λk z=>g.nodes.length-k) 0 ((.slice (some ⟨i,0,none⟩) 3 3),[ju (frm:Nat),ju (tqo:Nat),ju (cx:Nat)]) (aD.cons 2 rfl (aD.cons 20 rfl (aD.cons 21 rfl aD.nil))) ⟨aP _,rfl,rfl,aR 3⟩ ?_;rintro k ⟨v,L⟩ ⟨hk,n,a,o⟩
 dsimp only at n a o⊢
 refine g6 ?_;refine St.cq (λr=> ?_) (λr=> ?_)
 ·obtain⟨t,ht⟩:=aE (show k<g.nodes.length by omega)
  have j:=ae ht
  have s:=m t j
  have l7:=ka ht
  refine St.cK cA g.nodes (x:=t) j ?_;refine St.eZ (sl aw t.lv.1 t.aq) [cA t] (λρ h=>h _ (aQ ..)) ?_;refine g7 ?_;refine St.ee (Ev.jq (.mk rfl) ht we trivial jQ j5.eq) ?_;refine St.al (λu=> ?_);refine g8 ?_;refine St.ee (Ev.tM (.mk rfl) (by rw[gV];rfl) GP) ?_;refine St.slot 29 (.int .u8 ((ju (t.type)).toNat:Int)) rfl (congrArg (Value.int .u8) (YC _)) ?_;refine g3 ?_;refine St.ee (Ev.tM (.mk rfl) (by rw[gV];rfl) GP) ?_;refine St.slot 33 (.int .u8 ((ju ((t.aq.length:Nat))).toNat:Int)) rfl (congrArg (Value.int .u8) (YC _)) ?_;refine St.gX rfl (.aX rfl rfl) Ln sz5 zv5 rfl rfl (by simp[Value.cells]) rfl rfl (λE=> ?_);refine St.aj (.mk rfl) (.mk rfl) Ln sz5 zv5 by5 (by simp[Value.oneCell',Value.cells]) (by omega) (by omega) rfl rfl rfl rfl (λv35 y=> ?_);refine St.aM v35 (show _=(L++ [ju t.type,ju (t.aq.length:Nat)]).length by rw[bQ];rfl) (show _=rows Ye (L++ [ju t.type,ju (t.aq.length:Nat)]) by rw[uK,uK,cP];rfl) ?_;refine St.bZ v35 (λd _=> ?_);refine g12 ?_;refine St.tn (ι:=Nat) (κ:=Value×ax) (λq z T=>(39,iv q)::(3,z.1)::T) (λq z=>[row z.1 5 1 (z.2).length (rows Ye (z.2)),aW f (.cells [iv (frm:Nat),iv (tqo:Nat),iv (cx:Nat),g.nv.1].toArray 183 (0,0)),aW u (.cells [iv t.type,t.lv.1].toArray 163 (0,0)),aB (sl bh g.nv.1 g.nodes),aB (aF cA g.nodes),aB (aG g),aB (sl aw t.lv.1 t.aq)]) (λq z=>q≤t.aq.length∧z.1.oneCell'=true∧z.2=L++(ju t.type::ju (t.aq.length:Nat)::vL ((t.aq.map fS).take q))∧z.2.length≤5+k*2002+2*q) (λq z=>t.aq.length-q) 0 (v35,L++ [ju t.type,ju (t.aq.length:Nat)]) (aD.cons 2 rfl (aD.cons 20 rfl (aD.cons 21 rfl (aD.cons 22 rfl (aD.cons 37 rfl (aD.cons 38 rfl aD.nil)))))) ⟨aP _,d,rfl,by dsimp only;rw[bQ];simp only[List.length_cons,List.length_nil];omega⟩ ?_;rintro q ⟨w,M⟩ ⟨F,hw,b,e⟩
  dsimp only at hw b e⊢
  refine g6 ?_;refine St.cq (λA=> ?_) (λA=> ?_)
  ·obtain⟨p,hp⟩:=aE (show q<t.aq.length by omega)
   refine g7 ?_;refine St.ee (Ev.jq (.mk rfl) hp lE trivial dm j5.eq) ?_;refine St.al (λG=> ?_);refine g7 ?_;refine St.ee (Ev.tM (.mk rfl) (by rw[gV];rfl) GP) ?_;refine St.slot 46 (.int .u8 ((ju (p.dF)).toNat:Int)) rfl (congrArg (Value.int .u8) (YC _)) ?_;refine g2 ?_;refine St.ee (Ev.tM (.mk rfl) (by rw[gV];rfl) GP) ?_;refine St.slot 49 (.int .u8 ((ju (p.tqo)).toNat:Int)) rfl (congrArg (Value.int .u8) (YC _)) ?_;refine St.gX rfl (.aX rfl rfl) Ln sz5 zv5 rfl rfl (by simp[Value.cells]) rfl rfl (λH=> ?_);refine St.aj (.mk rfl) (.mk rfl) Ln sz5 zv5 by5 (by simp[Value.oneCell',Value.cells]) (by omega) (by omega) rfl rfl rfl rfl (λv51 B=> ?_);refine St.aM v51 (show _=(M++ [ju p.dF,ju p.tqo]).length by rw[bQ];rfl) (show _=rows Ye (M++ [ju p.dF,ju p.tqo]) by rw[uK,uK,cP];rfl) ?_;refine St.bZ v51 (λC _=> ?_);refine g9 ?_;refine St.uk (q+1) (v51,M++ [ju p.dF,ju p.tqo]) ⟨by omega,C,by dsimp only;rw[b,aa (show(t.aq.map fS)[q]?=some (fS p) by rw[bP,hp];rfl),LC,dq];rfl,by dsimp only;rw[bQ];simp only[List.length_cons,List.length_nil];omega⟩
  ·obtain rfl:q=t.aq.length:=by omega
   rw[fF (by rw[aO];exact aR _)]at b;refine g11 ?_;refine St.uk (k+1) (w,M) ⟨by omega,hw,by dsimp only;rw[b,a,aa l7,LB,dq];show _=_++(_++(ju t.type::ju ((t.aq.map fS).length:Nat)::vL (t.aq.map fS)));rw[aO],by dsimp only;omega⟩
 ·obtain rfl:k=g.nodes.length:=by omega
  have D:(ay g).take g.nodes.length=ay g:=fF (by omega)
  rw[D]at a;refine g8 ?_;refine St.ee (Ev.Xs (fZ ⟨frm,tqo,cx,ay g⟩) (.mk rfl) (show _=(fZ ⟨frm,tqo,cx,ay g⟩).length by rw[a];rfl) (by rw[a,uK];rfl) (by unfold fZ;simp) Ln GP xQ) ?_;refine g4 ?_;refine St.rV [_] [] ?_;exact⟨rfl,rfl⟩
theorem Cc (n i j k:Nat)(d:n≤12)(e:i≤n)(f:j≤n)(hk:k=slt n i j)(sv:aV)(bz:List (aV×List Nat))(q:aV×List Nat)(b:bz[k]?=some q):dz prog 122 #[.agg #[iv (n:Nat),sv.1],iv (i:Nat),iv (j:Nat)] [row sv.1 58 1 (bz).length (rows bT ((bz).map Prod.fst))] (λv H'=>v=q.1.1∧H'=[row sv.1 58 1 (bz).length (rows bT ((bz).map Prod.fst))]):=by
 refine dz.body (args:=[.agg #[iv (n:Nat),sv.1],iv (i:Nat),iv (j:Nat)]) 18 func122 rfl ntmps122 rfl (λc=> ?_);refine go ?_
 obtain⟨m,hm⟩:∃m,m=i*(n+1):=⟨_,rfl⟩
 have a:((i:Nat):Int)*(((n:Nat):Int)+1)=(m:Nat):=by rw[hm];push_cast;rfl
 have g:m≤156:=by rw[hm];exact dS (Nat.mul_le_mul (show i≤12 by omega) (show n+1≤13 by omega)) (by decide)
 have h:k=m+j:=by rw[hk,hm];rfl
 have l:=ah b
 refine go ?_;refine St.dJ (.mk rfl) rfl (λo=> ?_);refine g11 ?_;refine St.ee (Ev.mul (.mk rfl) (.mk rfl) (by rw[a];omega)) ?_;refine St.slot 13 (iv (m:Nat)) rfl (congrArg iv a) ?_;refine g2 ?_;refine St.ee (Ev.dZ (k:=k) (.mk rfl) (.mk rfl) fK fE (by omega) (by omega)) ?_;refine St.ee (Ev.cu (.mk rfl) bJ trivial (by omega) (r7 (show(bz.map Prod.fst)[k]?=some q.1 by rw[bP,b];rfl))) ?_;refine g4 ?_;refine St.rV [_] [row sv.1 58 1 (bz).length (rows bT ((bz).map Prod.fst))] ?_;exact⟨rfl,rfl⟩
theorem I7 (n i j k:Nat)(l:n≤12)(o:i≤n)(p:j≤n)(hk:k=slt n i j)(sv:aV)(bz:List (aV×List Nat))(q:aV×List Nat)(d:bz[k]?=some q)(e:Nat)(he:e≤1400000000000)(r:q.2.length≤1400000000000):dz prog 142 #[.agg #[iv (n:Nat),sv.1],iv (i:Nat),iv (j:Nat),iv (e:Nat)] [row sv.1 58 1 (bz).length (rows bT ((bz).map Prod.fst)),row q.1.1 3 1 (q.2).length (rows aJ (bW (q.2)))] (λv H'=>∃u:aV,H'=[row sv.1 58 1 (bz.set k (u,q.2++ [e])).length (rows bT ((bz.set k (u,q.2++ [e])).map Prod.fst)),row u.1 3 1 (q.2++ [e]).length (rows aJ (bW (q.2++ [e])))]):=by
 refine dz.body (args:=[.agg #[iv (n:Nat),sv.1],iv (i:Nat),iv (j:Nat),iv (e:Nat)]) 28 func142 rfl ntmps142 rfl (λc=> ?_);refine go ?_
 obtain⟨m,hm⟩:∃m,m=i*(n+1):=⟨_,rfl⟩
 have b:((i:Nat):Int)*(((n:Nat):Int)+1)=(m:Nat):=by rw[hm];push_cast;rfl
 have s:m≤156:=by rw[hm];exact dS (Nat.mul_le_mul (show i≤12 by omega) (show n+1≤13 by omega)) (by decide)
 have t:k=m+j:=by rw[hk,hm];rfl
 have w:=ah d
 refine St.lB sv.1 (by omega) (λbs cs f=> ?_);refine go ?_;refine St.dJ (.mk rfl) rfl (λx=> ?_);refine g8 ?_;refine St.ee (Ev.mul (.mk rfl) (.mk rfl) (by rw[b];omega)) ?_;refine St.slot 13 (iv (m:Nat)) rfl (congrArg iv b) ?_;refine g5 ?_;refine St.dc [row sv.1 58 1 (bz).length (rows bT ((bz).map Prod.fst)),row q.1.1 3 1 (q.2).length (rows aJ (bW (q.2)))] mixed (λy z=> ?_);refine SW.gd 0 ?_;refine SW.gd 1 ?_;refine SW.gd 2 ?_;refine SW.gd 3 ?_;refine SW.gd 4 ?_;refine SW.gd 5 ?_;refine SW.dd 6 rfl (λ_=>Ev.nB (k:=k) f (.mk rfl) (.mk rfl) fK fE (by omega) (by omega)) ?_;refine SW.gd 8 ?_;refine SW.t2 7 9 ?_ ?_
 focus
  refine St.ee (Ev.cu (.mk rfl) bJ trivial (by omega) (r7 (show(bz.map Prod.fst)[k]?=some q.1 by rw[bP,d];rfl))) ?_;refine g2 ?_;refine SW.go ?_;refine SW.t1 9 ?_;refine St.gX rfl (.au rfl) bJ dK eS rfl rfl (by simp[Value.cells]) rfl rfl (λg=> ?_);refine g2 ?_;refine SW.go ?_;refine SW.t1 10 ?_;refine St.aj (.mk rfl) (.mk rfl) bJ dK eS xW (by simp[Value.oneCell',Value.cells]) (by omega) (by omega) rfl rfl rfl rfl (λv26 h=> ?_);refine St.aM v26 (show _=(q.2++ [e]).length by rw[bQ];rfl) (show _=rows aJ (bW (q.2++ [e])) by rw[kf,bB];rfl) ?_;refine St.bZ v26 (λa _=> ?_);refine g2 ?_;refine SW.go ?_;refine SW.dd 11 rfl (λ_=>Ev.nB (k:=k) f (.mk rfl) (.mk rfl) fK fE (by omega) (by omega)) ?_;refine SW.t1 12 ?_;refine St.cI (.mk rfl) (.mk rfl) fE a (by omega) (by decide) ?_;refine St.aM sv.1 (show _=(bz.set k (⟨v26,a⟩,q.2++ [e])).length by rw[cn]) (show _=rows bT ((bz.set k (⟨v26,a⟩,q.2++ [e])).map Prod.fst) by rw[jk];exact zY _ _ ⟨v26,a⟩) ?_;refine g2 ?_;refine SW.go ?_;refine SW.dn ?_
 rotate_left
 focus
  refine St.gX rfl (.au rfl) bJ dK eS rfl rfl (by simp[Value.cells]) rfl rfl (λg=> ?_);refine g2 ?_;refine SW.go ?_;refine SW.t1 7 ?_;refine St.ee (Ev.cu (.mk rfl) bJ trivial (by omega) (r7 (show(bz.map Prod.fst)[k]?=some q.1 by rw[bP,d];rfl))) ?_;refine g2 ?_;refine SW.go ?_;refine SW.t1 10 ?_;refine St.aj (.mk rfl) (.mk rfl) bJ dK eS xW (by simp[Value.oneCell',Value.cells]) (by omega) (by omega) rfl rfl rfl rfl (λv26 h=> ?_);refine St.aM v26 (show _=(q.2++ [e]).length by rw[bQ];rfl) (show _=rows aJ (bW (q.2++ [e])) by rw[kf,bB];rfl) ?_;refine St.bZ v26 (λa _=> ?_);refine g2 ?_;refine SW.go ?_;refine SW.dd 11 rfl (λ_=>Ev.nB (k:=k) f (.mk rfl) (.mk rfl) fK fE (by omega) (by omega)) ?_;refine SW.t1 12 ?_;refine St.cI (.mk rfl) (.mk rfl) fE a (by omega) (by decide) ?_;refine St.aM sv.1 (show _=(bz.set k (⟨v26,a⟩,q.2++ [e])).length by rw[cn]) (show _=rows bT ((bz.set k (⟨v26,a⟩,q.2++ [e])).map Prod.fst) by rw[jk];exact zY _ _ ⟨v26,a⟩) ?_;refine g2 ?_;refine SW.go ?_;refine SW.dn ?_
 all_goals
  refine St.eH ?_;refine St.rV [] [row sv.1 58 1 (bz.set k (⟨v26,a⟩,q.2++ [e])).length (rows bT ((bz.set k (⟨v26,a⟩,q.2++ [e])).map Prod.fst)),row v26 3 1 (q.2++ [e]).length (rows aJ (bW (q.2++ [e])))] ?_;exact⟨⟨v26,a⟩,rfl⟩
end Go.Proofs.YtblifkgpebebmaaGreatDoor
namespace Go.J
open Go Go.RowKit
def fP (b:Nat)(L:List Value):du where
 f ρ:=∃e fr,ρ b=some (.cells L.toArray e fr)
 mono ρ jn h:=by
  rintro ⟨e,fr,h1⟩;exact⟨e,fr,h _ _ h1⟩
class mN (b:Nat)(H:List ak)(L:outParam (List Value)):Prop where
 mem:aB (fP b L)∈H
instance (priority:=high) mN.here (b:Nat)(L:List Value)(H:List ak):mN b (aB (fP b L)::H) L:=⟨aQ ..⟩
instance mN.there (b:Nat)(L:List Value)(E:ak)(H:List ak)[h:mN b H L]:mN b (E::H) L:=⟨cO _ h.mem⟩
instance (priority:=low) mN.app (b:Nat)(v:List Value)(L R:List ak)[h:mN b L v]:mN b (L++R) v:=⟨kV _ h.mem⟩
section
variable {P:Program}{n:Nat}{F:Fr}{A:World→Prop}{c:Ctx}{H R:List ak}{ty t e:TypeId}{x y:Operand}{v:Value}{T:Act→World→Prop}
theorem Ev.HS {b:Nat}{d:TypeDesc}{L:List Value}[f:mN b H L](hx:ai F x (.pointer (some ⟨b,0,none⟩)))(ht:P.underlying t=some d)(g:(match d with| .struct _| .array _ _=>True|_=>False))
 (h:(P.info? t).map (·.size)=some L.length):Ev P n F (Mm c H) (.load t x) ty (.agg L.toArray):= .of_run λa w i hw=>by
 obtain⟨ρ,hm⟩:=hw.out;obtain⟨e,fr,h1⟩:=dB.1 (hm.dM _ f.mem)
 have h1:=hm.fits _ _ h1
 have k:=eR (P:=P) (w:=w) (b:=b) (off:=0) (L:=L) ht g h (λj u l=>by rw[cV h1];simpa using l)
 simp[execOp,hx.eval i,Instr.loadAt,Instr.sureAddr,k]
theorem Ev.Sp {b off:Nat}{d:TypeDesc}{L L':List Value}[g:mN b H L](m:Nat)(hx:ai F x (.pointer (some ⟨b,off,none⟩)))(ht:P.underlying t=some d)(h:(match d with| .struct _| .array _ _=>True|_=>False))
 (i:(P.info? t).map (·.size)=some m) (k:(L.drop off).take m=L') (l:L'.length=m):Ev P n F (Mm c H) (.load t x) ty (.agg L'.toArray):= .of_run λa w o hw=>by
 obtain⟨ρ,hm⟩:=hw.out;obtain⟨e,fr,h1⟩:=dB.1 (hm.dM _ g.mem)
 have h1:=hm.fits _ _ h1
 have p:=eR (P:=P) (w:=w) (b:=b) (off:=off) (L:=L') ht h (by rw[l];exact i) (λj u f=>by
  rw[cV h1];rw[←k,s9]at f
  split at f
  ·rw[AD]at f;simpa using f
  ·cases f)
 simp[execOp,hx.eval o,Instr.loadAt,Instr.sureAddr,p]
theorem dW.ag7 {ds:List du}{b:Nat}{e:TypeId}{fr:Nat×Nat}{L:List Value}(h:dW c H ds)[f:B8 b H (.cells L.toArray e fr)]:dW c H (fP b L::ds):=λρ w d g a=>by
 rcases cJ.1 a with rfl|a
 ·exact⟨e,fr,fp.1 (d.dM _ f.mem)⟩
 ·exact h ρ w d g a
theorem St.vZ (b:Nat){L:List Value}[tk:l3 b H (.cells L.toArray e (0,0)) R](h:St n F (Mm c (aB (fP b L)::R)) T):St n F (Mm c H) T:=by
 refine h.o9 λw hw=> ?_
 obtain⟨ρ,hm⟩:=hw.out
 have hm:=hm.perm tk.perm
 have f:=fp.1 (hm.dM _ (aQ ..))
 have g:=hm.own _ (aQ ..) b (iW _ _)
 have q:b<w.heap.size:=(wG.1 f).1
 have i:=jU.1 hm.ES
 refine Mm.mk (ρ:=λk=>if k=b then some (.cells L.toArray e (0,0))else ρ k) ?_
 have hle:Ro.le ρ (λk=>if k=b then some (.cells L.toArray e (0,0))else ρ k):=by
  intro k o hk
  by_cases a:k=b
  ·subst a;rw[g.1]at hk;cases hk
  ·simp only[a,if_false];exact hk
 refine ew.fact ⟨hm.os,hm.tape,hm.output,hm.size,hm.AJ,?_,Ro.le_trans hm.le hle,?_,?_,?_,i.2⟩ _ ?_
 ·intro k o hk
  by_cases a:k=b
  ·subst a;simp only[if_true,Option.some.injEq]at hk;subst hk;exact f
  ·simp only[a,if_false]at hk;exact hm.fits k o hk
 ·intro k hk j
  by_cases a:k=b
  ·subst a
   rcases g.2 with l|l
   ·omega
   ·exact absurd l j
  ·simp only[a,if_false];exact hm.new k hk j
 ·intro E d
  exact E.loc hle (λ_ _=>rfl) (hm.dM E (cO _ d))
 ·intro E d m p
  have h1:=hm.own E (cO _ d) m p
  refine⟨?_,h1.2⟩
  by_cases a:m=b
  ·subst a;exact absurd p (i.1 E d _ (iW _ _))
  ·simp only[a,if_false];exact h1.1
 ·exact⟨e,(0,0),by simp⟩
end
end Go.J
namespace Go.Proofs.YtblifkgpebebmaaGreatDoor
open Go Go.J Tryz
theorem Uz {x y:e8}{i:Nat}(h:i<x.length+y.length):(Pl.of x y).rt i=i:=by unfold Pl.rt Pl.of;exact TN h
theorem XT {x y:e8}{i:Nat}(h:i<x.length):(Pl.of x y).tt i=(x.getD i iJ).1:=by
 unfold Pl.tt Pl.of
 simp only[List.getD_eq_getElem?_getD]
 rw[oc (by rw[aO];exact h),bP,bU h];rfl
theorem XU {x y:e8}(h:0<y.length):(Pl.of x y).tt x.length=(y.getD 0 iJ).1:=by
 unfold Pl.tt Pl.of
 simp only[List.getD_eq_getElem?_getD]
 rw[lp (by rw[aO];exact aR _),aO,ff,bP,bU h];rfl
theorem Sf {mt:Nat→Nat→Option Nat}{x y:e8}{node:Nat}(b:node<x.length)(hy:0<y.length)(hm:mt (x.getD node iJ).1.toNat (y.getD 0 iJ).1.toNat=none):dU mt x node y=none:=by
 unfold dU
 have a:(Pl.of x y).rt ((node:Int),(x.length:Int)).1.toNat=node:=Uz (by show node<_;omega)
 have e2:(Pl.of x y).rt ((node:Int),(x.length:Int)).2.toNat=x.length:=Uz (by show x.length<_;omega)
 rw[JE (by rw[a,e2];omega) (by rw[a,e2,XT b,XU hy];exact hm)];rfl
theorem Kk (g:Nat)(a b:aV)(T:List ek)(C:im T)(nf:Nat)(r:nf≤100)(x y:dD)(hx:e9 T.length nf (ay x))(hy:e9 T.length nf (ay y))(F:x.nodes.length≤60)(G:y.nodes.length≤60)(node:Nat)(H:node<x.nodes.length):dz prog 119 #[bA x,iv (node:Nat),bA y,.pointer (some ⟨g,0,none⟩)] ([fP g [a.1,b.1],sl bH a.1 (dg T),sl bH b.1 (de T),tz,aG x,aG y].map aB) (λv H'=>v= .bool (dU (gz T) (ay x) node (ay y)).isSome∧H'=[]):=by
 refine dz.body (args:=[bA x,iv (node:Nat),bA y,.pointer (some ⟨g,0,none⟩)]) 41 func119 rfl ntmps119 rfl (λc=> ?_);refine St.cast (H':=[aB (fP g [a.1,b.1]),aB (sl bH a.1 (dg T)),aB (sl bH b.1 (de T)),aB (tz),aB (aG x),aB (aG y)]) rfl ?_;refine go ?_
 have s:=gK hx r
 have w:=gK hy r
 have j:=hy.pos
 have M:=dA x
 have I:=dA y
 obtain⟨p,hp⟩:=aE H;obtain⟨q,J⟩:=aE (show 0<y.nodes.length by omega)
 have l:(ay x).getD node iJ=mD p:=by rw[ar,ka hp];rfl
 have m:(ay y).getD 0 iJ=mD q:=by rw[ar,ka J];rfl
 have e:=(hx.at_ (i:=node) (by omega)).1
 have f:=(hy.at_ (i:=0) j).1
 rw[l]at e;rw[m]at f
 obtain⟨n,D⟩:∃n:Nat,p.type=(n:Int):=⟨p.type.toNat,by have:=e.1;show p.type=_;have h:0≤p.type:=this;omega⟩
 obtain⟨d,o⟩:∃d:Nat,q.type=(d:Int):=⟨q.type.toNat,by have h:0≤q.type:=f.1;omega⟩
 have A:n<T.length:=by have h:p.type<T.length:=e.2;omega
 have B:d<T.length:=by have h:q.type<T.length:=f.2;omega
 refine St.jN (aG x) (λ_:Unit=>kb x) (λρ h=>⟨(),h⟩) λ_=> ?_
 refine St.cast (H':=[aB (sl bh x.nv.1 x.nodes),aB (aF cA x.nodes),aB (fP g [a.1,b.1]),aB (sl bH a.1 (dg T)),aB (sl bH b.1 (de T)),aB (tz),aB (aG x),aB (aG y)]) rfl ?_
 refine St.jN (aG y) (λ_:Unit=>kb y) (λρ h=>⟨(),h⟩) λ_=> ?_
 refine St.cast (H':=[aB (sl bh y.nv.1 y.nodes),aB (aF cA y.nodes),aB (sl bh x.nv.1 x.nodes),aB (aF cA x.nodes),aB (fP g [a.1,b.1]),aB (sl bH a.1 (dg T)),aB (sl bH b.1 (de T)),aB (tz),aB (aG x),aB (aG y)]) rfl ?_;refine go ?_;refine St.dJ (.mk rfl) rfl (λN=> ?_);refine St.dJ (.mk rfl) rfl (λO=> ?_);refine g5 ?_;refine St.dc [] mixed (λP Q=> ?_);refine SW.dd 0 rfl (λ_=>Ev.HS (.mk rfl) wc trivial (by exact wY)) ?_;refine SW.slot 14 (kB a b) rfl rfl ?_;refine SW.gd 1 ?_;refine SW.gd 2 ?_;refine SW.gd 3 ?_;refine SW.gd 4 ?_;refine SW.gd 5 ?_;refine SW.gd 6 ?_;refine SW.slot 20 (iv (n:Nat)) rfl (congrArg iv D) ?_;refine SW.gd 7 ?_;refine SW.gd 8 ?_;refine SW.dd 9 rfl (λ_=>Ev.cM (k:=0) (.mk rfl) (.mk rfl) oa jQ (by omega) (by omega)) ?_;refine SW.gd 10 ?_;refine SW.gd 11 ?_;refine SW.slot 25 (iv (d:Nat)) rfl (congrArg iv o) ?_;refine SW.dd 12 rfl (λ_=>Ev.call ((yG a b T C n d A B).mono λ_ _ h=>h.1) W6 (.ej rfl rfl rfl)) ?_;refine SW.gd 13 ?_;refine SW.gd 14 ?_;refine SW.gd 15 ?_;refine SW.gd 16 ?_;refine SW.gd 17 ?_;refine SW.gd 18 ?_;refine SW.gd 19 ?_;refine SW.dn ?_;refine g7 ?_;refine St.cq (λE=> ?_) (λE=> ?_)
 ·have hm:gz T ((ay x).getD node iJ).1.toNat ((ay y).getD 0 iJ).1.toNat=none:=by rw[l,m];show gz T p.type.toNat q.type.toNat=none;rw[D,o];simpa using E
  have K:=Sf (mt:=gz T) (by omega) j hm
  refine g7 ?_;refine St.rV [_] [] ?_;exact⟨by rw[K];rfl,rfl⟩
 ·refine g4 ?_
  refine St.ee (Ev.HS (.mk rfl) wc trivial (by exact wY)) ?_;refine St.slot 33 (kB a b) rfl rfl ?_;refine go ?_;refine St.slot 34 (bA x) rfl rfl ?_;refine g2 ?_;refine St.slot 36 (bA y) rfl rfl ?_;refine St.ag (qm a b T C nf r x y hx hy F G (λt ht=>by have:=(s t ht).2;omega) (λt ht=>by have:=(w t ht).2;omega) node (by omega)) RH (.gU rfl rfl rfl rfl) rfl ?_;rintro v37 _ ⟨u,rfl,rfl⟩;refine St.ao ?_;refine St.bL ((dU (gz T) (ay x) node (ay y)).getD []) u (λz hz=> ?_);obtain⟨rfl,L⟩:=hz;refine g3 ?_;refine St.al (λR=> ?_);refine g11 ?_;refine St.rV [_] [] ?_;exact⟨rfl,rfl⟩
structure rG where
 a:aV
 b:aV
 c:aV
 la:List Bool
 lb:List Bool
 lc:List Bool
def rG.at_ (x:rG)(j:Nat):aV×List Bool:=if j=0 then(x.a,x.la)else if j=1 then(x.b,x.lb)else(x.c,x.lc)
def sM:Rp rG:=⟨3,by decide,λx=>[x.a.1,x.b.1,x.c.1],λ_=>True,λ_=>rfl,λx u h=>by
 simp only[List.mem_cons,List.not_mem_nil,or_false]at h
 rcases h with rfl|rfl|rfl
 ·exact x.a.2
 ·exact x.b.2
 ·exact x.c.2⟩
theorem rG.cell (x:rG){j:Nat}(h:j<3):(sM.cells x)[0+j]?=some (x.at_ j).1.1:=by
 rcases j with _|_|_|j
 ·rfl
 ·rfl
 ·rfl
 ·omega
def nh (x:rG):du:=iK [sl eK x.a.1 x.la,sl eK x.b.1 x.lb,sl eK x.c.1 x.lc]
theorem Ie (x:rG)(j:Nat)(ρ:Ro)(h:(nh x).f ρ):(sl eK (x.at_ j).1.1 (x.at_ j).2).f ρ:=by
 have h1:=h (sl eK x.a.1 x.la) (by simp)
 have d:=h (sl eK x.b.1 x.lb) (by simp)
 have e:=h (sl eK x.c.1 x.lc) (by simp)
 unfold rG.at_
 split
 ·exact h1
 ·split
  ·exact d
  ·exact e
structure kz where
 nr:Nat
 nl:Nat
 kv:aV
 av:aV
 nV:aV
 fv:aV
 kids:List Int
 rK:List rG
def Rq (f:kz):List Value:=[iv (f.nr:Nat),iv (f.nl:Nat),f.kv.1,f.av.1,f.nV.1,f.fv.1]
def Kj (f:kz):Value:= .agg (Rq f).toArray
def hY (f:kz):du:=iK [sl aJ f.kv.1 f.kids,sl sM f.av.1 f.rK,aF nh f.rK]
def pq (nr nl:Nat)(top:Int):Int:=if 0≤top∧top<nr then top else if 1000≤top∧top<1000+(nl:Int)then nr+top-1000 else-1
def Vj:rG:=⟨bR,bR,bR,[],[],[]⟩
def q8 (f:kz)(rule a:Nat)(top:Int):Bool:=decide (0≤pq f.nr f.nl top)&&decide (1≤a)&&decide ((a:Int)≤f.kids.getD rule 0)&&(((f.rK.getD rule Vj).at_ (a-1)).2.getD (pq f.nr f.nl top).toNat false)
structure yE (f:kz):Prop where
 nr:f.nr≤1000
 nl:f.nl≤1000
 kl:f.kids.length=f.nr
 al:f.rK.length=f.nr
 k3:∀k∈f.kids,k≤3
 ln:∀(r:Nat) (x:rG) (k:Int) (j:Nat),f.rK[r]?=some x→f.kids[r]?=some k→(j:Int)<k→(x.at_ j).2.length=f.nr+f.nl
theorem JT {nr nl:Nat}{top:Int}(h:0≤pq nr nl top):(pq nr nl top).toNat<nr+nl:=by
 unfold pq at h⊢
 split
 ·omega
 ·split
  ·omega
  ·rename_i h1 a;rw[aA h1,aA a]at h;omega
theorem Hh (f:kz)(b:yE f)(top:Int)(ht:aZ top):eC prog 159 #[Kj f,iv top] [] (iv (pq f.nr f.nl top)):=by
 refine eC.qC (args:=[Kj f,iv top]) 28 func159 rfl ntmps159 rfl (λc=> ?_);refine go ?_
 have d:=b.nr
 have h:=b.nl
 unfold aZ at ht;refine go ?_;refine St.dJ (.mk rfl) rfl (λi=> ?_);refine g9 ?_;refine St.gt _ rfl rfl (λa=>Ev.move (.mk rfl)) rfl ?_;refine St.gt _ rfl rfl (λa=>Ev.da (.mk rfl) D2) rfl ?_;refine St.gt _ rfl rfl (λa=>Ev.ke (ai.gv rfl a) gV trivial (by rfl)) rfl ?_;refine St.gt _ rfl rfl (λa=>Ev.lss (ai.gv rfl a) (ai.gv rfl a)) rfl ?_;refine g3 ?_;refine St.cq (λe=> ?_) (λe=> ?_)
 ·refine g8 ?_
  refine St.rV [_] [] ?_;exact ie (show top=pq f.nr f.nl top by unfold pq;rw[aC (by omega)])
 ·refine g8 ?_
  refine St.gt _ rfl rfl (λa=>Ev.move (.mk rfl)) rfl ?_;refine St.gt _ rfl rfl (λa=>Ev.da (.mk rfl) Rz) rfl ?_;refine St.gt _ rfl rfl (λa=>Ev.ke (ai.gv rfl a) gV trivial (by rfl)) rfl ?_;refine St.gt _ rfl rfl (λa=>Ev.add (.mk rfl) (ai.gv rfl a) (by first|omega|(simp only[fJ]at a;omega))) rfl ?_;refine St.gt _ rfl rfl (λa=>Ev.lss (ai.gv rfl a) (ai.gv rfl a)) rfl ?_;refine g3 ?_;refine St.cq (λg=> ?_) (λg=> ?_)
  ·refine g12 ?_
   refine St.rV [_] [] ?_;exact ie (show(f.nr:Int)+top-1000=pq f.nr f.nl top by unfold pq;rw[aA (by omega),aC (by omega)])
  ·refine g8 ?_
   refine St.rV [_] [] ?_;exact ie (show(-1:Int)=pq f.nr f.nl top by unfold pq;rw[aA (by omega),aA (by omega)])
theorem Ds (f:kz)(e:yE f)(rule a:Nat)(t:rule<f.nr)(hk:1≤a)(u:a≤1000)(top:Int)(ht:aZ top):dz prog 146 #[Kj f,iv (rule:Nat),iv (a:Nat),iv top] ([hY f].map aB) (λv H'=>v= .bool (q8 f rule a top)∧H'=[]):=by
 refine dz.body (args:=[Kj f,iv (rule:Nat),iv (a:Nat),iv top]) 51 func146 rfl ntmps146 rfl (λc=> ?_);refine St.cast (H':=[aB (hY f)]) rfl ?_;refine go ?_
 refine St.jN (hY f) (λ_:Unit=>[sl aJ f.kv.1 f.kids,sl sM f.av.1 f.rK,aF nh f.rK]) (λρ h=>⟨(),h⟩) λ_=> ?_
 refine St.cast (H':=[aB (sl aJ f.kv.1 f.kids),aB (sl sM f.av.1 f.rK),aB (aF nh f.rK),aB (hY f)]) rfl ?_
 have w:=e.kl
 have y:=e.al
 obtain⟨k,l⟩:=aE (show rule<f.kids.length by omega);obtain⟨x,hx⟩:=aE (show rule<f.rK.length by omega)
 have q:=e.k3 k (ae l)
 have g:f.kids.getD rule 0=k:=by rw[ar,l];rfl
 have r:f.rK.getD rule Vj=x:=by rw[ar,hx];rfl
 obtain⟨j,rfl⟩:∃j,a=j+1:=⟨a-1,by omega⟩
 have m:=e.ln rule x k j hx l
 have n:=JT (nr:=f.nr) (nl:=f.nl) (top:=top)
 refine St.cK nh f.rK (x:=x) (ae hx) ?_;refine St.eZ (sl eK (x.at_ j).1.1 (x.at_ j).2) [nh x] (λρ h=>Ie x j ρ (h _ (aQ ..))) ?_;refine St.Jf f.av.1 (by omega) (λbs os cs s=> ?_);refine go ?_;refine St.dJ (.mk rfl) rfl (λz=> ?_);refine g7 ?_;refine St.ee (Ev.call (Hh f e top ht) Zk (.aX rfl rfl)) ?_;refine g8 ?_;refine St.split 15 _ rfl (λhp=> ?_) (λhp=> ?_)
 ·have o:0≤pq f.nr f.nl top:=fM hp
  have A:=n o
  obtain⟨pl,i⟩:∃pl:Nat,pq f.nr f.nl top=(pl:Int):=⟨(pq f.nr f.nl top).toNat,by omega⟩
  rw[i];refine St.cG rfl rfl ?_;refine go ?_;refine St.cG rfl rfl ?_;refine go ?_;refine St.ee (Ev.gZ (.mk rfl) rfl (.mk rfl)) ?_;refine go ?_;refine St.known 19 _ true rfl (eB (by omega)) ?_;refine St.cG rfl rfl ?_;refine go ?_;refine St.cG rfl rfl ?_;refine go ?_;refine St.cG rfl rfl ?_;refine go ?_;refine St.cG rfl rfl ?_;refine go ?_;refine St.ee (Ev.gZ (.mk rfl) rfl (.mk rfl)) ?_;refine go ?_;refine St.known 25 _ true rfl (eB (by omega)) ?_;refine St.cG rfl rfl ?_;refine go ?_;refine St.cG rfl rfl ?_;refine go ?_;refine St.ee (Ev.gZ (.mk rfl) rfl (.mk rfl)) ?_;refine go ?_;refine St.known 29 _ true rfl (eB (by omega)) ?_;refine St.cG rfl rfl ?_;refine go ?_;refine St.cG rfl rfl ?_;refine go ?_;refine St.cG rfl rfl ?_;refine go ?_;refine St.cG rfl rfl ?_;refine go ?_;refine St.cG rfl rfl ?_;refine go ?_;refine St.cG rfl rfl ?_;refine go ?_;refine St.cG rfl rfl ?_;refine go ?_;refine St.ee (Ev.gZ (.mk rfl) rfl (.mk rfl)) ?_;refine go ?_;refine St.split 38 _ rfl (λb=> ?_) (λb=> ?_)
  ·have d:((j+1:Nat):Int)≤k:=fM b
   have B:=m (by omega)
   obtain⟨bv,p⟩:=aE (show pl<(x.at_ j).2.length by omega);refine St.cG rfl rfl ?_;refine go ?_;refine St.cG rfl rfl ?_;refine go ?_;refine St.cG rfl rfl ?_;refine go ?_;refine St.cG rfl rfl ?_;refine go ?_;refine St.cG rfl rfl ?_;refine go ?_;refine St.cG rfl rfl ?_;refine go ?_;refine St.cG rfl rfl ?_;refine St.ee (Ev.xk (j:=j) s (.mk rfl) (.mk rfl) A3 qV (by omega) (by omega)) ?_;refine St.cG rfl rfl ?_;refine St.ee (Ev.ld1 (.mk rfl) hx jj trivial (x.cell (by omega))) ?_;refine St.cG rfl rfl ?_;refine go ?_;refine St.cG rfl rfl ?_;refine go ?_;refine St.cG rfl rfl ?_;refine go ?_;refine St.ee (Ev.gZ (.mk rfl) rfl (.mk rfl)) ?_;refine g4 ?_;refine St.rV [_] [] ?_;exact⟨by unfold q8;rw[i,eB (show(0:Int)≤(pl:Nat) by omega),eB (show 1≤j+1 by omega),g,eB d,r];show _=Value.bool (true&&true&&true&&((x.at_ j).2.getD pl false));rw[ar,p];rfl,rfl⟩
  ·have d:¬((j+1:Nat):Int)≤k:=iV b
   refine St.bq rfl rfl rfl ?_;refine St.bq rfl rfl rfl ?_;refine St.bq rfl rfl rfl ?_;refine St.bq rfl rfl rfl ?_;refine St.bq rfl rfl rfl ?_;refine St.bq rfl rfl rfl ?_;refine St.bq rfl rfl rfl ?_;refine St.bq rfl rfl rfl ?_;refine St.bq rfl rfl rfl ?_;refine St.bq rfl rfl rfl ?_;refine St.bq rfl rfl rfl ?_;refine St.ee (Ev.kQ (.mk rfl) rfl (.mk rfl)) ?_;refine g4 ?_;refine St.rV [_] [] ?_;exact⟨by unfold q8;rw[g,fL d,Bool.and_false,Bool.false_and];rfl,rfl⟩
 ·have o:¬0≤pq f.nr f.nl top:=iV hp
  refine St.bq rfl rfl rfl ?_;refine St.bq rfl rfl rfl ?_;refine St.ee (Ev.kQ (.mk rfl) rfl (.mk rfl)) ?_;refine go ?_;refine St.bq rfl rfl rfl ?_;refine St.bq rfl rfl rfl ?_;refine St.bq rfl rfl rfl ?_;refine St.bq rfl rfl rfl ?_;refine St.ee (Ev.kQ (.mk rfl) rfl (.mk rfl)) ?_;refine go ?_;refine St.bq rfl rfl rfl ?_;refine St.bq rfl rfl rfl ?_;refine St.ee (Ev.kQ (.mk rfl) rfl (.mk rfl)) ?_;refine go ?_;refine St.bq rfl rfl rfl ?_;refine St.bq rfl rfl rfl ?_;refine St.bq rfl rfl rfl ?_;refine St.bq rfl rfl rfl ?_;refine St.bq rfl rfl rfl ?_;refine St.bq rfl rfl rfl ?_;refine St.bq rfl rfl rfl ?_;refine St.ee (Ev.kQ (.mk rfl) rfl (.mk rfl)) ?_;refine go ?_;refine St.bq rfl rfl rfl ?_;refine St.bq rfl rfl rfl ?_;refine St.bq rfl rfl rfl ?_;refine St.bq rfl rfl rfl ?_;refine St.bq rfl rfl rfl ?_;refine St.bq rfl rfl rfl ?_;refine St.bq rfl rfl rfl ?_;refine St.bq rfl rfl rfl ?_;refine St.bq rfl rfl rfl ?_;refine St.bq rfl rfl rfl ?_;refine St.bq rfl rfl rfl ?_;refine St.ee (Ev.kQ (.mk rfl) rfl (.mk rfl)) ?_;refine g4 ?_;refine St.rV [_] [] ?_;exact⟨by unfold q8;rw[fL o];rfl,rfl⟩
theorem Dx (v0:Value)(xs:List Int)(y:Int):eC prog 157 #[v0,iv y] [sl aJ v0 xs] (iv (ix (λx=>decide (y=x)) xs)):=by
 refine eC.nJ (args:=[v0,iv y]) 19 func157 rfl ntmps157 rfl (λc=> ?_);refine go ?_;refine St.wf v0 (λf hlen=> ?_);refine g13 ?_;refine St.lS (ι:=Nat) (λk T=>(8,iv k)::T) (λk=>k≤xs.length∧(xs.take k).all (λx=> !decide (y=x))=true) (λk=>xs.length-k) 0 (aD.cons 0 rfl (aD.cons 1 rfl (aD.cons 7 rfl aD.nil))) ⟨aP _,rfl⟩ ?_;intro k d;obtain⟨hk,a⟩:=d;refine g6 ?_;refine St.cq (λe=> ?_) (λe=> ?_)
 ·obtain⟨x,hx⟩:=aE (show k<xs.length by omega)
  refine g20 ?_;refine St.cq (λb=> ?_) (λb=> ?_)
  ·refine g12 ?_
   refine St.rV [_] [] ?_;exact ie (tm a hx (by simpa using b)).symm
  ·refine g8 ?_
   refine St.aS (k+1) ⟨by omega,kr a hx (by simpa using b)⟩
 ·refine g11 ?_
  refine St.rV [_] [] ?_;exact ie (xu a (by omega)).symm
theorem yC (v0:Value)(xs:List Int)(y:Int):eC prog 143 #[v0,iv y] [sl aJ v0 xs] (.bool (xs.any (λx=>decide (y=x)))):=by
 refine eC.nJ (args:=[v0,iv y]) 9 func143 rfl ntmps143 rfl (λc=> ?_);refine g9 ?_;refine St.ee (Ev.call (Dx v0 xs y) Zi (.aX rfl rfl)) ?_;refine g5 ?_;refine St.rV [_] [] ?_;exact be (qx _ _)
theorem CP (v0:Value)(xs:List Int)(a:FuncId)(f:aI prog a)(caps:List Value)(ds:List du)(b:Int→Bool)(g:∀p∈xs,eC prog a ([iv p]++caps).toArray ds (.bool (b p))):
 eC prog 158 #[v0,.func (.func a) #[] caps.toArray] (sl aJ v0 xs::ds) (iv (ix b xs)):=by
 refine eC.Ck (args:=[v0,.func (.func a) #[] caps.toArray]) 19 func158 rfl ntmps158 rfl (λc=> ?_);refine go ?_;refine St.wf v0 (λj hlen=> ?_);refine g13 ?_;refine St.lS (ι:=Nat) (λk T=>(8,iv k)::T) (λk=>k≤xs.length∧(xs.take k).all (λy=> !b y)=true) (λk=>xs.length-k) 0 (aD.cons 0 rfl (aD.cons 1 rfl (aD.cons 7 rfl aD.nil))) ⟨aP _,rfl⟩ ?_;intro k h;obtain⟨hk,d⟩:=h;refine g6 ?_;refine St.cq (λi=> ?_) (λi=> ?_)
 ·obtain⟨p,hp⟩:=aE (show k<xs.length by omega)
  refine g17 ?_;refine St.ee (Ev.eh (g p (ae hp)) f (.mk rfl) (.au rfl)) ?_;refine g2 ?_;refine St.cond _ rfl (λe=> ?_) (λe=> ?_)
  ·skip
   refine g12 ?_;refine St.DR [_] _ results158 ⟨rfl,trivial⟩ ?_ (λ_ hw=>hw);exact ie (tm d hp e).symm
  ·skip
   refine g8 ?_;refine St.Ge (k+1) ⟨by omega,kr d hp (by simpa using e)⟩ (by first|omega|(dsimp only;omega)) (by repeat(first|exact Sub.nil|refine Sub.cons (by first|rfl|exact congrArg (λz=>some (iv z)) (by first|omega|(dsimp only;omega))|exact congrArg (λz=>some (Value.bool z)) (by first|assumption|exact iZ (by assumption))) ?_)) (λ_ hw=>hw)
 ·refine g11 ?_
  refine St.DR [_] _ results158 ⟨rfl,trivial⟩ ?_ (λ_ hw=>hw);exact ie (xu d (by omega)).symm
theorem xA (v0:Value)(xs:List Int)(a:FuncId)(d:aI prog a)(caps:List Value)(ds:List du)(b:Int→Bool)(e:∀p∈xs,eC prog a ([iv p]++caps).toArray ds (.bool (b p))):
 eC prog 144 #[v0,.func (.func a) #[] caps.toArray] (sl aJ v0 xs::ds) (.bool (xs.any b)):=by
 refine eC.Ck (args:=[v0,.func (.func a) #[] caps.toArray]) 9 func144 rfl ntmps144 rfl (λc=> ?_);refine g9 ?_;refine St.ee (Ev.call (CP v0 xs a d caps ds b e) Zj (.aX rfl rfl)) ?_;refine g5 ?_;refine St.DR [_] _ results144 ⟨rfl,trivial⟩ ?_ (λ_ hw=>hw);exact be (qx _ _)
theorem CW (f:kz)(k:yE f)(i:List Value)(j:(i.drop 7).take 6=Rq f)(b rule a:Nat)(l:rule<f.nr)(hk:1≤a)(m:a≤1000)(d e g:Nat)(top:Int)(ht:aZ top):dz prog 145 #[iv top,.pointer (some ⟨d,0,none⟩),.pointer (some ⟨e,0,none⟩),.pointer (some ⟨g,0,none⟩)] ([pf d (.pointer (some ⟨b,0,none⟩)),pf e (iv (rule:Nat)),pf g (iv (a:Nat)),fP b i,hY f].map aB) (λv H'=>v= .bool (q8 f rule a top)∧H'=[]):=by
 refine dz.body (args:=[iv top,.pointer (some ⟨d,0,none⟩),.pointer (some ⟨e,0,none⟩),.pointer (some ⟨g,0,none⟩)]) 14 func145 rfl ntmps145 rfl (λc=> ?_);refine St.cast (H':=[aB (pf d (.pointer (some ⟨b,0,none⟩))),aB (pf e (iv (rule:Nat))),aB (pf g (iv (a:Nat))),aB (fP b i),aB (hY f)]) rfl ?_;refine g6 ?_;refine St.dc [] mixed (λn o=> ?_);refine SW.gd 0 ?_;refine SW.gd 1 ?_;refine SW.gd 2 ?_;refine SW.dd 3 rfl (λ_=>Ev.Sp 6 (.mk rfl) underlying174 trivial Jp j rfl) ?_;refine SW.slot 9 (Kj f) rfl rfl ?_;refine SW.gd 4 ?_;refine SW.gd 5 ?_;refine SW.gd 6 ?_;refine SW.dd 7 rfl (λ_=>Ev.call ((Ds f k rule a l hk m top ht).mono λ_ _ h=>h.1) Zf (.gU rfl rfl rfl rfl)) ?_;refine SW.gd 8 ?_;refine SW.dn ?_;refine g2 ?_;refine St.rV [_] [] ?_;exact⟨rfl,rfl⟩
theorem tG (f:kz)(o:yE f)(d:List Value)(i:(d.drop 7).take 6=Rq f)(a rule b:Nat)(p:rule<f.nr)(hk:1≤b)(q:b≤1000)(g:aV)(j:d[13]?=some g.1)(its:List dL)(e:Nat)(x:dL)(hx:its[e]?=some x)(n:∀t∈x.ba,aZ t):dz prog 123 #[.pointer (some ⟨a,0,none⟩),iv (rule:Nat),iv (b:Nat),iv (e:Nat)] [aB (hY f),aW a (.cells d.toArray 180 (0,0)),row g.1 186 6 its.length (rows eE its),row x.tv.1 3 1 x.ba.length (rows aJ x.ba)] (λv H'=>v= .bool (x.ba.any (q8 f rule b))∧H'=[aW a (.cells d.toArray 180 (0,0)),row g.1 186 6 its.length (rows eE its),row x.tv.1 3 1 x.ba.length (rows aJ x.ba)]):=by
 refine dz.body (args:=[.pointer (some ⟨a,0,none⟩),iv (rule:Nat),iv (b:Nat),iv (e:Nat)]) 19 func123 rfl ntmps123 rfl (λc=> ?_);refine go ?_
 have r:=ah hx
 refine go ?_;refine St.Mf (.mk rfl) rfl rfl (λk=> ?_);refine St.Mf (.mk rfl) rfl rfl (λl=> ?_);refine St.Mf (.mk rfl) rfl rfl (λm=> ?_);refine g8 ?_;refine St.ee (Ev.ke (.mk rfl) nY trivial j) ?_;refine g3 ?_;refine St.ee (Ev.cu (.mk rfl) bJ trivial (by omega) (eN eE _ e 5 _ hx (by decide))) ?_;refine St.ee (Ev.func (.ej rfl rfl rfl)) ?_;refine St.ee (Ev.wM (xA x.tv.1 x.ba 145 Ze [.pointer (some ⟨k,0,none⟩),.pointer (some ⟨l,0,none⟩),.pointer (some ⟨m,0,none⟩)] [pf k (.pointer (some ⟨a,0,none⟩)),pf l (iv (rule:Nat)),pf m (iv (b:Nat)),fP a d,hY f] (q8 f rule b) (λt ht=>(CW f o d i a rule b p hk q k l m t (n t ht)).mono λ_ _ h=>h.1)) Zd (.aX rfl rfl) (dW.row (dW.aW (dW.aW (dW.aW (dW.ag7 (dW.aB dW.nil))))) rfl rfl rfl n)) ?_;refine g4 ?_;refine St.rV [_] [aW a (.cells d.toArray 180 (0,0)),row g.1 186 6 its.length (rows eE its),row x.tv.1 3 1 x.ba.length (rows aJ x.ba)] ?_;exact⟨rfl,rfl⟩
theorem Ev.kg {P:Program}{n:Nat}{F:Fr}{A:World→Prop}{ty:TypeId}{x:Operand}{b o' cap m size k off:Nat}{v:Value}(a:v= .slice (some ⟨b,o',none⟩) m cap)(hx:ai F x (cZ v size k off)):Ev P n F A (.nilCheck x) ty (cZ v size k off):= .of_run λac w c _=>by
 subst a;rw[eG]at hx
 simp[execOp,hx.eval c,eG]
def nC (g:gQ)(a b:aV)(f:kz)(n:Nat)(c vs:Value)(d:Nat):List Value:=jD g++ [a.1,b.1]++Rq f++ [c,iv (n:Nat),vs,.map (some d)]
instance (g:gQ)(a b:aV)(f:kz)(n:Nat)(d vs u:Value)(c:Nat):E4 (nC g a b f n d vs c) 13 u (nC g a b f n u vs c):=⟨rfl⟩
theorem Ez {α:Type}(l:List α)(a:α)(f:α→α):(l++ [a]).modify l.length f=l++ [f a]:=by
 induction l with
 |nil=>rfl
 |cons b l c=>rw[wj,fB,List.modify_succ_cons,c];rfl
theorem Gx {α:Type}(l:List α)(a:α):(l++ [a]).eraseIdx l.length=l:=by
 induction l with
 |nil=>rfl
 |cons b l c=>rw[wj,fB,List.eraseIdx_cons_succ,c]
theorem sW {α β:Type}(g:α→β)(f:β→β):∀{l:List α} {i:Nat} {a b:α},l[i]?=some a→g b=f (g a)→(l.set i b).map g=(l.map g).modify i f
 | [],_,_,_,h,_=>by cases h
 |c::l,0,a,b,h,d=>by
  obtain rfl:=Option.some.inj h;rw[sF,fN,fN,List.modify_zero_cons,d]
 |c::l,i+1,a,b,h,d=>by
  rw[wq,fN,fN,List.modify_succ_cons,sW g f (l:=l) h d]
structure lN (d:nG):Prop where
 ba:∀x∈d.its,∀t∈x.ba,aZ t
 keys:xC d.m (d.its.map cF)
 nd:((d.its.map cF).map λx=>fZ x.ed).Nodup
theorem XA {its:List lM}{k:ax}{i:Nat}(h:xx its k=some i):i<its.length:=by
 obtain⟨it,h1,_⟩:=zB h;exact ah h1
structure U6 (n frm tqo:Nat)(d:nG)(e:om)(i:Nat)(x:dL)(its:List dL)(bz:List (aV×List Nat))(m:List (ax×Value)):Prop where
 at_:its[i]?=some x
 keys:xC m (its.map cF)
 ba:∀x∈its,∀t∈x.ba,aZ t
 GO:bz.length=d.bz.length
 XX:∀k,k≠slt n frm tqo→bz[k]?=d.bz[k]?
 fin:∀w:uj,kY n d.cs e w=⟨(its.map cF).modify i λit=>it.put w,bz.map Prod.snd⟩
 nd:((its.map cF).map λx=>fZ x.ed).Nodup
theorem U6.AJ {n frm tqo:Nat}{d:nG}(h:lN d){e:om}{i:Nat}(hk:xx (d.its.map cF) (fZ e)=some i){x:dL}(hx:d.its[i]?=some x):U6 n frm tqo d e i x d.its d.bz d.m:=
 ⟨hx,h.keys,h.ba,rfl,λ_ _=>rfl,λw=>by unfold kY;rw[show d.cs.its=d.its.map cF from rfl,hk];rfl,h.nd⟩
theorem U6.new {n frm tqo cx:Nat}{d:nG}(h:lN d){g:dD}(hk:xx (d.its.map cF) (fZ ⟨frm,tqo,cx,ay g⟩)=none){q:aV×List Nat}(c:d.bz[slt n frm tqo]?=some q)(u:aV):
 U6 n frm tqo d ⟨frm,tqo,cx,ay g⟩ d.its.length ⟨frm,tqo,cx,g,bR,[],bR,[]⟩ (d.its++ [⟨frm,tqo,cx,g,bR,[],bR,[]⟩]) (d.bz.set (slt n frm tqo) (u,q.2++ [d.its.length])) (l9 d.m (fZ ⟨frm,tqo,cx,ay g⟩) (iv d.its.length)):=by
 refine⟨by simp,?_,λx hx t ht=> ?_,by rw[List.length_set],λk hk=>by rw[ic (λh=>hk h.symm)],λw=> ?_,?_⟩
 ·have:=h.keys.new (it:=⟨⟨frm,tqo,cx,ay g⟩,[],[]⟩) hk
  rw[aO]at this;rw[cP];exact this
 ·rcases cD.1 hx with hx|hx
  ·exact h.ba x hx t ht
  ·rw[bO.1 hx]at ht;cases ht
 ·unfold kY
  rw[show d.cs.its=d.its.map cF from rfl,hk]
  dsimp only
  congr 1
  ·rw[cP,show d.its.length=(d.its.map cF).length from(aO _).symm]
   exact(Ez (d.its.map cF) ⟨⟨frm,tqo,cx,ay g⟩,[],[]⟩ (λit=>it.put w)).symm
  ·rw[aO]
   exact(sW Prod.snd (λl=>l++ [d.its.length]) c rfl).symm
 ·rw[cP,cP,List.nodup_append]
  refine⟨h.nd,by simp,λa e b f=> ?_⟩;obtain⟨it,hit,rfl⟩:=cz.1 e
  have i:b=fZ ⟨frm,tqo,cx,ay g⟩:=bO.1 f
  subst i;exact O1 hk it hit
theorem FZ {its:List dL}{i:Nat}{x:dL}(h:its[i]?=some x)(u:aV)(l:List rf):(rows eE its).set (i*6+4) u.1=rows eE (its.set i ⟨x.frm,x.tqo,x.cx,x.gr,u,l,x.tv,x.ba⟩):=by
 induction its generalizing i with
 |nil=>cases h
 |cons a its b=>
  cases i with
  |zero=>obtain rfl:=Option.some.inj h;rfl
  |succ i=>
   have:=b (i:=i) h
   show(eE.cells a++rows eE its).set ((i+1)*6+4) u.1=eE.cells a++rows eE (its.set i _)
   rw[←this,lK _ _ (by show 6≤_;omega)]
   congr 2
   show(i+1)*6+4-6=_
   omega
theorem P8 {its:List dL}{i:Nat}{x:dL}(h:its[i]?=some x)(u:aV)(l:List Int):(rows eE its).set (i*6+5) u.1=rows eE (its.set i ⟨x.frm,x.tqo,x.cx,x.gr,x.wv,x.cW,u,l⟩):=by
 induction its generalizing i with
 |nil=>cases h
 |cons a its b=>
  cases i with
  |zero=>obtain rfl:=Option.some.inj h;rfl
  |succ i=>
   have:=b (i:=i) h
   show(eE.cells a++rows eE its).set ((i+1)*6+5) u.1=eE.cells a++rows eE (its.set i _)
   rw[←this,lK _ _ (by show 6≤_;omega)]
   congr 2
   show(i+1)*6+5-6=_
   omega
theorem pK (f:dL→List ak)(g:aV×List Nat→List ak)(its:List dL){bz:List (aV×List Nat)}{k:Nat}{q:aV×List Nat}(h:bz[k]?=some q):(bE f its++bE g bz).Perm (g q++(bE f its++bE g (bz.eraseIdx k))):=by
 refine((nN g h).append_left (bE f its)).trans ?_;rw[←dq,←dq];exact jV.append_right _
theorem ae7 (f:dL→List ak)(g:aV×List Nat→List ak)(its:List dL){bz:List (aV×List Nat)}{k:Nat}(q:aV×List Nat)(h:k<bz.length):(g q++(bE f its++bE g (bz.eraseIdx k))).Perm (bE f its++bE g (bz.set k q)):=by
 refine List.Perm.trans ?_ ((sP g q h).append_left (bE f its));rw[←dq,←dq];exact jV.append_right _
theorem z8 (f:dL→List ak)(X:List ak){its:List dL}{i:Nat}{x:dL}(h:its[i]?=some x):(bE f its++X).Perm (f x++(bE f (its.eraseIdx i)++X)):=by
 rw[←dq];exact(nN f h).append_right X
theorem ad6 (f:dL→List ak)(X:List ak){its:List dL}{i:Nat}(x:dL)(h:i<its.length):(f x++(bE f (its.eraseIdx i)++X)).Perm (bE f (its.set i x)++X):=by
 rw[←dq];exact(sP f x h).append_right X
theorem QE (b a:TypeId)(X:List ak){its:List dL}{i:Nat}(x:dL){cW:List rf}{w:rf}(hw:x.cW=cW++ [w])(h:i<its.length):
 ([row x.wv.1 b 3 x.cW.length (rows mM x.cW),row x.tv.1 a 1 x.ba.length (rows aJ x.ba),row w.kv.1 a 1 w.kids.length (rows aJ (bW w.kids))]++(bE (jE a) cW++(bE (eo b a) (its.eraseIdx i)++X))).Perm (bE (eo b a) (its.set i x)++X):=by
 refine List.Perm.trans ?_ (ad6 (eo b a) X x h)
 show(row x.wv.1 b 3 x.cW.length (rows mM x.cW)::row x.tv.1 a 1 x.ba.length (rows aJ x.ba)::(jE a w++(bE (jE a) cW++(bE (eo b a) (its.eraseIdx i)++X)))).Perm (row x.wv.1 b 3 x.cW.length (rows mM x.cW)::row x.tv.1 a 1 x.ba.length (rows aJ x.ba)::(bE (jE a) x.cW++(bE (eo b a) (its.eraseIdx i)++X)))
 refine .cons _ (.cons _ ?_);rw[hw,S4,show bE (jE a) [w]=jE a w from gx _,←dq];exact jV.append_right _
theorem JJ {n frm tqo:Nat}{d:nG}{e:om}{i:Nat}{x x3:dL}{its:List dL}{bz:List (aV×List Nat)}{m:List (ax×Value)}(h:U6 n frm tqo d e i x its bz m){w:uj}(f:cF x3=(cF x).put w)(ht:∀t∈x3.ba,aZ t)(b:aV):
 (⟨b,its.set i x3,d.nV,bz,m⟩:nG).cs=kY n d.cs e w∧lN ⟨b,its.set i x3,d.nV,bz,m⟩:=by
 have a:(its.set i x3).map cF=(its.map cF).modify i λit=>it.put w:=sW cF _ h.at_ f
 refine⟨?_,?_,?_,?_⟩
 ·rw[h.fin w];show(⟨(its.set i x3).map cF,_⟩:Cs)=_;rw[a]
 ·intro y hy
  rcases lJ hy with hy|rfl
  ·exact h.ba y hy
  ·exact ht
 ·show xC m ((its.set i x3).map cF)
  rw[a];exact h.keys.put i w
 ·show((((its.set i x3).map cF)).map λx=>fZ x.ed).Nodup
  have e2:(((its.set i x3).map cF).map λx=>fZ x.ed)=(its.map cF).map λx=>fZ x.ed:=by
   rw[a]
   refine pa λk=> ?_
   rw[bP,bP,List.getElem?_modify]
   cases (its.map cF)[k]? with
   |none=>rfl
   |some y=>by_cases c:i=k<;>simp[c,lM.put]
  rw[e2];exact h.nd
theorem um (g:gQ)(G H:aV)(f:kz)(n:Nat)(hn:n≤12)(d:nG)(hp:lN d)(C s frm tqo cx:Nat)(gr:dD)(U:gr.nodes.length≤100)(hgl:∀t∈gr.nodes,t.aq.length≤1000)(V:frm≤n)(YU:tqo≤n)
 (rule lex:Int) (L:aZ rule) (hle: -1000000≤lex∧lex≤1000000) (kv:aV) (kids:List Nat) (q:aV×List Nat) (Q:d.bz[slt n frm tqo]?=some q) (hql:q.2.length≤1400000000000) (SJ:d.its.length+1≤1400000000000) (Nr:∀x∈d.its,x.cW.length+1≤3000000000000∧x.ba.length≤x.cW.length):
 dz prog 120 #[.pointer (some ⟨C,0,none⟩),Gw frm tqo cx gr.nv.1,.agg #[iv rule,iv lex,kv.1]] (aB (aG gr)::aB (aF (λx:dL=>aG x.gr) (d.its))::aW C (.cells (nC g G H f n d.eF.1 d.nV.1 s).toArray 180 (0,0))::aW s (eU mkStr (d.m))::row d.eF.1 186 6 (d.its).length (rows eE (d.its))::row d.nV.1 58 1 (d.bz).length (rows bT ((d.bz).map Prod.fst))::row kv.1 3 1 kids.length (rows aJ (bW kids))::(bE (eo 200 3) (d.its)++bE (fq 3) (d.bz)))
  (λv H'=>∃d2:nG,d2.cs=kY n d.cs (⟨frm,tqo,cx,ay gr⟩:om) (⟨rule,lex,kids⟩:uj)∧d2.nV=d.nV∧lN d2∧d2.bz.length=d.bz.length∧(∀k,k≠slt n frm tqo→d2.bz[k]?=d.bz[k]?)∧H'=aB (aF (λx:dL=>aG x.gr) (d2.its))::aW C (.cells (nC g G H f n d2.eF.1 d.nV.1 s).toArray 180 (0,0))::aW s (eU mkStr (d2.m))::row d2.eF.1 186 6 (d2.its).length (rows eE (d2.its))::row d2.nV.1 58 1 (d2.bz).length (rows bT ((d2.bz).map Prod.fst))::(bE (eo 200 3) (d2.its)++bE (fq 3) (d2.bz))):=by
 refine dz.body (args:=[.pointer (some ⟨C,0,none⟩),Gw frm tqo cx gr.nv.1,.agg #[iv rule,iv lex,kv.1]]) 96 func120 rfl ntmps120 rfl (λc=> ?_);refine go ?_
 have W:=ah Q
 have anT:=L.1
 have anU:=L.2
 refine go ?_;refine St.dJ (.mk rfl) rfl (λb4=> ?_);refine St.dJ (.mk rfl) rfl (λb5=> ?_);refine g9 ?_;refine St.join (ι:=Int) (λtop T=>(6,iv top)::T) (λtop=>aW b4 (.cells [iv (frm:Nat),iv (tqo:Nat),iv (cx:Nat),gr.nv.1].toArray 183 (0,0))::aW b5 (.cells [iv rule,iv lex,kv.1].toArray 200 (0,0))::aB (aG gr)::aB (aF (λx:dL=>aG x.gr) (d.its))::aW C (.cells (nC g G H f n d.eF.1 d.nV.1 s).toArray 180 (0,0))::aW s (eU mkStr (d.m))::row d.eF.1 186 6 (d.its).length (rows eE (d.its))::row d.nV.1 58 1 (d.bz).length (rows bT ((d.bz).map Prod.fst))::row kv.1 3 1 kids.length (rows aJ (bW kids))::(bE (eo 200 3) (d.its)++bE (fq 3) (d.bz))) (λtop=>top=se (⟨rule,lex,kids⟩:uj)) (aD.cons 0 rfl (aD.cons 4 rfl (aD.cons 5 rfl aD.nil))) ?_ ?_
 ·refine g6 ?_
  refine St.cq (λh14=> ?_) (λh14=> ?_)
  ·refine g7 ?_
   refine St.mE (1000+lex) (by unfold se;rw[aC (show rule<0 by omega)])
  ·refine g2 ?_
   refine St.mE rule (by unfold se;rw[aA (show ¬rule<0 by omega)])
 ·intro top R
  refine g3 ?_;refine St.slot 18 (Gw frm tqo cx gr.nv.1) rfl rfl ?_;refine St.ee (Ev.call ((Nz frm tqo cx gr U hgl).mono λ_ _ h=>h.1) Za (.au rfl)) ?_;refine g4 ?_
  have A:=hp.keys (fZ (⟨frm,tqo,cx,ay gr⟩:om))
  refine g6 ?_;refine St.ee (Ev.tq mkStr (k:=(fZ (⟨frm,tqo,cx,ay gr⟩:om))) (.mk rfl) (.mk rfl) pZ (by exact xQ) eS) ?_;refine g7 ?_;refine St.join (ι:=Nat×dL×List dL×List dL×List (aV×List Nat)×List (ax×Value)×aV) (λ⟨i,a,b,K,l,m1,o⟩ T=>(8,iv ((i:Nat):Int))::T) (λ⟨i,a,b,K,l,m1,o⟩=>aW b4 (.cells [iv (frm:Nat),iv (tqo:Nat),iv (cx:Nat),gr.nv.1].toArray 183 (0,0))::aW b5 (.cells [iv rule,iv lex,kv.1].toArray 200 (0,0))::aW C (.cells (nC g G H f n o.1 d.nV.1 s).toArray 180 (0,0))::aW s (eU mkStr (m1))::row o.1 186 6 (b).length (rows eE (b))::row d.nV.1 58 1 (l).length (rows bT ((l).map Prod.fst))::row kv.1 3 1 kids.length (rows aJ (bW kids))::aB (aF (λx:dL=>aG x.gr) (b))::aB (aG gr)::row a.wv.1 200 3 (a.cW).length (rows mM (a.cW))::row a.tv.1 3 1 (a.ba).length (rows aJ (a.ba))::(bE (jE 3) a.cW++(bE (eo 200 3) K++bE (fq 3) l))) (λ⟨i,a,b,K,l,m1,o⟩=>U6 n frm tqo d (⟨frm,tqo,cx,ay gr⟩:om) i a b l m1∧K=b.eraseIdx i∧b.length≤1400000000000∧a.cW.length+1≤3000000000000∧a.ba.length≤a.cW.length) (aD.cons 0 rfl (aD.cons 5 rfl (aD.cons 6 rfl aD.nil))) ?_ ?_
  ·refine g6 ?_
   refine St.cq (λM=> ?_) (λM=> ?_)
   ·have Nf:xx (d.its.map cF) (fZ (⟨frm,tqo,cx,ay gr⟩:om))=none:=by cases X:xx (d.its.map cF) (fZ (⟨frm,tqo,cx,ay gr⟩:om))with|none=>rfl|some j=>rw[X]at A;rw[A]at M;simp at M
    refine g18 ?_;refine St.mapUpdate mkStr (k:=(fZ (⟨frm,tqo,cx,ay gr⟩:om))) (.mk rfl) (.mk rfl) (.mk rfl) pZ (by exact xQ) ?_;refine g3 ?_;refine St.dc (aW C (.cells (nC g G H f n d.eF.1 d.nV.1 s).toArray 180 (0,0))::row d.eF.1 186 6 (d.its).length (rows eE (d.its))::(bE (eo 200 3) (d.its)++bE (fq 3) (d.bz))) mixed (λnp ns=> ?_);refine SW.gd 0 ?_;refine SW.gd 1 ?_;refine SW.gd 2 ?_;refine SW.gd 3 ?_;refine SW.gd 5 ?_;refine SW.slot 47 (Gw frm tqo cx gr.nv.1) rfl rfl ?_;refine SW.dd 6 rfl (λ_=>Ev.build (ps:=[(0,(.tmp 47))]) (bF.au rfl) (λw=>Ma w)) ?_;refine SW.slot 48 (.agg #[iv (frm:Nat),iv (tqo:Nat),iv (cx:Nat),gr.nv.1,(.slice none 0 0),(.slice none 0 0)]) rfl rfl ?_;refine SW.t2 4 7 ?_ ?_
    focus
     refine g3 ?_;refine SW.go ?_;refine SW.t1 7 ?_;refine St.gX rfl (.au rfl) nY oY GM rfl rfl (by simp[Value.cells]) rfl rfl (λY=> ?_);refine g2 ?_;refine SW.go ?_;refine SW.t1 8 ?_;refine St.aj (.mk rfl) (.mk rfl) nY oY GM Mh (by intro u hu;have B:u∈[iv (frm:Nat),iv (tqo:Nat),iv (cx:Nat),gr.nv.1,.slice none 0 0,.slice none 0 0]:=hu;simp only[List.mem_cons,List.not_mem_nil,or_false]at B;rcases B with rfl|rfl|rfl|rfl|rfl|rfl;exact rfl;exact rfl;exact rfl;exact gr.nv.2;exact rfl;exact rfl) (by omega) (by omega) rfl rfl rfl rfl (λv50 Z=> ?_);refine St.aM v50 (show _=(d.its++ [(⟨frm,tqo,cx,gr,bR,[],bR,[]⟩:dL)]).length by rw[bQ];rfl) (show _=rows eE (d.its++ [(⟨frm,tqo,cx,gr,bR,[],bR,[]⟩:dL)]) by rw[bB];rfl) ?_;refine St.bZ v50 (λS _=> ?_);refine g2 ?_;refine SW.go ?_;refine SW.gd 9 ?_;refine SW.gd 10 ?_;refine SW.t1 11 ?_;refine St.cH (.mk rfl) (.mk rfl) Pb S (by rfl) ?_;refine g2 ?_;refine SW.go ?_;refine SW.dn ?_
    rotate_left
    focus
     refine St.gX rfl (.au rfl) nY oY GM rfl rfl (by simp[Value.cells]) rfl rfl (λY=> ?_);refine g2 ?_;refine SW.go ?_;refine SW.t1 4 ?_;refine g3 ?_;refine SW.go ?_;refine SW.t1 8 ?_;refine St.aj (.mk rfl) (.mk rfl) nY oY GM Mh (by intro u hu;have B:u∈[iv (frm:Nat),iv (tqo:Nat),iv (cx:Nat),gr.nv.1,.slice none 0 0,.slice none 0 0]:=hu;simp only[List.mem_cons,List.not_mem_nil,or_false]at B;rcases B with rfl|rfl|rfl|rfl|rfl|rfl;exact rfl;exact rfl;exact rfl;exact gr.nv.2;exact rfl;exact rfl) (by omega) (by omega) rfl rfl rfl rfl (λv50 Z=> ?_);refine St.aM v50 (show _=(d.its++ [(⟨frm,tqo,cx,gr,bR,[],bR,[]⟩:dL)]).length by rw[bQ];rfl) (show _=rows eE (d.its++ [(⟨frm,tqo,cx,gr,bR,[],bR,[]⟩:dL)]) by rw[bB];rfl) ?_;refine St.bZ v50 (λS _=> ?_);refine g2 ?_;refine SW.go ?_;refine SW.gd 9 ?_;refine SW.gd 10 ?_;refine SW.t1 11 ?_;refine St.cH (.mk rfl) (.mk rfl) Pb S (by rfl) ?_;refine g2 ?_;refine SW.go ?_;refine SW.dn ?_
    all_goals
     refine go ?_;refine St.tail (bE (eo 200 3) (d.its)++bE (fq 3) (d.bz)) (row q.1.1 3 1 (q.2).length (rows aJ (bW (q.2)))::(bE (eo 200 3) (d.its)++bE (fq 3) (d.bz.eraseIdx (slt n frm tqo)))) (pK _ _ _ Q) ?_;refine St.dc (row d.nV.1 58 1 (d.bz).length (rows bT ((d.bz).map Prod.fst))::row q.1.1 3 1 (q.2).length (rows aJ (bW (q.2)))::(bE (eo 200 3) (d.its)++bE (fq 3) (d.bz.eraseIdx (slt n frm tqo)))) mixed (λnp ns=> ?_);refine SW.gd 0 ?_;refine SW.gd 1 ?_;refine SW.gd 2 ?_;refine SW.dd 3 rfl (λ_=>Ev.iT 2 (.mk rfl) Bw trivial Br rfl rfl) ?_;refine SW.slot 56 (.agg #[iv (n:Nat),d.nV.1]) rfl rfl ?_;refine SW.gd 4 ?_;refine SW.gd 5 ?_;refine SW.gd 6 ?_;refine SW.gd 7 ?_;refine SW.gd 8 ?_;refine SW.t1 9 ?_;refine St.call (I7 n frm tqo (slt n frm tqo) hn V YU rfl d.nV d.bz q Q d.its.length (by omega) hql) Zb (.gU rfl rfl rfl rfl) rfl ?_;rintro v62 _ ⟨u,rfl⟩;refine St.dQ ?_;refine g2 ?_;refine SW.go ?_;refine SW.dn ?_;refine go ?_;refine St.dw 200 3 ?_;refine St.aM (.slice none 0 0) (show _=([]:List rf).length from rfl) (show _=rows mM []from rfl) ?_;refine St.dw 3 1 ?_;refine St.aM (.slice none 0 0) (show _=([]:List Int).length from rfl) (show _=rows aJ []from rfl) ?_;refine St.mm [row u.1 3 1 (q.2++ [d.its.length]).length (rows aJ (bW (q.2++ [d.its.length])))] (bE (eo 200 3) (d.its)++bE (fq 3) (d.bz.eraseIdx (slt n frm tqo))) (bE (jE 3) ([]:List rf)++(bE (eo 200 3) (d.its)++bE (fq 3) (d.bz.set (slt n frm tqo) (u,q.2++ [d.its.length])))) (ae7 (eo 200 3) (fq 3) d.its (u,q.2++ [d.its.length]) W) ?_;refine St.eZ (aF (λx:dL=>aG x.gr) (d.its++ [(⟨frm,tqo,cx,gr,bR,[],bR,[]⟩:dL)])) [aF (λx:dL=>aG x.gr) d.its,aG gr] (λρ h x hx=>by rcases cD.1 hx with hx|hx;exact h _ (aQ ..) x hx;rw[bO.1 hx];exact h _ (cO _ (aQ ..))) ?_;refine St.mE ⟨d.its.length,(⟨frm,tqo,cx,gr,bR,[],bR,[]⟩:dL),d.its++ [(⟨frm,tqo,cx,gr,bR,[],bR,[]⟩:dL)],d.its,d.bz.set (slt n frm tqo) (u,q.2++ [d.its.length]),l9 d.m (fZ (⟨frm,tqo,cx,ay gr⟩:om)) (iv d.its.length),⟨v50,S⟩⟩ ⟨U6.new hp Nf Q u,(Gx _ _).symm,by rw[bQ];exact SJ,by show 0+1≤3000000000000;omega,aP _⟩
   ·obtain⟨i0,hki⟩:∃i,xx (d.its.map cF) (fZ (⟨frm,tqo,cx,ay gr⟩:om))=some i:=by cases X:xx (d.its.map cF) (fZ (⟨frm,tqo,cx,ay gr⟩:om))with|none=>(rw[X]at A;rw[A]at M;simp at M)|some j=>exact⟨j,rfl⟩
    have N:=XA hki
    rw[aO]at N;obtain⟨x0,HM⟩:=aE N
    have Wv:=Nr x0 (ae HM)
    refine St.slot 8 (iv ((i0:Nat):Int)) rfl (by rw[A,hki];rfl) ?_;refine g2 ?_;refine St.tail (bE (eo 200 3) (d.its)++bE (fq 3) (d.bz)) (row x0.wv.1 200 3 (x0.cW).length (rows mM (x0.cW))::row x0.tv.1 3 1 (x0.ba).length (rows aJ (x0.ba))::(bE (jE 3) x0.cW++(bE (eo 200 3) (d.its.eraseIdx i0)++bE (fq 3) (d.bz)))) (z8 _ _ HM) ?_;refine St.mE ⟨i0,x0,d.its,d.its.eraseIdx i0,d.bz,d.m,d.eF⟩ ⟨U6.AJ hp hki HM,rfl,by omega,Wv⟩
  ·rintro ⟨i,a,b,K,l,m1,o⟩ ⟨p,O,hi1,hw1,ht1⟩
   refine go ?_
   have F:=ah p.at_
   have I:=ae p.at_
   refine St.lB o.1 (by omega) (λbs cs z=> ?_);refine g6 ?_;refine St.ee (Ev.nB (k:=i) z (.mk rfl) (.mk rfl) nY oY (by omega) (by omega)) ?_;refine g4 ?_;refine St.dc (row o.1 186 6 (b).length (rows eE (b))::row a.wv.1 200 3 (a.cW).length (rows mM (a.cW))::(bE (jE 3) a.cW++(bE (eo 200 3) K++bE (fq 3) l))) mixed (λnp ns=> ?_);refine SW.gd 0 ?_;refine SW.gd 1 ?_;refine SW.dd 2 rfl (λ_=>Ev.kg z (.mk rfl)) ?_;refine SW.dd 3 rfl (λ_=>Ev.jY z (.mk rfl) tZ) ?_;refine SW.gd 5 ?_;refine SW.slot 74 (.agg #[iv rule,iv lex,kv.1]) rfl rfl ?_;refine SW.t2 4 6 ?_ ?_
   focus
    refine St.ee (Ev.cu (.mk rfl) uT trivial (by omega) (eN eE _ i 4 _ p.at_ (by decide))) ?_;refine g2 ?_;refine SW.go ?_;refine SW.t1 6 ?_;refine St.gX rfl (.au rfl) uT wZ KF rfl rfl (by simp[Value.cells]) rfl rfl (λb75=> ?_);refine g2 ?_;refine SW.go ?_;refine SW.t1 7 ?_;refine St.aj (.mk rfl) (.mk rfl) uT wZ KF UE (by intro u hu;have B:u∈[iv rule,iv lex,kv.1]:=hu;simp only[List.mem_cons,List.not_mem_nil,or_false]at B;rcases B with rfl|rfl|rfl;exact rfl;exact rfl;exact kv.2) (by omega) (by omega) rfl rfl rfl rfl (λv76 akP=> ?_);refine St.aM v76 (show _=(a.cW++ [(⟨rule,lex,kv,kids⟩:rf)]).length from cS) (show _=rows mM (a.cW++ [(⟨rule,lex,kv,kids⟩:rf)]) by rw[bB];rfl) ?_;refine St.bZ v76 (λe _=> ?_);refine g2 ?_;refine SW.go ?_;refine SW.dd 8 rfl (λ_=>Ev.kg z (.mk rfl)) ?_;refine SW.dd 9 rfl (λ_=>Ev.jY z (.mk rfl) tZ) ?_;refine SW.t1 10 ?_;refine St.cI (.mk rfl) (.mk rfl) VE e (by omega) (by decide) ?_
    obtain⟨D,J⟩:∃D:dL,D=⟨a.frm,a.tqo,a.cx,a.gr,⟨v76,e⟩,a.cW++ [⟨rule,lex,kv,kids⟩],a.tv,a.ba⟩:=⟨_,rfl⟩
    refine St.aM o.1 (show _=(b.set i D).length by rw[cn]) (show _=rows eE (b.set i D) by rw[J];exact FZ p.at_ ⟨v76,e⟩ _) ?_;refine g2 ?_;refine SW.go ?_;refine SW.dn ?_
   rotate_left
   focus
    refine St.gX rfl (.au rfl) uT wZ KF rfl rfl (by simp[Value.cells]) rfl rfl (λb75=> ?_);refine g2 ?_;refine SW.go ?_;refine SW.t1 4 ?_;refine St.ee (Ev.cu (.mk rfl) uT trivial (by omega) (eN eE _ i 4 _ p.at_ (by decide))) ?_;refine g2 ?_;refine SW.go ?_;refine SW.t1 7 ?_;refine St.aj (.mk rfl) (.mk rfl) uT wZ KF UE (by intro u hu;have B:u∈[iv rule,iv lex,kv.1]:=hu;simp only[List.mem_cons,List.not_mem_nil,or_false]at B;rcases B with rfl|rfl|rfl;exact rfl;exact rfl;exact kv.2) (by omega) (by omega) rfl rfl rfl rfl (λv76 akP=> ?_);refine St.aM v76 (show _=(a.cW++ [(⟨rule,lex,kv,kids⟩:rf)]).length from cS) (show _=rows mM (a.cW++ [(⟨rule,lex,kv,kids⟩:rf)]) by rw[bB];rfl) ?_;refine St.bZ v76 (λe _=> ?_);refine g2 ?_;refine SW.go ?_;refine SW.dd 8 rfl (λ_=>Ev.kg z (.mk rfl)) ?_;refine SW.dd 9 rfl (λ_=>Ev.jY z (.mk rfl) tZ) ?_;refine SW.t1 10 ?_;refine St.cI (.mk rfl) (.mk rfl) VE e (by omega) (by decide) ?_
    obtain⟨D,J⟩:∃D:dL,D=⟨a.frm,a.tqo,a.cx,a.gr,⟨v76,e⟩,a.cW++ [⟨rule,lex,kv,kids⟩],a.tv,a.ba⟩:=⟨_,rfl⟩
    refine St.aM o.1 (show _=(b.set i D).length by rw[cn]) (show _=rows eE (b.set i D) by rw[J];exact FZ p.at_ ⟨v76,e⟩ _) ?_;refine g2 ?_;refine SW.go ?_;refine SW.dn ?_
   all_goals
    refine g4 ?_;refine St.ee (Ev.kg z (.mk rfl)) ?_;refine St.ee (Ev.jY z (.mk rfl) tc) ?_;refine St.ee (Ev.cu (.mk rfl) bJ trivial (by rw[cn];exact F) (eN eE _ i 5 _ (fV F) (by decide))) ?_;refine St.slot 82 a.tv.1 rfl (by rw[J]) ?_;refine go ?_;refine St.ee (Ev.wM (yC a.tv.1 a.ba top) Zc (.aX rfl rfl) (dW.row dW.nil rfl rfl rfl (p.ba a I))) ?_;refine g3 ?_;refine St.cq (λE=> ?_) (λE=> ?_)
    ·have hnt:top∉a.ba:=λhm=>by simp at E;exact E top hm rfl
     refine g3 ?_;refine St.ee (Ev.kg z (.mk rfl)) ?_;refine St.ee (Ev.jY z (.mk rfl) tc) ?_;refine St.ee (Ev.cu (.mk rfl) bJ trivial (by rw[cn];exact F) (eN eE _ i 5 _ (fV F) (by decide))) ?_;refine St.slot 90 a.tv.1 rfl (by rw[J]) ?_;refine go ?_;refine St.gX rfl (.au rfl) bJ dK eS rfl rfl (by simp[Value.cells]) rfl rfl (λb92=> ?_);refine St.aj (.mk rfl) (.mk rfl) bJ dK eS xW (by simp[Value.oneCell',Value.cells]) (by omega) (by omega) rfl rfl rfl rfl (λv93 an5=> ?_);refine St.aM v93 (show _=(a.ba++ [top]).length from cS) (show _=rows aJ (a.ba++ [top]) by rw[bB];rfl) ?_;refine St.bZ v93 (λr _=> ?_);refine St.ee (Ev.kg z (.mk rfl)) ?_;refine St.ee (Ev.jY z (.mk rfl) tc) ?_;refine St.cI (.mk rfl) (.mk rfl) fE r (by rw[cn];exact F) (by decide) ?_;refine St.aM o.1 (show _=(b.set i (⟨a.frm,a.tqo,a.cx,a.gr,⟨v76,e⟩,a.cW++ [⟨rule,lex,kv,kids⟩],⟨v93,r⟩,a.ba++ [top]⟩:dL)).length by rw[cn,cn]) (show _=rows eE (b.set i (⟨a.frm,a.tqo,a.cx,a.gr,⟨v76,e⟩,a.cW++ [⟨rule,lex,kv,kids⟩],⟨v93,r⟩,a.ba++ [top]⟩:dL)) by rw[P8 (fV F) ⟨v93,r⟩ (a.ba++ [top]),List.set_set,J]) ?_;refine go ?_;refine St.eH ?_;subst O;refine St.mm [row v76 200 3 (a.cW++ [(⟨rule,lex,kv,kids⟩:rf)]).length (rows mM (a.cW++ [(⟨rule,lex,kv,kids⟩:rf)])),row (⟨v93,r⟩:aV).1 3 1 (a.ba++ [top]).length (rows aJ (a.ba++ [top])),row kv.1 3 1 kids.length (rows aJ (bW kids))] (bE (jE 3) a.cW++(bE (eo 200 3) (b.eraseIdx i)++bE (fq 3) l)) (bE (eo 200 3) (b.set i (⟨a.frm,a.tqo,a.cx,a.gr,⟨v76,e⟩,a.cW++ [⟨rule,lex,kv,kids⟩],⟨v93,r⟩,a.ba++ [top]⟩:dL))++bE (fq 3) (l)) (QE 200 3 (bE (fq 3) l) (⟨a.frm,a.tqo,a.cx,a.gr,⟨v76,e⟩,a.cW++ [⟨rule,lex,kv,kids⟩],⟨v93,r⟩,a.ba++ [top]⟩:dL) rfl F) ?_;refine St.eZ (aF (λx:dL=>aG x.gr) (b.set i (⟨a.frm,a.tqo,a.cx,a.gr,⟨v76,e⟩,a.cW++ [⟨rule,lex,kv,kids⟩],⟨v93,r⟩,a.ba++ [top]⟩:dL))) [aF (λx:dL=>aG x.gr) b] (λρ h y hy=>by rcases lJ hy with hy|rfl;exact h _ (aQ ..) y hy;exact h _ (aQ ..) a I) ?_;refine St.rV [] (aB (aF (λx:dL=>aG x.gr) (b.set i (⟨a.frm,a.tqo,a.cx,a.gr,⟨v76,e⟩,a.cW++ [⟨rule,lex,kv,kids⟩],⟨v93,r⟩,a.ba++ [top]⟩:dL)))::aW C (.cells (nC g G H f n o.1 d.nV.1 s).toArray 180 (0,0))::aW s (eU mkStr (m1))::row o.1 186 6 (b.set i (⟨a.frm,a.tqo,a.cx,a.gr,⟨v76,e⟩,a.cW++ [⟨rule,lex,kv,kids⟩],⟨v93,r⟩,a.ba++ [top]⟩:dL)).length (rows eE (b.set i (⟨a.frm,a.tqo,a.cx,a.gr,⟨v76,e⟩,a.cW++ [⟨rule,lex,kv,kids⟩],⟨v93,r⟩,a.ba++ [top]⟩:dL)))::row d.nV.1 58 1 (l).length (rows bT ((l).map Prod.fst))::(bE (eo 200 3) (b.set i (⟨a.frm,a.tqo,a.cx,a.gr,⟨v76,e⟩,a.cW++ [⟨rule,lex,kv,kids⟩],⟨v93,r⟩,a.ba++ [top]⟩:dL))++bE (fq 3) (l))) ?_
     have P:=JJ (x3:=(⟨a.frm,a.tqo,a.cx,a.gr,⟨v76,e⟩,a.cW++ [⟨rule,lex,kv,kids⟩],⟨v93,r⟩,a.ba++ [top]⟩:dL)) (w:=(⟨rule,lex,kids⟩:uj)) p (by show(⟨_,_,_⟩:lM)=⟨_,_,_⟩;congr 1;exact cP;show a.ba++ [top]=if se (⟨rule,lex,kids⟩:uj)∈a.ba then a.ba else a.ba++ [se (⟨rule,lex,kids⟩:uj)];rw[←R,aA hnt]) (λt ht=>by first|exact p.ba a I t ht|(rcases cD.1 ht with ht|ht;exact p.ba a I t ht;rw[bO.1 ht,R];unfold se aZ;dsimp only;split<;>omega)) o
     exact⟨⟨o,b.set i (⟨a.frm,a.tqo,a.cx,a.gr,⟨v76,e⟩,a.cW++ [⟨rule,lex,kv,kids⟩],⟨v93,r⟩,a.ba++ [top]⟩:dL),d.nV,l,m1⟩,P.1,rfl,P.2,p.GO,p.XX,rfl⟩
    ·have hnt:top∈a.ba:=by simpa using E
     subst J;refine go ?_;refine St.eH ?_;subst O;refine St.mm [row v76 200 3 (a.cW++ [(⟨rule,lex,kv,kids⟩:rf)]).length (rows mM (a.cW++ [(⟨rule,lex,kv,kids⟩:rf)])),row a.tv.1 3 1 (a.ba).length (rows aJ (a.ba)),row kv.1 3 1 kids.length (rows aJ (bW kids))] (bE (jE 3) a.cW++(bE (eo 200 3) (b.eraseIdx i)++bE (fq 3) l)) (bE (eo 200 3) (b.set i (⟨a.frm,a.tqo,a.cx,a.gr,⟨v76,e⟩,a.cW++ [⟨rule,lex,kv,kids⟩],a.tv,a.ba⟩:dL))++bE (fq 3) (l)) (QE 200 3 (bE (fq 3) l) (⟨a.frm,a.tqo,a.cx,a.gr,⟨v76,e⟩,a.cW++ [⟨rule,lex,kv,kids⟩],a.tv,a.ba⟩:dL) rfl F) ?_;refine St.eZ (aF (λx:dL=>aG x.gr) (b.set i (⟨a.frm,a.tqo,a.cx,a.gr,⟨v76,e⟩,a.cW++ [⟨rule,lex,kv,kids⟩],a.tv,a.ba⟩:dL))) [aF (λx:dL=>aG x.gr) b] (λρ h y hy=>by rcases lJ hy with hy|rfl;exact h _ (aQ ..) y hy;exact h _ (aQ ..) a I) ?_;refine St.rV [] (aB (aF (λx:dL=>aG x.gr) (b.set i (⟨a.frm,a.tqo,a.cx,a.gr,⟨v76,e⟩,a.cW++ [⟨rule,lex,kv,kids⟩],a.tv,a.ba⟩:dL)))::aW C (.cells (nC g G H f n o.1 d.nV.1 s).toArray 180 (0,0))::aW s (eU mkStr (m1))::row o.1 186 6 (b.set i (⟨a.frm,a.tqo,a.cx,a.gr,⟨v76,e⟩,a.cW++ [⟨rule,lex,kv,kids⟩],a.tv,a.ba⟩:dL)).length (rows eE (b.set i (⟨a.frm,a.tqo,a.cx,a.gr,⟨v76,e⟩,a.cW++ [⟨rule,lex,kv,kids⟩],a.tv,a.ba⟩:dL)))::row d.nV.1 58 1 (l).length (rows bT ((l).map Prod.fst))::(bE (eo 200 3) (b.set i (⟨a.frm,a.tqo,a.cx,a.gr,⟨v76,e⟩,a.cW++ [⟨rule,lex,kv,kids⟩],a.tv,a.ba⟩:dL))++bE (fq 3) (l))) ?_
     have P:=JJ (x3:=(⟨a.frm,a.tqo,a.cx,a.gr,⟨v76,e⟩,a.cW++ [⟨rule,lex,kv,kids⟩],a.tv,a.ba⟩:dL)) (w:=(⟨rule,lex,kids⟩:uj)) p (by show(⟨_,_,_⟩:lM)=⟨_,_,_⟩;congr 1;exact cP;show a.ba=if se (⟨rule,lex,kids⟩:uj)∈a.ba then a.ba else a.ba++ [se (⟨rule,lex,kids⟩:uj)];rw[←R,aC hnt]) (λt ht=>by first|exact p.ba a I t ht|(rcases cD.1 ht with ht|ht;exact p.ba a I t ht;rw[bO.1 ht,R];unfold se aZ;dsimp only;split<;>omega)) o
     exact⟨⟨o,b.set i (⟨a.frm,a.tqo,a.cx,a.gr,⟨v76,e⟩,a.cW++ [⟨rule,lex,kv,kids⟩],a.tv,a.ba⟩:dL),d.nV,l,m1⟩,P.1,rfl,P.2,p.GO,p.XX,rfl⟩
end Go.Proofs.YtblifkgpebebmaaGreatDoor
namespace Go.J
open Go
def pT:List Int→List Int→Bool
 | [],[]=>false
 | [],_::_=>true
 |_::_,[]=>false
 |a::x,b::y=>decide (a<b)||(decide (a=b)&&pT x y)
theorem p8:∀x:List Int,pT x x=false
 | []=>rfl
 |a::x=>by simp[pT,p8 x]
theorem qz:∀{x y z:List Int},pT x y=true→pT y z=true→pT x z=true
 | [],[],_,h,_=>by simp[pT]at h
 | [],_::_,[],_,h=>by simp[pT]at h
 | [],_::_,_::_,_,_=>rfl
 |_::_,[],_,h,_=>by simp[pT]at h
 |_::_,_::_,[],_,h=>by simp[pT]at h
 |a::x,b::y,c::z,h,k=>by
  simp only[pT,Bool.or_eq_true,Bool.and_eq_true,decide_eq_true_eq]at h k⊢
  rcases h with h|⟨h,d⟩
  ·left;rcases k with k|⟨k,_⟩<;>omega
  ·rcases k with k|⟨k,e⟩
   ·left;omega
   ·right;exact⟨by omega,qz d e⟩
theorem xy:∀(x y:List Int),pT x y=true∨x=y∨pT y x=true
 | [],[]=> .inr (.inl rfl)
 | [],_::_=> .inl rfl
 |_::_,[]=> .inr (.inr rfl)
 |a::x,b::y=>by
  simp only[pT,Bool.or_eq_true,Bool.and_eq_true,decide_eq_true_eq,List.cons.injEq]
  rcases Int.lt_trichotomy a b with h|h|h
  ·exact .inl (.inl h)
  ·rcases xy x y with k|k|k
   ·exact .inl (.inr ⟨h,k⟩)
   ·exact .inr (.inl ⟨h,k⟩)
   ·exact .inr (.inr (.inr ⟨h.symm,k⟩))
  ·exact .inr (.inr (.inl h))
section
variable (p:List Int)
def pre (L i:Nat):List Int:=(p.drop i).take L
variable {p}
end
section
variable {n:Nat}{key:Nat→List Int}{cf:Nat→Nat→Int}{l:List Nat}
end
section
variable {p:List Int}{L:Nat}{cf:Nat→Nat→Int}{l:List Nat}{rk:List Int}
end
end Go.J
namespace Go.Proofs.YtblifkgpebebmaaGreatDoor
open Go Go.J Tryz
structure PF {α:Type}(f:α→α→Int)(k:α→List Int):Prop where
 app:∀a b u v,pT (k a++u) (k b++v)=true↔f a b<0∨(f a b=0∧pT u v=true)
 eq:∀a b,f a b=0↔a=b
theorem ux {a b:Int}:lu a b<0↔a<b:=by unfold lu;split;omega;split<;>omega
theorem iq {a b:Int}:lu a b=0↔a=b:=by unfold lu;split;omega;split<;>omega
theorem qR {a b:Int}:su a b<0↔a<0∨(a=0∧b<0):=by unfold su;split<;>omega
theorem o4 {a b:Int}:su a b=0↔a=0∧b=0:=by unfold su;split<;>omega
theorem PF.int:PF lu (λa:Int=>[a]):=⟨λa b u v=>by
 show pT (a::u) (b::v)=true↔_
 rw[pT,ux,iq];simp,λa b=>iq⟩
theorem PF.pair {α β:Type}{f:α→α→Int}{g:β→β→Int}{k:α→List Int}{h:β→List Int}(F:PF f k)(G:PF g h):PF (λx y:α×β=>su (f x.1 y.1) (g x.2 y.2)) (λx=>k x.1++h x.2):=⟨λa b u v=>by
 rw[dq,dq,F.app,G.app,qR,o4]
 constructor
 ·rintro (h1|⟨h1,c|⟨c,d⟩⟩)
  ·exact .inl (.inl h1)
  ·exact .inl (.inr ⟨h1,c⟩)
  ·exact .inr ⟨⟨h1,c⟩,d⟩
 ·rintro ((h1|⟨h1,c⟩)|⟨⟨h1,c⟩,d⟩)
  ·exact .inl h1
  ·exact .inr ⟨h1,.inl c⟩
  ·exact .inr ⟨h1,.inr ⟨c,d⟩⟩,λa b=>by
 rw[o4,F.eq,G.eq]
 exact⟨λ⟨h1,c⟩=>Prod.ext h1 c,λh=>by rw[h];exact⟨rfl,rfl⟩⟩⟩
theorem PF.list {α:Type}{f:α→α→Int}{k:α→List Int}(F:PF f k):∀(l m:List α) (u v:List Int),l.length=m.length→(pT (l.flatMap k++u) (m.flatMap k++v)=true↔kO f l m<0∨(kO f l m=0∧pT u v=true))
 | [],[],u,v,_=>by simp[kO]
 |a::l,b::m,u,v,h=>by
  rw[jS,jS,dq,dq,F.app,PF.list F l m u v (by simpa using h),kO]
  by_cases e:f a b=0
  ·rw[aA (λx=>x e),e]
   exact⟨λh=>h.elim (λx=>absurd x (by decide)) (λx=>x.2),λh=> .inr ⟨rfl,h⟩⟩
  ·rw[aC e]
   exact⟨λh=>h.elim .inl (λx=>absurd x.1 e),λh=>h.elim .inl (λx=>absurd x.1 e)⟩
 | [],_::_,_,_,h=>by cases h
 |_::_,[],_,_,h=>by cases h
theorem Gu {α:Type}{f:α→α→Int}(he:∀a b,f a b=0↔a=b):∀l m:List α,kO f l m=0↔l=m
 | [],[]=>by simp[kO]
 | [],_::_=>by simp[kO]
 |_::_,[]=>by simp[kO]
 |a::l,b::m=>by
  rw[kO]
  by_cases e:f a b=0
  ·rw[aA (λx=>x e),Gu he l m,(he a b).1 e];simp
  ·rw[aC e]
   exact⟨λx=>absurd x e,λx=>by rw[List.cons.injEq]at x;exact absurd ((he a b).2 x.1) e⟩
theorem PF.lens {α:Type}{f:α→α→Int}{k:α→List Int}(F:PF f k):PF (λl m:List α=>su (lu l.length m.length) (kO f l m)) (λl=>(l.length:Int)::l.flatMap k):=⟨λl m u v=>by
 show pT ((l.length:Int)::(l.flatMap k++u)) ((m.length:Int)::(m.flatMap k++v))=true↔_
 rw[pT,qR,o4,ux,iq,Bool.or_eq_true,qi,fy,fy]
 by_cases e:(l.length:Int)=m.length
 ·rw[F.list l m u v (by omega)]
  constructor
  ·rintro (h|⟨_,h|h⟩)
   ·exact .inl (.inl h)
   ·exact .inl (.inr ⟨e,h⟩)
   ·exact .inr ⟨⟨e,h.1⟩,h.2⟩
  ·rintro ((h|h)|h)
   ·exact .inl h
   ·exact .inr ⟨e,.inl h.2⟩
   ·exact .inr ⟨e,.inr ⟨h.1.2,h.2⟩⟩
 ·constructor
  ·rintro (h|⟨h,_⟩)
   ·exact .inl (.inl h)
   ·exact absurd h e
  ·rintro ((h|h)|h)
   ·exact .inl h
   ·exact absurd h.1 e
   ·exact absurd h.1.1 e,λl m=>by
 rw[o4,iq,Gu F.eq]
 exact⟨λh=>h.2,λh=>by rw[h];exact⟨rfl,rfl⟩⟩⟩
theorem PF.node:PF xE (λx:KM=>([x.1]++((x.2.length:Int)::x.2.flatMap λp=>[p.1]++ [p.2])):KM→List Int):=PF.pair PF.int (PF.lens (PF.pair PF.int PF.int))
abbrev kN (x:KM):List Int:=[x.1]++((x.2.length:Int)::x.2.flatMap λp=>[p.1]++ [p.2])
theorem N0:∀l m:e8,pT (l.flatMap kN) (m.flatMap kN)=true↔kO xE l m<0
 | [],[]=>by simp[kO,pT]
 | [],b::m=>by rw[jS];simp[kO,pT]
 |a::l,[]=>by rw[jS];simp[kO,pT]
 |a::l,b::m=>by
  rw[jS,jS,PF.node.app,N0 l m,kO]
  by_cases e:xE a b=0
  ·rw[aA (λx=>x e),e]
   exact⟨λh=>h.elim (λx=>absurd x (by decide)) (λx=>x.2),λh=> .inr ⟨rfl,h⟩⟩
  ·rw[aC e]
   exact⟨λh=>h.elim id (λx=>absurd x.1 e),.inl⟩
def kE (x:om):List Int:=[(x.frm:Int)]++([(x.tqo:Int)]++([(x.cx:Int)]++x.gr.flatMap kN))
theorem Cr (x y:om):xX x y<0↔pT (kE x) (kE y)=true:=by
 unfold kE xX;rw[PF.int.app,PF.int.app,PF.int.app,qR,qR,qR,N0]
theorem W7 (x y:om):xX x y=0↔x=y:=by
 unfold xX;rw[o4,o4,o4,iq,iq,iq,Gu PF.node.eq]
 cases x;cases y
 simp only[om.mk.injEq,Int.natCast_inj]
theorem It (x:om):¬xX x x<0:=by rw[Cr,p8];decide
theorem BL {x y z:om}(h:xX x y<0)(k:xX y z<0):xX x z<0:=by rw[Cr]at*;exact qz h k
theorem HV {x y z:List Int}(h:¬pT x y=true)(k:¬pT y z=true):¬pT x z=true:=λc=>by
 rcases xy y z with h1|h1|h1
 ·exact k h1
 ·subst h1;exact h c
 ·exact h (qz c h1)
theorem yf {x y z:om}(h:¬xX x y<0)(k:¬xX y z<0):¬xX x z<0:=by rw[Cr]at*;exact HV h k
theorem XL {x y:List Int}(h:¬pT x y=true)(k:¬pT y x=true):x=y:=by
 rcases xy x y with h1|h1|h1
 ·exact absurd h1 h
 ·exact h1
 ·exact absurd h1 k
theorem RU {x y:om}(h:¬xX x y<0)(k:¬xX y x<0):xX x y=0:=by
 rcases Int.lt_trichotomy (xX x y) 0 with h1|h1|h1
 ·exact absurd h1 h
 ·exact h1
 ·rw[Cr]at h k
  have:=XL h k
  -- j lists n equal,I A comes ahead of j other;then all parts n equal
  exfalso
  have e:∀a b:om,kE a=kE b→¬0<xX a b:=by
   intro a b o;unfold kE at o;rw[CI,CI,CI,CI,CI,CI,List.cons.injEq,List.cons.injEq,List.cons.injEq]at o;obtain⟨h1,B,C,D⟩:=o
   have J:kO xE a.gr b.gr≤0:=by
    refine Int.not_lt.1 λK=> ?_
    have gen:∀l m:e8,l.flatMap kN=m.flatMap kN→kO xE l m=0:=by
     intro l
     induction l with
     |nil=>intro m hm;cases m with
      |nil=>rfl
      |cons b m=>rw[jS]at hm;cases hm
     |cons a l r=>
      intro m hm
      cases m with
      |nil=>rw[jS]at hm;cases hm
      |cons b m=>
       rw[jS,jS]at hm
       have E:¬xE a b<0:=λf=>by
        have:=(PF.node.app a b (l.flatMap kN) (m.flatMap kN)).2 (.inl f)
        rw[hm,p8]at this;cases this
       have F:¬xE b a<0:=λf=>by
        have:=(PF.node.app b a (m.flatMap kN) (l.flatMap kN)).2 (.inl f)
        rw[hm,p8]at this;cases this
       have G:∀x y:KM,¬xE x y<0→¬xE y x<0→xE x y=0:=by
        intro x y p q;unfold xE at p q⊢;rw[qR,qR,ux,iq,ux,iq]at p q;rw[o4,o4,iq,iq]
        have t1:x.1=y.1:=by omega
        have t2:(x.2.length:Int)=y.2.length:=by omega
        refine⟨t1,t2,?_⟩
        have g:¬kO EN x.2 y.2<0:=by omega
        have i:¬kO EN y.2 x.2<0:=by omega
        clear p q t1
        generalize x.2=u at*
        generalize y.2=v at*
        induction u generalizing v with
        |nil=>cases v with
         |nil=>rfl
         |cons _ _=>simp at t2;omega
        |cons c u r=>
         cases v with
         |nil=>simp at t2;omega
         |cons d v=>
          rw[kO]at g i⊢
          have t:EN c d=0:=by
           have w:¬EN c d<0:=λf=>g (by rw[aC (by omega)];exact f)
           have z:¬EN d c<0:=λf=>i (by rw[aC (by omega)];exact f)
           unfold EN at w z⊢;rw[qR,ux,iq,ux]at w z
           rw[o4,iq,iq];omega
          have s:c=d:=(PF.pair PF.int PF.int).eq c d|>.1 t
          subst s;rw[aA (λx=>x t)]at g i⊢;exact r v (by simpa using t2) g i
       have e0:=G a b E F
       have H:=(PF.node.eq a b).1 e0
       subst H;rw[kO,aA (λx=>x e0)];exact r m (List.append_cancel_left hm)
    have:=gen a.gr b.gr D
    omega
   unfold xX;rw[iq.2 h1,iq.2 B,iq.2 C]
   show ¬0<kO xE a.gr b.gr
   omega
  exact e x y this h1
theorem vK {α:Type}(f:α→α→Int)(a:α):∀l:List α,(L0 f a l).Perm (a::l)
 | []=> .refl _
 |b::l=>by
  rw[L0];split
  ·exact .refl _
  ·exact((vK f a l).cons b).trans (.swap _ _ _)
theorem jg {α:Type}(f:α→α→Int):∀l:List α,(TZ f l).Perm l
 | []=> .refl _
 |a::l=>(vK f a _).trans ((jg f l).cons a)
theorem wR {α:Type}{f:α→α→Int}{Z:α→Prop}(g:∀a b c,Z a→Z b→Z c→¬f a b<0→¬f b c<0→¬f a c<0)(has:∀a b,Z a→Z b→f a b<0→¬f b a<0)(a:α)(d:Z a):∀l:List α,(∀x∈l,Z x)→l.Pairwise (λx y=>¬f y x<0)→(L0 f a l).Pairwise (λx y=>¬f y x<0)
 | [],_,_=>GK _ _
 |b::l,hz,h=>by
  have e:=hz b (by simp)
  rw[L0];split
  ·rename_i c
   refine List.Pairwise.cons (λx hx=> ?_) h
   rcases cJ.1 hx with rfl|hx
   ·exact has _ _ d e c
   ·exact g x b a (hz x (by simp[hx])) e d ((jU.1 h).1 x hx) (has _ _ d e c)
  ·rename_i c
   refine List.Pairwise.cons (λx hx=> ?_) (wR g has a d l (λx hx=>hz x (by simp[hx])) (jU.1 h).2)
   rcases cJ.1 ((vK f a l).mem_iff.1 hx)with rfl|hx
   ·exact c
   ·exact(jU.1 h).1 x hx
theorem wX {α:Type}{f:α→α→Int}{Z:α→Prop}(d:∀a b c,Z a→Z b→Z c→¬f a b<0→¬f b c<0→¬f a c<0)(has:∀a b,Z a→Z b→f a b<0→¬f b a<0):∀l:List α,(∀x∈l,Z x)→(TZ f l).Pairwise (λx y=>¬f y x<0)
 | [],_=> .nil
 |a::l,hz=>wR d has a (hz a (by simp)) _ (λx hx=>hz x (by simp[(jg f l).mem_iff.1 hx])) (wX d has l λx hx=>hz x (by simp[hx]))
theorem Oc {its:List lM}(hd:(its.map λx=>fZ x.ed).Nodup){l:List Nat}(hp:l.Perm (List.range its.length))(n:l.Pairwise (λa b=>¬xX (its.getD b gg).ed (its.getD a gg).ed<0)):l=lA its:=by
 have h1:=jg (λi j=>xX (its.getD i gg).ed (its.getD j gg).ed) (List.range its.length)
 have o:=wX (f:=λi j=>xX (its.getD i gg).ed (its.getD j gg).ed) (Z:=λ_=>True) (λa b c _ _ _=>yf) (λa b _ _ h k=>It _ (BL h k)) (List.range its.length) (λ_ _=>trivial)
 refine(hp.trans h1.symm).eq_of_pairwise (λa b d g p q=> ?_) n o
 have d:=dt.1 (hp.mem_iff.1 d)
 have g:=dt.1 (h1.mem_iff.1 g)
 have e:=(W7 _ _).1 (RU p q)
 refine Decidable.byContradiction λr=> ?_
 have m:∀i,i<its.length→(its.map λx=>fZ x.ed)[i]?=some (fZ (its.getD i gg).ed):=λi s=>by
  rw[bP,ar,bU s];rfl
 refine r ?_;exact(List.getElem?_inj (l:=its.map λx=>fZ x.ed) (by rw[aO];exact d) hd).1 (by rw[m a d,m b g,e])
theorem N1 (a b:Int):oG a b=lu a b:=rfl
def LL:List Int→Int
 | []=>0
 |a::l=>su a (LL l)
theorem JP (a:Int):su a 0=a:=by unfold su;split;omega;rfl
theorem Bd {l:List Int}{k:Nat}{x:Int}(h:l[k]?=some x):LL (l.drop k)=if x=0 then LL (l.drop (k+1))else x:=by rw[bN h];rfl
theorem oE (a b:Int): -1≤lu a b∧lu a b≤1:=by unfold lu;split;omega;split<;>omega
theorem Ob {a b:Int}(h: -1≤a∧a≤1)(k: -1≤b∧b≤1): -1≤su a b∧su a b≤1:=by unfold su;split<;>omega
theorem yg {α:Type}{f:α→α→Int}(h:∀a b,-1≤f a b∧f a b≤1):∀l m:List α,-1≤kO f l m∧kO f l m≤1
 | [],[]=>by simp[kO]
 | [],_::_=>by simp[kO]
 |_::_,[]=>by simp[kO]
 |a::l,b::m=>by rw[kO];split;exact h a b;exact yg h l m
theorem N2 (a b:Int×Int): -1≤EN a b∧EN a b≤1:=Ob (oE _ _) (oE _ _)
theorem W8 (a b:KM): -1≤xE a b∧xE a b≤1:=Ob (oE _ _) (Ob (oE _ _) (yg N2 _ _))
theorem Z6 {x:Int}(h: -1≤x∧x≤1):aJ.wf x:=by show aZ x;unfold aZ;omega
theorem Ce {l:List Int}(h:∀x∈l,-1≤x∧x≤1):∀x∈l,aJ.wf x:=λx hx=>Z6 (h x hx)
theorem oD {α:Type}{f:α→α→Int}{l m:List α}{k:Nat}{x y:α}(hx:l[k]?=some x)(hy:m[k]?=some y):kO f (l.drop k) (m.drop k)=if f x y≠0 then f x y else kO f (l.drop (k+1)) (m.drop (k+1)):=by rw[bN hx,bN hy];rfl
theorem yi {α:Type}{f:α→α→Int}{l m:List α}{k:Nat}{x:α}(hx:l[k]?=some x)(hm:m.length≤k):kO f (l.drop k) (m.drop k)=1:=by rw[bN hx,j4 hm];rfl
theorem uy {α:Type}{f:α→α→Int}{l m:List α}{k:Nat}{y:α}(hy:m[k]?=some y)(a:l.length≤k):kO f (l.drop k) (m.drop k)= -1:=by rw[bN hy,j4 a];rfl
theorem yh {α:Type}{f:α→α→Int}{l m:List α}{k:Nat}(a:l.length≤k)(hm:m.length≤k):kO f (l.drop k) (m.drop k)=0:=by rw[j4 a,j4 hm];rfl
theorem tD (v0:Value)(p:List Int):eC prog 99 #[v0] [sl aJ v0 p] (iv (LL p)):=by
 refine eC.nJ (args:=[v0]) 18 func99 rfl ntmps99 rfl (λc=> ?_);refine go ?_;refine St.wf v0 (λf hlen=> ?_);refine g18 ?_;refine St.lS (ι:=Nat) (λk T=>(8,iv k)::T) (λk=>k≤p.length∧LL p=LL (p.drop k)) (λk=>p.length-k) 0 (aD.cons 3 rfl (aD.cons 6 rfl (aD.cons 7 rfl aD.nil))) ⟨aP _,rfl⟩ ?_;intro k d;obtain⟨hk,a⟩:=d;refine g6 ?_;refine St.cq (λe=> ?_) (λe=> ?_)
 ·obtain⟨x,hx⟩:=aE (show k<p.length by omega)
  refine g18 ?_;refine St.cq (λb=> ?_) (λb=> ?_)
  ·refine g12 ?_
   refine St.rV [_] [] ?_;exact ie (by rw[a,Bd hx,aA b])
  ·refine g8 ?_
   refine St.aS (k+1) ⟨by omega,by rw[a,Bd hx,aC (by omega)]⟩
 ·refine g12 ?_
  refine St.rV [_] [] ?_;exact ie (by rw[a,j4 (by omega)];rfl)
theorem AR (v0 v1:Value)(a b:List Int):eC prog 101 #[v0,v1] [sl aJ v0 a,sl aJ v1 b] (iv (kO lu a b)):=by
 refine eC.nK (args:=[v0,v1]) 36 func101 rfl ntmps101 rfl (λc=> ?_);refine go ?_;refine St.wf v0 (λl m=> ?_);refine St.wf v1 (λn o=> ?_);refine g13 ?_;refine St.lS (ι:=Nat) (λk T=>(11,iv k)::T) (λk=>k≤a.length∧k≤b.length∧kO lu a b=kO lu (a.drop k) (b.drop k)) (λk=>a.length-k) 0 (aD.cons 0 rfl (aD.cons 1 rfl (aD.cons 9 rfl (aD.cons 10 rfl aD.nil)))) ⟨aP _,aP _,rfl⟩ ?_;intro k g;obtain⟨hk,p,d⟩:=g;refine g6 ?_;refine St.cq (λi=> ?_) (λi=> ?_)
 ·obtain⟨x,hx⟩:=aE (show k<a.length by omega)
  refine g22 ?_;refine St.cq (λj=> ?_) (λj=> ?_)
  ·refine g12 ?_
   refine St.rV [_] [] ?_;exact ie (by rw[d,yi hx (by omega)])
  ·obtain⟨y,hy⟩:=aE (show k<b.length by omega)
   refine g15 ?_;refine St.ee (Ev.call (ec _ _) qF (.aX rfl rfl)) ?_;refine g9 ?_;refine St.cq (λf=> ?_) (λf=> ?_)
   ·refine g12 ?_
    refine St.rV [_] [] ?_;exact ie (by rw[d,oD hx hy,aC (by rw[←N1];exact f)];rfl)
   ·refine g8 ?_
    refine St.aS (k+1) ⟨by omega,by omega,by rw[d,oD hx hy,aA (λh=>h (by rw[←N1];omega))]⟩
 ·refine g15 ?_
  refine St.cq (λe=> ?_) (λe=> ?_)
  ·refine g7 ?_
   refine St.rV [_] [] ?_;exact ie (by obtain⟨y,hy⟩:=aE (show k<b.length by omega);rw[d,uy hy (by omega)])
  ·refine g8 ?_
   refine St.rV [_] [] ?_;exact ie (by rw[d,yh (by omega) (by omega)])
theorem CM (x y:dx):eC prog 173 #[Value.agg #[iv x.dF,iv x.tqo],Value.agg #[iv y.dF,iv y.tqo]] [] (iv (EN (fS x) (fS y))):=by
 refine eC.qC (args:=[Value.agg #[iv x.dF,iv x.tqo],Value.agg #[iv y.dF,iv y.tqo]]) 17 func173 rfl ntmps173 rfl (λc=> ?_);refine g2 ?_;refine St.dJ (.mk rfl) rfl (λb=> ?_);refine St.dJ (.mk rfl) rfl (λd=> ?_);refine g4 ?_;refine St.pC [] mixed (λe f=> ?_);refine SW.gd 0 ?_;refine SW.gd 1 ?_;refine SW.gd 2 ?_;refine SW.gd 3 ?_;refine SW.dd 4 rfl (λ_=>Ev.call (ec _ _) qF (.aX rfl rfl)) ?_;refine SW.gd 5 ?_;refine SW.gd 6 ?_;refine SW.gd 7 ?_;refine SW.gd 8 ?_;refine SW.dd 9 rfl (λ_=>Ev.call (ec _ _) qF (.aX rfl rfl)) ?_;refine SW.t1 10 ?_;refine St.gX rfl (.aX rfl rfl) bJ dK eS rfl rfl (by simp[Value.cells]) rfl rfl (λa=> ?_);refine St.aM (.slice (some ⟨a,0,none⟩) 2 2) (show _=([(lu x.dF y.dF),(lu x.tqo y.tqo)]).length from rfl) (show _=rows aJ ([(lu x.dF y.dF),(lu x.tqo y.tqo)])from rfl) ?_;refine g2 ?_;refine SW.go ?_;refine SW.t1 11 ?_;refine St.ee (Ev.wM (tD (.slice (some ⟨a,0,none⟩) 2 2) [(lu x.dF y.dF),(lu x.tqo y.tqo)]) RJ (.au rfl) (dW.row dW.nil rfl rfl rfl (Ce (λx hx=>by simp only[List.mem_cons,List.not_mem_nil,or_false]at hx;rcases hx with rfl|rfl;exact oE _ _;exact oE _ _)))) ?_;refine g2 ?_;refine SW.go ?_;refine SW.gd 12 ?_;refine SW.dn ?_;refine g2 ?_;refine St.rV [_] [] ?_;exact ie (show su _ (su _ 0)=_ by rw[JP];rfl)
theorem AN (x y:dx):eC prog 173 ([Value.agg #[iv x.dF,iv x.tqo],Value.agg #[iv y.dF,iv y.tqo]]++ []).toArray [] (iv (EN (fS x) (fS y))):=CM x y
theorem AO (v0 v1:Value)(a b:List dx):eC prog 172 #[v0,v1,.func (.func 173) #[] #[]] [sl aw v0 a,sl aw v1 b] (iv (kO EN (a.map fS) (b.map fS))):=by
 refine eC.nK (args:=[v0,v1,.func (.func 173) #[] #[]]) 39 func172 rfl ntmps172 rfl (λc=> ?_);refine go ?_;refine St.wf v0 (λn o=> ?_);refine St.wf v1 (λp q=> ?_);refine g13 ?_;refine St.lS (ι:=Nat) (λk T=>(13,iv k)::T) (λk=>k≤a.length∧k≤b.length∧kO EN (a.map fS) (b.map fS)=kO EN ((a.map fS).drop k) ((b.map fS).drop k)) (λk=>a.length-k) 0 (aD.cons 0 rfl (aD.cons 1 rfl (aD.cons 2 rfl (aD.cons 11 rfl (aD.cons 12 rfl aD.nil))))) ⟨aP _,aP _,rfl⟩ ?_;intro k i;obtain⟨hk,r,d⟩:=i;refine g6 ?_;refine St.cq (λj=> ?_) (λj=> ?_)
 ·obtain⟨x,hx⟩:=aE (show k<a.length by omega)
  have f:(a.map fS)[k]?=some (fS x):=by rw[bP,hx];rfl
  refine g8 ?_;refine St.ee (Ev.jq (.mk rfl) hx lE trivial dm j5.eq) ?_;refine St.al (λs=> ?_);refine go ?_;refine St.sA (.mk rfl) (.mk rfl) dm ?_ (h1:=(eW.2 λu hu=>aw.one x u hu));refine g11 ?_;refine St.cq (λl=> ?_) (λl=> ?_)
  ·refine g12 ?_
   refine St.rV [_] [] ?_;exact ie (by rw[d,yi f (by rw[aO];omega)])
  ·obtain⟨y,hy⟩:=aE (show k<b.length by omega)
   have e:(b.map fS)[k]?=some (fS y):=by rw[bP,hy];rfl
   refine g7 ?_;refine St.ee (Ev.jq (.mk rfl) hy lE trivial dm j5.eq) ?_;refine St.al (λt=> ?_);refine St.sA (.mk rfl) (.mk rfl) dm ?_ (h1:=(eW.2 λu hu=>aw.one y u hu));refine g6 ?_;refine St.slot 27 (Value.agg #[iv x.dF,iv x.tqo]) rfl rfl ?_;refine go ?_;refine St.slot 28 (Value.agg #[iv y.dF,iv y.tqo]) rfl rfl ?_;refine St.ee (Ev.eh (AN x y) Zp (.mk rfl) (.aX rfl rfl)) ?_;refine g9 ?_;refine St.cq (λg=> ?_) (λg=> ?_)
   ·refine g12 ?_
    refine St.rV [_] [] ?_;exact ie (by rw[d,oD f e,aC g])
   ·refine g8 ?_
    refine St.aS (k+1) ⟨by omega,by omega,by rw[d,oD f e,aA (λh=>h g)]⟩
 ·refine g15 ?_
  refine St.cq (λm=> ?_) (λm=> ?_)
  ·refine g7 ?_
   refine St.rV [_] [] ?_;exact ie (by obtain⟨y,hy⟩:=aE (show k<(b.map fS).length by rw[aO];omega);rw[d,uy hy (by rw[aO];omega)])
  ·refine g8 ?_
   refine St.rV [_] [] ?_;exact ie (by rw[d,yh (by rw[aO];omega) (by rw[aO];omega)])
theorem CN (x y:dh):eC prog 171 #[Value.agg #[iv x.type,x.lv.1],Value.agg #[iv y.type,y.lv.1]] [cA x,cA y] (iv (xE (mD x) (mD y))):=by
 refine eC.nK (args:=[Value.agg #[iv x.type,x.lv.1],Value.agg #[iv y.type,y.lv.1]]) 24 func171 rfl ntmps171 rfl (λc=> ?_);refine go ?_;refine St.eZ (sl aw x.lv.1 x.aq) [cA x] (λρ h=>h _ (aQ ..)) ?_;refine St.eZ (sl aw y.lv.1 y.aq) [cA y] (λρ h=>h _ (aQ ..)) ?_;refine go ?_;refine St.dJ (.mk rfl) rfl (λb=> ?_);refine St.dJ (.mk rfl) rfl (λd=> ?_);refine g4 ?_;refine St.pC [] mixed (λe f=> ?_);refine SW.gd 0 ?_;refine SW.gd 1 ?_;refine SW.gd 2 ?_;refine SW.gd 3 ?_;refine SW.dd 4 rfl (λ_=>Ev.call (ec _ _) qF (.aX rfl rfl)) ?_;refine SW.gd 5 ?_;refine SW.gd 6 ?_;refine SW.gd 7 ?_;refine SW.gd 8 ?_;refine SW.gd 9 ?_;refine SW.gd 10 ?_;refine SW.dd 11 rfl (λ_=>Ev.call (ec _ _) qF (.aX rfl rfl)) ?_;refine SW.gd 12 ?_;refine SW.gd 13 ?_;refine SW.gd 14 ?_;refine SW.gd 15 ?_;refine SW.dd 16 rfl (λ_=>Ev.call (AO x.lv.1 y.lv.1 x.aq y.aq) Zo (.ej rfl rfl rfl)) ?_;refine SW.t1 17 ?_;refine St.gX rfl (.ej rfl rfl rfl) bJ dK eS rfl rfl (by simp[Value.cells]) rfl rfl (λa=> ?_);refine St.aM (.slice (some ⟨a,0,none⟩) 3 3) (show _=([(lu x.type y.type),(lu (x.aq.length:Nat) (y.aq.length:Nat)),(kO EN (x.aq.map fS) (y.aq.map fS))]).length from rfl) (show _=rows aJ ([(lu x.type y.type),(lu (x.aq.length:Nat) (y.aq.length:Nat)),(kO EN (x.aq.map fS) (y.aq.map fS))])from rfl) ?_;refine g2 ?_;refine SW.go ?_;refine SW.t1 18 ?_;refine St.ee (Ev.wM (tD (.slice (some ⟨a,0,none⟩) 3 3) [(lu x.type y.type),(lu (x.aq.length:Nat) (y.aq.length:Nat)),(kO EN (x.aq.map fS) (y.aq.map fS))]) RJ (.au rfl) (dW.row dW.nil rfl rfl rfl (Ce (λx hx=>by simp only[List.mem_cons,List.not_mem_nil,or_false]at hx;rcases hx with rfl|rfl|rfl;exact oE _ _;exact oE _ _;exact yg N2 _ _)))) ?_;refine g2 ?_;refine SW.go ?_;refine SW.gd 19 ?_;refine SW.dn ?_;refine g2 ?_;refine St.rV [_] [] ?_;exact ie (show su _ (su _ (su _ 0))=_ by rw[JP];unfold xE mD;rw[aO,aO])
theorem AP (x y:dh):eC prog 171 ([Value.agg #[iv x.type,x.lv.1],Value.agg #[iv y.type,y.lv.1]]++ []).toArray [cA x,cA y] (iv (xE (mD x) (mD y))):=CN x y
theorem AQ (v0 v1:Value)(a b:List dh):eC prog 170 #[v0,v1,.func (.func 171) #[] #[]] [sl bh v0 a,sl bh v1 b,aF cA a,aF cA b] (iv (kO xE (a.map mD) (b.map mD))):=by
 refine eC.Me (args:=[v0,v1,.func (.func 171) #[] #[]]) 39 func170 rfl ntmps170 rfl (λc=> ?_);refine go ?_;refine St.wf v0 (λn o=> ?_);refine St.wf v1 (λp q=> ?_);refine g13 ?_;refine St.lS (ι:=Nat) (λk T=>(13,iv k)::T) (λk=>k≤a.length∧k≤b.length∧kO xE (a.map mD) (b.map mD)=kO xE ((a.map mD).drop k) ((b.map mD).drop k)) (λk=>a.length-k) 0 (aD.cons 0 rfl (aD.cons 1 rfl (aD.cons 2 rfl (aD.cons 11 rfl (aD.cons 12 rfl aD.nil))))) ⟨aP _,aP _,rfl⟩ ?_;intro k i;obtain⟨hk,r,d⟩:=i;refine g6 ?_;refine St.cq (λj=> ?_) (λj=> ?_)
 ·obtain⟨x,hx⟩:=aE (show k<a.length by omega)
  have f:(a.map mD)[k]?=some (mD x):=by rw[bP,hx];rfl
  refine g8 ?_;refine St.ee (Ev.jq (.mk rfl) hx we trivial jQ j5.eq) ?_;refine St.al (λs=> ?_);refine go ?_;refine St.sA (.mk rfl) (.mk rfl) jQ ?_ (h1:=(eW.2 λu hu=>bh.one x u hu));refine g11 ?_;refine St.cq (λl=> ?_) (λl=> ?_)
  ·refine g12 ?_
   refine St.rV [_] [] ?_;exact ie (by rw[d,yi f (by rw[aO];omega)])
  ·obtain⟨y,hy⟩:=aE (show k<b.length by omega)
   have e:(b.map mD)[k]?=some (mD y):=by rw[bP,hy];rfl
   refine g7 ?_;refine St.ee (Ev.jq (.mk rfl) hy we trivial jQ j5.eq) ?_;refine St.al (λt=> ?_);refine St.sA (.mk rfl) (.mk rfl) jQ ?_ (h1:=(eW.2 λu hu=>bh.one y u hu));refine g6 ?_;refine St.slot 27 (Value.agg #[iv x.type,x.lv.1]) rfl rfl ?_;refine go ?_;refine St.slot 28 (Value.agg #[iv y.type,y.lv.1]) rfl rfl ?_;refine St.cK cA a (x:=x) (ae hx) ?_;refine St.cK cA b (x:=y) (ae hy) ?_;refine St.ee (Ev.eh (AP x y) Zn (.mk rfl) (.aX rfl rfl)) ?_;refine g9 ?_;refine St.cq (λg=> ?_) (λg=> ?_)
   ·refine g12 ?_
    refine St.rV [_] [] ?_;exact ie (by rw[d,oD f e,aC g])
   ·refine g8 ?_
    refine St.aS (k+1) ⟨by omega,by omega,by rw[d,oD f e,aA (λh=>h g)]⟩
 ·refine g15 ?_
  refine St.cq (λm=> ?_) (λm=> ?_)
  ·refine g7 ?_
   refine St.rV [_] [] ?_;exact ie (by obtain⟨y,hy⟩:=aE (show k<(b.map mD).length by rw[aO];omega);rw[d,uy hy (by rw[aO];omega)])
  ·refine g8 ?_
   refine St.rV [_] [] ?_;exact ie (by rw[d,yh (by rw[aO];omega) (by rw[aO];omega)])
theorem AM (x y:dD):eC prog 149 #[bA x,bA y] [aG x,aG y] (iv (kO xE (ay x) (ay y))):=by
 refine eC.nK (args:=[bA x,bA y]) 10 func149 rfl ntmps149 rfl (λc=> ?_);refine go ?_
 refine St.jN (aG x) (λ_:Unit=>kb x) (λρ h=>⟨(),h⟩) λ_=> ?_
 refine St.cast (H':=[aB (sl bh x.nv.1 x.nodes),aB (aF cA x.nodes),aB (aG x),aB (aG y)]) rfl ?_
 refine St.jN (aG y) (λ_:Unit=>kb y) (λρ h=>⟨(),h⟩) λ_=> ?_
 refine St.cast (H':=[aB (sl bh y.nv.1 y.nodes),aB (aF cA y.nodes),aB (sl bh x.nv.1 x.nodes),aB (aF cA x.nodes),aB (aG x),aB (aG y)]) rfl ?_;refine go ?_;refine St.dJ (.mk rfl) rfl (λa=> ?_);refine St.dJ (.mk rfl) rfl (λb=> ?_);refine g9 ?_;refine St.ee (Ev.call (AQ x.nv.1 y.nv.1 x.nodes y.nodes) Zm (.ej rfl rfl rfl)) ?_;refine g4 ?_;refine St.rV [_] [] ?_;exact ie rfl
theorem CL (x y:dL):eC prog 127 #[Gw x.frm x.tqo x.cx x.gr.nv.1,Gw y.frm y.tqo y.cx y.gr.nv.1] [aG x.gr,aG y.gr] (iv (xX (cF x).ed (cF y).ed)):=by
 refine eC.nK (args:=[Gw x.frm x.tqo x.cx x.gr.nv.1,Gw y.frm y.tqo y.cx y.gr.nv.1]) 27 func127 rfl ntmps127 rfl (λc=> ?_);refine g2 ?_;refine St.dJ (.mk rfl) rfl (λb=> ?_);refine St.dJ (.mk rfl) rfl (λd=> ?_);refine g4 ?_;refine St.pC [] mixed (λe f=> ?_);refine SW.gd 0 ?_;refine SW.gd 1 ?_;refine SW.gd 2 ?_;refine SW.gd 3 ?_;refine SW.dd 4 rfl (λ_=>Ev.call (ec _ _) qF (.aX rfl rfl)) ?_;refine SW.gd 5 ?_;refine SW.gd 6 ?_;refine SW.gd 7 ?_;refine SW.gd 8 ?_;refine SW.dd 9 rfl (λ_=>Ev.call (ec _ _) qF (.aX rfl rfl)) ?_;refine SW.gd 10 ?_;refine SW.gd 11 ?_;refine SW.gd 12 ?_;refine SW.gd 13 ?_;refine SW.dd 14 rfl (λ_=>Ev.call (ec _ _) qF (.aX rfl rfl)) ?_;refine SW.gd 15 ?_;refine SW.dd 16 rfl (λ_=>Ev.iT 1 (.mk rfl) mo trivial jR rfl rfl) ?_;refine SW.slot 21 (bA x.gr) rfl rfl ?_;refine SW.gd 17 ?_;refine SW.dd 18 rfl (λ_=>Ev.iT 1 (.mk rfl) mo trivial jR rfl rfl) ?_;refine SW.slot 23 (bA y.gr) rfl rfl ?_;refine SW.dd 19 rfl (λ_=>Ev.call (AM x.gr y.gr) Zg (.aX rfl rfl)) ?_;refine SW.t1 20 ?_;refine St.gX rfl (.gU rfl rfl rfl rfl) bJ dK eS rfl rfl (by simp[Value.cells]) rfl rfl (λa=> ?_);refine St.aM (.slice (some ⟨a,0,none⟩) 4 4) (show _=([(lu (x.frm:Nat) (y.frm:Nat)),(lu (x.tqo:Nat) (y.tqo:Nat)),(lu (x.cx:Nat) (y.cx:Nat)),(kO xE (ay x.gr) (ay y.gr))]).length from rfl) (show _=rows aJ ([(lu (x.frm:Nat) (y.frm:Nat)),(lu (x.tqo:Nat) (y.tqo:Nat)),(lu (x.cx:Nat) (y.cx:Nat)),(kO xE (ay x.gr) (ay y.gr))])from rfl) ?_;refine g2 ?_;refine SW.go ?_;refine SW.t1 21 ?_;refine St.ee (Ev.wM (tD (.slice (some ⟨a,0,none⟩) 4 4) [(lu (x.frm:Nat) (y.frm:Nat)),(lu (x.tqo:Nat) (y.tqo:Nat)),(lu (x.cx:Nat) (y.cx:Nat)),(kO xE (ay x.gr) (ay y.gr))]) RJ (.au rfl) (dW.row dW.nil rfl rfl rfl (Ce (λx hx=>by simp only[List.mem_cons,List.not_mem_nil,or_false]at hx;rcases hx with rfl|rfl|rfl|rfl;exact oE _ _;exact oE _ _;exact oE _ _;exact yg W8 _ _)))) ?_;refine g2 ?_;refine SW.go ?_;refine SW.gd 22 ?_;refine SW.dn ?_;refine g2 ?_;refine St.rV [_] [] ?_;exact ie (show su _ (su _ (su _ (su _ 0)))=_ by rw[JP];rfl)
theorem I5 (a b:Nat)(eF:aV)(its:List dL)(i j:Nat)(x y:dL)(hx:its[i]?=some x)(hy:its[j]?=some y):eC prog 126 #[iv (i:Nat),iv (j:Nat),.pointer (some ⟨a,0,none⟩)] [pf a (.pointer (some ⟨b,0,none⟩)),pf b eF.1,sl eE eF.1 its,aF (λx:dL=>aG x.gr) its] (iv (xX (cF x).ed (cF y).ed)):=by
 refine eC.Me (args:=[iv (i:Nat),iv (j:Nat),.pointer (some ⟨a,0,none⟩)]) 23 func126 rfl ntmps126 rfl (λc=> ?_);refine go ?_;refine St.eZ (aG x.gr) [aF (λx:dL=>aG x.gr) its] (λρ h=>h _ (aQ ..) x (ae hx)) ?_;refine St.eZ (aG y.gr) [aF (λx:dL=>aG x.gr) its] (λρ h=>h _ (aQ ..) y (ae hy)) ?_
 have e:=ah hx
 have d:=ah hy
 refine g5 ?_;refine St.rq mixed (by kernel_rfl) (Mm.drawn _ _) ?_;refine g7 ?_;refine Sq.ee (Ev.El (Rr:=eE) (sz:=4) (.mk rfl) hx G6 trivial zt (by decide) (by decide)) ?_;refine Sq.slot 13 (Gw x.frm x.tqo x.cx x.gr.nv.1) rfl rfl ?_;refine g7 ?_;refine Sq.ee (Ev.El (Rr:=eE) (sz:=4) (.mk rfl) hy G6 trivial zt (by decide) (by decide)) ?_;refine Sq.slot 21 (Gw y.frm y.tqo y.cx y.gr.nv.1) rfl rfl ?_;refine Sq.ee (Ev.call (CL x y) ZV (.aX rfl rfl)) ?_;refine g4 ?_;refine St.rV [_] [] ?_;exact ie rfl
structure jo where
 wt:Int
 code:List Int
 tree:jW
structure jF where
 rk:jo
 fx:Nat
 ranks:List Nat
structure wJ where
 done:List jo
 next:List jF
 begun:Bool
def rk0:jo:=⟨0,[],.mk 0 0 []⟩
def Ir:jF:=⟨rk0,0,[]⟩
def nz:wJ:=⟨[],[],false⟩
abbrev eD:=List wJ
def QZ (a b:jo):Int:=su (lu a.wt b.wt) (kO lu a.code b.code)
def vQ (q:List jF)(i j:Nat):Bool:=decide (QZ (q.getD i Ir).rk (q.getD j Ir).rk<0)
def xO (q:List jF)(i j:Nat):List jF:=(q.set i (q.getD j Ir)).set j (q.getD i Ir)
def Jz:Nat→List jF→Nat→List jF
 |0,q,_=>q
 |f+1,q,j=>if(j-1)/2=j∨vQ q j ((j-1)/2)=false then q else Jz f (xO q ((j-1)/2) j) ((j-1)/2)
def p7 (q:List jF)(i n:Nat):Nat:=if 2*i+2<n∧vQ q (2*i+2) (2*i+1)=true then 2*i+2 else 2*i+1
def oI:Nat→List jF→Nat→Nat→List jF
 |0,q,_,_=>q
 |f+1,q,i,n=>if n≤2*i+1 then q else if vQ q (p7 q i n) i=false then q else oI f (xO q i (p7 q i n)) (p7 q i n) n
def tj (n:Nat):Nat→List jF→List jF
 |0,q=>q
 |k+1,q=>tj n k (oI n q k n)
def Av (q:List jF)(x:jF):List jF:=Jz (q.length+1) (q++ [x]) q.length
def pE (q:List jF):List jF:=oI (q.length-1) (xO q 0 (q.length-1)) 0 (q.length-1)
structure ct where
 its:List lM
 rules:List Int
 aL:List Int
def wy0:uj:=⟨0,0,[]⟩
def ct.fx (B:ct)(e w:Nat):uj:=(B.its.getD e gg).cW.getD w wy0
def vM (get:eD→Nat→Nat→eD×Option jo):List (Nat×Nat)→eD→jo→eD×Option jo
 | [],st,c=>(st,some c)
 |(k,r)::l,st,c=>match get st k r with
  |(st,none)=>(st,none)
  |(st,some x)=>vM get l st ⟨c.wt+x.wt,c.code++x.code,.mk c.tree.rule c.tree.lex (c.tree.kids++ [x.tree])⟩
def nA (B:ct)(get:eD→Nat→Nat→eD×Option jo)(st:eD)(e w:Nat)(ranks:List Nat):eD×Option jF:=
 if(B.fx e w).rule<0 then(st,some ⟨⟨B.aL.getD (B.fx e w).lex.toNat 0,[1000+(B.fx e w).lex],.mk (B.fx e w).rule (B.fx e w).lex []⟩,w,ranks⟩)
 else match vM get ((B.fx e w).kids.zip ranks) st ⟨B.rules.getD (B.fx e w).rule.toNat 0,[(B.fx e w).rule],.mk (B.fx e w).rule (B.fx e w).lex []⟩with
  |(st,none)=>(st,none)
  |(st,some x)=>(st,some ⟨x,w,ranks⟩)
def DK (st:eD)(e:Nat)(q:List jF):eD:=st.set e ⟨(st.getD e nz).done,q,(st.getD e nz).begun⟩
def Aa (B:ct)(get:eD→Nat→Nat→eD×Option jo)(e:Nat)(st:eD)(w:Nat):eD:=
 match nA B get st e w (List.replicate (B.fx e w).kids.length 0)with
 |(st,none)=>st
 |(st,some c)=>DK st e ((st.getD e nz).next++ [c])
def yV (B:ct)(get:eD→Nat→Nat→eD×Option jo)(e:Nat)(st:eD):eD:=
 if(st.getD e nz).begun then st else
  (λst:eD=>DK st e (tj (st.getD e nz).next.length ((st.getD e nz).next.length/2) (st.getD e nz).next))
   ((List.range (B.its.getD e gg).cW.length).foldl (Aa B get e) (st.set e ⟨(st.getD e nz).done,(st.getD e nz).next,true⟩))
def Aw (B:ct)(get:eD→Nat→Nat→eD×Option jo)(e:Nat)(c:jF):Nat→Nat→eD→eD
 |0,_,st=>st
 |m+1,d,st=>
  let st2:=match nA B get st e c.fx (c.ranks.set d (c.ranks.getD d 0+1))with
   |(st,none)=>st
   |(st,some x)=>DK st e (Av (st.getD e nz).next x)
  if 0<c.ranks.getD d 0 then st2 else Aw B get e c m (d+1) st2
def LN (st:eD)(e:Nat):eD:=
 st.set e ⟨(st.getD e nz).done++ [((pE (st.getD e nz).next).getD ((st.getD e nz).next.length-1) Ir).rk],(pE (st.getD e nz).next).take ((st.getD e nz).next.length-1),(st.getD e nz).begun⟩
def FM (st:eD)(e:Nat):jF:=(pE (st.getD e nz).next).getD ((st.getD e nz).next.length-1) Ir
def u9 (B:ct)(get:eD→Nat→Nat→eD×Option jo)(e a:Nat):Nat→eD→eD
 |0,st=>st
 |m+1,st=>if(st.getD e nz).done.length≤a∧0<(st.getD e nz).next.length then
  u9 B get e a m (Aw B get e (FM st e) (FM st e).ranks.length 0 (LN st e))
  else st
def fh (B:ct):Nat→eD→Nat→Nat→eD×Option jo
 |0,st,_,_=>(st,none)
 |f+1,st,e,r=>
  let st2:=u9 B (fh B f) e r (r+1) (yV B (fh B f) e st)
  (st2,(st2.getD e nz).done[r]?)
def pF (get:eD→Nat→Nat→eD×Option jo)(ranks:List Nat):List Nat→Nat→eD→Option (Nat×jo)→eD×Option (Nat×jo)
 | [],_,st,b=>(st,b)
 |e::l,i,st,b=>match get st e (ranks.getD i 0)with
  |(st,none)=>pF get ranks l (i+1) st b
  |(st,some x)=>pF get ranks l (i+1) st (match b with
   |none=>some (i,x)
   |some y=>if QZ x y.2<0 then some (i,x)else some y)
def tQ (get:eD→Nat→Nat→eD×Option jo)(full:List Nat):Nat→eD→List Nat→List jW→List jW
 |0,_,_,out=>out
 |m+1,st,ranks,out=>match pF get ranks full 0 st none with
  |(_,none)=>out
  |(st,some x)=>tQ get full m st (ranks.set x.1 (ranks.getD x.1 0+1)) (out++ [x.2.tree])
def YK (g:fj)(its:List lM):ct:=⟨its,g.rules.map (·.weight),g.aL.map (·.weight)⟩
def lO (g:fj)(words:List ax)(n:Int):List jW×(Int×Int):=
 if(jL g).1≠0 then([],jL g)else if n<0∨200<n then([],(3,-3))else if(dT g words).2.1≠0 then([],(dT g words).2)
 else(tQ (fh (YK g (dT g words).1.1) 60) (dT g words).1.2 n.toNat (List.replicate (dT g words).1.1.length nz) (List.replicate (dT g words).1.2.length 0) [],(0,0))
structure xT where
 wt:Int
 cv:aV
 code:List Int
 tree:dE
structure ku where
 rk:xT
 fx:Nat
 rv:aV
 ranks:List Nat
structure jH where
 dv:aV
 done:List xT
 nv:aV
 next:List ku
 begun:Bool
def rkC (x:xT):List Value:=[iv x.wt,x.cv.1,iv x.tree.rule,iv x.tree.lex,x.tree.kv.1]
def LQ:Rp xT:=⟨5,by decide,rkC,λ_=>True,λ_=>rfl,λx u h=>cC rfl (cC x.cv.2 (cC rfl (cC rfl (cC x.tree.kv.2 λ_ h=>by cases h)))) u h⟩
def chC (x:ku):List Value:=[iv x.rk.wt,x.rk.cv.1,iv x.rk.tree.rule,iv x.rk.tree.lex,x.rk.tree.kv.1,iv (x.fx:Nat),x.rv.1]
def jK:Rp ku:=⟨7,by decide,chC,λ_=>True,λ_=>rfl,λx u h=>cC rfl (cC x.rk.cv.2 (cC rfl (cC rfl (cC x.rk.tree.kv.2 (cC rfl (cC x.rv.2 λ_ h=>by cases h)))))) u h⟩
def fO:Rp jH:=⟨3,by decide,λx=>[x.dv.1,x.nv.1,.bool x.begun],λ_=>True,λ_=>rfl,λx u h=>cC x.dv.2 (cC x.nv.2 (cC rfl λ_ h=>by cases h)) u h⟩
abbrev rkL (x:xT):List du:=[sl aJ x.cv.1 x.code,br x.tree]
abbrev chL (x:ku):List du:=[sl aJ x.rk.cv.1 x.rk.code,br x.rk.tree,sl aJ x.rv.1 (bW x.ranks)]
def oM (x:xT):du:=iK (rkL x)
def hS (x:ku):du:=iK (chL x)
def kK (a b:TypeId)(x:jH):List ak:=[row x.dv.1 a 5 x.done.length (rows LQ x.done),row x.nv.1 b 7 x.next.length (rows jK x.next),aB (aF oM x.done),aB (aF hS x.next)]
def mg (x:xT):jo:=⟨x.wt,x.code,cy x.tree⟩
def iQ (x:ku):jF:=⟨mg x.rk,x.fx,x.ranks⟩
def fi (x:jH):wJ:=⟨x.done.map mg,x.next.map iQ,x.begun⟩
end Go.Proofs.YtblifkgpebebmaaGreatDoor
