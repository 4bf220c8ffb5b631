/-
  Laws of walks through programs, and facts on grammars, trees and queries.
  Conditions: none.
-/
import Derived.Test.YtblifkgpebebmaaGreatDoorGT5
set_option maxHeartbeats 1000000
set_option maxRecDepth 20000
set_option linter.unusedVariables false
set_option linter.unusedSimpArgs false
namespace Go.Proofs.YtblifkgpebebmaaGreatDoor
open Go Go.J Tryz
theorem Ui {p:Pl}{i:Nat}(h:i<p.ro.length):(pV p)[i]?=some (p.tt i,if p.rt i=i then(p.ll i).map (λl=>(l.1,(p.rt l.2.toNat:Int)))else []):=by
 unfold pV;rw[bE,kg h];rfl
def tlk (p:Pl)(l:jw):jw:=l.map λl=>(l.1,(p.rt l.2.toNat:Int))
theorem Ii (bp:Nat)(w1 w2:aY)(pv tv lv:Value)(nt nf n:Nat)(hn:n≤120)(Sm:0<n)(P0:List Nat)(p:Pl)(ls:List DF)(yW:mG nt nf n p)(huf:UF P0 p.ro)(SS:ls.map z8=p.lk)(hlw:∀q∈ls,∀x∈q.2,aq.wf x)(hlen:∀q∈ls,q.2.length≤1000000)(oS:nt≤1000000)(r:Nat)(hr:r<n):dt Tryz.prog 130 #[.pointer (some ⟨bp,0,none⟩),iv r] [aX bp (.cells [w1.1,w2.1,pv,tv,lv].toArray 245 (0,0)),row pv 3 1 p.ro.length (rows aL (cA (P0))),row tv 3 1 p.ty.length (rows aL p.ty),row lv 161 1 ls.length (rows cN (ls.map Prod.fst)),aF (aI pX ls)] (λv H'=>H'=[aF (cF (ff (pV p) (p.rt r)) v)]):=by
 refine dt.body (args:=[.pointer (some ⟨bp,0,none⟩),iv r]) 68 Tryz.func130 rfl Tryz.ntmps130 rfl (λc=> ?_);refine go ?_
 have hRl:=yW.lr
 have M9:=yW.lt
 have N7:=yW.ll
 have UE:ls.length=n:=by rw[←N7,←SS,aQ]
 refine go ?_;refine St.al (λb4=> ?_);refine g4 ?_;refine St.al (λb5=> ?_);refine g14 ?_;refine St.dc 163 2 ?_;refine St.aO (.slice none 0 0) (show _=([]:List dW).length from rfl) (show _=rows bW []from rfl) ?_;refine St.e8 bX ?_;refine St.vo (ι:=Nat) (κ:=Value×List dW×List Nat) (λk z T=>(15,iv k)::T) (λk z=>[aX b5 (.cells [z.1].toArray 30 (0,0)),row z.1 163 2 (z.2.1).length (rows bW (z.2.1)),aX b4 (.cells [(.slice none 0 0)].toArray 30 (0,0)),aX bp (.cells [w1.1,w2.1,pv,tv,lv].toArray 245 (0,0)),row pv 3 1 p.ro.length (rows aL (cA (z.2.2))),row tv 3 1 p.ty.length (rows aL p.ty),row lv 161 1 ls.length (rows cN (ls.map Prod.fst)),aF (aI pX ls),aF (aI bX z.2.1)]) (λk z=>k≤n∧z.1.oneCell'=true∧z.2.1.map lN=(pV p).take k∧z.2.1.length=k∧UF z.2.2 p.ro∧(∀x∈z.2.1,bW.wf x)∧∀x∈z.2.1,x.ah.length≤1000000) (λk z=>n-k) 0 ((.slice none 0 0),[],P0) (aC.cons 0 rfl (aC.cons 1 rfl (aC.cons 4 rfl (aC.cons 5 rfl (aC.cons 14 rfl aC.nil))))) ⟨aR _,rfl,rfl,rfl,huf,λx hx=>(by cases hx),λx hx=>(by cases hx)⟩ ?_;rintro k ⟨gv,N,P1⟩ ⟨hk,hgv,Wz,hNl,ae9,hNw,hNL⟩
 dsimp only at hgv Wz hNl ae9 hNw hNL⊢
 obtain⟨rk,B,hUF⟩:=ae9;refine g6 ?_;refine St.cq (λzy=> ?_) (λzy=> ?_)
 ·have wT:k<n:=by omega
  have hkt:=yW.tt wT
  have SK:bP (p.tt k):=by unfold bP;omega
  refine g18 ?_;refine St.ee (Ev.cB (.mk rfl) eN trivial (by omega) (fF (Qc (by omega)))) ?_;refine St.ee (Ev.build (bF.bB rfl) (λw=>OS rfl w)) ?_;refine St.al (λb7=> ?_);refine g3 ?_;refine St.join (ι:=aY×List dL×List Nat) (λ⟨zl,L,P2⟩ T=>T) (λ⟨zl,L,P2⟩=>[aX b7 (.cells [iv (p.tt k),zl.1].toArray 163 (0,0)),aX b5 (.cells [gv].toArray 30 (0,0)),row gv 163 2 (N).length (rows bW (N)),aX b4 (.cells [(.slice none 0 0)].toArray 30 (0,0)),aX bp (.cells [w1.1,w2.1,pv,tv,lv].toArray 245 (0,0)),row pv 3 1 p.ro.length (rows aL (cA (P2))),row tv 3 1 p.ty.length (rows aL p.ty),row lv 161 1 ls.length (rows cN (ls.map Prod.fst)),aF (aI pX ls),aF (aI bX N),aF (sl aq zl.1 L)]) (λ⟨zl,L,P2⟩=>UF P2 p.ro∧L.map eR=(if p.rt k=k then tlk p (p.ll k)else [])∧L.length≤1000000) (aC.cons 0 rfl (aC.cons 1 rfl (aC.cons 4 rfl (aC.cons 5 rfl (aC.cons 7 rfl (aC.cons 14 rfl (aC.cons 15 rfl aC.nil))))))) ?_ ?_
  ·refine g4 ?_
   refine St.call (find_spec bp w1 w2 pv tv lv rk B p.ro (by omega) P1 hUF k (by omega)) El (.bH rfl rfl) rfl ?_;rintro v28 _ ⟨P3,rfl,hP3,rfl⟩;refine St.lZ ?_;refine g4 ?_;refine St.cq (λw6=> ?_) (λw6=> ?_)
   ·have Gs:p.rt k=k:=(show p.ro.getD k 0=k by omega)
    obtain⟨q,hqk⟩:=aE (show k<ls.length by omega)
    have Ub:=ab hqk
    have hpk:p.ll k=q.2.map eR:=Ig SS hqk
    have hqL:=hlen q Ub
    refine St.cL pX ls (x:=q) Ub ?_;refine St.eT (sl aq q.1.1 q.2) [pX q] (λρ h=>h _ (aU ..)) ?_;refine g8 ?_;refine St.ee (Ev.cB (.mk rfl) eA trivial (by omega) (qe (show(ls.map Prod.fst)[k]?=some q.1 by rw[bE,hqk];rfl))) ?_;refine g5 ?_;refine St.dc 165 2 ?_;refine St.aO (.slice none 0 0) (show _=([]:List dL).length from rfl) (show _=rows aq []from rfl) ?_;refine St.vo (ι:=Nat) (κ:=Value×List dL×List Nat) (λj z T=>(39,iv j)::T) (λj z=>[aX b7 (.cells [iv (p.tt k),z.1].toArray 163 (0,0)),row z.1 165 2 (z.2.1).length (rows aq (z.2.1)),aX b5 (.cells [gv].toArray 30 (0,0)),row gv 163 2 (N).length (rows bW (N)),aX b4 (.cells [(.slice none 0 0)].toArray 30 (0,0)),aX bp (.cells [w1.1,w2.1,pv,tv,lv].toArray 245 (0,0)),row pv 3 1 p.ro.length (rows aL (cA (z.2.2))),row tv 3 1 p.ty.length (rows aL p.ty),row lv 161 1 ls.length (rows cN (ls.map Prod.fst)),aF (aI pX ls),aF (aI bX N),aF (sl aq q.1.1 q.2)]) (λj z=>j≤q.2.length∧z.1.oneCell'=true∧UF z.2.2 p.ro∧z.2.1.map eR=tlk p ((q.2.take j).map eR)∧z.2.1.length=j∧∀x∈z.2.1,aq.wf x) (λj z=>q.2.length-j) 0 ((.slice none 0 0),[],P3) (aC.cons 0 rfl (aC.cons 1 rfl (aC.cons 4 rfl (aC.cons 5 rfl (aC.cons 7 rfl (aC.cons 14 rfl (aC.cons 15 rfl (aC.cons 37 rfl (aC.cons 38 rfl aC.nil))))))))) ⟨aR _,rfl,⟨rk,B,hP3⟩,rfl,rfl,λx hx=>(by cases hx)⟩ ?_;rintro j ⟨lw,L,P2⟩ ⟨hj,afA,hP2,Qb,N7,Z4⟩
    dsimp only at afA hP2 Qb N7 Z4⊢
    obtain⟨rk2,B2,afB⟩:=hP2;refine g6 ?_;refine St.cq (λPq=> ?_) (λPq=> ?_)
    ·obtain⟨x,hx⟩:=aE (show j<q.2.length by omega)
     obtain⟨_,wi,qf⟩:=yW.SP _ (yW.lm wT) (eR x) (by rw[hpk];exact dq (ab hx))
     replace wi:0≤x.tqo:=wi
     replace qf:x.tqo<n:=qf
     obtain⟨xt,Gt⟩:∃xt,xt=x.tqo.toNat:=⟨_,rfl⟩
     have hxt:x.tqo=(xt:Int):=by omega
     have hrx:p.ro.getD xt 0<n:=yW.xS xt (by omega)
     refine g7 ?_;refine St.ee (Ev.jj (.mk rfl) hx kG trivial dE iY.eq) ?_;refine St.al (λb9=> ?_);refine g3 ?_;refine St.cx [aX b7 (.cells [iv (p.tt k),lw].toArray 163 (0,0)),row lw 165 2 (L).length (rows aq (L)),aX bp (.cells [w1.1,w2.1,pv,tv,lv].toArray 245 (0,0)),row pv 3 1 p.ro.length (rows aL (cA (P2)))] mixed (λnp ns=> ?_)
     repeat' first
      |with_reducible refine SW.me ?_
       first
        |refine SW.gd 0 ?_
        |refine SW.gd 2 ?_
        |refine SW.gd 3 ?_
        |refine SW.gd 4 ?_
        |refine SW.gd 5 ?_
        |refine SW.gd 6 ?_
         refine SW.slot 49 (iv (xt:Nat)) rfl (congrArg iv hxt) ?_
        |refine SW.dd 8 rfl (λ_=>Ev.build (ps:=[(0,(.tmp 46)),(1,(.tmp 50))]) (bF.bH rfl rfl) (λw=>rj rfl rfl w)) ?_
        |refine SW.gd 11 ?_
        |refine SW.t2 1 7 ?_ ?_
        |refine SW.t1 7 ?_
        |refine SW.t1 9 ?_
        |refine SW.t1 10 ?_
        |refine SW.t1 12 ?_
        |refine SW.t2 1 9 ?_ ?_
        |refine SW.t1 1 ?_
      |with_reducible refine SW.tg 1 ?_
       refine g3 ?_;refine SW.go ?_
      |with_reducible refine SW.tg 7 ?_
       refine St.call (find_spec bp w1 w2 pv tv lv rk2 B2 p.ro (by omega) P2 afB xt (by omega)) El (.bH rfl rfl) rfl ?_;rintro v50 _ ⟨P4,rfl,hP4,rfl⟩;refine St.lZ ?_;refine g2 ?_;refine SW.go ?_
      |with_reducible refine SW.tg 9 ?_
       refine St.gb rfl (.bB rfl) eA dE mA rfl rfl (by simp[Value.cells]) rfl rfl (λb52=> ?_);refine g2 ?_;refine SW.go ?_
      |with_reducible refine SW.tg 10 ?_
       refine St.aj (.mk rfl) (.mk rfl) eA dE mA sm (by simp[Value.oneCell',Value.cells]) (by omega) (by omega) rfl rfl rfl rfl (λv53 amC=> ?_);refine St.aO v53 (show _=(L++ [(⟨x.cT,(p.ro.getD xt 0:Nat)⟩:dL)]).length from cV) (show _=rows aq (L++ [(⟨x.cT,(p.ro.getD xt 0:Nat)⟩:dL)]) by rw[aw];rfl) ?_;refine St.bS v53 (λYd _=> ?_);refine g2 ?_;refine SW.go ?_
      |with_reducible refine SW.tg 12 ?_
       refine St.cO (.mk rfl) (.mk rfl) rL Yd (by rfl) ?_;refine g2 ?_;refine SW.go ?_
     all_goals refine SW.dn ?_
     all_goals
      refine g7 ?_;refine St.wo (j+1) (v53,L++ [⟨x.cT,(p.ro.getD xt 0:Nat)⟩],P4) ⟨by omega,Yd,⟨rk2,B2,hP4⟩,by dsimp only;rw[cC,Qb,ai hx,cC];unfold tlk;rw[cC];congr 1;show [(x.cT,((p.ro.getD xt 0:Nat):Int))]=[(x.cT,((p.rt x.tqo.toNat:Nat):Int))];rw[←Gt];rfl,by dsimp only;rw[bA,N7];rfl,λy hy=>by rcases ba.1 hy with h|h;exact Z4 y h;rw[bJ.1 h];exact⟨(hlw q Ub x (ab hx)).1,by show bP ((p.ro.getD xt 0:Nat):Int);unfold bP;omega⟩⟩
    ·obtain rfl:j=q.2.length:=by omega
     rw[fZ (aW _)]at Qb;refine St.bZ lw aq L rfl rfl Z4 ?_;refine g5 ?_;refine St.mE ⟨⟨lw,afA⟩,L,P2⟩ ⟨⟨rk2,B2,afB⟩,by rw[aB Gs,hpk];exact Qb,by dsimp only;omega⟩
   ·have Gs:p.rt k≠k:=λe=>by have e2:p.ro.getD k 0=k:=e;omega
    refine g2 ?_;refine St.fq aq ?_;refine St.mE ⟨bK,[],P3⟩ ⟨⟨rk,B,hP3⟩,by rw[aA Gs];rfl,aR _⟩
  ·rintro ⟨zl,L,P2⟩ ⟨hP2,Qb,ajF⟩
   refine g4 ?_;refine St.slot 58 (.agg #[iv (p.tt k),zl.1]) rfl rfl ?_;refine St.gb rfl (.bB rfl) pS jR OM rfl rfl (by simp[Value.cells]) rfl rfl (λb59=> ?_);refine St.aj (.mk rfl) (.mk rfl) pS jR OM WL (by intro u hu;have zz:u∈[iv (p.tt k),zl.1]:=hu;simp only[List.mem_cons,List.not_mem_nil,or_false]at zz;rcases zz with rfl|rfl;rfl;exact zl.2) (by omega) (by omega) rfl rfl rfl rfl (λv60 amD=> ?_);refine St.aO v60 (show _=(N++ [(⟨p.tt k,zl,L⟩:dW)]).length from cV) (show _=rows bW (N++ [(⟨p.tt k,zl,L⟩:dW)]) by rw[aw];rfl) ?_;refine St.bS v60 (λSI _=> ?_);refine St.eT (aI bX (N++ [(⟨p.tt k,zl,L⟩:dW)])) [aI bX N,sl aq zl.1 L] (λρ h x hx=>by rcases ba.1 hx with hx|hx;exact h _ (aU ..) x hx;rw[bJ.1 hx];exact h _ (cE _ (aU ..))) ?_;refine go ?_;refine St.cO (.mk rfl) (.mk rfl) ahW SI (by rfl) ?_;refine g8 ?_;refine St.wo (k+1) (v60,N++ [⟨p.tt k,zl,L⟩],P2) ⟨by omega,SI,by dsimp only;rw[cC,Wz,ai (Ui (p:=p) (i:=k) (by omega))];congr 1;show [(p.tt k,L.map eR)]=_;rw[Qb];rfl,by dsimp only;rw[bA,hNl];rfl,hP2,λx hx=>by rcases ba.1 hx with h|h;exact hNw x h;rw[bJ.1 h];exact SK,λx hx=>by rcases ba.1 hx with h|h;exact hNL x h;rw[bJ.1 h];exact ajF⟩
 ·obtain rfl:k=n:=by omega
  have A5:(pV p).length=k:=by rw[tT];exact hRl
  rw[fZ (by omega)]at Wz
  have Ij:=QE yW (by omega)
  have Fe:=yW.xS r hr
  refine St.bZ gv bW N rfl rfl hNw ?_;refine St.eT (aG ⟨⟨gv,hgv⟩,N⟩) [sl bW gv N,aI bX N] (λρ h=>h) ?_
  have hGE:ar ⟨⟨gv,hgv⟩,N⟩=pV p:=Wz
  refine g6 ?_;refine St.cx [aX bp (.cells [w1.1,w2.1,pv,tv,lv].toArray 245 (0,0)),row pv 3 1 p.ro.length (rows aL (cA (P1))),aX b4 (.cells [(.slice none 0 0)].toArray 30 (0,0)),aF (aG ⟨⟨gv,hgv⟩,N⟩)] mixed (λnp ns=> ?_);refine SW.gd 0 ?_;refine SW.slot 63 (au ⟨⟨gv,hgv⟩,N⟩) rfl rfl ?_;refine SW.gd 1 ?_;refine SW.gd 2 ?_;refine SW.t1 3 ?_;refine St.call (find_spec bp w1 w2 pv tv lv rk B p.ro (by omega) P1 hUF r (by omega)) El (.bH rfl rfl) rfl ?_;rintro v66 _ ⟨P4,rfl,hP4,rfl⟩;refine St.lZ ?_;refine g2 ?_;refine SW.go ?_;refine SW.t1 4 ?_;refine St.fE (vF ⟨⟨gv,hgv⟩,N⟩ (by rw[hGE];exact Ij.lk) (by show N.length≤120;omega) hNL (p.ro.getD r 0) (show p.rt r<N.length by omega)) Od (.bH rfl rfl) rfl ?_;rintro v67 _ rfl;refine St.fk ?_;rw[hGE];refine St.cF (ff (pV p) (p.ro.getD r 0)) v67 (λy hy=> ?_);obtain⟨rfl,Gu⟩:=hy;refine g2 ?_;refine SW.go ?_;refine SW.t1 5 ?_;refine g3 ?_;refine SW.go ?_;refine SW.dn ?_;refine g2 ?_;refine St.rV [_] [aF (cF (ff (pV p) (p.ro.getD r 0)) (au y))] ?_;exact rfl
theorem mG.short {nt nf n:Nat}{p:Pl}(hp:mG nt nf n p){l:jw}(hl:l∈p.lk):l.length≤nf:=by
 have ha:=hp.asc l hl
 have hk:=hp.SP l hl
 have h3:(l.map λz=>z.1.toNat).Nodup:=by
  unfold List.Nodup;rw[rC];exact vY (λ{a b} h1 h2 h=>by have:=(hk a h1).1;have:=(hk b h2).1;omega) ha
 have:=js h3 (n:=nf) (λj hj=>by obtain⟨z,hz,rfl⟩:=ct.1 hj;have:=(hk z hz).1;omega)
 rwa[aQ]at this
theorem afC {x y:dF}{ls1 ls2:List DF}{m:Nat}(hm:x.length=m)(h1:ls1.map z8=([]:List DF).map z8++x.map (λn=>n.2.map λx=>(x.1,((0:Nat):Int)+x.2)))(h2:ls2.map z8=ls1.map z8++y.map (λn=>n.2.map λx=>(x.1,(m:Int)+x.2))):ls2.map z8=(Pl.of x y).lk:=by
 rw[h2,h1,←hm]
 show([]++x.map _)++_=x.map (·.2)++_
 rw[Av]
 congr 1
 refine Ar λn _=> ?_
 conv=>rhs;rw[←List.map_id n.2]
 exact Ar λz _=>by simp
theorem afD {nt nf n:Nat}{p:Pl}(hp:mG nt nf n p)(gl:nf≤100)(hn:n≤240){ls:List DF}(h:ls.map z8=p.lk):∀q∈ls,∀x∈q.2,aq.wf x:=λq hq x hx=>by
 have hm:z8 q∈p.lk:=by rw[←h];exact dq hq
 obtain⟨⟨h1,h2⟩,h3,h4⟩:=hp.SP _ hm (eR x) (dq hx)
 have h1:0≤x.cT:=h1
 have h2:x.cT<nf:=h2
 have h3:0≤x.tqo:=h3
 have h4:x.tqo<n:=h4
 exact⟨by unfold bP;omega,by unfold bP;omega⟩
theorem Qe {nt nf n:Nat}{p:Pl}(hp:mG nt nf n p)(gl:nf≤100){ls:List DF}(h:ls.map z8=p.lk):∀q∈ls,q.2.length≤1000000:=λq hq=>by
 have hm:z8 q∈p.lk:=by rw[←h];exact dq hq
 have:=hp.short hm
 have e:(z8 q).length=q.2.length:=aQ _
 omega
theorem afE (x y:dF):(Pl.of x y).ro=List.range (x.length+y.length):=rfl
theorem afF {nt nf:Nat}{x y:dF}(hx:dP nt nf x)(hy:dP nt nf y)(h1:x.length≤60)(h2:y.length≤60)(hf:nf≤100)(w:List (Int×Int))(hw:w.length≤10):(Pl.of x y).mu w≤1000000:=by
 have hp:=Pl.QC hx hy
 have hl:∀i,i<x.length+y.length→((Pl.of x y).ll i).length≤100:=λi hi=>by
  have ha:=hp.asc _ (hp.lm hi)
  have hk:=hp.SP _ (hp.lm hi)
  have:((Pl.of x y).ll i).length≤nf:=by
   have h3:(((Pl.of x y).ll i).map λz=>z.1.toNat).Nodup:=by
    unfold List.Nodup;rw[rC];exact vY (λ{a b} h1 h2 h=>by have:=(hk a h1).1;have:=(hk b h2).1;omega) ha
   have:=js h3 (n:=nf) (λj hj=>by obtain⟨z,hz,rfl⟩:=ct.1 hj;have:=(hk z hz).1;omega)
   rwa[aQ]at this
  omega
 have hs:∀n,n≤x.length+y.length→ew (λi=>if(Pl.of x y).rt i=i then((Pl.of x y).ll i).length else 0) n≤n*100:=by
  intro n
  induction n with
  |zero=>intro _;exact aR _
  |succ n ih=>
   intro h
   have:=ih (by omega)
   have:=hl n (by omega)
   rw[ew]
   split<;>omega
 have:=hs _ (aW _)
 unfold Pl.mu Pl.left;rw[hp.lr];omega
theorem qg (w1 w2:aY)(T:List dz)(hT:gy T)(nf:Nat)(gl:nf≤100)(a b:cU)(ha:dP T.length nf (ar a))(hb:dP T.length nf (ar b))(hla:a.nodes.length≤60)(hlb:b.nodes.length≤60)(hLa:∀t∈a.nodes,t.ah.length≤1000000)(hLb:∀t∈b.nodes,t.ah.length≤1000000)(node:Nat)(rO:node<a.nodes.length):dt Tryz.prog 92 #[jS w1 w2,au a,iv node,au b] ([sl ay w1.1 (cn T),sl ay w2.1 (cr T),tz,aG a,aG b].map aF) (λv H'=>∃u,v= .tuple #[u,.bool (cm (fg T) (ar a) node (ar b)).isSome]∧H'=[aF (cF ((cm (fg T) (ar a) node (ar b)).getD []) u)]):=by
 refine dt.body (args:=[jS w1 w2,au a,iv node,au b]) 27 Tryz.func92 rfl Tryz.ntmps92 rfl (λc=> ?_);refine St.cast (H':=[aF (sl ay w1.1 (cn T)),aF (sl ay w2.1 (cr T)),aF (tz),aF (aG a),aF (aG b)]) rfl ?_;refine go ?_
 have SR:=cP a
 have hbl:=cP b
 have M9:=hT.len
 have afG:=Pl.QC ha hb
 have ajG:=afF ha hb (by omega) (by omega) gl [((node:Int),((ar a).length:Int))] (by simp)
 refine go ?_;refine St.cz (.mk rfl) rfl (λb4=> ?_);refine St.cz (.mk rfl) rfl (λb5=> ?_);refine St.cz (.mk rfl) rfl (λb7=> ?_);refine St.al (λb8=> ?_);refine g6 ?_;refine St.slot 11 (jS w1 w2) rfl rfl ?_;refine St.ee (Ev.build (bF.bB rfl) (λw=>Ot w)) ?_;refine St.cz (.mk rfl) rfl (λQA=> ?_);refine g4 ?_;refine St.dc 3 1 ?_;refine St.aO (.slice none 0 0) (show _=(List.range 0).length from rfl) (show _=rows aL (cA (List.range 0))from rfl) ?_;refine St.dc 161 1 ?_;refine St.aO (.slice none 0 0) (show _=([]:List DF).length from rfl) (show _=rows cN (([]:List DF).map Prod.fst)from rfl) ?_;refine St.dc 3 1 ?_;refine St.aO (.slice none 0 0) (show _=([]:List Int).length from rfl) (show _=rows aL []from rfl) ?_;refine St.e8 pX ?_;refine g3 ?_;refine St.slot 15 (au a) rfl rfl ?_;refine St.call (tZ QA w1 w2 a ha.lk (by omega) hLa 0 (by omega) [] rfl [] rfl (.slice none 0 0) (.slice none 0 0) (.slice none 0 0) ⟨rfl,rfl,rfl⟩) Wb (.bH rfl rfl) rfl ?_;rintro v16 _ ⟨pv,tv,lv,ls1,rfl,⟨h1,h2,h3⟩,afH,rfl⟩;refine St.Cd ?_;refine g9 ?_;refine St.slot 20 (au b) rfl rfl ?_
 have hl1:ls1.length=a.nodes.length:=by have:=congrArg List.length afH;simpa[SR]using this
 refine St.aO pv (show _=(List.range a.nodes.length).length by rw[gP]) (show _=rows aL (cA (List.range a.nodes.length)) by rw[gP]) ?_;refine St.aO tv (show _=(a.nodes.map dW.type).length from rfl) (show _=rows aL (a.nodes.map dW.type)from rfl) ?_;refine St.call (tZ QA w1 w2 b hb.lk (by omega) hLb a.nodes.length (by omega) (a.nodes.map dW.type) (aQ _) ls1 hl1 pv tv lv ⟨h1,h2,h3⟩) Wb (.bH rfl rfl) rfl ?_;rintro v21 _ ⟨pv2,tv2,lv2,ls2,rfl,Z6,ajH,rfl⟩;refine St.Cd ?_
 have hro:(Pl.of (ar a) (ar b)).ro=List.range (a.nodes.length+b.nodes.length):=by rw[afE,SR,hbl]
 have Nc:(Pl.of (ar a) (ar b)).ty=a.nodes.map dW.type++b.nodes.map dW.type:=by show(ar a).map Prod.fst++(ar b).map Prod.fst=_;show(a.nodes.map lN).map Prod.fst++(b.nodes.map lN).map Prod.fst=_;rw[kh,kh];rfl
 have Dq:ls2.map z8=(Pl.of (ar a) (ar b)).lk:=afC SR afH ajH
 have ajI:=afD afG gl (by omega) Dq
 refine St.aO pv2 (show _=(Pl.of (ar a) (ar b)).ro.length by rw[hro]) (show _=rows aL (cA (List.range (a.nodes.length+b.nodes.length)))from rfl) ?_;refine St.aO tv2 (show _=(Pl.of (ar a) (ar b)).ty.length by rw[Nc]) (show _=rows aL (Pl.of (ar a) (ar b)).ty by rw[Nc]) ?_;refine St.call (MN QA w1 w2 pv2 tv2 lv2 Z6 T hT nf (a.nodes.length+b.nodes.length) 1000000 (by omega) (aW _) (List.range (a.nodes.length+b.nodes.length)) (Pl.of (ar a) (ar b)) ls2 node (a.nodes.length:Nat) ⟨by omega,by omega⟩ ⟨by omega,by have:=hb.pos;omega⟩ (by rw[←SR,←hbl];exact afG) (by rw[hro];exact UF.range _) Dq ajI (by rw[←SR];exact ajG)) ac2 (.eZ rfl rfl rfl) rfl ?_;rintro v22 _ ⟨rb,P1,p,ls3,rfl,A7,ajJ,rfl⟩;refine St.Cd ?_;refine g3 ?_;refine St.cond _ rfl (λKT=> ?_) (λKT=> ?_)
 ·skip
  have hrf:rb=false:=by simpa using KT
  have hj:=A7 hrf
  have pb:cm (fg T) (ar a) node (ar b)=none:=by unfold cm;rw[SR];rw[hj];rfl
  refine g2 ?_;refine St.ee (Ev.build (bF.nil) (λw=>YT w)) ?_;refine g6 ?_;refine St.fq bW ?_;refine St.e8 bX ?_;refine St.eT (cF ((cm (fg T) (ar a) node (ar b)).getD []) (.agg #[(.slice none 0 0)])) [sl bW (.slice none 0 0) [],aI bX []] (λρ h=>⟨⟨bK,[]⟩,rfl,by rw[pb];rfl,h⟩) ?_;refine St.rV [_,_] [aF (cF ((cm (fg T) (ar a) node (ar b)).getD []) (.agg #[(.slice none 0 0)]))] ?_;exact⟨_,by rw[pb];rfl,rfl⟩
 ·skip
  have Gs:rb=true:=by simpa using KT
  obtain⟨hj,yW,huf,afI,ajK⟩:=ajJ Gs
  have pb:cm (fg T) (ar a) node (ar b)=some (ff (pV p) (p.rt 0)):=by unfold cm;rw[SR,hj];rfl
  refine g5 ?_;refine St.call (Ii QA w1 w2 pv2 tv2 lv2 T.length nf (a.nodes.length+b.nodes.length) (by omega) (by omega) P1 p ls3 yW huf afI ajK (Qe yW gl afI) (by omega) 0 (by omega)) ac3 (.bH rfl rfl) rfl ?_;rintro v26 _ rfl;refine St.fk ?_;refine St.cF (ff (pV p) (p.rt 0)) v26 (λy hy=> ?_);obtain⟨rfl,Gu⟩:=hy;refine g5 ?_;refine St.eT (cF ((cm (fg T) (ar a) node (ar b)).getD []) (au y)) [cF (ff (pV p) (p.rt 0)) (au y)] (λρ h=>by rw[pb];exact h _ (aU ..)) ?_;refine St.rV [_,_] [aF (cF ((cm (fg T) (ar a) node (ar b)).getD []) (au y))] ?_;exact⟨_,by rw[pb];rfl,rfl⟩
theorem fG {nt nf:Nat}{g:cU}(h:dP nt nf (ar g))(gl:nf≤100):∀t∈g.nodes,Asc t.ah∧t.ah.length≤100:=λt ht=>by
 obtain⟨_,ha,hk⟩:=h.nd (lN t) (dq ht)
 have ha:s7 (t.ah.map eR):=ha
 have hk:∀x∈t.ah.map eR,(0≤x.1∧x.1<nf)∧0≤x.2∧x.2<(ar g).length:=hk
 refine⟨λi j x y WI hx hy=> ?_,?_⟩
 ·have hj:=ae hy
  have hi:=ae hx
  have:=List.pairwise_iff_getElem.1 ha i j (by simpa using hi) (by simpa using hj) WI
  rw[List.getElem_map,List.getElem_map]at this;rw[bO hi]at hx;rw[bO hj]at hy;obtain rfl:=Option.some.inj hx;obtain rfl:=Option.some.inj hy;exact this
 ·have h3:((t.ah.map eR).map λz=>z.1.toNat).Nodup:=by
   unfold List.Nodup;rw[rC];exact vY (λ{a b} h1 h2 h=>by have:=(hk a h1).1;have:=(hk b h2).1;omega) ha
  have:=js h3 (n:=nf) (λj hj=>by obtain⟨z,hz,rfl⟩:=ct.1 hj;have:=(hk z hz).1;omega)
  rw[aQ,aQ]at this;omega
theorem zD (G:dF)(k:Int):FN G 0 k=qp G k:=rfl
theorem ZF {mt:Nat→Nat→Option Nat}{x y:dF}{gi:Int}{n:Nat}(hn:(qp x gi).toNat=n){z:dF}(hz:z=(cm mt x n y).getD []):((cm mt x n y).isSome&&decide ((z.length:Int)≤60))=(mQ mt x gi y).isSome∧∀w,mQ mt x gi y=some w→z=w:=by
 subst hn;unfold mQ
 cases h:cm mt x (qp x gi).toNat y with
 |none=>rw[h]at hz;exact⟨rfl,λw hw=>by cases hw⟩
 |some u=>
  rw[h]at hz;obtain rfl:z=u:=hz
  dsimp only
  by_cases c:z.length≤60
  ·rw[aB c];exact⟨by simp;omega,λw hw=>Option.some.inj hw⟩
  ·rw[aA c];exact⟨by simp;omega,λw hw=>by cases hw⟩
theorem qK (x:cU)(nt nf:Nat)(gl:nf≤100)(hx:dP nt nf (ar x))(hl:x.nodes.length≤120)(h0:0≤qp (ar x) 0):dt Tryz.prog 118 #[au x] ([aG x].map aF) (λv H'=>H'=[aF (cF (lF (ar x)) v)]):=by
 refine dt.body (args:=[au x]) 7 Tryz.func118 rfl Tryz.ntmps118 rfl (λc=> ?_);refine St.cast (H':=[aF (aG x)]) rfl ?_;refine go ?_
 have A5:=cP x
 have hs:=fG hx gl
 have nc:=hx.pos
 have Yh:=yt hx 0
 obtain⟨r,hr⟩:∃r,r=(qp (ar x) 0).toNat:=⟨_,rfl⟩
 refine go ?_;refine St.cz (.mk rfl) rfl (λb1=> ?_);refine St.al (λb2=> ?_);refine g3 ?_;refine St.dup (aG x) ?_;refine St.cx [aX b2 (.cells [(.slice none 0 0)].toArray 30 (0,0)),aF (aG x)] mixed (λnp ns=> ?_);refine SW.gd 0 ?_;refine SW.slot 3 (au x) rfl rfl ?_;refine SW.gd 1 ?_;refine SW.slot 4 (au x) rfl rfl ?_;refine SW.dd 2 rfl (λ_=>Ev.call (n5 x 0 0 (by omega) (λn hn=>⟨(hs n hn).1,by have:=(hs n hn).2;omega⟩)) Jv (.eZ rfl rfl rfl)) ?_;refine SW.slot 5 (iv (r:Nat)) rfl (congrArg iv (by rw[zD];omega)) ?_;refine SW.t1 3 ?_;refine St.fE (vF x hx.lk hl (λt ht=>by have:=(hs t ht).2;omega) r (by omega)) Od (.bH rfl rfl) rfl ?_;rintro v6 _ rfl;refine St.fk ?_;rw[show ff (ar x) r=lF (ar x) by unfold lF;rw[←hr]];refine St.cF (lF (ar x)) v6 (λy hy=> ?_);obtain⟨rfl,Gu⟩:=hy;refine g2 ?_;refine SW.go ?_;refine SW.t1 4 ?_;refine g3 ?_;refine SW.go ?_;refine SW.dn ?_;refine g2 ?_;refine St.rV [_] [aF (cF (lF (ar x)) (au y))] ?_;exact rfl
theorem qh (w1 w2:aY)(T:List dz)(hT:gy T)(nf:Nat)(gl:nf≤100)(x y:cU)(gi:Int)(hx:dP T.length nf (ar x))(hy:dP T.length nf (ar y))(kI:x.nodes.length≤60)(SU:y.nodes.length≤60)(h0:0≤qp (ar x) gi):dt Tryz.prog 124 #[jS w1 w2,au x,iv gi,au y] ([sl ay w1.1 (cn T),sl ay w2.1 (cr T),tz,aG x,aG y].map aF) (λv H'=>∃u z,v= .tuple #[u,.bool (mQ (fg T) (ar x) gi (ar y)).isSome]∧(∀w,mQ (fg T) (ar x) gi (ar y)=some w→z=w)∧H'=[aF (cF z u)]):=by
 refine dt.body (args:=[jS w1 w2,au x,iv gi,au y]) 30 Tryz.func124 rfl Tryz.ntmps124 rfl (λc=> ?_);refine St.cast (H':=[aF (sl ay w1.1 (cn T)),aF (sl ay w2.1 (cr T)),aF (tz),aF (aG x),aF (aG y)]) rfl ?_;refine go ?_
 have A5:=cP x
 have X4:=fG hx gl
 have hsy:=fG hy gl
 have nc:=hx.pos
 have Yh:=yt hx gi
 obtain⟨r,hr⟩:∃r,r=(qp (ar x) gi).toNat:=⟨_,rfl⟩
 refine go ?_;refine St.cz (.mk rfl) rfl (λb4=> ?_);refine St.cz (.mk rfl) rfl (λb5=> ?_);refine St.cz (.mk rfl) rfl (λb7=> ?_);refine St.al (λb8=> ?_);refine g4 ?_;refine St.dup (aG x) ?_;refine St.cx [aF (sl ay w1.1 (cn T)),aF (sl ay w2.1 (cr T)),aF tz,aF (aG x),aF (aG y)] mixed (λnp ns=> ?_);refine SW.gd 0 ?_;refine SW.slot 13 (jS w1 w2) rfl rfl ?_;refine SW.gd 1 ?_;refine SW.slot 14 (au x) rfl rfl ?_;refine SW.gd 2 ?_;refine SW.slot 15 (au x) rfl rfl ?_;refine SW.gd 3 ?_;refine SW.dd 4 rfl (λ_=>Ev.call (n5 x 0 gi (by omega) (λn hn=>⟨(X4 n hn).1,by have:=(X4 n hn).2;omega⟩)) Jv (.eZ rfl rfl rfl)) ?_;refine SW.slot 17 (iv (r:Nat)) rfl (congrArg iv (by rw[zD];omega)) ?_;refine SW.gd 5 ?_;refine SW.slot 18 (au y) rfl rfl ?_;refine SW.t2 6 10 ?_ ?_
 focus
  refine St.fE (qg w1 w2 T hT nf gl x y hx hy kI SU (λt ht=>by have:=(X4 t ht).2;omega) (λt ht=>by have:=(hsy t ht).2;omega) r (by omega)) Td (.om rfl rfl rfl rfl) rfl ?_;rintro v19 _ ⟨u,rfl,rfl⟩;refine St.fk ?_;refine St.cF ((cm (fg T) (ar x) r (ar y)).getD []) u (λz hz=> ?_);obtain⟨rfl,hzE⟩:=hz;refine g2 ?_;refine SW.go ?_;refine SW.gd 7 ?_;refine SW.gd 8 ?_;refine SW.gd 9 ?_;refine SW.t1 10 ?_;refine St.al (λX2=> ?_);refine g2 ?_;refine SW.go ?_;refine SW.t1 11 ?_;refine g3 ?_;refine SW.go ?_;refine SW.gd 12 ?_;refine SW.dn ?_
 rotate_left
 focus
  refine St.al (λX2=> ?_);refine g2 ?_;refine SW.go ?_;refine SW.t1 6 ?_;refine St.fE (qg w1 w2 T hT nf gl x y hx hy kI SU (λt ht=>by have:=(X4 t ht).2;omega) (λt ht=>by have:=(hsy t ht).2;omega) r (by omega)) Td (.om rfl rfl rfl rfl) rfl ?_;rintro v19 _ ⟨u,rfl,rfl⟩;refine St.fk ?_;refine St.cF ((cm (fg T) (ar x) r (ar y)).getD []) u (λz hz=> ?_);obtain⟨rfl,hzE⟩:=hz;refine g2 ?_;refine SW.go ?_;refine SW.gd 7 ?_;refine SW.gd 8 ?_;refine SW.gd 9 ?_;refine SW.t1 11 ?_;refine g3 ?_;refine SW.go ?_;refine SW.gd 12 ?_;refine SW.dn ?_
 all_goals
  refine g2 ?_;refine St.eT (sl bW z.nv.1 z.nodes) [aG z] (λρ h=>h (aG z) (aU ..) _ (aU ..)) ?_;obtain⟨q1,q2⟩:=ZF (mt:=fg T) (y:=ar y) hr.symm hzE
  have hzl:=cP z
  refine St.cx [aX b8 (.cells [(.slice none 0 0)].toArray 30 (0,0))] mixed (λnp ns=> ?_);refine SW.gd 0 ?_;refine SW.slot 22 (au z) rfl rfl ?_;refine SW.gd 1 ?_;refine SW.gd 2 ?_;refine SW.gt 3 _ np ns rfl rfl rfl (λR hg=>Ev.dB (.mk rfl) uZ) (by kernel_rfl) rfl ?_;refine SW.gt 4 _ np ns rfl rfl rfl (λR hg=>Ev.kU (aZ.gv rfl hg) pS trivial (by rfl)) (by kernel_rfl) rfl ?_;refine SW.gt 5 _ np ns rfl rfl rfl (λR hg=>Ev.fm (aZ.gv rfl hg) pS) (by kernel_rfl) rfl ?_;refine SW.gt 6 _ np ns rfl rfl rfl (λR hg=>Ev.leq (aZ.gv rfl hg) (.mk rfl)) (by kernel_rfl) rfl ?_;refine SW.gd 7 ?_;refine SW.t1 8 ?_;refine g3 ?_;refine SW.go ?_;refine SW.gd 9 ?_;refine SW.dn ?_;refine g2 ?_;refine St.eT (cF (ar z) (au z)) [aG z] (λρ h=>⟨z,rfl,rfl,h _ (aU ..)⟩) ?_;refine St.rV [_,_] [aF (cF (ar z) (au z))] ?_;refine⟨au z,ar z,?_,q2,rfl⟩;rw[←q1,hzl]
  first|rfl|(cases hj:(cm (fg T) (ar x) r (ar y)).isSome<;>simp)
structure Ik (nt nf n frm tqo ch:Nat)(cs eh:Cs)(a:Nat):Prop where
 ok:fV nt nf n eh
 gr:Grow n frm tqo cs eh a
 news:∃news,eh.at_ n frm tqo=cs.at_ n frm tqo++news∧news.length≤a∧∀e∈news,(eh.ed e).cQ=ch
theorem Ik.refl {nt nf n frm tqo ch:Nat}{cs:Cs}(h:fV nt nf n cs):Ik nt nf n frm tqo ch cs cs 0:=⟨h,Grow.refl ..,[],by simp,aW _,λe h=>by cases h⟩
theorem Ik.mono {nt nf n frm tqo ch:Nat}{cs eh:Cs}{a b:Nat}(h:Ik nt nf n frm tqo ch cs eh a)(Gq:a≤b):Ik nt nf n frm tqo ch cs eh b:=
 let⟨news,h1,h2,h3⟩:=h.news
 ⟨h.ok,h.gr.mono Gq,news,h1,by omega,h3⟩
theorem Ik.trans {nt nf n frm tqo ch:Nat}{x y z:Cs}{a b:Nat}(h:Ik nt nf n frm tqo ch x y a)(k:Ik nt nf n frm tqo ch y z b):Ik nt nf n frm tqo ch x z (a+b):=by
 obtain⟨u,h1,h2,h3⟩:=h.news;obtain⟨v,k1,k2,k3⟩:=k.news;refine⟨k.ok,h.gr.trans k.gr,u++v,by rw[k1,h1,cg],by rw[bA];omega,λe he=> ?_⟩
 rcases ba.1 he with he|he
 ·rw[k.gr.ed e (h.ok.qI (show e∈y.at_ n frm tqo by rw[h1];simp[he]))];exact h3 e he
 ·exact k3 e he
theorem Uj {n:Nat}(cs:Cs)(e:p5)(w:uz)(h:slt n e.frm e.tqo<cs.sp.length):∃news,(jt n cs e w).at_ n e.frm e.tqo=cs.at_ n e.frm e.tqo++news∧news.length≤1∧∀i∈news,(jt n cs e w).ed i=e:=by
 unfold jt
 cases hc:xG cs.its (ea e)with
 |some i=>exact⟨[],by simp[Cs.at_],aR _,λi h=>by cases h⟩
 |none=>
  refine⟨[cs.its.length],?_,aW _,λi hi=> ?_⟩
  ·unfold Cs.at_
   dsimp only
   rw[getD_modify (show e.frm*(n+1)+e.tqo<cs.sp.length from h),aB rfl]
  ·rw[bJ.1 hi]
   unfold Cs.ed
   dsimp only
   rw[ak,mW (aW _),fJ];rfl
theorem KU {nt nf:Nat}{Q:Qr}(hQ:qu nt nf Q){frm tqo:Nat}(iH:frm<tqo)(ht:tqo≤Q.n){cs:Cs}(h:fV nt nf Q.n cs){e ch i:Nat}(he:e<cs.its.length)(Gv:(cs.ed e).cQ=ch)(h3:ch<3)(hi:i<Q.rules.length):
 Ik nt nf Q.n frm tqo (ch+1) cs (qE Q frm tqo e cs i) (if decide ((Q.rules.getD i nz).kids=1)=true then 1 else 0):=by
 obtain⟨_,hg,_⟩:=hQ.vE hi;unfold qE
 by_cases hk:(Q.rules.getD i nz).kids=1
 ·rw[aA (λx=>x hk),aB (dH hk)]
  cases hy:ka Q cs i (Q.rules.getD i nz).graph 1 e with
  |none=>exact(Ik.refl h).mono (aR _)
  |some x=>
   dsimp only
   obtain⟨y1,y2,_⟩:=vC hQ.mt h hg he hy;obtain⟨m1,m2⟩:=qH y1 y2;obtain⟨a,b⟩:=yr hQ.n h (e:=⟨frm,tqo,(cs.ed e).cQ+1,lF x⟩) (w:=⟨i,0,[e]⟩) ⟨iH,ht,by dsimp only;omega,m1,m2⟩ (λk hk=>by rw[bJ.1 hk];exact he);obtain⟨news,n1,n2,n3⟩:=Uj cs ⟨frm,tqo,(cs.ed e).cQ+1,lF x⟩ ⟨i,0,[e]⟩ (by rw[h.Gp];exact s9 (by dsimp only;omega) ht);exact⟨a,b,news,n1,n2,λj hj=>by rw[n3 j hj];dsimp only;rw[Gv]⟩
 ·rw[aB hk,aA (λx=>hk (eS x))]
  exact Ik.refl h
theorem zE {nt nf:Nat}{Q:Qr}(hQ:qu nt nf Q){frm tqo:Nat}(iH:frm<tqo)(ht:tqo≤Q.n){e ch:Nat}(h3:ch<3):∀(l:List Nat) (cs:Cs),(∀i∈l,i<Q.rules.length)→fV nt nf Q.n cs→e<cs.its.length→(cs.ed e).cQ=ch→
 Ik nt nf Q.n frm tqo (ch+1) cs (l.foldl (qE Q frm tqo e) cs) ((l.map λi=>if decide ((Q.rules.getD i nz).kids=1)=true then 1 else 0).sum)
 | [],cs,_,h,_,_=>Ik.refl h
 |i::l,cs,hl,h,he,Gv=>by
  have h1:=KU hQ iH ht h he Gv h3 (hl i (by simp))
  have h2:=zE hQ iH ht h3 l (qE Q frm tqo e cs i) (λj hj=>hl j (by simp[hj])) h1.ok (eK he h1.gr.more) (by rw[h1.gr.ed e he];exact Gv)
  exact h1.trans h2
theorem Bn {nt nf:Nat}{Q:Qr}(hQ:qu nt nf Q){frm tqo:Nat}(iH:frm<tqo)(ht:tqo≤Q.n){e ch:Nat}(h3:ch<3){cs:Cs}(h:fV nt nf Q.n cs)(he:e<cs.its.length)(Gv:(cs.ed e).cQ=ch):
 Ik nt nf Q.n frm tqo (ch+1) cs ((List.range Q.rules.length).foldl (qE Q frm tqo e) cs) (fh Q):=by
 have:=zE hQ iH ht h3 (List.range Q.rules.length) cs (λi hi=>cy.1 hi) h he Gv
 rw[qd (λr:CZ=>decide (r.kids=1)) nz 1 Q.rules,fR]at this;exact this
def vH (Q:Qr)(cs:Cs)(l:List Nat):Nat:=(l.map λe=>jV (fh Q) (3-(cs.ed e).cQ)).sum
theorem oA {α:Type}(f:α→Nat){l:List α}{k:Nat}{a:α}(h:l[k]?=some a):((l.drop k).map f).sum=f a+((l.drop (k+1)).map f).sum:=by
 rw[an h,eW,nW]
theorem tc {α:Type}{f g:α→Nat}{l:List α}(h:∀a∈l,f a=g a):(l.map f).sum=(l.map g).sum:=by rw[Ar h]
theorem Fg {nt nf:Nat}{Q:Qr}(hQ:qu nt nf Q){frm tqo:Nat}(iH:frm<tqo)(ht:tqo≤Q.n){cs:Cs}(h:fV nt nf Q.n cs){k e:Nat}(hk:(cs.at_ Q.n frm tqo)[k]?=some e)(h3:(cs.ed e).cQ≠3){eh:Cs}(ajL:eh=(List.range Q.rules.length).foldl (qE Q frm tqo e) cs):
 fV nt nf Q.n eh∧Grow Q.n frm tqo cs eh (fh Q)∧k+1≤(eh.at_ Q.n frm tqo).length∧qG Q eh ((eh.at_ Q.n frm tqo).drop (k+1))+1≤qG Q cs ((cs.at_ Q.n frm tqo).drop k)∧fh Q+vH Q eh ((eh.at_ Q.n frm tqo).drop (k+1))≤vH Q cs ((cs.at_ Q.n frm tqo).drop k):=by
 have X3:=ab hk
 have lA:=h.qI X3
 have Wr:(cs.ed e).cQ≤3:=by
  unfold Cs.ed;rw[ak,bO lA];exact(h.gr _ (gm lA)).2.2.1
 have hu:=Bn hQ iH ht (e:=e) (ch:=(cs.ed e).cQ) (by omega) h lA rfl
 rw[←ajL]at hu;obtain⟨news,n1,n2,n3⟩:=hu.news
 have nU:=ae hk
 have hd:(eh.at_ Q.n frm tqo).drop (k+1)=(cs.at_ Q.n frm tqo).drop (k+1)++news:=by rw[n1,List.drop_append_of_le_length (by omega)]
 have hold:∀j∈(cs.at_ Q.n frm tqo).drop (k+1),eh.ed j=cs.ed j:=λj hj=>hu.gr.ed j (h.qI (List.mem_of_mem_drop hj))
 have hs:3-(cs.ed e).cQ=(2-(cs.ed e).cQ)+1:=by omega
 have fy:jV (fh Q) (3-(cs.ed e).cQ)=fh Q*(1+jV (fh Q) (2-(cs.ed e).cQ)):=by rw[hs];rfl
 have xg:∀j∈news,jV (fh Q) (3-(eh.ed j).cQ)=jV (fh Q) (2-(cs.ed e).cQ):=λj hj=>by rw[n3 j hj];congr 1;omega
 have hmul:news.length*(1+jV (fh Q) (2-(cs.ed e).cQ))≤fh Q*(1+jV (fh Q) (2-(cs.ed e).cQ)):=gO _ n2
 refine⟨hu.ok,hu.gr,by rw[n1,bA];omega,?_,?_⟩
 ·unfold qG
  rw[hd,cC,List.sum_append,oA _ hk,tc (λj hj=>by rw[hold j hj]:∀j∈(cs.at_ Q.n frm tqo).drop (k+1),1+jV (fh Q) (3-(eh.ed j).cQ)=1+jV (fh Q) (3-(cs.ed j).cQ)),
   tc (λj hj=>by rw[xg j hj]:∀j∈news,1+jV (fh Q) (3-(eh.ed j).cQ)=1+jV (fh Q) (2-(cs.ed e).cQ)),jC,fy]
  omega
 ·unfold vH
  rw[hd,cC,List.sum_append,oA _ hk,tc (λj hj=>by rw[hold j hj]:∀j∈(cs.at_ Q.n frm tqo).drop (k+1),jV (fh Q) (3-(eh.ed j).cQ)=jV (fh Q) (3-(cs.ed j).cQ)),
   tc (λj hj=>by rw[xg j hj]:∀j∈news,jV (fh Q) (3-(eh.ed j).cQ)=jV (fh Q) (2-(cs.ed e).cQ)),jC,fy]
  rw[Nat.mul_add,fR]at hmul⊢
  have:news.length*jV (fh Q) (2-(cs.ed e).cQ)≤fh Q*jV (fh Q) (2-(cs.ed e).cQ):=gO _ n2
  omega
theorem DG {nt nf:Nat}{Q:Qr}(hQ:qu nt nf Q){frm tqo:Nat}(iH:frm<tqo)(ht:tqo≤Q.n):∀(f k:Nat) (cs:Cs),fV nt nf Q.n cs→fV nt nf Q.n (qF Q frm tqo f k cs)∧Grow Q.n frm tqo cs (qF Q frm tqo f k cs) (vH Q cs ((cs.at_ Q.n frm tqo).drop k))
 |0,k,cs,h=>⟨h,(Grow.refl ..).mono (aR _)⟩
 |f+1,k,cs,h=>by
  rw[qF]
  split
  ·rename_i hk
   have X5:(cs.at_ Q.n frm tqo)[k]?=some ((cs.at_ Q.n frm tqo).getD k 0):=by rw[ak,bO hk];rfl
   split
   ·obtain⟨a,b⟩:=DG hQ iH ht f (k+1) cs h
    refine⟨a,b.mono ?_⟩;unfold vH
    rw[oA _ X5];omega
   ·rename_i h3
    obtain⟨s1,s2,s3,s4,s5⟩:=Fg hQ iH ht h X5 h3 rfl;obtain⟨a,b⟩:=DG hQ iH ht f (k+1) _ s1;exact⟨a,(s2.trans b).mono s5⟩
  ·exact⟨h,(Grow.refl ..).mono (aR _)⟩
theorem Qf (r:Nat):∀k:Nat,k≤3→jV r k≤jV r 3
 |0,_=>aR _
 |1,_=>by
  show r*(1+0)≤r*(1+r*(1+r*(1+0)))
  exact xP _ (by omega)
 |2,_=>by
  show r*(1+r*(1+0))≤r*(1+r*(1+r*(1+0)))
  exact xP _ (Nat.add_le_add_left (xP _ (by omega)) _)
 |3,_=>aW _
def vI:Nat:=1117240000000
theorem ajM:∀r,r≤40→(40-r)*4000000*(1+jV r 3)≤1117240000000:=by decide+kernel
theorem ajN:∀r,r≤40→100*(1+jV r 3)≤1117240000000:=by decide+kernel
def X6 (len frm:Nat)(cs:Cs):Prop:=∀i,i<cs.its.length→(cs.ed i).tqo-(cs.ed i).frm<len∨((cs.ed i).tqo-(cs.ed i).frm=len∧(cs.ed i).frm<frm)
theorem MP {nt nf n len frm:Nat}{cs:Cs}(h:fV nt nf n cs)(hf:X6 len frm cs)(ht:frm+len≤n):cs.at_ n frm (frm+len)=[]:=by
 cases e:cs.at_ n frm (frm+len)with
 |nil=>rfl
 |cons x l=>
  have hx:x∈cs.sp.getD (slt n frm (frm+len)) []:=by show x∈cs.at_ n frm (frm+len);rw[e];simp
  obtain⟨h1,h2⟩:=h.prt _ _ x ht hx
  have:=hf x (h.IV hx)
  omega
theorem Bo {nt nf:Nat}{Q:Qr}(hQ:qu nt nf Q){frm tqo:Nat}:DE Q frm tqo*(1+jV (fh Q) 3)≤vI:=by
 have h1:=QO hQ
 have h2:=hQ.rn
 unfold DE vI
 split
 ·exact ajN _ (by omega)
 ·refine eH (gO _ ?_) (ajM (fh Q) (by omega))
  exact gO _ (by omega)
theorem Uk (Q:Qr)(cs:Cs)(l:List Nat):vH Q cs l≤l.length*jV (fh Q) 3:=by
 unfold vH;rw[←jC]
 exact IZ λe _=>Qf _ _ (by omega)
structure nL (nt nf n len frm:Nat)(cs:Cs):Prop where
 ok:fV nt nf n cs
 KR:cs.its.length≤300
 bx:∀it∈cs.its,it.bx.length≤vI
 fresh:X6 len frm cs
theorem nL.room {nt nf n len frm:Nat}{cs:Cs}(h:nL nt nf n len frm cs):Room cs vI:=⟨by have:=h.KR;unfold vI;omega,λit hit=>by have:=h.bx it hit;unfold vI at*;omega⟩
theorem DH {nt nf len:Nat}{Q:Qr}(hQ:qu nt nf Q){words:List bI}{frm:Nat}(hl:1≤len)(ht:frm+len≤Q.n){cs:Cs}(h:nL nt nf Q.n len frm cs):
 fV nt nf Q.n (mR Q words frm (frm+len) cs)∧Grow Q.n frm (frm+len) cs (mR Q words frm (frm+len) cs) (DE Q frm (frm+len))∧DE Q frm (frm+len)+vH Q (mR Q words frm (frm+len) cs) ((mR Q words frm (frm+len) cs).at_ Q.n frm (frm+len))≤vI:=by
 obtain⟨b1,b2⟩:=QP hQ (words:=words) (show frm<frm+len by omega) ht h.ok h.KR;refine⟨b1.ok,b2,?_⟩
 have nE:=b2.own
 have h0:(cs.sp.getD (slt Q.n frm (frm+len)) []).length=0:=by
  have:=MP h.ok h.fresh ht
  show(cs.at_ Q.n frm (frm+len)).length=0
  rw[this];rfl
 have h1:=Uk Q (mR Q words frm (frm+len) cs) ((mR Q words frm (frm+len) cs).at_ Q.n frm (frm+len))
 have h2:((mR Q words frm (frm+len) cs).at_ Q.n frm (frm+len)).length≤DE Q frm (frm+len):=by
  show((mR Q words frm (frm+len) cs).sp.getD (slt Q.n frm (frm+len)) []).length≤_
  omega
 have h3:=Bo hQ (frm:=frm) (tqo:=frm+len)
 rw[Nat.mul_add,fR]at h3
 have h4:=gO (jV (fh Q) 3) h2
 omega
theorem Qg {nt nf len:Nat}{Q:Qr}(hQ:qu nt nf Q){words:List bI}{frm:Nat}(hl:1≤len)(ht:frm+len≤Q.n){cs:Cs}(h:nL nt nf Q.n len frm cs):
 fV nt nf Q.n (p6 Q words frm (frm+len) cs)∧Grow Q.n frm (frm+len) cs (p6 Q words frm (frm+len) cs) vI:=by
 obtain⟨b1,b2,b3⟩:=DH hQ (words:=words) hl ht h;obtain⟨u1,u2⟩:=DG hQ (show frm<frm+len by omega) ht (qG Q (mR Q words frm (frm+len) cs) ((mR Q words frm (frm+len) cs).at_ Q.n frm (frm+len))+1) 0 (mR Q words frm (frm+len) cs) b1;rw[List.drop_zero]at u2;exact⟨u1,(b2.trans u2).mono b3⟩
theorem Fh {nt nf len:Nat}{Q:Qr}(hQ:qu nt nf Q){words:List bI}{frm:Nat}(hl:1≤len)(ht:frm+len≤Q.n){cs:Cs}(h:nL nt nf Q.n len frm cs)(hm:¬300<(p6 Q words frm (frm+len) cs).its.length):
 nL nt nf Q.n len (frm+1) (p6 Q words frm (frm+len) cs):=by
 obtain⟨g1,g2⟩:=Qg hQ (words:=words) hl ht h;refine⟨g1,by omega,λit hit=> ?_,λi hi=> ?_⟩
 ·obtain⟨i,hi,rfl⟩:=Dx.1 hit
  have e:(p6 Q words frm (frm+len) cs).its[i]=(p6 Q words frm (frm+len) cs).its.getD i fQ:=by rw[ak,bO hi];rfl
  rw[e]
  by_cases c:i<cs.its.length
  ·have hf:=h.fresh i c
   rw[g2.far i c (λhh=>by omega),ak,bO c];exact h.bx _ (gm c)
  ·have h1:=g2.bx i hi
   have e2:cs.its.getD i fQ=fQ:=by rw[ak,fY (by omega)];rfl
   rw[e2]at h1
   have:fQ.bx.length=0:=rfl
   omega
 ·by_cases c:i<cs.its.length
  ·rw[g2.ed i c]
   have:=h.fresh i c;omega
  ·obtain⟨e1,e2⟩:=g2.new i (by omega) hi
   rw[e1,e2];omega
theorem KV {nt nf n len frm:Nat}{cs:Cs}(h:nL nt nf n len frm cs):nL nt nf n (len+1) 0 cs:=⟨h.ok,h.KR,h.bx,λi hi=>by have:=h.fresh i hi;omega⟩
structure rR where
 rule:Int
 lex:Int
 kv:aY
 kids:List Nat
structure cX where
 frm:Nat
 tqo:Nat
 cQ:Nat
 gr:cU
 wv:aY
 bx:List rR
 tv:aY
 bN:List Int
def lR:Rp rR:=⟨3,by decide,λw=>[iv w.rule,iv w.lex,w.kv.1],λw=>bP w.rule∧bP w.lex,λ_=>rfl,λw u h=>bL rfl (bL rfl (bL w.kv.2 λ_ h=>by cases h)) u h⟩
def dX:Rp cX:=⟨6,by decide,λx=>[iv (x.frm:Nat),iv (x.tqo:Nat),iv (x.cQ:Nat),x.gr.nv.1,x.wv.1,x.tv.1],λ_=>True,λ_=>rfl,λx u h=>bL rfl (bL rfl (bL rfl (bL x.gr.nv.2 (bL x.wv.2 (bL x.tv.2 λ_ h=>by cases h))))) u h⟩
abbrev bC (l:List Nat):List Int:=l.map λi:Nat=>(i:Int)
theorem cR (l:List Nat):(bC l).length=l.length:=aQ _
theorem jD (l:List Nat)(i:Nat):bC (l++ [i])=bC l++ [(i:Int)]:=by rw[bC,cC];rfl
theorem dD {l:List Nat}{k i:Nat}(h:l[k]?=some i):(bC l)[k]?=some (i:Int):=by rw[bE,h];rfl
def iV (tI:TypeId)(w:rR):List ao:=[row w.kv.1 tI 1 w.kids.length (rows aL (bC w.kids))]
def dx (tW tI:TypeId)(x:cX):List ao:=row x.wv.1 tW 3 x.bx.length (rows lR x.bx)::row x.tv.1 tI 1 x.bN.length (rows aL x.bN)::ax (iV tI) x.bx
def ez (tI:TypeId)(p:aY×List Nat):List ao:=[row p.1.1 tI 1 p.2.length (rows aL (bC p.2))]
def wyE (w:rR):uz:=⟨w.rule,w.lex,w.kids⟩
def bV (x:cX):kZ:=⟨⟨x.frm,x.tqo,x.cQ,ar x.gr⟩,x.bx.map wyE,x.bN⟩
def wZ (m:List (bI×Value))(its:List kZ):Prop:=∀k,ph m k=(xG its k).map λi:Nat=>iv (i:Int)
theorem Ul {its:List kZ}{i:Nat}(w:uz)(k:bI):xG (its.modify i λit=>it.put w) k=xG its k:=by
 unfold xG
 induction its generalizing i with
 |nil=>simp
 |cons a its ih=>
  cases i with
  |zero=>rw[List.modify_zero_cons,List.findIdx?_cons,List.findIdx?_cons];rfl
  |succ i=>rw[List.modify_succ_cons,List.findIdx?_cons,List.findIdx?_cons,ih]
theorem Qh (its:List kZ)(it:kZ)(k:bI):xG (its++ [it]) k=match xG its k with
 |some i=>some i
 |none=>if ea it.ed=k then some its.length else none:=by
 unfold xG;rw[List.findIdx?_append]
 cases h:its.findIdx? λit=>decide (ea it.ed=k)with
 |some i=>rfl
 |none=>
  rw[Option.none_or,List.findIdx?_cons]
  by_cases e:ea it.ed=k
  ·rw[dH e,aB rfl,aB e];simp
  ·rw[eL e,aA (by decide),aA e];rfl
theorem wZ.nil:wZ [] []:=λ_=>rfl
theorem wZ.put {m:List (bI×Value)}{its:List kZ}(h:wZ m its)(i:Nat)(w:uz):wZ m (its.modify i λit=>it.put w):=λk=>by rw[Ul];exact h k
theorem wZ.new {m:List (bI×Value)}{its:List kZ}(h:wZ m its){it:kZ}(hn:xG its (ea it.ed)=none):wZ (kB m (ea it.ed) (iv its.length)) (its++ [it]):=λk=>by
 rw[Qh,EI]
 by_cases e:k=ea it.ed
 ·subst e;rw[aB rfl,hn];dsimp only;rw[aB rfl];rfl
 ·rw[aA e,h k]
  cases xG its k with
  |some i=>rfl
  |none=>dsimp only;rw[aA (λx=>e x.symm)]
structure nA where
 dQ:aY
 its:List cX
 nB:aY
 bR:List (aY×List Nat)
 m:List (bI×Value)
def nA.cs (d:nA):Cs:=⟨d.its.map bV,d.bR.map Prod.snd⟩
def nA.tail (tW tI:TypeId)(d:nA):List ao:=ax (dx tW tI) d.its++ax (ez tI) d.bR
theorem ZG (i:Int):IntKind.u8.wrap i=((jU i).toNat:Int):=by
 have h:∀k:Nat,k<256→(UInt8.ofNat k).toNat=k:=λk hk=>by
  show k%256=k
  omega
 unfold jU;rw[h _ (by omega)];unfold IntKind.wrap
 simp[IntKind.bits,IntKind.signed]
 omega
abbrev Il (frm tqo cQ:Nat)(u:Value):Value:= .agg #[iv (frm:Nat),iv (tqo:Nat),iv (cQ:Nat),u]
theorem MQ (l:dF)(n:My):yo (l++ [n])=yo l++(jU n.1::jU (n.2.length:Nat)::vA n.2):=by
 unfold yo;rw[Am];simp
theorem MR (l:jw)(n:Int×Int):vA (l++ [n])=vA l++ [jU n.1,jU n.2]:=by
 unfold vA;rw[Am];simp
theorem Qi (frm tqo cQ:Nat)(g:cU)(hgn:g.nodes.length≤100)(A5:∀t∈g.nodes,t.ah.length≤1000):dt Tryz.prog 141 #[Il frm tqo cQ g.nv.1] ([aG g].map aF) (λv H'=>v=sv (ea ⟨frm,tqo,cQ,ar g⟩)∧H'=[]):=by
 refine dt.body (args:=[Il frm tqo cQ g.nv.1]) 56 Tryz.func141 rfl Tryz.ntmps141 rfl (λc=> ?_);refine St.cast (H':=[aF (aG g)]) rfl ?_;refine go ?_
 refine St.j7 (aG g) (λ_:Unit=>jm g) (λρ h=>⟨(),h⟩) λ_=> ?_
 refine St.cast (H':=[aF (sl bW g.nv.1 g.nodes),aF (aI bX g.nodes),aF (aG g)]) rfl ?_
 have X7:=cP g
 refine go ?_;refine St.cz (.mk rfl) rfl (λb1=> ?_);refine g7 ?_;refine St.ee (Ev.sS (.mk rfl) (by rw[eN];rfl) Dn) ?_;refine St.slot 10 (.int .u8 ((jU (frm:Nat)).toNat:Int)) rfl (congrArg (Value.int .u8) (ZG _)) ?_;refine g2 ?_;refine St.ee (Ev.sS (.mk rfl) (by rw[eN];rfl) Dn) ?_;refine St.slot 13 (.int .u8 ((jU (tqo:Nat)).toNat:Int)) rfl (congrArg (Value.int .u8) (ZG _)) ?_;refine g2 ?_;refine St.ee (Ev.sS (.mk rfl) (by rw[eN];rfl) Dn) ?_;refine St.slot 16 (.int .u8 ((jU (cQ:Nat)).toNat:Int)) rfl (congrArg (Value.int .u8) (ZG _)) ?_;refine St.gb rfl (.eZ rfl rfl rfl) HX sz5 zv5 rfl rfl (by simp[Value.cells]) rfl rfl (λFa=> ?_);refine St.aO (.slice (some ⟨Fa,0,none⟩) 3 3) (show _=([jU (frm:Nat),jU (tqo:Nat),jU (cQ:Nat)]).length from rfl) (show _=rows u8R [jU (frm:Nat),jU (tqo:Nat),jU (cQ:Nat)]from rfl) ?_;refine g14 ?_;refine St.vo (ι:=Nat) (κ:=Value×bI) (λk z T=>(22,iv k)::(3,z.1)::T) (λk z=>[row z.1 5 1 (z.2).length (rows u8R (z.2)),aX b1 (.cells [iv (frm:Nat),iv (tqo:Nat),iv (cQ:Nat),g.nv.1].toArray 183 (0,0)),aF (sl bW g.nv.1 g.nodes),aF (aI bX g.nodes),aF (aG g)]) (λk z=>k≤g.nodes.length∧z.1.oneCell'=true∧z.2=[jU (frm:Nat),jU (tqo:Nat),jU (cQ:Nat)]++yo ((ar g).take k)∧z.2.length≤3+k*2002) (λk z=>g.nodes.length-k) 0 ((.slice (some ⟨Fa,0,none⟩) 3 3),[jU (frm:Nat),jU (tqo:Nat),jU (cQ:Nat)]) (aC.cons 2 rfl (aC.cons 20 rfl (aC.cons 21 rfl aC.nil))) ⟨aR _,rfl,rfl,aW 3⟩ ?_;rintro k ⟨v,L⟩ ⟨hk,hv,hL,N7⟩
 dsimp only at hv hL N7⊢
 refine g6 ?_;refine St.cq (λKT=> ?_) (λKT=> ?_)
 ·obtain⟨t,ht⟩:=aE (show k<g.nodes.length by omega)
  have rz:=ab ht
  have htL:=A5 t rz
  have k9:=jq ht
  refine St.cL bX g.nodes (x:=t) rz ?_;refine St.eT (sl aq t.lv.1 t.ah) [bX t] (λρ h=>h _ (aU ..)) ?_;refine g7 ?_;refine St.ee (Ev.jj (.mk rfl) ht vq trivial jR iY.eq) ?_;refine St.al (λb5=> ?_);refine g8 ?_;refine St.ee (Ev.sS (.mk rfl) (by rw[eN];rfl) Dn) ?_;refine St.slot 29 (.int .u8 ((jU (t.type)).toNat:Int)) rfl (congrArg (Value.int .u8) (ZG _)) ?_;refine g3 ?_;refine St.ee (Ev.sS (.mk rfl) (by rw[eN];rfl) Dn) ?_;refine St.slot 33 (.int .u8 ((jU ((t.ah.length:Nat))).toNat:Int)) rfl (congrArg (Value.int .u8) (ZG _)) ?_;refine St.gb rfl (.bH rfl rfl) HX sz5 zv5 rfl rfl (by simp[Value.cells]) rfl rfl (λMS=> ?_);refine St.aj (.mk rfl) (.mk rfl) HX sz5 zv5 by5 (by simp[Value.oneCell',Value.cells]) (by omega) (by omega) rfl rfl rfl rfl (λv35 ajO=> ?_);refine St.aO v35 (show _=(L++ [jU t.type,jU (t.ah.length:Nat)]).length by rw[bA];rfl) (show _=rows u8R (L++ [jU t.type,jU (t.ah.length:Nat)]) by rw[tQ,tQ,cC];rfl) ?_;refine St.bS v35 (λX8 _=> ?_);refine g12 ?_;refine St.vo (ι:=Nat) (κ:=Value×bI) (λq z T=>(39,iv q)::(3,z.1)::T) (λq z=>[row z.1 5 1 (z.2).length (rows u8R (z.2)),aX b1 (.cells [iv (frm:Nat),iv (tqo:Nat),iv (cQ:Nat),g.nv.1].toArray 183 (0,0)),aX b5 (.cells [iv t.type,t.lv.1].toArray 163 (0,0)),aF (sl bW g.nv.1 g.nodes),aF (aI bX g.nodes),aF (aG g),aF (sl aq t.lv.1 t.ah)]) (λq z=>q≤t.ah.length∧z.1.oneCell'=true∧z.2=L++(jU t.type::jU (t.ah.length:Nat)::vA ((t.ah.map eR).take q))∧z.2.length≤5+k*2002+2*q) (λq z=>t.ah.length-q) 0 (v35,L++ [jU t.type,jU (t.ah.length:Nat)]) (aC.cons 2 rfl (aC.cons 20 rfl (aC.cons 21 rfl (aC.cons 22 rfl (aC.cons 37 rfl (aC.cons 38 rfl aC.nil)))))) ⟨aR _,X8,rfl,by dsimp only;rw[bA];simp only[List.length_cons,List.length_nil];omega⟩ ?_;rintro q ⟨w,M⟩ ⟨hq,hw,hM,hMl⟩
  dsimp only at hw hM hMl⊢
  refine g6 ?_;refine St.cq (λPq=> ?_) (λPq=> ?_)
  ·obtain⟨p,hp⟩:=aE (show q<t.ah.length by omega)
   refine g7 ?_;refine St.ee (Ev.jj (.mk rfl) hp kG trivial dE iY.eq) ?_;refine St.al (λb7=> ?_);refine g7 ?_;refine St.ee (Ev.sS (.mk rfl) (by rw[eN];rfl) Dn) ?_;refine St.slot 46 (.int .u8 ((jU (p.cT)).toNat:Int)) rfl (congrArg (Value.int .u8) (ZG _)) ?_;refine g2 ?_;refine St.ee (Ev.sS (.mk rfl) (by rw[eN];rfl) Dn) ?_;refine St.slot 49 (.int .u8 ((jU (p.tqo)).toNat:Int)) rfl (congrArg (Value.int .u8) (ZG _)) ?_;refine St.gb rfl (.bH rfl rfl) HX sz5 zv5 rfl rfl (by simp[Value.cells]) rfl rfl (λSV=> ?_);refine St.aj (.mk rfl) (.mk rfl) HX sz5 zv5 by5 (by simp[Value.oneCell',Value.cells]) (by omega) (by omega) rfl rfl rfl rfl (λv51 amE=> ?_);refine St.aO v51 (show _=(M++ [jU p.cT,jU p.tqo]).length by rw[bA];rfl) (show _=rows u8R (M++ [jU p.cT,jU p.tqo]) by rw[tQ,tQ,cC];rfl) ?_;refine St.bS v51 (λYf _=> ?_);refine g9 ?_;refine St.wo (q+1) (v51,M++ [jU p.cT,jU p.tqo]) ⟨by omega,Yf,by dsimp only;rw[hM,ai (show(t.ah.map eR)[q]?=some (eR p) by rw[bE,hp];rfl),MR,cg];rfl,by dsimp only;rw[bA];simp only[List.length_cons,List.length_nil];omega⟩
  ·obtain rfl:q=t.ah.length:=by omega
   rw[fZ (by rw[aQ];exact aW _)]at hM;refine g11 ?_;refine St.wo (k+1) (w,M) ⟨by omega,hw,by dsimp only;rw[hM,hL,ai k9,MQ,cg];show _=_++(_++(jU t.type::jU ((t.ah.map eR).length:Nat)::vA (t.ah.map eR)));rw[aQ],by dsimp only;omega⟩
 ·obtain rfl:k=g.nodes.length:=by omega
  have ig:(ar g).take g.nodes.length=ar g:=fZ (by omega)
  rw[ig]at hL;refine g8 ?_;refine St.ee (Ev.Yx (ea ⟨frm,tqo,cQ,ar g⟩) (.mk rfl) (show _=(ea ⟨frm,tqo,cQ,ar g⟩).length by rw[hL];rfl) (by rw[hL,tQ];rfl) (by unfold ea;simp) HX Dn sK) ?_;refine g4 ?_;refine St.rV [_] [] ?_;exact⟨rfl,rfl⟩
theorem DI (n i j k:Nat)(hn:n≤12)(hi:i≤n)(hj:j≤n)(hk:k=slt n i j)(sv:aY)(bR:List (aY×List Nat))(q:aY×List Nat)(hq:bR[k]?=some q):dt Tryz.prog 122 #[.agg #[iv (n:Nat),sv.1],iv (i:Nat),iv (j:Nat)] [row sv.1 58 1 (bR).length (rows cN ((bR).map Prod.fst))] (λv H'=>v=q.1.1∧H'=[row sv.1 58 1 (bR).length (rows cN ((bR).map Prod.fst))]):=by
 refine dt.body (args:=[.agg #[iv (n:Nat),sv.1],iv (i:Nat),iv (j:Nat)]) 18 Tryz.func122 rfl Tryz.ntmps122 rfl (λc=> ?_);refine go ?_
 obtain⟨m,hm⟩:∃m,m=i*(n+1):=⟨_,rfl⟩
 have X9:((i:Nat):Int)*(((n:Nat):Int)+1)=(m:Nat):=by rw[hm];push_cast;rfl
 have pa:m≤156:=by rw[hm];exact eH (Nat.mul_le_mul (show i≤12 by omega) (show n+1≤13 by omega)) (by decide)
 have rf:k=m+j:=by rw[hk,hm];rfl
 have nU:=ae hq
 refine go ?_;refine St.cz (.mk rfl) rfl (λb3=> ?_);refine g11 ?_;refine St.ee (Ev.mul (.mk rfl) (.mk rfl) (by rw[X9];omega)) ?_;refine St.slot 13 (iv (m:Nat)) rfl (congrArg iv X9) ?_;refine g2 ?_;refine St.ee (Ev.dT (k:=k) (.mk rfl) (.mk rfl) yF kY (by omega) (by omega)) ?_;refine St.ee (Ev.cB (.mk rfl) cI trivial (by omega) (qe (show(bR.map Prod.fst)[k]?=some q.1 by rw[bE,hq];rfl))) ?_;refine g4 ?_;refine St.rV [_] [row sv.1 58 1 (bR).length (rows cN ((bR).map Prod.fst))] ?_;exact⟨rfl,rfl⟩
theorem Im (n i j k:Nat)(hn:n≤12)(hi:i≤n)(hj:j≤n)(hk:k=slt n i j)(sv:aY)(bR:List (aY×List Nat))(q:aY×List Nat)(hq:bR[k]?=some q)(e:Nat)(he:e≤1400000000000)(Gr:q.2.length≤1400000000000):dt Tryz.prog 142 #[.agg #[iv (n:Nat),sv.1],iv (i:Nat),iv (j:Nat),iv (e:Nat)] [row sv.1 58 1 (bR).length (rows cN ((bR).map Prod.fst)),row q.1.1 3 1 (q.2).length (rows aL (bC (q.2)))] (λv H'=>∃u:aY,H'=[row sv.1 58 1 (bR.set k (u,q.2++ [e])).length (rows cN ((bR.set k (u,q.2++ [e])).map Prod.fst)),row u.1 3 1 (q.2++ [e]).length (rows aL (bC (q.2++ [e])))]):=by
 refine dt.body (args:=[.agg #[iv (n:Nat),sv.1],iv (i:Nat),iv (j:Nat),iv (e:Nat)]) 28 Tryz.func142 rfl Tryz.ntmps142 rfl (λc=> ?_);refine go ?_
 obtain⟨m,hm⟩:∃m,m=i*(n+1):=⟨_,rfl⟩
 have X9:((i:Nat):Int)*(((n:Nat):Int)+1)=(m:Nat):=by rw[hm];push_cast;rfl
 have pa:m≤156:=by rw[hm];exact eH (Nat.mul_le_mul (show i≤12 by omega) (show n+1≤13 by omega)) (by decide)
 have rf:k=m+j:=by rw[hk,hm];rfl
 have nU:=ae hq
 refine St.kA sv.1 (by omega) (λbs cs qJ=> ?_);refine go ?_;refine St.cz (.mk rfl) rfl (λb4=> ?_);refine g8 ?_;refine St.ee (Ev.mul (.mk rfl) (.mk rfl) (by rw[X9];omega)) ?_;refine St.slot 13 (iv (m:Nat)) rfl (congrArg iv X9) ?_;refine g5 ?_;refine St.cx [row sv.1 58 1 (bR).length (rows cN ((bR).map Prod.fst)),row q.1.1 3 1 (q.2).length (rows aL (bC (q.2)))] mixed (λnp ns=> ?_);refine SW.gd 0 ?_;refine SW.gd 1 ?_;refine SW.gd 2 ?_;refine SW.gd 3 ?_;refine SW.gd 4 ?_;refine SW.gd 5 ?_;refine SW.dd 6 rfl (λ_=>Ev.mN (k:=k) qJ (.mk rfl) (.mk rfl) yF kY (by omega) (by omega)) ?_;refine SW.gd 8 ?_;refine SW.t2 7 9 ?_ ?_
 focus
  refine St.ee (Ev.cB (.mk rfl) cI trivial (by omega) (qe (show(bR.map Prod.fst)[k]?=some q.1 by rw[bE,hq];rfl))) ?_;refine g2 ?_;refine SW.go ?_;refine SW.t1 9 ?_;refine St.gb rfl (.bB rfl) cI eJ jA rfl rfl (by simp[Value.cells]) rfl rfl (λb25=> ?_);refine g2 ?_;refine SW.go ?_;refine SW.t1 10 ?_;refine St.aj (.mk rfl) (.mk rfl) cI eJ jA wO (by simp[Value.oneCell',Value.cells]) (by omega) (by omega) rfl rfl rfl rfl (λv26 ajP=> ?_);refine St.aO v26 (show _=(q.2++ [e]).length by rw[bA];rfl) (show _=rows aL (bC (q.2++ [e])) by rw[jD,aw];rfl) ?_;refine St.bS v26 (λGk _=> ?_);refine g2 ?_;refine SW.go ?_;refine SW.dd 11 rfl (λ_=>Ev.mN (k:=k) qJ (.mk rfl) (.mk rfl) yF kY (by omega) (by omega)) ?_;refine SW.t1 12 ?_;refine St.bj (.mk rfl) (.mk rfl) kY Gk (by omega) (by decide) ?_;refine St.aO sv.1 (show _=(bR.set k (⟨v26,Gk⟩,q.2++ [e])).length by rw[cG]) (show _=rows cN ((bR.set k (⟨v26,Gk⟩,q.2++ [e])).map Prod.fst) by rw[ia];exact zC _ _ ⟨v26,Gk⟩) ?_;refine g2 ?_;refine SW.go ?_;refine SW.dn ?_
 rotate_left
 focus
  refine St.gb rfl (.bB rfl) cI eJ jA rfl rfl (by simp[Value.cells]) rfl rfl (λb25=> ?_);refine g2 ?_;refine SW.go ?_;refine SW.t1 7 ?_;refine St.ee (Ev.cB (.mk rfl) cI trivial (by omega) (qe (show(bR.map Prod.fst)[k]?=some q.1 by rw[bE,hq];rfl))) ?_;refine g2 ?_;refine SW.go ?_;refine SW.t1 10 ?_;refine St.aj (.mk rfl) (.mk rfl) cI eJ jA wO (by simp[Value.oneCell',Value.cells]) (by omega) (by omega) rfl rfl rfl rfl (λv26 ajP=> ?_);refine St.aO v26 (show _=(q.2++ [e]).length by rw[bA];rfl) (show _=rows aL (bC (q.2++ [e])) by rw[jD,aw];rfl) ?_;refine St.bS v26 (λGk _=> ?_);refine g2 ?_;refine SW.go ?_;refine SW.dd 11 rfl (λ_=>Ev.mN (k:=k) qJ (.mk rfl) (.mk rfl) yF kY (by omega) (by omega)) ?_;refine SW.t1 12 ?_;refine St.bj (.mk rfl) (.mk rfl) kY Gk (by omega) (by decide) ?_;refine St.aO sv.1 (show _=(bR.set k (⟨v26,Gk⟩,q.2++ [e])).length by rw[cG]) (show _=rows cN ((bR.set k (⟨v26,Gk⟩,q.2++ [e])).map Prod.fst) by rw[ia];exact zC _ _ ⟨v26,Gk⟩) ?_;refine g2 ?_;refine SW.go ?_;refine SW.dn ?_
 all_goals
  refine St.dg ?_;refine St.rV [] [row sv.1 58 1 (bR.set k (⟨v26,Gk⟩,q.2++ [e])).length (rows cN ((bR.set k (⟨v26,Gk⟩,q.2++ [e])).map Prod.fst)),row v26 3 1 (q.2++ [e]).length (rows aL (bC (q.2++ [e])))] ?_;exact⟨⟨v26,Gk⟩,rfl⟩
end Go.Proofs.YtblifkgpebebmaaGreatDoor
namespace Go.J
open Go Go.RowKit
def fO (b:Nat)(L:List Value):df where
 f ρ:=∃e fr,ρ b=some (.cells L.toArray e fr)
 mono ρ mY h:=by
  rintro ⟨e,fr,h1⟩;exact⟨e,fr,h _ _ h1⟩
class mI (b:Nat)(H:List ao)(L:outParam (List Value)):Prop where
 mem:aF (fO b L)∈H
instance (priority:=high) mI.here (b:Nat)(L:List Value)(H:List ao):mI b (aF (fO b L)::H) L:=⟨aU ..⟩
instance mI.there (b:Nat)(L:List Value)(E:ao)(H:List ao)[h:mI b H L]:mI b (E::H) L:=⟨cE _ h.mem⟩
instance (priority:=low) mI.app (b:Nat)(v:List Value)(L R:List ao)[h:mI b L v]:mI b (L++R) v:=⟨km _ h.mem⟩
section
variable {P:Program}{n:Nat}{F:Fr}{A:World→Prop}{c:Ctx}{H R:List ao}{ty t e:TypeId}{x y:Operand}{v:Value}{T:Act→World→Prop}
theorem Ev.Qj {b:Nat}{d:TypeDesc}{L:List Value}[hb:mI b H L](hx:aZ F x (.pointer (some ⟨b,0,none⟩)))(ht:P.underlying t=some d)(jv:(match d with| .struct _| .array _ _=>True|_=>False))
 (hs:(P.info? t).map (·.size)=some L.length):Ev P n F (Mm c H) (.load t x) ty (.agg L.toArray):= .of_run λa w ha hw=>by
 obtain⟨ρ,hm⟩:=hw.out;obtain⟨e,fr,h1⟩:=dm.1 (hm.dK _ hb.mem)
 have h1:=hm.fits _ _ h1
 have h4:=de (P:=P) (w:=w) (b:=b) (off:=0) (L:=L) ht jv hs (λj u hj=>by rw[bh h1];simpa using hj)
 simp[execOp,hx.eval ha,Instr.loadAt,Instr.sureAddr,h4]
theorem Ev.Um {b off:Nat}{d:TypeDesc}{L L':List Value}[hb:mI b H L](m:Nat)(hx:aZ F x (.pointer (some ⟨b,off,none⟩)))(ht:P.underlying t=some d)(jv:(match d with| .struct _| .array _ _=>True|_=>False))
 (hs:(P.info? t).map (·.size)=some m) (hL:(L.drop off).take m=L') (hl:L'.length=m):Ev P n F (Mm c H) (.load t x) ty (.agg L'.toArray):= .of_run λa w ha hw=>by
 obtain⟨ρ,hm⟩:=hw.out;obtain⟨e,fr,h1⟩:=dm.1 (hm.dK _ hb.mem)
 have h1:=hm.fits _ _ h1
 have h4:=de (P:=P) (w:=w) (b:=b) (off:=off) (L:=L') ht jv (by rw[hl];exact hs) (λj u hj=>by
  rw[bh h1];rw[←hL,rA]at hj
  split at hj
  ·rw[Ao]at hj;simpa using hj
  ·cases hj)
 simp[execOp,hx.eval ha,Instr.loadAt,Instr.sureAddr,h4]
theorem cw.ajQ {ds:List df}{b:Nat}{e:TypeId}{fr:Nat×Nat}{L:List Value}(h:cw c H ds)[hb:Az b H (.cells L.toArray e fr)]:cw c H (fO b L::ds):=λρ w nD d' nY=>by
 rcases cD.1 nY with rfl|nY
 ·exact⟨e,fr,ep.1 (nD.dK _ hb.mem)⟩
 ·exact h ρ w nD d' nY
theorem St.Bp (b:Nat){L:List Value}[tk:lY b H (.cells L.toArray e (0,0)) R](h:St n F (Mm c (aF (fO b L)::R)) T):St n F (Mm c H) T:=by
 refine h.pQ λw hw=> ?_
 obtain⟨ρ,hm⟩:=hw.out
 have hm:=hm.perm tk.perm
 have hg:=ep.1 (hm.dK _ (aU ..))
 have nE:=hm.own _ (aU ..) b (gY _ _)
 have A5:b<w.heap.size:=(pP.1 hg).1
 have Mw:=ib.1 hm.Gz
 refine Mm.mk (ρ:=λk=>if k=b then some (.cells L.toArray e (0,0))else ρ k) ?_
 have hle:Ro.le ρ (λk=>if k=b then some (.cells L.toArray e (0,0))else ρ k):=by
  intro k o hk
  by_cases e1:k=b
  ·subst e1;rw[nE.1]at hk;cases hk
  ·simp only[e1,if_false];exact hk
 refine eQ.fact ⟨hm.os,hm.tape,hm.output,hm.size,hm.A2,?_,Ro.le_trans hm.le hle,?_,?_,?_,Mw.2⟩ _ ?_
 ·intro k o hk
  by_cases e1:k=b
  ·subst e1;simp only[if_true,Option.some.injEq]at hk;subst hk;exact hg
  ·simp only[e1,if_false]at hk;exact hm.fits k o hk
 ·intro k hk hM
  by_cases e1:k=b
  ·subst e1
   rcases nE.2 with h2|h2
   ·omega
   ·exact absurd h2 hM
  ·simp only[e1,if_false];exact hm.new k hk hM
 ·intro E hE
  exact E.loc hle (λ_ _=>rfl) (hm.dK E (cE _ hE))
 ·intro E hE b' hb
  have h1:=hm.own E (cE _ hE) b' hb
  refine⟨?_,h1.2⟩
  by_cases e1:b'=b
  ·subst e1;exact absurd hb (Mw.1 E hE _ (gY _ _))
  ·simp only[e1,if_false];exact h1.1
 ·exact⟨e,(0,0),by simp⟩
end
end Go.J
namespace Go.Proofs.YtblifkgpebebmaaGreatDoor
open Go Go.J Tryz
theorem XA {x y:dF}{i:Nat}(h:i<x.length+y.length):(Pl.of x y).rt i=i:=by unfold Pl.rt Pl.of;exact UN h
theorem ZH {x y:dF}{i:Nat}(h:i<x.length):(Pl.of x y).tt i=(x.getD i gH).1:=by
 unfold Pl.tt Pl.of
 simp only[List.getD_eq_getElem?_getD]
 rw[pd (by rw[aQ];exact h),bE,bO h];rfl
theorem ZI {x y:dF}(h:0<y.length):(Pl.of x y).tt x.length=(y.getD 0 gH).1:=by
 unfold Pl.tt Pl.of
 simp only[List.getD_eq_getElem?_getD]
 rw[mW (by rw[aQ];exact aW _),aQ,fJ,bE,bO h];rfl
theorem Un {mt:Nat→Nat→Option Nat}{x y:dF}{node:Nat}(hn:node<x.length)(hy:0<y.length)(hm:mt (x.getD node gH).1.toNat (y.getD 0 gH).1.toNat=none):cm mt x node y=none:=by
 unfold cm
 have e1:(Pl.of x y).rt ((node:Int),(x.length:Int)).1.toNat=node:=XA (by show node<_;omega)
 have e2:(Pl.of x y).rt ((node:Int),(x.length:Int)).2.toNat=x.length:=XA (by show x.length<_;omega)
 rw[KO (by rw[e1,e2];omega) (by rw[e1,e2,ZH hn,ZI hy];exact hm)];rfl
theorem MT (tb:Nat)(w1 w2:aY)(T:List dz)(hT:gy T)(nf:Nat)(gl:nf≤100)(x y:cU)(hx:dP T.length nf (ar x))(hy:dP T.length nf (ar y))(kI:x.nodes.length≤60)(SU:y.nodes.length≤60)(node:Nat)(rO:node<x.nodes.length):dt Tryz.prog 119 #[au x,iv (node:Nat),au y,.pointer (some ⟨tb,0,none⟩)] ([fO tb [w1.1,w2.1],sl ay w1.1 (cn T),sl ay w2.1 (cr T),tz,aG x,aG y].map aF) (λv H'=>v= .bool (cm (fg T) (ar x) node (ar y)).isSome∧H'=[]):=by
 refine dt.body (args:=[au x,iv (node:Nat),au y,.pointer (some ⟨tb,0,none⟩)]) 41 Tryz.func119 rfl Tryz.ntmps119 rfl (λc=> ?_);refine St.cast (H':=[aF (fO tb [w1.1,w2.1]),aF (sl ay w1.1 (cn T)),aF (sl ay w2.1 (cr T)),aF (tz),aF (aG x),aF (aG y)]) rfl ?_;refine go ?_
 have X4:=fG hx gl
 have hsy:=fG hy gl
 have XB:=hy.pos
 have uC:=cP x
 have hgy:=cP y
 obtain⟨p,hp⟩:=aE rO;obtain⟨q,hq⟩:=aE (show 0<y.nodes.length by omega)
 have hpe:(ar x).getD node gH=lN p:=by rw[ak,jq hp];rfl
 have hqe:(ar y).getD 0 gH=lN q:=by rw[ak,jq hq];rfl
 have hpt:=(hx.at_ (i:=node) (by omega)).1
 have hqt:=(hy.at_ (i:=0) XB).1
 rw[hpe]at hpt;rw[hqe]at hqt
 obtain⟨ta,Q6⟩:∃ta:Nat,p.type=(ta:Int):=⟨p.type.toNat,by have:=hpt.1;show p.type=_;have h:0≤p.type:=this;omega⟩
 obtain⟨tb2,htb⟩:∃tb2:Nat,q.type=(tb2:Int):=⟨q.type.toNat,by have h:0≤q.type:=hqt.1;omega⟩
 have ae3:ta<T.length:=by have h:p.type<T.length:=hpt.2;omega
 have ae4:tb2<T.length:=by have h:q.type<T.length:=hqt.2;omega
 refine St.j7 (aG x) (λ_:Unit=>jm x) (λρ h=>⟨(),h⟩) λ_=> ?_
 refine St.cast (H':=[aF (sl bW x.nv.1 x.nodes),aF (aI bX x.nodes),aF (fO tb [w1.1,w2.1]),aF (sl ay w1.1 (cn T)),aF (sl ay w2.1 (cr T)),aF (tz),aF (aG x),aF (aG y)]) rfl ?_
 refine St.j7 (aG y) (λ_:Unit=>jm y) (λρ h=>⟨(),h⟩) λ_=> ?_
 refine St.cast (H':=[aF (sl bW y.nv.1 y.nodes),aF (aI bX y.nodes),aF (sl bW x.nv.1 x.nodes),aF (aI bX x.nodes),aF (fO tb [w1.1,w2.1]),aF (sl ay w1.1 (cn T)),aF (sl ay w2.1 (cr T)),aF (tz),aF (aG x),aF (aG y)]) rfl ?_;refine go ?_;refine St.cz (.mk rfl) rfl (λb4=> ?_);refine St.cz (.mk rfl) rfl (λb6=> ?_);refine g5 ?_;refine St.cx [] mixed (λnp ns=> ?_);refine SW.dd 0 rfl (λ_=>Ev.Qj (.mk rfl) vp trivial (by exact vt)) ?_;refine SW.slot 14 (jS w1 w2) rfl rfl ?_;refine SW.gd 1 ?_;refine SW.gd 2 ?_;refine SW.gd 3 ?_;refine SW.gd 4 ?_;refine SW.gd 5 ?_;refine SW.gd 6 ?_;refine SW.slot 20 (iv (ta:Nat)) rfl (congrArg iv Q6) ?_;refine SW.gd 7 ?_;refine SW.gd 8 ?_;refine SW.dd 9 rfl (λ_=>Ev.cZ (k:=0) (.mk rfl) (.mk rfl) pS jR (by omega) (by omega)) ?_;refine SW.gd 10 ?_;refine SW.gd 11 ?_;refine SW.slot 25 (iv (tb2:Nat)) rfl (congrArg iv htb) ?_;refine SW.dd 12 rfl (λ_=>Ev.call ((z7 w1 w2 T hT ta tb2 ae3 ae4).mono λ_ _ h=>h.1) YN (.eZ rfl rfl rfl)) ?_;refine SW.gd 13 ?_;refine SW.gd 14 ?_;refine SW.gd 15 ?_;refine SW.gd 16 ?_;refine SW.gd 17 ?_;refine SW.gd 18 ?_;refine SW.gd 19 ?_;refine SW.dn ?_;refine g7 ?_;refine St.cq (λuq=> ?_) (λuq=> ?_)
 ·have hm:fg T ((ar x).getD node gH).1.toNat ((ar y).getD 0 gH).1.toNat=none:=by rw[hpe,hqe];show fg T p.type.toNat q.type.toNat=none;rw[Q6,htb];simpa using uq
  have A7:=Un (mt:=fg T) (by omega) XB hm
  refine g7 ?_;refine St.rV [_] [] ?_;exact⟨by rw[A7];rfl,rfl⟩
 ·refine g4 ?_
  refine St.ee (Ev.Qj (.mk rfl) vp trivial (by exact vt)) ?_;refine St.slot 33 (jS w1 w2) rfl rfl ?_;refine go ?_;refine St.slot 34 (au x) rfl rfl ?_;refine g2 ?_;refine St.slot 36 (au y) rfl rfl ?_;refine St.fE (qg w1 w2 T hT nf gl x y hx hy kI SU (λt ht=>by have:=(X4 t ht).2;omega) (λt ht=>by have:=(hsy t ht).2;omega) node (by omega)) Td (.om rfl rfl rfl rfl) rfl ?_;rintro v37 _ ⟨u,rfl,rfl⟩;refine St.fk ?_;refine St.cF ((cm (fg T) (ar x) node (ar y)).getD []) u (λz hz=> ?_);obtain⟨rfl,hzE⟩:=hz;refine g3 ?_;refine St.al (λpT=> ?_);refine g11 ?_;refine St.rV [_] [] ?_;exact⟨rfl,rfl⟩
structure qw where
 a:aY
 b:aY
 c:aY
 la:List Bool
 lb:List Bool
 lc:List Bool
def qw.at_ (x:qw)(j:Nat):aY×List Bool:=if j=0 then(x.a,x.la)else if j=1 then(x.b,x.lb)else(x.c,x.lc)
def sC:Rp qw:=⟨3,by decide,λx=>[x.a.1,x.b.1,x.c.1],λ_=>True,λ_=>rfl,λx u h=>by
 simp only[List.mem_cons,List.not_mem_nil,or_false]at h
 rcases h with rfl|rfl|rfl
 ·exact x.a.2
 ·exact x.b.2
 ·exact x.c.2⟩
theorem qw.cell (x:qw){j:Nat}(h:j<3):(sC.cells x)[0+j]?=some (x.at_ j).1.1:=by
 rcases j with _|_|_|j
 ·rfl
 ·rfl
 ·rfl
 ·omega
def nM (x:qw):df:=gT [sl da x.a.1 x.la,sl da x.b.1 x.lb,sl da x.c.1 x.lc]
theorem KX (x:qw)(j:Nat)(ρ:Ro)(h:(nM x).f ρ):(sl da (x.at_ j).1.1 (x.at_ j).2).f ρ:=by
 have h1:=h (sl da x.a.1 x.la) (by simp)
 have h2:=h (sl da x.b.1 x.lb) (by simp)
 have h3:=h (sl da x.c.1 x.lc) (by simp)
 unfold qw.at_
 split
 ·exact h1
 ·split
  ·exact h2
  ·exact h3
structure kO where
 nr:Nat
 nl:Nat
 kv:aY
 av:aY
 nB:aY
 fv:aY
 kids:List Int
 qx:List qw
def Uo (f:kO):List Value:=[iv (f.nr:Nat),iv (f.nl:Nat),f.kv.1,f.av.1,f.nB.1,f.fv.1]
def MU (f:kO):Value:= .agg (Uo f).toArray
def fz (f:kO):df:=gT [sl aL f.kv.1 f.kids,sl sC f.av.1 f.qx,aI nM f.qx]
def pY (nr nl:Nat)(top:Int):Int:=if 0≤top∧top<nr then top else if 1000≤top∧top<1000+(nl:Int)then nr+top-1000 else-1
def ZJ:qw:=⟨bK,bK,bK,[],[],[]⟩
def qL (f:kO)(rule gi:Nat)(top:Int):Bool:=decide (0≤pY f.nr f.nl top)&&decide (1≤gi)&&decide ((gi:Int)≤f.kids.getD rule 0)&&(((f.qx.getD rule ZJ).at_ (gi-1)).2.getD (pY f.nr f.nl top).toNat false)
structure zF (f:kO):Prop where
 nr:f.nr≤1000
 nl:f.nl≤1000
 kl:f.kids.length=f.nr
 al:f.qx.length=f.nr
 k3:∀k∈f.kids,k≤3
 ln:∀(r:Nat) (x:qw) (k:Int) (j:Nat),f.qx[r]?=some x→f.kids[r]?=some k→(j:Int)<k→(x.at_ j).2.length=f.nr+f.nl
theorem KY {nr nl:Nat}{top:Int}(h:0≤pY nr nl top):(pY nr nl top).toNat<nr+nl:=by
 unfold pY at h⊢
 split
 ·omega
 ·split
  ·omega
  ·rename_i h1 h2;rw[aA h1,aA h2]at h;omega
theorem Ip (f:kO)(hf:zF f)(top:Int)(ht:bP top):dA Tryz.prog 159 #[MU f,iv top] [] (iv (pY f.nr f.nl top)):=by
 refine dA.jz (args:=[MU f,iv top]) 28 Tryz.func159 rfl Tryz.ntmps159 rfl (λc=> ?_);refine go ?_
 have hnr:=hf.nr
 have KC:=hf.nl
 unfold bP at ht;refine go ?_;refine St.cz (.mk rfl) rfl (λb2=> ?_);refine g9 ?_;refine St.gt _ rfl rfl (λhg=>Ev.move (.mk rfl)) rfl ?_;refine St.gt _ rfl rfl (λhg=>Ev.dB (.mk rfl) Cx) rfl ?_;refine St.gt _ rfl rfl (λhg=>Ev.kU (aZ.gv rfl hg) eN trivial (by rfl)) rfl ?_;refine St.gt _ rfl rfl (λhg=>Ev.lss (aZ.gv rfl hg) (aZ.gv rfl hg)) rfl ?_;refine g3 ?_;refine St.cq (λQT=> ?_) (λQT=> ?_)
 ·refine g8 ?_
  refine St.rV [_] [] ?_;exact ie (show top=pY f.nr f.nl top by unfold pY;rw[aB (by omega)])
 ·refine g8 ?_
  refine St.gt _ rfl rfl (λhg=>Ev.move (.mk rfl)) rfl ?_;refine St.gt _ rfl rfl (λhg=>Ev.dB (.mk rfl) Te) rfl ?_;refine St.gt _ rfl rfl (λhg=>Ev.kU (aZ.gv rfl hg) eN trivial (by rfl)) rfl ?_;refine St.gt _ rfl rfl (λhg=>Ev.add (.mk rfl) (aZ.gv rfl hg) (by first|omega|(simp only[br]at hg;omega))) rfl ?_;refine St.gt _ rfl rfl (λhg=>Ev.lss (aZ.gv rfl hg) (aZ.gv rfl hg)) rfl ?_;refine g3 ?_;refine St.cq (λyU=> ?_) (λyU=> ?_)
  ·refine g12 ?_
   refine St.rV [_] [] ?_;exact ie (show(f.nr:Int)+top-1000=pY f.nr f.nl top by unfold pY;rw[aA (by omega),aB (by omega)])
  ·refine g8 ?_
   refine St.rV [_] [] ?_;exact ie (show(-1:Int)=pY f.nr f.nl top by unfold pY;rw[aA (by omega),aA (by omega)])
theorem Fj (f:kO)(hf:zF f)(rule gi:Nat)(hr:rule<f.nr)(hk:1≤gi)(rf:gi≤1000)(top:Int)(ht:bP top):dt Tryz.prog 146 #[MU f,iv (rule:Nat),iv (gi:Nat),iv top] ([fz f].map aF) (λv H'=>v= .bool (qL f rule gi top)∧H'=[]):=by
 refine dt.body (args:=[MU f,iv (rule:Nat),iv (gi:Nat),iv top]) 51 Tryz.func146 rfl Tryz.ntmps146 rfl (λc=> ?_);refine St.cast (H':=[aF (fz f)]) rfl ?_;refine go ?_
 refine St.j7 (fz f) (λ_:Unit=>[sl aL f.kv.1 f.kids,sl sC f.av.1 f.qx,aI nM f.qx]) (λρ h=>⟨(),h⟩) λ_=> ?_
 refine St.cast (H':=[aF (sl aL f.kv.1 f.kids),aF (sl sC f.av.1 f.qx),aF (aI nM f.qx),aF (fz f)]) rfl ?_
 have nU:=hf.kl
 have SR:=hf.al
 obtain⟨k,l8⟩:=aE (show rule<f.kids.length by omega);obtain⟨x,hx⟩:=aE (show rule<f.qx.length by omega)
 have Wn:=hf.k3 k (ab l8)
 have XC:f.kids.getD rule 0=k:=by rw[ak,l8];rfl
 have Gt:f.qx.getD rule ZJ=x:=by rw[ak,hx];rfl
 obtain⟨j,rfl⟩:∃j,gi=j+1:=⟨gi-1,by omega⟩
 have hln:=hf.ln rule x k j hx l8
 have ajR:=KY (nr:=f.nr) (nl:=f.nl) (top:=top)
 refine St.cL nM f.qx (x:=x) (ab hx) ?_;refine St.eT (sl da (x.at_ j).1.1 (x.at_ j).2) [nM x] (λρ h=>KX x j ρ (h _ (aU ..))) ?_;refine St.JV f.av.1 (by omega) (λbs os cs qJ=> ?_);refine go ?_;refine St.cz (.mk rfl) rfl (λb4=> ?_);refine g7 ?_;refine St.ee (Ev.call (Ip f hf top ht) ac4 (.bH rfl rfl)) ?_;refine g8 ?_;refine St.split 15 _ rfl (λhp=> ?_) (λhp=> ?_)
 ·have rP:0≤pY f.nr f.nl top:=eS hp
  have yW:=ajR rP
  obtain⟨pl,hpe⟩:∃pl:Nat,pY f.nr f.nl top=(pl:Int):=⟨(pY f.nr f.nl top).toNat,by omega⟩
  rw[hpe];refine St.aa rfl rfl ?_;refine go ?_;refine St.aa rfl rfl ?_;refine go ?_;refine St.ee (Ev.eo (.mk rfl) rfl (.mk rfl)) ?_;refine go ?_;refine St.known 19 _ true rfl (dH (by omega)) ?_;refine St.aa rfl rfl ?_;refine go ?_;refine St.aa rfl rfl ?_;refine go ?_;refine St.aa rfl rfl ?_;refine go ?_;refine St.aa rfl rfl ?_;refine go ?_;refine St.ee (Ev.eo (.mk rfl) rfl (.mk rfl)) ?_;refine go ?_;refine St.known 25 _ true rfl (dH (by omega)) ?_;refine St.aa rfl rfl ?_;refine go ?_;refine St.aa rfl rfl ?_;refine go ?_;refine St.ee (Ev.eo (.mk rfl) rfl (.mk rfl)) ?_;refine go ?_;refine St.known 29 _ true rfl (dH (by omega)) ?_;refine St.aa rfl rfl ?_;refine go ?_;refine St.aa rfl rfl ?_;refine go ?_;refine St.aa rfl rfl ?_;refine go ?_;refine St.aa rfl rfl ?_;refine go ?_;refine St.aa rfl rfl ?_;refine go ?_;refine St.aa rfl rfl ?_;refine go ?_;refine St.aa rfl rfl ?_;refine go ?_;refine St.ee (Ev.eo (.mk rfl) rfl (.mk rfl)) ?_;refine go ?_;refine St.split 38 _ rfl (λZK=> ?_) (λZK=> ?_)
  ·have hkj:((j+1:Nat):Int)≤k:=eS ZK
   have Fk:=hln (by omega)
   obtain⟨bv,hbv⟩:=aE (show pl<(x.at_ j).2.length by omega);refine St.aa rfl rfl ?_;refine go ?_;refine St.aa rfl rfl ?_;refine go ?_;refine St.aa rfl rfl ?_;refine go ?_;refine St.aa rfl rfl ?_;refine go ?_;refine St.aa rfl rfl ?_;refine go ?_;refine St.aa rfl rfl ?_;refine go ?_;refine St.aa rfl rfl ?_;refine St.ee (Ev.xE (j:=j) qJ (.mk rfl) (.mk rfl) yH px (by omega) (by omega)) ?_;refine St.aa rfl rfl ?_;refine St.ee (Ev.ld1 (.mk rfl) hx j9 trivial (x.cell (by omega))) ?_;refine St.aa rfl rfl ?_;refine go ?_;refine St.aa rfl rfl ?_;refine go ?_;refine St.aa rfl rfl ?_;refine go ?_;refine St.ee (Ev.eo (.mk rfl) rfl (.mk rfl)) ?_;refine g4 ?_;refine St.rV [_] [] ?_;exact⟨by unfold qL;rw[hpe,dH (show(0:Int)≤(pl:Nat) by omega),dH (show 1≤j+1 by omega),XC,dH hkj,Gt];show _=Value.bool (true&&true&&true&&((x.at_ j).2.getD pl false));rw[ak,hbv];rfl,rfl⟩
  ·have hkj:¬((j+1:Nat):Int)≤k:=iT ZK
   refine St.ag rfl rfl rfl ?_;refine St.ag rfl rfl rfl ?_;refine St.ag rfl rfl rfl ?_;refine St.ag rfl rfl rfl ?_;refine St.ag rfl rfl rfl ?_;refine St.ag rfl rfl rfl ?_;refine St.ag rfl rfl rfl ?_;refine St.ag rfl rfl rfl ?_;refine St.ag rfl rfl rfl ?_;refine St.ag rfl rfl rfl ?_;refine St.ag rfl rfl rfl ?_;refine St.ee (Ev.ec (.mk rfl) rfl (.mk rfl)) ?_;refine g4 ?_;refine St.rV [_] [] ?_;exact⟨by unfold qL;rw[XC,eL hkj,Bool.and_false,Bool.false_and];rfl,rfl⟩
 ·have rP:¬0≤pY f.nr f.nl top:=iT hp
  refine St.ag rfl rfl rfl ?_;refine St.ag rfl rfl rfl ?_;refine St.ee (Ev.ec (.mk rfl) rfl (.mk rfl)) ?_;refine go ?_;refine St.ag rfl rfl rfl ?_;refine St.ag rfl rfl rfl ?_;refine St.ag rfl rfl rfl ?_;refine St.ag rfl rfl rfl ?_;refine St.ee (Ev.ec (.mk rfl) rfl (.mk rfl)) ?_;refine go ?_;refine St.ag rfl rfl rfl ?_;refine St.ag rfl rfl rfl ?_;refine St.ee (Ev.ec (.mk rfl) rfl (.mk rfl)) ?_;refine go ?_;refine St.ag rfl rfl rfl ?_;refine St.ag rfl rfl rfl ?_;refine St.ag rfl rfl rfl ?_;refine St.ag rfl rfl rfl ?_;refine St.ag rfl rfl rfl ?_;refine St.ag rfl rfl rfl ?_;refine St.ag rfl rfl rfl ?_;refine St.ee (Ev.ec (.mk rfl) rfl (.mk rfl)) ?_;refine go ?_;refine St.ag rfl rfl rfl ?_;refine St.ag rfl rfl rfl ?_;refine St.ag rfl rfl rfl ?_;refine St.ag rfl rfl rfl ?_;refine St.ag rfl rfl rfl ?_;refine St.ag rfl rfl rfl ?_;refine St.ag rfl rfl rfl ?_;refine St.ag rfl rfl rfl ?_;refine St.ag rfl rfl rfl ?_;refine St.ag rfl rfl rfl ?_;refine St.ag rfl rfl rfl ?_;refine St.ee (Ev.ec (.mk rfl) rfl (.mk rfl)) ?_;refine g4 ?_;refine St.rV [_] [] ?_;exact⟨by unfold qL;rw[eL rP];rfl,rfl⟩
theorem Fl (v0:Value)(xs:List Int)(y:Int):dA Tryz.prog 157 #[v0,iv y] [sl aL v0 xs] (iv (ix (λx=>decide (y=x)) xs)):=by
 refine dA.na (args:=[v0,iv y]) 19 Tryz.func157 rfl Tryz.ntmps157 rfl (λc=> ?_);refine go ?_;refine St.wf v0 (λvh hlen=> ?_);refine g13 ?_;refine St.lS (ι:=Nat) (λk T=>(8,iv k)::T) (λk=>k≤xs.length∧(xs.take k).all (λx=> !decide (y=x))=true) (λk=>xs.length-k) 0 (aC.cons 0 rfl (aC.cons 1 rfl (aC.cons 7 rfl aC.nil))) ⟨aR _,rfl⟩ ?_;intro k fy;obtain⟨hk,ig⟩:=fy;refine g6 ?_;refine St.cq (λh9=> ?_) (λh9=> ?_)
 ·obtain⟨x,hx⟩:=aE (show k<xs.length by omega)
  refine g20 ?_;refine St.cq (λzy=> ?_) (λzy=> ?_)
  ·refine g12 ?_
   refine St.rV [_] [] ?_;exact ie (EL ig hx (by simpa using zy)).symm
  ·refine g8 ?_
   refine St.aS (k+1) ⟨by omega,rH ig hx (by simpa using zy)⟩
 ·refine g11 ?_
  refine St.rV [_] [] ?_;exact ie (JW ig (by omega)).symm
theorem zG (v0:Value)(xs:List Int)(y:Int):dA Tryz.prog 143 #[v0,iv y] [sl aL v0 xs] (.bool (xs.any (λx=>decide (y=x)))):=by
 refine dA.na (args:=[v0,iv y]) 9 Tryz.func143 rfl Tryz.ntmps143 rfl (λc=> ?_);refine g9 ?_;refine St.ee (Ev.call (Fl v0 xs y) ac5 (.bH rfl rfl)) ?_;refine g5 ?_;refine St.rV [_] [] ?_;exact be (BA _ _)
theorem DJ (v0:Value)(xs:List Int)(SX:FuncId)(nh:aJ Tryz.prog SX)(caps:List Value)(ds:List df)(pr:Int→Bool)(xi:∀p∈xs,dA Tryz.prog SX ([iv p]++caps).toArray ds (.bool (pr p))):
 dA Tryz.prog 158 #[v0,.func (.func SX) #[] caps.toArray] (sl aL v0 xs::ds) (iv (ix pr xs)):=by
 refine dA.NC (args:=[v0,.func (.func SX) #[] caps.toArray]) 19 Tryz.func158 rfl Tryz.ntmps158 rfl (λc=> ?_);refine go ?_;refine St.wf v0 (λvh hlen=> ?_);refine g13 ?_;refine St.lS (ι:=Nat) (λk T=>(8,iv k)::T) (λk=>k≤xs.length∧(xs.take k).all (λy=> !pr y)=true) (λk=>xs.length-k) 0 (aC.cons 0 rfl (aC.cons 1 rfl (aC.cons 7 rfl aC.nil))) ⟨aR _,rfl⟩ ?_;intro k fy;obtain⟨hk,ig⟩:=fy;refine g6 ?_;refine St.cq (λh9=> ?_) (λh9=> ?_)
 ·obtain⟨p,hp⟩:=aE (show k<xs.length by omega)
  refine g17 ?_;refine St.ee (Ev.j5 (xi p (ab hp)) nh (.mk rfl) (.bB rfl)) ?_;refine g2 ?_;refine St.cond _ rfl (λzy=> ?_) (λzy=> ?_)
  ·skip
   refine g12 ?_;refine St.LR [_] _ Tryz.results158 ⟨rfl,trivial⟩ ?_ (λ_ hw=>hw);exact ie (EL ig hp zy).symm
  ·skip
   refine g8 ?_;refine St.NJ (k+1) ⟨by omega,rH ig hp (by simpa using zy)⟩ (by first|omega|(dsimp only;omega)) (by repeat(first|exact Sub.nil|refine Sub.cons (by first|rfl|exact congrArg (λz=>some (iv z)) (by first|omega|(dsimp only;omega))|exact congrArg (λz=>some (Value.bool z)) (by first|assumption|exact iZ (by assumption))) ?_)) (λ_ hw=>hw)
 ·refine g11 ?_
  refine St.LR [_] _ Tryz.results158 ⟨rfl,trivial⟩ ?_ (λ_ hw=>hw);exact ie (JW ig (by omega)).symm
theorem wa (v0:Value)(xs:List Int)(SX:FuncId)(nh:aJ Tryz.prog SX)(caps:List Value)(ds:List df)(pr:Int→Bool)(xi:∀p∈xs,dA Tryz.prog SX ([iv p]++caps).toArray ds (.bool (pr p))):
 dA Tryz.prog 144 #[v0,.func (.func SX) #[] caps.toArray] (sl aL v0 xs::ds) (.bool (xs.any pr)):=by
 refine dA.NC (args:=[v0,.func (.func SX) #[] caps.toArray]) 9 Tryz.func144 rfl Tryz.ntmps144 rfl (λc=> ?_);refine g9 ?_;refine St.ee (Ev.call (DJ v0 xs SX nh caps ds pr xi) ac6 (.bH rfl rfl)) ?_;refine g5 ?_;refine St.LR [_] _ Tryz.results144 ⟨rfl,trivial⟩ ?_ (λ_ hw=>hw);exact be (BA _ _)
theorem DK (f:kO)(hf:zF f)(PC:List Value)(hPC:(PC.drop 7).take 6=Uo f)(bp rule gi:Nat)(hr:rule<f.nr)(hk:1≤gi)(rf:gi≤1000)(b1 b2 b3:Nat)(top:Int)(ht:bP top):dt Tryz.prog 145 #[iv top,.pointer (some ⟨b1,0,none⟩),.pointer (some ⟨b2,0,none⟩),.pointer (some ⟨b3,0,none⟩)] ([oW b1 (.pointer (some ⟨bp,0,none⟩)),oW b2 (iv (rule:Nat)),oW b3 (iv (gi:Nat)),fO bp PC,fz f].map aF) (λv H'=>v= .bool (qL f rule gi top)∧H'=[]):=by
 refine dt.body (args:=[iv top,.pointer (some ⟨b1,0,none⟩),.pointer (some ⟨b2,0,none⟩),.pointer (some ⟨b3,0,none⟩)]) 14 Tryz.func145 rfl Tryz.ntmps145 rfl (λc=> ?_);refine St.cast (H':=[aF (oW b1 (.pointer (some ⟨bp,0,none⟩))),aF (oW b2 (iv (rule:Nat))),aF (oW b3 (iv (gi:Nat))),aF (fO bp PC),aF (fz f)]) rfl ?_;refine g6 ?_;refine St.cx [] mixed (λnp ns=> ?_);refine SW.gd 0 ?_;refine SW.gd 1 ?_;refine SW.gd 2 ?_;refine SW.dd 3 rfl (λ_=>Ev.Um 6 (.mk rfl) Tryz.underlying174 trivial Jx hPC rfl) ?_;refine SW.slot 9 (MU f) rfl rfl ?_;refine SW.gd 4 ?_;refine SW.gd 5 ?_;refine SW.gd 6 ?_;refine SW.dd 7 rfl (λ_=>Ev.call ((Fj f hf rule gi hr hk rf top ht).mono λ_ _ h=>h.1) ac7 (.om rfl rfl rfl rfl)) ?_;refine SW.gd 8 ?_;refine SW.dn ?_;refine g2 ?_;refine St.rV [_] [] ?_;exact⟨rfl,rfl⟩
theorem td (f:kO)(hf:zF f)(PC:List Value)(hPC:(PC.drop 7).take 6=Uo f)(bp rule gi:Nat)(hr:rule<f.nr)(hk:1≤gi)(rf:gi≤1000)(vi:aY)(h13:PC[13]?=some vi.1)(its:List cX)(e:Nat)(x:cX)(hx:its[e]?=some x)(Wt:∀t∈x.bN,bP t):dt Tryz.prog 123 #[.pointer (some ⟨bp,0,none⟩),iv (rule:Nat),iv (gi:Nat),iv (e:Nat)] [aF (fz f),aX bp (.cells PC.toArray 180 (0,0)),row vi.1 186 6 its.length (rows dX its),row x.tv.1 3 1 x.bN.length (rows aL x.bN)] (λv H'=>v= .bool (x.bN.any (qL f rule gi))∧H'=[aX bp (.cells PC.toArray 180 (0,0)),row vi.1 186 6 its.length (rows dX its),row x.tv.1 3 1 x.bN.length (rows aL x.bN)]):=by
 refine dt.body (args:=[.pointer (some ⟨bp,0,none⟩),iv (rule:Nat),iv (gi:Nat),iv (e:Nat)]) 19 Tryz.func123 rfl Tryz.ntmps123 rfl (λc=> ?_);refine go ?_
 have lA:=ae hx
 refine go ?_;refine St.NG (.mk rfl) rfl rfl (λb4=> ?_);refine St.NG (.mk rfl) rfl rfl (λb5=> ?_);refine St.NG (.mk rfl) rfl rfl (λb6=> ?_);refine g8 ?_;refine St.ee (Ev.kU (.mk rfl) mn trivial h13) ?_;refine g3 ?_;refine St.ee (Ev.cB (.mk rfl) cI trivial (by omega) (db dX _ e 5 _ hx (by decide))) ?_;refine St.ee (Ev.func (.eZ rfl rfl rfl)) ?_;refine St.ee (Ev.xh (wa x.tv.1 x.bN 145 ac8 [.pointer (some ⟨b4,0,none⟩),.pointer (some ⟨b5,0,none⟩),.pointer (some ⟨b6,0,none⟩)] [oW b4 (.pointer (some ⟨bp,0,none⟩)),oW b5 (iv (rule:Nat)),oW b6 (iv (gi:Nat)),fO bp PC,fz f] (qL f rule gi) (λt ht=>(DK f hf PC hPC bp rule gi hr hk rf b4 b5 b6 t (Wt t ht)).mono λ_ _ h=>h.1)) ac9 (.bH rfl rfl) (cw.row (cw.aX (cw.aX (cw.aX (cw.ajQ (cw.aF cw.nil))))) rfl rfl rfl Wt)) ?_;refine g4 ?_;refine St.rV [_] [aX bp (.cells PC.toArray 180 (0,0)),row vi.1 186 6 its.length (rows dX its),row x.tv.1 3 1 x.bN.length (rows aL x.bN)] ?_;exact⟨rfl,rfl⟩
theorem Ev.ju {P:Program}{n:Nat}{F:Fr}{A:World→Prop}{ty:TypeId}{x:Operand}{b o' cap m size k off:Nat}{v:Value}(hv:v= .slice (some ⟨b,o',none⟩) m cap)(hx:aZ F x (dR v size k off)):Ev P n F A (.nilCheck x) ty (dR v size k off):= .of_run λac w ha _=>by
 subst hv;rw[dS]at hx
 simp[execOp,hx.eval ha,dS]
def mS (g:ja)(w1 w2:aY)(f:kO)(n:Nat)(vi vs:Value)(mb:Nat):List Value:=lh g++ [w1.1,w2.1]++Uo f++ [vi,iv (n:Nat),vs,.map (some mb)]
instance (g:ja)(w1 w2:aY)(f:kO)(n:Nat)(vi vs u:Value)(mb:Nat):E6 (mS g w1 w2 f n vi vs mb) 13 u (mS g w1 w2 f n u vs mb):=⟨rfl⟩
theorem Fm {α:Type}(l:List α)(a:α)(f:α→α):(l++ [a]).modify l.length f=l++ [f a]:=by
 induction l with
 |nil=>rfl
 |cons b l ih=>rw[r7,dy,List.modify_succ_cons,ih];rfl
theorem Iq {α:Type}(l:List α)(a:α):(l++ [a]).eraseIdx l.length=l:=by
 induction l with
 |nil=>rfl
 |cons b l ih=>rw[r7,dy,List.eraseIdx_cons_succ,ih]
theorem sD {α β:Type}(g:α→β)(f:β→β):∀{l:List α} {i:Nat} {a b:α},l[i]?=some a→g b=f (g a)→(l.set i b).map g=(l.map g).modify i f
 | [],_,_,_,h,_=>by cases h
 |c::l,0,a,b,h,hb=>by
  obtain rfl:=Option.some.inj h;rw[rE,eW,eW,List.modify_zero_cons,hb]
 |c::l,i+1,a,b,h,hb=>by
  rw[vd,eW,eW,List.modify_succ_cons,sD g f (l:=l) h hb]
structure kb (d:nA):Prop where
 bN:∀x∈d.its,∀t∈x.bN,bP t
 keys:wZ d.m (d.its.map bV)
 nd:((d.its.map bV).map λx=>ea x.ed).Nodup
theorem ZL {its:List kZ}{k:bI}{i:Nat}(h:xG its k=some i):i<its.length:=by
 obtain⟨it,h1,_⟩:=yq h;exact ae h1
structure XD (n frm tqo:Nat)(d:nA)(e:p5)(i:Nat)(x:cX)(its:List cX)(bR:List (aY×List Nat))(m:List (bI×Value)):Prop where
 at_:its[i]?=some x
 keys:wZ m (its.map bV)
 bN:∀x∈its,∀t∈x.bN,bP t
 Gp:bR.length=d.bR.length
 Z2:∀k,k≠slt n frm tqo→bR[k]?=d.bR[k]?
 fin:∀w:uz,jt n d.cs e w=⟨(its.map bV).modify i λit=>it.put w,bR.map Prod.snd⟩
 nd:((its.map bV).map λx=>ea x.ed).Nodup
theorem XD.A2 {n frm tqo:Nat}{d:nA}(h:kb d){e:p5}{i:Nat}(hk:xG (d.its.map bV) (ea e)=some i){x:cX}(hx:d.its[i]?=some x):XD n frm tqo d e i x d.its d.bR d.m:=
 ⟨hx,h.keys,h.bN,rfl,λ_ _=>rfl,λw=>by unfold jt;rw[show d.cs.its=d.its.map bV from rfl,hk];rfl,h.nd⟩
theorem XD.new {n frm tqo cQ:Nat}{d:nA}(h:kb d){g:cU}(hk:xG (d.its.map bV) (ea ⟨frm,tqo,cQ,ar g⟩)=none){q:aY×List Nat}(hq:d.bR[slt n frm tqo]?=some q)(u:aY):
 XD n frm tqo d ⟨frm,tqo,cQ,ar g⟩ d.its.length ⟨frm,tqo,cQ,g,bK,[],bK,[]⟩ (d.its++ [⟨frm,tqo,cQ,g,bK,[],bK,[]⟩]) (d.bR.set (slt n frm tqo) (u,q.2++ [d.its.length])) (kB d.m (ea ⟨frm,tqo,cQ,ar g⟩) (iv d.its.length)):=by
 refine⟨by simp,?_,λx hx t ht=> ?_,by rw[List.length_set],λk hk=>by rw[gX (λh=>hk h.symm)],λw=> ?_,?_⟩
 ·have:=h.keys.new (it:=⟨⟨frm,tqo,cQ,ar g⟩,[],[]⟩) hk
  rw[aQ]at this;rw[cC];exact this
 ·rcases ba.1 hx with hx|hx
  ·exact h.bN x hx t ht
  ·rw[bJ.1 hx]at ht;cases ht
 ·unfold jt
  rw[show d.cs.its=d.its.map bV from rfl,hk]
  dsimp only
  congr 1
  ·rw[cC,show d.its.length=(d.its.map bV).length from(aQ _).symm]
   exact(Fm (d.its.map bV) ⟨⟨frm,tqo,cQ,ar g⟩,[],[]⟩ (λit=>it.put w)).symm
  ·rw[aQ]
   exact(sD Prod.snd (λl=>l++ [d.its.length]) hq rfl).symm
 ·rw[cC,cC,List.nodup_append]
  refine⟨h.nd,by simp,λa ha b hb=> ?_⟩;obtain⟨it,hit,rfl⟩:=ct.1 ha
  have BO:b=ea ⟨frm,tqo,cQ,ar g⟩:=bJ.1 hb
  subst BO;exact QI hk it hit
theorem Fo {its:List cX}{i:Nat}{x:cX}(h:its[i]?=some x)(u:aY)(l:List rR):(rows dX its).set (i*6+4) u.1=rows dX (its.set i ⟨x.frm,x.tqo,x.cQ,x.gr,u,l,x.tv,x.bN⟩):=by
 induction its generalizing i with
 |nil=>cases h
 |cons a its ih=>
  cases i with
  |zero=>obtain rfl:=Option.some.inj h;rfl
  |succ i=>
   have:=ih (i:=i) h
   show(dX.cells a++rows dX its).set ((i+1)*6+4) u.1=dX.cells a++rows dX (its.set i _)
   rw[←this,kn _ _ (by show 6≤_;omega)]
   congr 2
   show(i+1)*6+4-6=_
   omega
theorem Qk {its:List cX}{i:Nat}{x:cX}(h:its[i]?=some x)(u:aY)(l:List Int):(rows dX its).set (i*6+5) u.1=rows dX (its.set i ⟨x.frm,x.tqo,x.cQ,x.gr,x.wv,x.bx,u,l⟩):=by
 induction its generalizing i with
 |nil=>cases h
 |cons a its ih=>
  cases i with
  |zero=>obtain rfl:=Option.some.inj h;rfl
  |succ i=>
   have:=ih (i:=i) h
   show(dX.cells a++rows dX its).set ((i+1)*6+5) u.1=dX.cells a++rows dX (its.set i _)
   rw[←this,kn _ _ (by show 6≤_;omega)]
   congr 2
   show(i+1)*6+5-6=_
   omega
theorem p8 (f:cX→List ao)(g:aY×List Nat→List ao)(its:List cX){bR:List (aY×List Nat)}{k:Nat}{q:aY×List Nat}(h:bR[k]?=some q):(ax f its++ax g bR).Perm (g q++(ax f its++ax g (bR.eraseIdx k))):=by
 refine((mq g h).append_left (ax f its)).trans ?_;rw[←cg,←cg];exact jJ.append_right _
theorem afJ (f:cX→List ao)(g:aY×List Nat→List ao)(its:List cX){bR:List (aY×List Nat)}{k:Nat}(q:aY×List Nat)(h:k<bR.length):(g q++(ax f its++ax g (bR.eraseIdx k))).Perm (ax f its++ax g (bR.set k q)):=by
 refine List.Perm.trans ?_ ((rp g q h).append_left (ax f its));rw[←cg,←cg];exact jJ.append_right _
theorem zH (f:cX→List ao)(X:List ao){its:List cX}{i:Nat}{x:cX}(h:its[i]?=some x):(ax f its++X).Perm (f x++(ax f (its.eraseIdx i)++X)):=by
 rw[←cg];exact(mq f h).append_right X
theorem afK (f:cX→List ao)(X:List ao){its:List cX}{i:Nat}(x:cX)(h:i<its.length):(f x++(ax f (its.eraseIdx i)++X)).Perm (ax f (its.set i x)++X):=by
 rw[←cg];exact(rp f x h).append_right X
theorem Ql (tW tI:TypeId)(X:List ao){its:List cX}{i:Nat}(x:cX){bx:List rR}{w:rR}(hw:x.bx=bx++ [w])(h:i<its.length):
 ([row x.wv.1 tW 3 x.bx.length (rows lR x.bx),row x.tv.1 tI 1 x.bN.length (rows aL x.bN),row w.kv.1 tI 1 w.kids.length (rows aL (bC w.kids))]++(ax (iV tI) bx++(ax (dx tW tI) (its.eraseIdx i)++X))).Perm (ax (dx tW tI) (its.set i x)++X):=by
 refine List.Perm.trans ?_ (afK (dx tW tI) X x h)
 show(row x.wv.1 tW 3 x.bx.length (rows lR x.bx)::row x.tv.1 tI 1 x.bN.length (rows aL x.bN)::(iV tI w++(ax (iV tI) bx++(ax (dx tW tI) (its.eraseIdx i)++X)))).Perm (row x.wv.1 tW 3 x.bx.length (rows lR x.bx)::row x.tv.1 tI 1 x.bN.length (rows aL x.bN)::(ax (iV tI) x.bx++(ax (dx tW tI) (its.eraseIdx i)++X)))
 refine .cons _ (.cons _ ?_);rw[hw,Tj,show ax (iV tI) [w]=iV tI w from fj _,←cg];exact jJ.append_right _
theorem KZ {n frm tqo:Nat}{d:nA}{e:p5}{i:Nat}{x x3:cX}{its:List cX}{bR:List (aY×List Nat)}{m:List (bI×Value)}(h:XD n frm tqo d e i x its bR m){w:uz}(h3:bV x3=(bV x).put w)(ht:∀t∈x3.bN,bP t)(vi:aY):
 (⟨vi,its.set i x3,d.nB,bR,m⟩:nA).cs=jt n d.cs e w∧kb ⟨vi,its.set i x3,d.nB,bR,m⟩:=by
 have e1:(its.set i x3).map bV=(its.map bV).modify i λit=>it.put w:=sD bV _ h.at_ h3
 refine⟨?_,?_,?_,?_⟩
 ·rw[h.fin w];show(⟨(its.set i x3).map bV,_⟩:Cs)=_;rw[e1]
 ·intro y hy
  rcases jx hy with hy|rfl
  ·exact h.bN y hy
  ·exact ht
 ·show wZ m ((its.set i x3).map bV)
  rw[e1];exact h.keys.put i w
 ·show((((its.set i x3).map bV)).map λx=>ea x.ed).Nodup
  have e2:(((its.set i x3).map bV).map λx=>ea x.ed)=(its.map bV).map λx=>ea x.ed:=by
   rw[e1]
   refine nV λk=> ?_
   rw[bE,bE,List.getElem?_modify]
   cases (its.map bV)[k]? with
   |none=>rfl
   |some y=>by_cases c:i=k<;>simp[c,kZ.put]
  rw[e2];exact h.nd
theorem vJ (g:ja)(w1 w2:aY)(f:kO)(n:Nat)(hn:n≤12)(d:nA)(hp:kb d)(bp mb frm tqo cQ:Nat)(gr:cU)(hgn:gr.nodes.length≤100)(A5:∀t∈gr.nodes,t.ah.length≤1000)(hfr:frm≤n)(AV:tqo≤n)
 (rule lex:Int) (ZM:bP rule) (hle: -1000000≤lex∧lex≤1000000) (kv:aY) (kids:List Nat) (q:aY×List Nat) (hq:d.bR[slt n frm tqo]?=some q) (Gr:q.2.length≤1400000000000) (qQ:d.its.length+1≤1400000000000) (MO:∀x∈d.its,x.bx.length+1≤3000000000000∧x.bN.length≤x.bx.length):
 dt Tryz.prog 120 #[.pointer (some ⟨bp,0,none⟩),Il frm tqo cQ gr.nv.1,.agg #[iv rule,iv lex,kv.1]] (aF (aG gr)::aF (aI (λx:cX=>aG x.gr) (d.its))::aX bp (.cells (mS g w1 w2 f n d.dQ.1 d.nB.1 mb).toArray 180 (0,0))::aX mb (dh mkStr (d.m))::row d.dQ.1 186 6 (d.its).length (rows dX (d.its))::row d.nB.1 58 1 (d.bR).length (rows cN ((d.bR).map Prod.fst))::row kv.1 3 1 kids.length (rows aL (bC kids))::(ax (dx 200 3) (d.its)++ax (ez 3) (d.bR)))
  (λv H'=>∃d2:nA,d2.cs=jt n d.cs (⟨frm,tqo,cQ,ar gr⟩:p5) (⟨rule,lex,kids⟩:uz)∧d2.nB=d.nB∧kb d2∧d2.bR.length=d.bR.length∧(∀k,k≠slt n frm tqo→d2.bR[k]?=d.bR[k]?)∧H'=aF (aI (λx:cX=>aG x.gr) (d2.its))::aX bp (.cells (mS g w1 w2 f n d2.dQ.1 d.nB.1 mb).toArray 180 (0,0))::aX mb (dh mkStr (d2.m))::row d2.dQ.1 186 6 (d2.its).length (rows dX (d2.its))::row d2.nB.1 58 1 (d2.bR).length (rows cN ((d2.bR).map Prod.fst))::(ax (dx 200 3) (d2.its)++ax (ez 3) (d2.bR))):=by
 refine dt.body (args:=[.pointer (some ⟨bp,0,none⟩),Il frm tqo cQ gr.nv.1,.agg #[iv rule,iv lex,kv.1]]) 96 Tryz.func120 rfl Tryz.ntmps120 rfl (λc=> ?_);refine go ?_
 have ajS:=ae hq
 have amF:=ZM.1
 have amG:=ZM.2
 refine go ?_;refine St.cz (.mk rfl) rfl (λb4=> ?_);refine St.cz (.mk rfl) rfl (λb5=> ?_);refine g9 ?_;refine St.join (ι:=Int) (λtop T=>(6,iv top)::T) (λtop=>aX b4 (.cells [iv (frm:Nat),iv (tqo:Nat),iv (cQ:Nat),gr.nv.1].toArray 183 (0,0))::aX b5 (.cells [iv rule,iv lex,kv.1].toArray 200 (0,0))::aF (aG gr)::aF (aI (λx:cX=>aG x.gr) (d.its))::aX bp (.cells (mS g w1 w2 f n d.dQ.1 d.nB.1 mb).toArray 180 (0,0))::aX mb (dh mkStr (d.m))::row d.dQ.1 186 6 (d.its).length (rows dX (d.its))::row d.nB.1 58 1 (d.bR).length (rows cN ((d.bR).map Prod.fst))::row kv.1 3 1 kids.length (rows aL (bC kids))::(ax (dx 200 3) (d.its)++ax (ez 3) (d.bR))) (λtop=>top=s8 (⟨rule,lex,kids⟩:uz)) (aC.cons 0 rfl (aC.cons 4 rfl (aC.cons 5 rfl aC.nil))) ?_ ?_
 ·refine g6 ?_
  refine St.cq (λDp=> ?_) (λDp=> ?_)
  ·refine g7 ?_
   refine St.mE (1000+lex) (by unfold s8;rw[aB (show rule<0 by omega)])
  ·refine g2 ?_
   refine St.mE rule (by unfold s8;rw[aA (show ¬rule<0 by omega)])
 ·intro top Up
  refine g3 ?_;refine St.slot 18 (Il frm tqo cQ gr.nv.1) rfl rfl ?_;refine St.ee (Ev.call ((Qi frm tqo cQ gr hgn A5).mono λ_ _ h=>h.1) adA (.bB rfl)) ?_;refine g4 ?_
  have hmg:=hp.keys (ea (⟨frm,tqo,cQ,ar gr⟩:p5))
  refine g6 ?_;refine St.ee (Ev.sY mkStr (k:=(ea (⟨frm,tqo,cQ,ar gr⟩:p5))) (.mk rfl) (.mk rfl) pL (by exact sK) jA) ?_;refine g7 ?_;refine St.join (ι:=Nat×cX×List cX×List cX×List (aY×List Nat)×List (bI×Value)×aY) (λ⟨i,x1,gz,E1,mT,m1,vi⟩ T=>(8,iv ((i:Nat):Int))::T) (λ⟨i,x1,gz,E1,mT,m1,vi⟩=>aX b4 (.cells [iv (frm:Nat),iv (tqo:Nat),iv (cQ:Nat),gr.nv.1].toArray 183 (0,0))::aX b5 (.cells [iv rule,iv lex,kv.1].toArray 200 (0,0))::aX bp (.cells (mS g w1 w2 f n vi.1 d.nB.1 mb).toArray 180 (0,0))::aX mb (dh mkStr (m1))::row vi.1 186 6 (gz).length (rows dX (gz))::row d.nB.1 58 1 (mT).length (rows cN ((mT).map Prod.fst))::row kv.1 3 1 kids.length (rows aL (bC kids))::aF (aI (λx:cX=>aG x.gr) (gz))::aF (aG gr)::row x1.wv.1 200 3 (x1.bx).length (rows lR (x1.bx))::row x1.tv.1 3 1 (x1.bN).length (rows aL (x1.bN))::(ax (iV 3) x1.bx++(ax (dx 200 3) E1++ax (ez 3) mT))) (λ⟨i,x1,gz,E1,mT,m1,vi⟩=>XD n frm tqo d (⟨frm,tqo,cQ,ar gr⟩:p5) i x1 gz mT m1∧E1=gz.eraseIdx i∧gz.length≤1400000000000∧x1.bx.length+1≤3000000000000∧x1.bN.length≤x1.bx.length) (aC.cons 0 rfl (aC.cons 5 rfl (aC.cons 6 rfl aC.nil))) ?_ ?_
  ·refine g6 ?_
   refine St.cq (λw6=> ?_) (λw6=> ?_)
   ·have wT:xG (d.its.map bV) (ea (⟨frm,tqo,cQ,ar gr⟩:p5))=none:=by cases hc:xG (d.its.map bV) (ea (⟨frm,tqo,cQ,ar gr⟩:p5))with|none=>rfl|some j=>rw[hc]at hmg;rw[hmg]at w6;simp at w6
    refine g18 ?_;refine St.mapUpdate mkStr (k:=(ea (⟨frm,tqo,cQ,ar gr⟩:p5))) (.mk rfl) (.mk rfl) (.mk rfl) pL (by exact sK) ?_;refine g3 ?_;refine St.cx (aX bp (.cells (mS g w1 w2 f n d.dQ.1 d.nB.1 mb).toArray 180 (0,0))::row d.dQ.1 186 6 (d.its).length (rows dX (d.its))::(ax (dx 200 3) (d.its)++ax (ez 3) (d.bR))) mixed (λnp ns=> ?_);refine SW.gd 0 ?_;refine SW.gd 1 ?_;refine SW.gd 2 ?_;refine SW.gd 3 ?_;refine SW.gd 5 ?_;refine SW.slot 47 (Il frm tqo cQ gr.nv.1) rfl rfl ?_;refine SW.dd 6 rfl (λ_=>Ev.build (ps:=[(0,(.tmp 47))]) (bF.bB rfl) (λw=>Ou w)) ?_;refine SW.slot 48 (.agg #[iv (frm:Nat),iv (tqo:Nat),iv (cQ:Nat),gr.nv.1,(.slice none 0 0),(.slice none 0 0)]) rfl rfl ?_;refine SW.t2 4 7 ?_ ?_
    focus
     refine g3 ?_;refine SW.go ?_;refine SW.t1 7 ?_;refine St.gb rfl (.bB rfl) mn o4 Em rfl rfl (by simp[Value.cells]) rfl rfl (λb49=> ?_);refine g2 ?_;refine SW.go ?_;refine SW.t1 8 ?_;refine St.aj (.mk rfl) (.mk rfl) mn o4 Em Og (by intro u hu;have zz:u∈[iv (frm:Nat),iv (tqo:Nat),iv (cQ:Nat),gr.nv.1,.slice none 0 0,.slice none 0 0]:=hu;simp only[List.mem_cons,List.not_mem_nil,or_false]at zz;rcases zz with rfl|rfl|rfl|rfl|rfl|rfl;exact rfl;exact rfl;exact rfl;exact gr.nv.2;exact rfl;exact rfl) (by omega) (by omega) rfl rfl rfl rfl (λv50 ajT=> ?_);refine St.aO v50 (show _=(d.its++ [(⟨frm,tqo,cQ,gr,bK,[],bK,[]⟩:cX)]).length by rw[bA];rfl) (show _=rows dX (d.its++ [(⟨frm,tqo,cQ,gr,bK,[],bK,[]⟩:cX)]) by rw[aw];rfl) ?_;refine St.bS v50 (λN0 _=> ?_);refine g2 ?_;refine SW.go ?_;refine SW.gd 9 ?_;refine SW.gd 10 ?_;refine SW.t1 11 ?_;refine St.cO (.mk rfl) (.mk rfl) Oh N0 (by rfl) ?_;refine g2 ?_;refine SW.go ?_;refine SW.dn ?_
    rotate_left
    focus
     refine St.gb rfl (.bB rfl) mn o4 Em rfl rfl (by simp[Value.cells]) rfl rfl (λb49=> ?_);refine g2 ?_;refine SW.go ?_;refine SW.t1 4 ?_;refine g3 ?_;refine SW.go ?_;refine SW.t1 8 ?_;refine St.aj (.mk rfl) (.mk rfl) mn o4 Em Og (by intro u hu;have zz:u∈[iv (frm:Nat),iv (tqo:Nat),iv (cQ:Nat),gr.nv.1,.slice none 0 0,.slice none 0 0]:=hu;simp only[List.mem_cons,List.not_mem_nil,or_false]at zz;rcases zz with rfl|rfl|rfl|rfl|rfl|rfl;exact rfl;exact rfl;exact rfl;exact gr.nv.2;exact rfl;exact rfl) (by omega) (by omega) rfl rfl rfl rfl (λv50 ajT=> ?_);refine St.aO v50 (show _=(d.its++ [(⟨frm,tqo,cQ,gr,bK,[],bK,[]⟩:cX)]).length by rw[bA];rfl) (show _=rows dX (d.its++ [(⟨frm,tqo,cQ,gr,bK,[],bK,[]⟩:cX)]) by rw[aw];rfl) ?_;refine St.bS v50 (λN0 _=> ?_);refine g2 ?_;refine SW.go ?_;refine SW.gd 9 ?_;refine SW.gd 10 ?_;refine SW.t1 11 ?_;refine St.cO (.mk rfl) (.mk rfl) Oh N0 (by rfl) ?_;refine g2 ?_;refine SW.go ?_;refine SW.dn ?_
    all_goals
     refine go ?_;refine St.tail (ax (dx 200 3) (d.its)++ax (ez 3) (d.bR)) (row q.1.1 3 1 (q.2).length (rows aL (bC (q.2)))::(ax (dx 200 3) (d.its)++ax (ez 3) (d.bR.eraseIdx (slt n frm tqo)))) (p8 _ _ _ hq) ?_;refine St.cx (row d.nB.1 58 1 (d.bR).length (rows cN ((d.bR).map Prod.fst))::row q.1.1 3 1 (q.2).length (rows aL (bC (q.2)))::(ax (dx 200 3) (d.its)++ax (ez 3) (d.bR.eraseIdx (slt n frm tqo)))) mixed (λnp ns=> ?_);refine SW.gd 0 ?_;refine SW.gd 1 ?_;refine SW.gd 2 ?_;refine SW.dd 3 rfl (λ_=>Ev.gh 2 (.mk rfl) BK trivial BS rfl rfl) ?_;refine SW.slot 56 (.agg #[iv (n:Nat),d.nB.1]) rfl rfl ?_;refine SW.gd 4 ?_;refine SW.gd 5 ?_;refine SW.gd 6 ?_;refine SW.gd 7 ?_;refine SW.gd 8 ?_;refine SW.t1 9 ?_;refine St.call (Im n frm tqo (slt n frm tqo) hn hfr AV rfl d.nB d.bR q hq d.its.length (by omega) Gr) adC (.om rfl rfl rfl rfl) rfl ?_;rintro v62 _ ⟨u,rfl⟩;refine St.lZ ?_;refine g2 ?_;refine SW.go ?_;refine SW.dn ?_;refine go ?_;refine St.dc 200 3 ?_;refine St.aO (.slice none 0 0) (show _=([]:List rR).length from rfl) (show _=rows lR []from rfl) ?_;refine St.dc 3 1 ?_;refine St.aO (.slice none 0 0) (show _=([]:List Int).length from rfl) (show _=rows aL []from rfl) ?_;refine St.mB [row u.1 3 1 (q.2++ [d.its.length]).length (rows aL (bC (q.2++ [d.its.length])))] (ax (dx 200 3) (d.its)++ax (ez 3) (d.bR.eraseIdx (slt n frm tqo))) (ax (iV 3) ([]:List rR)++(ax (dx 200 3) (d.its)++ax (ez 3) (d.bR.set (slt n frm tqo) (u,q.2++ [d.its.length])))) (afJ (dx 200 3) (ez 3) d.its (u,q.2++ [d.its.length]) ajS) ?_;refine St.eT (aI (λx:cX=>aG x.gr) (d.its++ [(⟨frm,tqo,cQ,gr,bK,[],bK,[]⟩:cX)])) [aI (λx:cX=>aG x.gr) d.its,aG gr] (λρ h x hx=>by rcases ba.1 hx with hx|hx;exact h _ (aU ..) x hx;rw[bJ.1 hx];exact h _ (cE _ (aU ..))) ?_;refine St.mE ⟨d.its.length,(⟨frm,tqo,cQ,gr,bK,[],bK,[]⟩:cX),d.its++ [(⟨frm,tqo,cQ,gr,bK,[],bK,[]⟩:cX)],d.its,d.bR.set (slt n frm tqo) (u,q.2++ [d.its.length]),kB d.m (ea (⟨frm,tqo,cQ,ar gr⟩:p5)) (iv d.its.length),⟨v50,N0⟩⟩ ⟨XD.new hp wT hq u,(Iq _ _).symm,by rw[bA];exact qQ,by show 0+1≤3000000000000;omega,aR _⟩
   ·obtain⟨i0,W8⟩:∃i,xG (d.its.map bV) (ea (⟨frm,tqo,cQ,ar gr⟩:p5))=some i:=by cases hc:xG (d.its.map bV) (ea (⟨frm,tqo,cQ,ar gr⟩:p5))with|none=>(rw[hc]at hmg;rw[hmg]at w6;simp at w6)|some j=>exact⟨j,rfl⟩
    have afL:=ZL W8
    rw[aQ]at afL;obtain⟨x0,wi⟩:=aE afL
    have zu:=MO x0 (ab wi)
    refine St.slot 8 (iv ((i0:Nat):Int)) rfl (by rw[hmg,W8];rfl) ?_;refine g2 ?_;refine St.tail (ax (dx 200 3) (d.its)++ax (ez 3) (d.bR)) (row x0.wv.1 200 3 (x0.bx).length (rows lR (x0.bx))::row x0.tv.1 3 1 (x0.bN).length (rows aL (x0.bN))::(ax (iV 3) x0.bx++(ax (dx 200 3) (d.its.eraseIdx i0)++ax (ez 3) (d.bR)))) (zH _ _ wi) ?_;refine St.mE ⟨i0,x0,d.its,d.its.eraseIdx i0,d.bR,d.m,d.dQ⟩ ⟨XD.A2 hp W8 wi,rfl,by omega,zu⟩
  ·rintro ⟨i,x1,gz,E1,mT,m1,vi⟩ ⟨hM,hE1,NM,SB,ht1⟩
   refine go ?_
   have Fq:=ae hM.at_
   have zx:=ab hM.at_
   refine St.kA vi.1 (by omega) (λbs cs qJ=> ?_);refine g6 ?_;refine St.ee (Ev.mN (k:=i) qJ (.mk rfl) (.mk rfl) mn o4 (by omega) (by omega)) ?_;refine g4 ?_;refine St.cx (row vi.1 186 6 (gz).length (rows dX (gz))::row x1.wv.1 200 3 (x1.bx).length (rows lR (x1.bx))::(ax (iV 3) x1.bx++(ax (dx 200 3) E1++ax (ez 3) mT))) mixed (λnp ns=> ?_);refine SW.gd 0 ?_;refine SW.gd 1 ?_;refine SW.dd 2 rfl (λ_=>Ev.ju qJ (.mk rfl)) ?_;refine SW.dd 3 rfl (λ_=>Ev.j3 qJ (.mk rfl) sy) ?_;refine SW.gd 5 ?_;refine SW.slot 74 (.agg #[iv rule,iv lex,kv.1]) rfl rfl ?_;refine SW.t2 4 6 ?_ ?_
   focus
    refine St.ee (Ev.cB (.mk rfl) si trivial (by omega) (db dX _ i 4 _ hM.at_ (by decide))) ?_;refine g2 ?_;refine SW.go ?_;refine SW.t1 6 ?_;refine St.gb rfl (.bB rfl) si vx K0 rfl rfl (by simp[Value.cells]) rfl rfl (λb75=> ?_);refine g2 ?_;refine SW.go ?_;refine SW.t1 7 ?_;refine St.aj (.mk rfl) (.mk rfl) si vx K0 Wc (by intro u hu;have zz:u∈[iv rule,iv lex,kv.1]:=hu;simp only[List.mem_cons,List.not_mem_nil,or_false]at zz;rcases zz with rfl|rfl|rfl;exact rfl;exact rfl;exact kv.2) (by omega) (by omega) rfl rfl rfl rfl (λv76 ajU=> ?_);refine St.aO v76 (show _=(x1.bx++ [(⟨rule,lex,kv,kids⟩:rR)]).length from cV) (show _=rows lR (x1.bx++ [(⟨rule,lex,kv,kids⟩:rR)]) by rw[aw];rfl) ?_;refine St.bS v76 (λte _=> ?_);refine g2 ?_;refine SW.go ?_;refine SW.dd 8 rfl (λ_=>Ev.ju qJ (.mk rfl)) ?_;refine SW.dd 9 rfl (λ_=>Ev.j3 qJ (.mk rfl) sy) ?_;refine SW.t1 10 ?_;refine St.bj (.mk rfl) (.mk rfl) Wd te (by omega) (by decide) ?_
    obtain⟨x2,mH⟩:∃x2:cX,x2=⟨x1.frm,x1.tqo,x1.cQ,x1.gr,⟨v76,te⟩,x1.bx++ [⟨rule,lex,kv,kids⟩],x1.tv,x1.bN⟩:=⟨_,rfl⟩
    refine St.aO vi.1 (show _=(gz.set i x2).length by rw[cG]) (show _=rows dX (gz.set i x2) by rw[mH];exact Fo hM.at_ ⟨v76,te⟩ _) ?_;refine g2 ?_;refine SW.go ?_;refine SW.dn ?_
   rotate_left
   focus
    refine St.gb rfl (.bB rfl) si vx K0 rfl rfl (by simp[Value.cells]) rfl rfl (λb75=> ?_);refine g2 ?_;refine SW.go ?_;refine SW.t1 4 ?_;refine St.ee (Ev.cB (.mk rfl) si trivial (by omega) (db dX _ i 4 _ hM.at_ (by decide))) ?_;refine g2 ?_;refine SW.go ?_;refine SW.t1 7 ?_;refine St.aj (.mk rfl) (.mk rfl) si vx K0 Wc (by intro u hu;have zz:u∈[iv rule,iv lex,kv.1]:=hu;simp only[List.mem_cons,List.not_mem_nil,or_false]at zz;rcases zz with rfl|rfl|rfl;exact rfl;exact rfl;exact kv.2) (by omega) (by omega) rfl rfl rfl rfl (λv76 ajU=> ?_);refine St.aO v76 (show _=(x1.bx++ [(⟨rule,lex,kv,kids⟩:rR)]).length from cV) (show _=rows lR (x1.bx++ [(⟨rule,lex,kv,kids⟩:rR)]) by rw[aw];rfl) ?_;refine St.bS v76 (λte _=> ?_);refine g2 ?_;refine SW.go ?_;refine SW.dd 8 rfl (λ_=>Ev.ju qJ (.mk rfl)) ?_;refine SW.dd 9 rfl (λ_=>Ev.j3 qJ (.mk rfl) sy) ?_;refine SW.t1 10 ?_;refine St.bj (.mk rfl) (.mk rfl) Wd te (by omega) (by decide) ?_
    obtain⟨x2,mH⟩:∃x2:cX,x2=⟨x1.frm,x1.tqo,x1.cQ,x1.gr,⟨v76,te⟩,x1.bx++ [⟨rule,lex,kv,kids⟩],x1.tv,x1.bN⟩:=⟨_,rfl⟩
    refine St.aO vi.1 (show _=(gz.set i x2).length by rw[cG]) (show _=rows dX (gz.set i x2) by rw[mH];exact Fo hM.at_ ⟨v76,te⟩ _) ?_;refine g2 ?_;refine SW.go ?_;refine SW.dn ?_
   all_goals
    refine g4 ?_;refine St.ee (Ev.ju qJ (.mk rfl)) ?_;refine St.ee (Ev.j3 qJ (.mk rfl) sx) ?_;refine St.ee (Ev.cB (.mk rfl) cI trivial (by rw[cG];exact Fq) (db dX _ i 5 _ (eP Fq) (by decide))) ?_;refine St.slot 82 x1.tv.1 rfl (by rw[mH]) ?_;refine go ?_;refine St.ee (Ev.xh (zG x1.tv.1 x1.bN top) adD (.bH rfl rfl) (cw.row cw.nil rfl rfl rfl (hM.bN x1 zx))) ?_;refine g3 ?_;refine St.cq (λh85=> ?_) (λh85=> ?_)
    ·have oS:top∉x1.bN:=λhm=>by simp at h85;exact h85 top hm rfl
     refine g3 ?_;refine St.ee (Ev.ju qJ (.mk rfl)) ?_;refine St.ee (Ev.j3 qJ (.mk rfl) sx) ?_;refine St.ee (Ev.cB (.mk rfl) cI trivial (by rw[cG];exact Fq) (db dX _ i 5 _ (eP Fq) (by decide))) ?_;refine St.slot 90 x1.tv.1 rfl (by rw[mH]) ?_;refine go ?_;refine St.gb rfl (.bB rfl) cI eJ jA rfl rfl (by simp[Value.cells]) rfl rfl (λb92=> ?_);refine St.aj (.mk rfl) (.mk rfl) cI eJ jA wO (by simp[Value.oneCell',Value.cells]) (by omega) (by omega) rfl rfl rfl rfl (λv93 amH=> ?_);refine St.aO v93 (show _=(x1.bN++ [top]).length from cV) (show _=rows aL (x1.bN++ [top]) by rw[aw];rfl) ?_;refine St.bS v93 (λKa _=> ?_);refine St.ee (Ev.ju qJ (.mk rfl)) ?_;refine St.ee (Ev.j3 qJ (.mk rfl) sx) ?_;refine St.bj (.mk rfl) (.mk rfl) kY Ka (by rw[cG];exact Fq) (by decide) ?_;refine St.aO vi.1 (show _=(gz.set i (⟨x1.frm,x1.tqo,x1.cQ,x1.gr,⟨v76,te⟩,x1.bx++ [⟨rule,lex,kv,kids⟩],⟨v93,Ka⟩,x1.bN++ [top]⟩:cX)).length by rw[cG,cG]) (show _=rows dX (gz.set i (⟨x1.frm,x1.tqo,x1.cQ,x1.gr,⟨v76,te⟩,x1.bx++ [⟨rule,lex,kv,kids⟩],⟨v93,Ka⟩,x1.bN++ [top]⟩:cX)) by rw[Qk (eP Fq) ⟨v93,Ka⟩ (x1.bN++ [top]),List.set_set,mH]) ?_;refine go ?_;refine St.dg ?_;subst hE1;refine St.mB [row v76 200 3 (x1.bx++ [(⟨rule,lex,kv,kids⟩:rR)]).length (rows lR (x1.bx++ [(⟨rule,lex,kv,kids⟩:rR)])),row (⟨v93,Ka⟩:aY).1 3 1 (x1.bN++ [top]).length (rows aL (x1.bN++ [top])),row kv.1 3 1 kids.length (rows aL (bC kids))] (ax (iV 3) x1.bx++(ax (dx 200 3) (gz.eraseIdx i)++ax (ez 3) mT)) (ax (dx 200 3) (gz.set i (⟨x1.frm,x1.tqo,x1.cQ,x1.gr,⟨v76,te⟩,x1.bx++ [⟨rule,lex,kv,kids⟩],⟨v93,Ka⟩,x1.bN++ [top]⟩:cX))++ax (ez 3) (mT)) (Ql 200 3 (ax (ez 3) mT) (⟨x1.frm,x1.tqo,x1.cQ,x1.gr,⟨v76,te⟩,x1.bx++ [⟨rule,lex,kv,kids⟩],⟨v93,Ka⟩,x1.bN++ [top]⟩:cX) rfl Fq) ?_;refine St.eT (aI (λx:cX=>aG x.gr) (gz.set i (⟨x1.frm,x1.tqo,x1.cQ,x1.gr,⟨v76,te⟩,x1.bx++ [⟨rule,lex,kv,kids⟩],⟨v93,Ka⟩,x1.bN++ [top]⟩:cX))) [aI (λx:cX=>aG x.gr) gz] (λρ h y hy=>by rcases jx hy with hy|rfl;exact h _ (aU ..) y hy;exact h _ (aU ..) x1 zx) ?_;refine St.rV [] (aF (aI (λx:cX=>aG x.gr) (gz.set i (⟨x1.frm,x1.tqo,x1.cQ,x1.gr,⟨v76,te⟩,x1.bx++ [⟨rule,lex,kv,kids⟩],⟨v93,Ka⟩,x1.bN++ [top]⟩:cX)))::aX bp (.cells (mS g w1 w2 f n vi.1 d.nB.1 mb).toArray 180 (0,0))::aX mb (dh mkStr (m1))::row vi.1 186 6 (gz.set i (⟨x1.frm,x1.tqo,x1.cQ,x1.gr,⟨v76,te⟩,x1.bx++ [⟨rule,lex,kv,kids⟩],⟨v93,Ka⟩,x1.bN++ [top]⟩:cX)).length (rows dX (gz.set i (⟨x1.frm,x1.tqo,x1.cQ,x1.gr,⟨v76,te⟩,x1.bx++ [⟨rule,lex,kv,kids⟩],⟨v93,Ka⟩,x1.bN++ [top]⟩:cX)))::row d.nB.1 58 1 (mT).length (rows cN ((mT).map Prod.fst))::(ax (dx 200 3) (gz.set i (⟨x1.frm,x1.tqo,x1.cQ,x1.gr,⟨v76,te⟩,x1.bx++ [⟨rule,lex,kv,kids⟩],⟨v93,Ka⟩,x1.bN++ [top]⟩:cX))++ax (ez 3) (mT))) ?_
     have MA:=KZ (x3:=(⟨x1.frm,x1.tqo,x1.cQ,x1.gr,⟨v76,te⟩,x1.bx++ [⟨rule,lex,kv,kids⟩],⟨v93,Ka⟩,x1.bN++ [top]⟩:cX)) (w:=(⟨rule,lex,kids⟩:uz)) hM (by show(⟨_,_,_⟩:kZ)=⟨_,_,_⟩;congr 1;exact cC;show x1.bN++ [top]=if s8 (⟨rule,lex,kids⟩:uz)∈x1.bN then x1.bN else x1.bN++ [s8 (⟨rule,lex,kids⟩:uz)];rw[←Up,aA oS]) (λt ht=>by first|exact hM.bN x1 zx t ht|(rcases ba.1 ht with ht|ht;exact hM.bN x1 zx t ht;rw[bJ.1 ht,Up];unfold s8 bP;dsimp only;split<;>omega)) vi
     exact⟨⟨vi,gz.set i (⟨x1.frm,x1.tqo,x1.cQ,x1.gr,⟨v76,te⟩,x1.bx++ [⟨rule,lex,kv,kids⟩],⟨v93,Ka⟩,x1.bN++ [top]⟩:cX),d.nB,mT,m1⟩,MA.1,rfl,MA.2,hM.Gp,hM.Z2,rfl⟩
    ·have oS:top∈x1.bN:=by simpa using h85
     subst mH;refine go ?_;refine St.dg ?_;subst hE1;refine St.mB [row v76 200 3 (x1.bx++ [(⟨rule,lex,kv,kids⟩:rR)]).length (rows lR (x1.bx++ [(⟨rule,lex,kv,kids⟩:rR)])),row x1.tv.1 3 1 (x1.bN).length (rows aL (x1.bN)),row kv.1 3 1 kids.length (rows aL (bC kids))] (ax (iV 3) x1.bx++(ax (dx 200 3) (gz.eraseIdx i)++ax (ez 3) mT)) (ax (dx 200 3) (gz.set i (⟨x1.frm,x1.tqo,x1.cQ,x1.gr,⟨v76,te⟩,x1.bx++ [⟨rule,lex,kv,kids⟩],x1.tv,x1.bN⟩:cX))++ax (ez 3) (mT)) (Ql 200 3 (ax (ez 3) mT) (⟨x1.frm,x1.tqo,x1.cQ,x1.gr,⟨v76,te⟩,x1.bx++ [⟨rule,lex,kv,kids⟩],x1.tv,x1.bN⟩:cX) rfl Fq) ?_;refine St.eT (aI (λx:cX=>aG x.gr) (gz.set i (⟨x1.frm,x1.tqo,x1.cQ,x1.gr,⟨v76,te⟩,x1.bx++ [⟨rule,lex,kv,kids⟩],x1.tv,x1.bN⟩:cX))) [aI (λx:cX=>aG x.gr) gz] (λρ h y hy=>by rcases jx hy with hy|rfl;exact h _ (aU ..) y hy;exact h _ (aU ..) x1 zx) ?_;refine St.rV [] (aF (aI (λx:cX=>aG x.gr) (gz.set i (⟨x1.frm,x1.tqo,x1.cQ,x1.gr,⟨v76,te⟩,x1.bx++ [⟨rule,lex,kv,kids⟩],x1.tv,x1.bN⟩:cX)))::aX bp (.cells (mS g w1 w2 f n vi.1 d.nB.1 mb).toArray 180 (0,0))::aX mb (dh mkStr (m1))::row vi.1 186 6 (gz.set i (⟨x1.frm,x1.tqo,x1.cQ,x1.gr,⟨v76,te⟩,x1.bx++ [⟨rule,lex,kv,kids⟩],x1.tv,x1.bN⟩:cX)).length (rows dX (gz.set i (⟨x1.frm,x1.tqo,x1.cQ,x1.gr,⟨v76,te⟩,x1.bx++ [⟨rule,lex,kv,kids⟩],x1.tv,x1.bN⟩:cX)))::row d.nB.1 58 1 (mT).length (rows cN ((mT).map Prod.fst))::(ax (dx 200 3) (gz.set i (⟨x1.frm,x1.tqo,x1.cQ,x1.gr,⟨v76,te⟩,x1.bx++ [⟨rule,lex,kv,kids⟩],x1.tv,x1.bN⟩:cX))++ax (ez 3) (mT))) ?_
     have MA:=KZ (x3:=(⟨x1.frm,x1.tqo,x1.cQ,x1.gr,⟨v76,te⟩,x1.bx++ [⟨rule,lex,kv,kids⟩],x1.tv,x1.bN⟩:cX)) (w:=(⟨rule,lex,kids⟩:uz)) hM (by show(⟨_,_,_⟩:kZ)=⟨_,_,_⟩;congr 1;exact cC;show x1.bN=if s8 (⟨rule,lex,kids⟩:uz)∈x1.bN then x1.bN else x1.bN++ [s8 (⟨rule,lex,kids⟩:uz)];rw[←Up,aB oS]) (λt ht=>by first|exact hM.bN x1 zx t ht|(rcases ba.1 ht with ht|ht;exact hM.bN x1 zx t ht;rw[bJ.1 ht,Up];unfold s8 bP;dsimp only;split<;>omega)) vi
     exact⟨⟨vi,gz.set i (⟨x1.frm,x1.tqo,x1.cQ,x1.gr,⟨v76,te⟩,x1.bx++ [⟨rule,lex,kv,kids⟩],x1.tv,x1.bN⟩:cX),d.nB,mT,m1⟩,MA.1,rfl,MA.2,hM.Gp,hM.Z2,rfl⟩
structure PF {α:Type}(f:α→α→Int)(k:α→List Int):Prop where
 app:∀a b u v,pM (k a++u) (k b++v)=true↔f a b<0∨(f a b=0∧pM u v=true)
 eq:∀a b,f a b=0↔a=b
theorem vK {a b:Int}:lG a b<0↔a<b:=by unfold lG;split;omega;split<;>omega
theorem hP {a b:Int}:lG a b=0↔a=b:=by unfold lG;split;omega;split<;>omega
theorem qM {a b:Int}:sL a b<0↔a<0∨(a=0∧b<0):=by unfold sL;split<;>omega
theorem nN {a b:Int}:sL a b=0↔a=0∧b=0:=by unfold sL;split<;>omega
theorem PF.int:PF lG (λa:Int=>[a]):=⟨λa b u v=>by
 show pM (a::u) (b::v)=true↔_
 rw[pM,vK,hP];simp,λa b=>hP⟩
theorem PF.pair {α β:Type}{f:α→α→Int}{g:β→β→Int}{k:α→List Int}{h:β→List Int}(F:PF f k)(G:PF g h):PF (λx y:α×β=>sL (f x.1 y.1) (g x.2 y.2)) (λx=>k x.1++h x.2):=⟨λa b u v=>by
 rw[cg,cg,F.app,G.app,qM,nN]
 constructor
 ·rintro (h1|⟨h1,h2|⟨h2,h3⟩⟩)
  ·exact .inl (.inl h1)
  ·exact .inl (.inr ⟨h1,h2⟩)
  ·exact .inr ⟨⟨h1,h2⟩,h3⟩
 ·rintro ((h1|⟨h1,h2⟩)|⟨⟨h1,h2⟩,h3⟩)
  ·exact .inl h1
  ·exact .inr ⟨h1,.inl h2⟩
  ·exact .inr ⟨h1,.inr ⟨h2,h3⟩⟩,λa b=>by
 rw[nN,F.eq,G.eq]
 exact⟨λ⟨h1,h2⟩=>Prod.ext h1 h2,λh=>by rw[h];exact⟨rfl,rfl⟩⟩⟩
theorem PF.list {α:Type}{f:α→α→Int}{k:α→List Int}(F:PF f k):∀(l m:List α) (u v:List Int),l.length=m.length→(pM (l.flatMap k++u) (m.flatMap k++v)=true↔je f l m<0∨(je f l m=0∧pM u v=true))
 | [],[],u,v,_=>by simp[je]
 |a::l,b::m,u,v,h=>by
  rw[mV,mV,cg,cg,F.app,PF.list F l m u v (by simpa using h),je]
  by_cases e:f a b=0
  ·rw[aA (λx=>x e),e]
   exact⟨λh=>h.elim (λx=>absurd x (by decide)) (λx=>x.2),λh=> .inr ⟨rfl,h⟩⟩
  ·rw[aB e]
   exact⟨λh=>h.elim .inl (λx=>absurd x.1 e),λh=>h.elim .inl (λx=>absurd x.1 e)⟩
 | [],_::_,_,_,h=>by cases h
 |_::_,[],_,_,h=>by cases h
theorem Ir {α:Type}{f:α→α→Int}(he:∀a b,f a b=0↔a=b):∀l m:List α,je f l m=0↔l=m
 | [],[]=>by simp[je]
 | [],_::_=>by simp[je]
 |_::_,[]=>by simp[je]
 |a::l,b::m=>by
  rw[je]
  by_cases e:f a b=0
  ·rw[aA (λx=>x e),Ir he l m,(he a b).1 e];simp
  ·rw[aB e]
   exact⟨λx=>absurd x e,λx=>by rw[List.cons.injEq]at x;exact absurd ((he a b).2 x.1) e⟩
theorem PF.lens {α:Type}{f:α→α→Int}{k:α→List Int}(F:PF f k):PF (λl m:List α=>sL (lG l.length m.length) (je f l m)) (λl=>(l.length:Int)::l.flatMap k):=⟨λl m u v=>by
 show pM ((l.length:Int)::(l.flatMap k++u)) ((m.length:Int)::(m.flatMap k++v))=true↔_
 rw[pM,qM,nN,vK,hP,Bool.or_eq_true,wF,fS,fS]
 by_cases e:(l.length:Int)=m.length
 ·rw[F.list l m u v (by omega)]
  constructor
  ·rintro (h|⟨_,h|h⟩)
   ·exact .inl (.inl h)
   ·exact .inl (.inr ⟨e,h⟩)
   ·exact .inr ⟨⟨e,h.1⟩,h.2⟩
  ·rintro ((h|h)|h)
   ·exact .inl h
   ·exact .inr ⟨e,.inl h.2⟩
   ·exact .inr ⟨e,.inr ⟨h.1.2,h.2⟩⟩
 ·constructor
  ·rintro (h|⟨h,_⟩)
   ·exact .inl (.inl h)
   ·exact absurd h e
  ·rintro ((h|h)|h)
   ·exact .inl h
   ·exact absurd h.1 e
   ·exact absurd h.1.1 e,λl m=>by
 rw[nN,hP,Ir F.eq]
 exact⟨λh=>h.2,λh=>by rw[h];exact⟨rfl,rfl⟩⟩⟩
theorem PF.node:PF wX (λx:My=>([x.1]++((x.2.length:Int)::x.2.flatMap λp=>[p.1]++ [p.2])):My→List Int):=PF.pair PF.int (PF.lens (PF.pair PF.int PF.int))
abbrev kN (x:My):List Int:=[x.1]++((x.2.length:Int)::x.2.flatMap λp=>[p.1]++ [p.2])
theorem Qm:∀l m:dF,pM (l.flatMap kN) (m.flatMap kN)=true↔je wX l m<0
 | [],[]=>by simp[je,pM]
 | [],b::m=>by rw[mV];simp[je,pM]
 |a::l,[]=>by rw[mV];simp[je,pM]
 |a::l,b::m=>by
  rw[mV,mV,PF.node.app,Qm l m,je]
  by_cases e:wX a b=0
  ·rw[aA (λx=>x e),e]
   exact⟨λh=>h.elim (λx=>absurd x (by decide)) (λx=>x.2),λh=> .inr ⟨rfl,h⟩⟩
  ·rw[aB e]
   exact⟨λh=>h.elim id (λx=>absurd x.1 e),.inl⟩
def kE (x:p5):List Int:=[(x.frm:Int)]++([(x.tqo:Int)]++([(x.cQ:Int)]++x.gr.flatMap kN))
theorem DL (x y:p5):xH x y<0↔pM (kE x) (kE y)=true:=by
 unfold kE xH;rw[PF.int.app,PF.int.app,PF.int.app,qM,qM,qM,Qm]
theorem ZN (x y:p5):xH x y=0↔x=y:=by
 unfold xH;rw[nN,nN,nN,hP,hP,hP,Ir PF.node.eq]
 cases x;cases y
 simp only[p5.mk.injEq,Int.natCast_inj]
theorem Kb (x:p5):¬xH x x<0:=by rw[DL,oq];decide
theorem Bq {x y z:p5}(h:xH x y<0)(k:xH y z<0):xH x z<0:=by rw[DL]at*;exact qV h k
theorem It {x y z:List Int}(h:¬pM x y=true)(k:¬pM y z=true):¬pM x z=true:=λc=>by
 rcases x9 y z with h1|h1|h1
 ·exact k h1
 ·subst h1;exact h c
 ·exact h (qV c h1)
theorem zI {x y z:p5}(h:¬xH x y<0)(k:¬xH y z<0):¬xH x z<0:=by rw[DL]at*;exact It h k
theorem ZO {x y:List Int}(h:¬pM x y=true)(k:¬pM y x=true):x=y:=by
 rcases x9 x y with h1|h1|h1
 ·exact absurd h1 h
 ·exact h1
 ·exact absurd h1 k
theorem Uq {x y:p5}(h:¬xH x y<0)(k:¬xH y x<0):xH x y=0:=by
 rcases Int.lt_trichotomy (xH x y) 0 with h1|h1|h1
 ·exact absurd h1 h
 ·exact h1
 ·rw[DL]at h k
  have:=ZO h k
  -- the lists are equal,so ag9 comes ahead of the other;then all parts are equal
  exfalso
  have e:∀a b:p5,kE a=kE b→¬0<xH a b:=by
   intro a b Gq;unfold kE at Gq;rw[Aw,Aw,Aw,Aw,Aw,Aw,List.cons.injEq,List.cons.injEq,List.cons.injEq]at Gq;obtain⟨h1,h2,h3,h4⟩:=Gq
   have hg:je wX a.gr b.gr≤0:=by
    refine Int.not_lt.1 λnc=> ?_
    have gen:∀l m:dF,l.flatMap kN=m.flatMap kN→je wX l m=0:=by
     intro l
     induction l with
     |nil=>intro m hm;cases m with
      |nil=>rfl
      |cons b m=>rw[mV]at hm;cases hm
     |cons a l ih=>
      intro m hm
      cases m with
      |nil=>rw[mV]at hm;cases hm
      |cons b m=>
       rw[mV,mV]at hm
       have n1:¬wX a b<0:=λhh=>by
        have:=(PF.node.app a b (l.flatMap kN) (m.flatMap kN)).2 (.inl hh)
        rw[hm,oq]at this;cases this
       have n2:¬wX b a<0:=λhh=>by
        have:=(PF.node.app b a (m.flatMap kN) (l.flatMap kN)).2 (.inl hh)
        rw[hm,oq]at this;cases this
       have tr:∀x y:My,¬wX x y<0→¬wX y x<0→wX x y=0:=by
        intro x y p q;unfold wX at p q⊢;rw[qM,qM,vK,hP,vK,hP]at p q;rw[nN,nN,hP,hP]
        have t1:x.1=y.1:=by omega
        have t2:(x.2.length:Int)=y.2.length:=by omega
        refine⟨t1,t2,?_⟩
        have p3:¬je FX x.2 y.2<0:=by omega
        have q3:¬je FX y.2 x.2<0:=by omega
        clear p q t1
        generalize x.2=u at*
        generalize y.2=v at*
        induction u generalizing v with
        |nil=>cases v with
         |nil=>rfl
         |cons _ _=>simp at t2;omega
        |cons c u ih=>
         cases v with
         |nil=>simp at t2;omega
         |cons d v=>
          rw[je]at p3 q3⊢
          have kk:FX c d=0:=by
           have p4:¬FX c d<0:=λhh=>p3 (by rw[aB (by omega)];exact hh)
           have q4:¬FX d c<0:=λhh=>q3 (by rw[aB (by omega)];exact hh)
           unfold FX at p4 q4⊢;rw[qM,vK,hP,vK]at p4 q4
           rw[nN,hP,hP];omega
          have kk2:c=d:=(PF.pair PF.int PF.int).eq c d|>.1 kk
          subst kk2;rw[aA (λx=>x kk)]at p3 q3⊢;exact ih v (by simpa using t2) p3 q3
       have e0:=tr a b n1 n2
       have e1:=(PF.node.eq a b).1 e0
       subst e1;rw[je,aA (λx=>x e0)];exact ih m (List.append_cancel_left hm)
    have:=gen a.gr b.gr h4
    omega
   unfold xH;rw[hP.2 h1,hP.2 h2,hP.2 h3]
   show ¬0<je wX a.gr b.gr
   omega
  exact e x y this h1
theorem vL {α:Type}(f:α→α→Int)(a:α):∀l:List α,(MJ f a l).Perm (a::l)
 | []=> .refl _
 |b::l=>by
  rw[MJ];split
  ·exact .refl _
  ·exact((vL f a l).cons b).trans (.swap _ _ _)
theorem jE {α:Type}(f:α→α→Int):∀l:List α,(US f l).Perm l
 | []=> .refl _
 |a::l=>(vL f a _).trans ((jE f l).cons a)
theorem w9 {α:Type}{f:α→α→Int}{Z:α→Prop}(oS:∀a b c,Z a→Z b→Z c→¬f a b<0→¬f b c<0→¬f a c<0)(has:∀a b,Z a→Z b→f a b<0→¬f b a<0)(a:α)(ha:Z a):∀l:List α,(∀x∈l,Z x)→l.Pairwise (λx y=>¬f y x<0)→(MJ f a l).Pairwise (λx y=>¬f y x<0)
 | [],_,_=>Dy _ _
 |b::l,hz,h=>by
  have hb:=hz b (by simp)
  rw[MJ];split
  ·rename_i c
   refine List.Pairwise.cons (λx hx=> ?_) h
   rcases cD.1 hx with rfl|hx
   ·exact has _ _ ha hb c
   ·exact oS x b a (hz x (by simp[hx])) hb ha ((ib.1 h).1 x hx) (has _ _ ha hb c)
  ·rename_i c
   refine List.Pairwise.cons (λx hx=> ?_) (w9 oS has a ha l (λx hx=>hz x (by simp[hx])) (ib.1 h).2)
   rcases cD.1 ((vL f a l).mem_iff.1 hx)with rfl|hx
   ·exact c
   ·exact(ib.1 h).1 x hx
theorem wA {α:Type}{f:α→α→Int}{Z:α→Prop}(oS:∀a b c,Z a→Z b→Z c→¬f a b<0→¬f b c<0→¬f a c<0)(has:∀a b,Z a→Z b→f a b<0→¬f b a<0):∀l:List α,(∀x∈l,Z x)→(US f l).Pairwise (λx y=>¬f y x<0)
 | [],_=> .nil
 |a::l,hz=>w9 oS has a (hz a (by simp)) _ (λx hx=>hz x (by simp[(jE f l).mem_iff.1 hx])) (wA oS has l λx hx=>hz x (by simp[hx]))
theorem Qn {its:List kZ}(hd:(its.map λx=>ea x.ed).Nodup){l:List Nat}(hp:l.Perm (List.range its.length))(hs:l.Pairwise (λa b=>¬xH (its.getD b fQ).ed (its.getD a fQ).ed<0)):l=kM its:=by
 have h1:=jE (λi j=>xH (its.getD i fQ).ed (its.getD j fQ).ed) (List.range its.length)
 have h2:=wA (f:=λi j=>xH (its.getD i fQ).ed (its.getD j fQ).ed) (Z:=λ_=>True) (λa b c _ _ _=>zI) (λa b _ _ h k=>Kb _ (Bq h k)) (List.range its.length) (λ_ _=>trivial)
 refine(hp.trans h1.symm).eq_of_pairwise (λa b ha hb h3 h4=> ?_) hs h2
 have ha:=cy.1 (hp.mem_iff.1 ha)
 have hb:=cy.1 (h1.mem_iff.1 hb)
 have e:=(ZN _ _).1 (Uq h3 h4)
 refine Decidable.byContradiction λfP=> ?_
 have hg:∀i,i<its.length→(its.map λx=>ea x.ed)[i]?=some (ea (its.getD i fQ).ed):=λi hi=>by
  rw[bE,ak,bO hi];rfl
 refine fP ?_;exact(List.getElem?_inj (l:=its.map λx=>ea x.ed) (by rw[aQ];exact ha) hd).1 (by rw[hg a ha,hg b hb,e])
theorem Qo (a b:Int):o8 a b=lG a b:=rfl
def MV:List Int→Int
 | []=>0
 |a::l=>sL a (MV l)
theorem Kc (a:Int):sL a 0=a:=by unfold sL;split;omega;rfl
theorem Br {l:List Int}{k:Nat}{x:Int}(h:l[k]?=some x):MV (l.drop k)=if x=0 then MV (l.drop (k+1))else x:=by rw[an h];rfl
theorem oB (a b:Int): -1≤lG a b∧lG a b≤1:=by unfold lG;split;omega;split<;>omega
theorem Qp {a b:Int}(h: -1≤a∧a≤1)(k: -1≤b∧b≤1): -1≤sL a b∧sL a b≤1:=by unfold sL;split<;>omega
theorem zJ {α:Type}{f:α→α→Int}(h:∀a b,-1≤f a b∧f a b≤1):∀l m:List α,-1≤je f l m∧je f l m≤1
 | [],[]=>by simp[je]
 | [],_::_=>by simp[je]
 |_::_,[]=>by simp[je]
 |a::l,b::m=>by rw[je];split;exact h a b;exact zJ h l m
theorem Qq (a b:Int×Int): -1≤FX a b∧FX a b≤1:=Qp (oB _ _) (oB _ _)
theorem ZP (a b:My): -1≤wX a b∧wX a b≤1:=Qp (oB _ _) (Qp (oB _ _) (zJ Qq _ _))
theorem afM {x:Int}(h: -1≤x∧x≤1):aL.wf x:=by show bP x;unfold bP;omega
theorem DM {l:List Int}(h:∀x∈l,-1≤x∧x≤1):∀x∈l,aL.wf x:=λx hx=>afM (h x hx)
theorem oC {α:Type}{f:α→α→Int}{l m:List α}{k:Nat}{x y:α}(hx:l[k]?=some x)(hy:m[k]?=some y):je f (l.drop k) (m.drop k)=if f x y≠0 then f x y else je f (l.drop (k+1)) (m.drop (k+1)):=by rw[an hx,an hy];rfl
theorem zK {α:Type}{f:α→α→Int}{l m:List α}{k:Nat}{x:α}(hx:l[k]?=some x)(hm:m.length≤k):je f (l.drop k) (m.drop k)=1:=by rw[an hx,fX hm];rfl
theorem vM {α:Type}{f:α→α→Int}{l m:List α}{k:Nat}{y:α}(hy:m[k]?=some y)(hl:l.length≤k):je f (l.drop k) (m.drop k)= -1:=by rw[an hy,fX hl];rfl
theorem zL {α:Type}{f:α→α→Int}{l m:List α}{k:Nat}(hl:l.length≤k)(hm:m.length≤k):je f (l.drop k) (m.drop k)=0:=by rw[fX hl,fX hm];rfl
theorem th (v0:Value)(p:List Int):dA Tryz.prog 99 #[v0] [sl aL v0 p] (iv (MV p)):=by
 refine dA.na (args:=[v0]) 18 Tryz.func99 rfl Tryz.ntmps99 rfl (λc=> ?_);refine go ?_;refine St.wf v0 (λvh hlen=> ?_);refine g18 ?_;refine St.lS (ι:=Nat) (λk T=>(8,iv k)::T) (λk=>k≤p.length∧MV p=MV (p.drop k)) (λk=>p.length-k) 0 (aC.cons 3 rfl (aC.cons 6 rfl (aC.cons 7 rfl aC.nil))) ⟨aR _,rfl⟩ ?_;intro k fy;obtain⟨hk,hv⟩:=fy;refine g6 ?_;refine St.cq (λh9=> ?_) (λh9=> ?_)
 ·obtain⟨x,hx⟩:=aE (show k<p.length by omega)
  refine g18 ?_;refine St.cq (λDp=> ?_) (λDp=> ?_)
  ·refine g12 ?_
   refine St.rV [_] [] ?_;exact ie (by rw[hv,Br hx,aA Dp])
  ·refine g8 ?_
   refine St.aS (k+1) ⟨by omega,by rw[hv,Br hx,aB (by omega)]⟩
 ·refine g12 ?_
  refine St.rV [_] [] ?_;exact ie (by rw[hv,fX (by omega)];rfl)
theorem AW (v0 v1:Value)(a b:List Int):dA Tryz.prog 101 #[v0,v1] [sl aL v0 a,sl aL v1 b] (iv (je lG a b)):=by
 refine dA.mZ (args:=[v0,v1]) 36 Tryz.func101 rfl Tryz.ntmps101 rfl (λc=> ?_);refine go ?_;refine St.wf v0 (λUr Kd=> ?_);refine St.wf v1 (λZQ Qs=> ?_);refine g13 ?_;refine St.lS (ι:=Nat) (λk T=>(11,iv k)::T) (λk=>k≤a.length∧k≤b.length∧je lG a b=je lG (a.drop k) (b.drop k)) (λk=>a.length-k) 0 (aC.cons 0 rfl (aC.cons 1 rfl (aC.cons 9 rfl (aC.cons 10 rfl aC.nil)))) ⟨aR _,aR _,rfl⟩ ?_;intro k fy;obtain⟨hk,rf,hv⟩:=fy;refine g6 ?_;refine St.cq (λQT=> ?_) (λQT=> ?_)
 ·obtain⟨x,hx⟩:=aE (show k<a.length by omega)
  refine g22 ?_;refine St.cq (λpc=> ?_) (λpc=> ?_)
  ·refine g12 ?_
   refine St.rV [_] [] ?_;exact ie (by rw[hv,zK hx (by omega)])
  ·obtain⟨y,hy⟩:=aE (show k<b.length by omega)
   refine g15 ?_;refine St.ee (Ev.call (dw _ _) pt (.bH rfl rfl)) ?_;refine g9 ?_;refine St.cq (λN2=> ?_) (λN2=> ?_)
   ·refine g12 ?_
    refine St.rV [_] [] ?_;exact ie (by rw[hv,oC hx hy,aB (by rw[←Qo];exact N2)];rfl)
   ·refine g8 ?_
    refine St.aS (k+1) ⟨by omega,by omega,by rw[hv,oC hx hy,aA (λh=>h (by rw[←Qo];omega))]⟩
 ·refine g15 ?_
  refine St.cq (λX8=> ?_) (λX8=> ?_)
  ·refine g7 ?_
   refine St.rV [_] [] ?_;exact ie (by obtain⟨y,hy⟩:=aE (show k<b.length by omega);rw[hv,vM hy (by omega)])
  ·refine g8 ?_
   refine St.rV [_] [] ?_;exact ie (by rw[hv,zL (by omega) (by omega)])
theorem DN (x y:dL):dA Tryz.prog 173 #[Value.agg #[iv x.cT,iv x.tqo],Value.agg #[iv y.cT,iv y.tqo]] [] (iv (FX (eR x) (eR y))):=by
 refine dA.jz (args:=[Value.agg #[iv x.cT,iv x.tqo],Value.agg #[iv y.cT,iv y.tqo]]) 17 Tryz.func173 rfl Tryz.ntmps173 rfl (λc=> ?_);refine g2 ?_;refine St.cz (.mk rfl) rfl (λb2=> ?_);refine St.cz (.mk rfl) rfl (λb3=> ?_);refine g4 ?_;refine St.sZ [] mixed (λnp ns=> ?_);refine SW.gd 0 ?_;refine SW.gd 1 ?_;refine SW.gd 2 ?_;refine SW.gd 3 ?_;refine SW.dd 4 rfl (λ_=>Ev.call (dw _ _) pt (.bH rfl rfl)) ?_;refine SW.gd 5 ?_;refine SW.gd 6 ?_;refine SW.gd 7 ?_;refine SW.gd 8 ?_;refine SW.dd 9 rfl (λ_=>Ev.call (dw _ _) pt (.bH rfl rfl)) ?_;refine SW.t1 10 ?_;refine St.gb rfl (.bH rfl rfl) cI eJ jA rfl rfl (by simp[Value.cells]) rfl rfl (λIL=> ?_);refine St.aO (.slice (some ⟨IL,0,none⟩) 2 2) (show _=([(lG x.cT y.cT),(lG x.tqo y.tqo)]).length from rfl) (show _=rows aL ([(lG x.cT y.cT),(lG x.tqo y.tqo)])from rfl) ?_;refine g2 ?_;refine SW.go ?_;refine SW.t1 11 ?_;refine St.ee (Ev.xh (th (.slice (some ⟨IL,0,none⟩) 2 2) [(lG x.cT y.cT),(lG x.tqo y.tqo)]) Tg (.bB rfl) (cw.row cw.nil rfl rfl rfl (DM (λx hx=>by simp only[List.mem_cons,List.not_mem_nil,or_false]at hx;rcases hx with rfl|rfl;exact oB _ _;exact oB _ _)))) ?_;refine g2 ?_;refine SW.go ?_;refine SW.gd 12 ?_;refine SW.dn ?_;refine g2 ?_;refine St.rV [_] [] ?_;exact ie (show sL _ (sL _ 0)=_ by rw[Kc];rfl)
theorem AX (x y:dL):dA Tryz.prog 173 ([Value.agg #[iv x.cT,iv x.tqo],Value.agg #[iv y.cT,iv y.tqo]]++ []).toArray [] (iv (FX (eR x) (eR y))):=DN x y
theorem AY (v0 v1:Value)(a b:List dL):dA Tryz.prog 172 #[v0,v1,.func (.func 173) #[] #[]] [sl aq v0 a,sl aq v1 b] (iv (je FX (a.map eR) (b.map eR))):=by
 refine dA.mZ (args:=[v0,v1,.func (.func 173) #[] #[]]) 39 Tryz.func172 rfl Tryz.ntmps172 rfl (λc=> ?_);refine go ?_;refine St.wf v0 (λUr Kd=> ?_);refine St.wf v1 (λZQ Qs=> ?_);refine g13 ?_;refine St.lS (ι:=Nat) (λk T=>(13,iv k)::T) (λk=>k≤a.length∧k≤b.length∧je FX (a.map eR) (b.map eR)=je FX ((a.map eR).drop k) ((b.map eR).drop k)) (λk=>a.length-k) 0 (aC.cons 0 rfl (aC.cons 1 rfl (aC.cons 2 rfl (aC.cons 11 rfl (aC.cons 12 rfl aC.nil))))) ⟨aR _,aR _,rfl⟩ ?_;intro k fy;obtain⟨hk,rf,hv⟩:=fy;refine g6 ?_;refine St.cq (λDp=> ?_) (λDp=> ?_)
 ·obtain⟨x,hx⟩:=aE (show k<a.length by omega)
  have mH:(a.map eR)[k]?=some (eR x):=by rw[bE,hx];rfl
  refine g8 ?_;refine St.ee (Ev.jj (.mk rfl) hx kG trivial dE iY.eq) ?_;refine St.al (λb8=> ?_);refine go ?_;refine St.sA (.mk rfl) (.mk rfl) dE ?_ (h1:=(eO.2 λu hu=>aq.one x u hu));refine g11 ?_;refine St.cq (λAJ=> ?_) (λAJ=> ?_)
  ·refine g12 ?_
   refine St.rV [_] [] ?_;exact ie (by rw[hv,zK mH (by rw[aQ];omega)])
  ·obtain⟨y,hy⟩:=aE (show k<b.length by omega)
   have hy2:(b.map eR)[k]?=some (eR y):=by rw[bE,hy];rfl
   refine g7 ?_;refine St.ee (Ev.jj (.mk rfl) hy kG trivial dE iY.eq) ?_;refine St.al (λb9=> ?_);refine St.sA (.mk rfl) (.mk rfl) dE ?_ (h1:=(eO.2 λu hu=>aq.one y u hu));refine g6 ?_;refine St.slot 27 (Value.agg #[iv x.cT,iv x.tqo]) rfl rfl ?_;refine go ?_;refine St.slot 28 (Value.agg #[iv y.cT,iv y.tqo]) rfl rfl ?_;refine St.ee (Ev.j5 (AX x y) adM (.mk rfl) (.bH rfl rfl)) ?_;refine g9 ?_;refine St.cq (λuq=> ?_) (λuq=> ?_)
   ·refine g12 ?_
    refine St.rV [_] [] ?_;exact ie (by rw[hv,oC mH hy2,aB uq])
   ·refine g8 ?_
    refine St.aS (k+1) ⟨by omega,by omega,by rw[hv,oC mH hy2,aA (λh=>h uq)]⟩
 ·refine g15 ?_
  refine St.cq (λHu=> ?_) (λHu=> ?_)
  ·refine g7 ?_
   refine St.rV [_] [] ?_;exact ie (by obtain⟨y,hy⟩:=aE (show k<(b.map eR).length by rw[aQ];omega);rw[hv,vM hy (by rw[aQ];omega)])
  ·refine g8 ?_
   refine St.rV [_] [] ?_;exact ie (by rw[hv,zL (by rw[aQ];omega) (by rw[aQ];omega)])
theorem DP (x y:dW):dA Tryz.prog 171 #[Value.agg #[iv x.type,x.lv.1],Value.agg #[iv y.type,y.lv.1]] [bX x,bX y] (iv (wX (lN x) (lN y))):=by
 refine dA.mZ (args:=[Value.agg #[iv x.type,x.lv.1],Value.agg #[iv y.type,y.lv.1]]) 24 Tryz.func171 rfl Tryz.ntmps171 rfl (λc=> ?_);refine go ?_;refine St.eT (sl aq x.lv.1 x.ah) [bX x] (λρ h=>h _ (aU ..)) ?_;refine St.eT (sl aq y.lv.1 y.ah) [bX y] (λρ h=>h _ (aU ..)) ?_;refine go ?_;refine St.cz (.mk rfl) rfl (λb2=> ?_);refine St.cz (.mk rfl) rfl (λb3=> ?_);refine g4 ?_;refine St.sZ [] mixed (λnp ns=> ?_);refine SW.gd 0 ?_;refine SW.gd 1 ?_;refine SW.gd 2 ?_;refine SW.gd 3 ?_;refine SW.dd 4 rfl (λ_=>Ev.call (dw _ _) pt (.bH rfl rfl)) ?_;refine SW.gd 5 ?_;refine SW.gd 6 ?_;refine SW.gd 7 ?_;refine SW.gd 8 ?_;refine SW.gd 9 ?_;refine SW.gd 10 ?_;refine SW.dd 11 rfl (λ_=>Ev.call (dw _ _) pt (.bH rfl rfl)) ?_;refine SW.gd 12 ?_;refine SW.gd 13 ?_;refine SW.gd 14 ?_;refine SW.gd 15 ?_;refine SW.dd 16 rfl (λ_=>Ev.call (AY x.lv.1 y.lv.1 x.ah y.ah) adN (.eZ rfl rfl rfl)) ?_;refine SW.t1 17 ?_;refine St.gb rfl (.eZ rfl rfl rfl) cI eJ jA rfl rfl (by simp[Value.cells]) rfl rfl (λb22=> ?_);refine St.aO (.slice (some ⟨b22,0,none⟩) 3 3) (show _=([(lG x.type y.type),(lG (x.ah.length:Nat) (y.ah.length:Nat)),(je FX (x.ah.map eR) (y.ah.map eR))]).length from rfl) (show _=rows aL ([(lG x.type y.type),(lG (x.ah.length:Nat) (y.ah.length:Nat)),(je FX (x.ah.map eR) (y.ah.map eR))])from rfl) ?_;refine g2 ?_;refine SW.go ?_;refine SW.t1 18 ?_;refine St.ee (Ev.xh (th (.slice (some ⟨b22,0,none⟩) 3 3) [(lG x.type y.type),(lG (x.ah.length:Nat) (y.ah.length:Nat)),(je FX (x.ah.map eR) (y.ah.map eR))]) Tg (.bB rfl) (cw.row cw.nil rfl rfl rfl (DM (λx hx=>by simp only[List.mem_cons,List.not_mem_nil,or_false]at hx;rcases hx with rfl|rfl|rfl;exact oB _ _;exact oB _ _;exact zJ Qq _ _)))) ?_;refine g2 ?_;refine SW.go ?_;refine SW.gd 19 ?_;refine SW.dn ?_;refine g2 ?_;refine St.rV [_] [] ?_;exact ie (show sL _ (sL _ (sL _ 0))=_ by rw[Kc];unfold wX lN;rw[aQ,aQ])
theorem AZ (x y:dW):dA Tryz.prog 171 ([Value.agg #[iv x.type,x.lv.1],Value.agg #[iv y.type,y.lv.1]]++ []).toArray [bX x,bX y] (iv (wX (lN x) (lN y))):=DP x y
theorem Aa (v0 v1:Value)(a b:List dW):dA Tryz.prog 170 #[v0,v1,.func (.func 171) #[] #[]] [sl bW v0 a,sl bW v1 b,aI bX a,aI bX b] (iv (je wX (a.map lN) (b.map lN))):=by
 refine dA.JQ (args:=[v0,v1,.func (.func 171) #[] #[]]) 39 Tryz.func170 rfl Tryz.ntmps170 rfl (λc=> ?_);refine go ?_;refine St.wf v0 (λUr Kd=> ?_);refine St.wf v1 (λZQ Qs=> ?_);refine g13 ?_;refine St.lS (ι:=Nat) (λk T=>(13,iv k)::T) (λk=>k≤a.length∧k≤b.length∧je wX (a.map lN) (b.map lN)=je wX ((a.map lN).drop k) ((b.map lN).drop k)) (λk=>a.length-k) 0 (aC.cons 0 rfl (aC.cons 1 rfl (aC.cons 2 rfl (aC.cons 11 rfl (aC.cons 12 rfl aC.nil))))) ⟨aR _,aR _,rfl⟩ ?_;intro k fy;obtain⟨hk,rf,hv⟩:=fy;refine g6 ?_;refine St.cq (λDp=> ?_) (λDp=> ?_)
 ·obtain⟨x,hx⟩:=aE (show k<a.length by omega)
  have mH:(a.map lN)[k]?=some (lN x):=by rw[bE,hx];rfl
  refine g8 ?_;refine St.ee (Ev.jj (.mk rfl) hx vq trivial jR iY.eq) ?_;refine St.al (λb8=> ?_);refine go ?_;refine St.sA (.mk rfl) (.mk rfl) jR ?_ (h1:=(eO.2 λu hu=>bW.one x u hu));refine g11 ?_;refine St.cq (λAJ=> ?_) (λAJ=> ?_)
  ·refine g12 ?_
   refine St.rV [_] [] ?_;exact ie (by rw[hv,zK mH (by rw[aQ];omega)])
  ·obtain⟨y,hy⟩:=aE (show k<b.length by omega)
   have hy2:(b.map lN)[k]?=some (lN y):=by rw[bE,hy];rfl
   refine g7 ?_;refine St.ee (Ev.jj (.mk rfl) hy vq trivial jR iY.eq) ?_;refine St.al (λb9=> ?_);refine St.sA (.mk rfl) (.mk rfl) jR ?_ (h1:=(eO.2 λu hu=>bW.one y u hu));refine g6 ?_;refine St.slot 27 (Value.agg #[iv x.type,x.lv.1]) rfl rfl ?_;refine go ?_;refine St.slot 28 (Value.agg #[iv y.type,y.lv.1]) rfl rfl ?_;refine St.cL bX a (x:=x) (ab hx) ?_;refine St.cL bX b (x:=y) (ab hy) ?_;refine St.ee (Ev.j5 (AZ x y) adO (.mk rfl) (.bH rfl rfl)) ?_;refine g9 ?_;refine St.cq (λuq=> ?_) (λuq=> ?_)
   ·refine g12 ?_
    refine St.rV [_] [] ?_;exact ie (by rw[hv,oC mH hy2,aB uq])
   ·refine g8 ?_
    refine St.aS (k+1) ⟨by omega,by omega,by rw[hv,oC mH hy2,aA (λh=>h uq)]⟩
 ·refine g15 ?_
  refine St.cq (λHu=> ?_) (λHu=> ?_)
  ·refine g7 ?_
   refine St.rV [_] [] ?_;exact ie (by obtain⟨y,hy⟩:=aE (show k<(b.map lN).length by rw[aQ];omega);rw[hv,vM hy (by rw[aQ];omega)])
  ·refine g8 ?_
   refine St.rV [_] [] ?_;exact ie (by rw[hv,zL (by rw[aQ];omega) (by rw[aQ];omega)])
theorem Ab (x y:cU):dA Tryz.prog 149 #[au x,au y] [aG x,aG y] (iv (je wX (ar x) (ar y))):=by
 refine dA.mZ (args:=[au x,au y]) 10 Tryz.func149 rfl Tryz.ntmps149 rfl (λc=> ?_);refine go ?_
 refine St.j7 (aG x) (λ_:Unit=>jm x) (λρ h=>⟨(),h⟩) λ_=> ?_
 refine St.cast (H':=[aF (sl bW x.nv.1 x.nodes),aF (aI bX x.nodes),aF (aG x),aF (aG y)]) rfl ?_
 refine St.j7 (aG y) (λ_:Unit=>jm y) (λρ h=>⟨(),h⟩) λ_=> ?_
 refine St.cast (H':=[aF (sl bW y.nv.1 y.nodes),aF (aI bX y.nodes),aF (sl bW x.nv.1 x.nodes),aF (aI bX x.nodes),aF (aG x),aF (aG y)]) rfl ?_;refine go ?_;refine St.cz (.mk rfl) rfl (λb2=> ?_);refine St.cz (.mk rfl) rfl (λb3=> ?_);refine g9 ?_;refine St.ee (Ev.call (Aa x.nv.1 y.nv.1 x.nodes y.nodes) adP (.eZ rfl rfl rfl)) ?_;refine g4 ?_;refine St.rV [_] [] ?_;exact ie rfl
theorem DQ (x y:cX):dA Tryz.prog 127 #[Il x.frm x.tqo x.cQ x.gr.nv.1,Il y.frm y.tqo y.cQ y.gr.nv.1] [aG x.gr,aG y.gr] (iv (xH (bV x).ed (bV y).ed)):=by
 refine dA.mZ (args:=[Il x.frm x.tqo x.cQ x.gr.nv.1,Il y.frm y.tqo y.cQ y.gr.nv.1]) 27 Tryz.func127 rfl Tryz.ntmps127 rfl (λc=> ?_);refine g2 ?_;refine St.cz (.mk rfl) rfl (λb2=> ?_);refine St.cz (.mk rfl) rfl (λb3=> ?_);refine g4 ?_;refine St.sZ [] mixed (λnp ns=> ?_);refine SW.gd 0 ?_;refine SW.gd 1 ?_;refine SW.gd 2 ?_;refine SW.gd 3 ?_;refine SW.dd 4 rfl (λ_=>Ev.call (dw _ _) pt (.bH rfl rfl)) ?_;refine SW.gd 5 ?_;refine SW.gd 6 ?_;refine SW.gd 7 ?_;refine SW.gd 8 ?_;refine SW.dd 9 rfl (λ_=>Ev.call (dw _ _) pt (.bH rfl rfl)) ?_;refine SW.gd 10 ?_;refine SW.gd 11 ?_;refine SW.gd 12 ?_;refine SW.gd 13 ?_;refine SW.dd 14 rfl (λ_=>Ev.call (dw _ _) pt (.bH rfl rfl)) ?_;refine SW.gd 15 ?_;refine SW.dd 16 rfl (λ_=>Ev.gh 1 (.mk rfl) mO trivial jb rfl rfl) ?_;refine SW.slot 21 (au x.gr) rfl rfl ?_;refine SW.gd 17 ?_;refine SW.dd 18 rfl (λ_=>Ev.gh 1 (.mk rfl) mO trivial jb rfl rfl) ?_;refine SW.slot 23 (au y.gr) rfl rfl ?_;refine SW.dd 19 rfl (λ_=>Ev.call (Ab x.gr y.gr) adQ (.bH rfl rfl)) ?_;refine SW.t1 20 ?_;refine St.gb rfl (.om rfl rfl rfl rfl) cI eJ jA rfl rfl (by simp[Value.cells]) rfl rfl (λb25=> ?_);refine St.aO (.slice (some ⟨b25,0,none⟩) 4 4) (show _=([(lG (x.frm:Nat) (y.frm:Nat)),(lG (x.tqo:Nat) (y.tqo:Nat)),(lG (x.cQ:Nat) (y.cQ:Nat)),(je wX (ar x.gr) (ar y.gr))]).length from rfl) (show _=rows aL ([(lG (x.frm:Nat) (y.frm:Nat)),(lG (x.tqo:Nat) (y.tqo:Nat)),(lG (x.cQ:Nat) (y.cQ:Nat)),(je wX (ar x.gr) (ar y.gr))])from rfl) ?_;refine g2 ?_;refine SW.go ?_;refine SW.t1 21 ?_;refine St.ee (Ev.xh (th (.slice (some ⟨b25,0,none⟩) 4 4) [(lG (x.frm:Nat) (y.frm:Nat)),(lG (x.tqo:Nat) (y.tqo:Nat)),(lG (x.cQ:Nat) (y.cQ:Nat)),(je wX (ar x.gr) (ar y.gr))]) Tg (.bB rfl) (cw.row cw.nil rfl rfl rfl (DM (λx hx=>by simp only[List.mem_cons,List.not_mem_nil,or_false]at hx;rcases hx with rfl|rfl|rfl|rfl;exact oB _ _;exact oB _ _;exact oB _ _;exact zJ ZP _ _)))) ?_;refine g2 ?_;refine SW.go ?_;refine SW.gd 22 ?_;refine SW.dn ?_;refine g2 ?_;refine St.rV [_] [] ?_;exact ie (show sL _ (sL _ (sL _ (sL _ 0)))=_ by rw[Kc];rfl)
theorem Iu (b1 bc:Nat)(dQ:aY)(its:List cX)(i j:Nat)(x y:cX)(hx:its[i]?=some x)(hy:its[j]?=some y):dA Tryz.prog 126 #[iv (i:Nat),iv (j:Nat),.pointer (some ⟨b1,0,none⟩)] [oW b1 (.pointer (some ⟨bc,0,none⟩)),oW bc dQ.1,sl dX dQ.1 its,aI (λx:cX=>aG x.gr) its] (iv (xH (bV x).ed (bV y).ed)):=by
 refine dA.JQ (args:=[iv (i:Nat),iv (j:Nat),.pointer (some ⟨b1,0,none⟩)]) 23 Tryz.func126 rfl Tryz.ntmps126 rfl (λc=> ?_);refine go ?_;refine St.eT (aG x.gr) [aI (λx:cX=>aG x.gr) its] (λρ h=>h _ (aU ..) x (ab hx)) ?_;refine St.eT (aG y.gr) [aI (λx:cX=>aG x.gr) its] (λρ h=>h _ (aU ..) y (ab hy)) ?_
 have wI:=ae hx
 have hyl:=ae hy
 refine g5 ?_;refine St.rq mixed (by kernel_rfl) (Mm.drawn _ _) ?_;refine g7 ?_;refine Sq.ee (Ev.Hk (Rr:=dX) (sz:=4) (.mk rfl) hx Tryz.underlying183 trivial Jz (by decide) (by decide)) ?_;refine Sq.slot 13 (Il x.frm x.tqo x.cQ x.gr.nv.1) rfl rfl ?_;refine g7 ?_;refine Sq.ee (Ev.Hk (Rr:=dX) (sz:=4) (.mk rfl) hy Tryz.underlying183 trivial Jz (by decide) (by decide)) ?_;refine Sq.slot 21 (Il y.frm y.tqo y.cQ y.gr.nv.1) rfl rfl ?_;refine Sq.ee (Ev.call (DQ x y) adR (.bH rfl rfl)) ?_;refine g4 ?_;refine St.rV [_] [] ?_;exact ie rfl
structure jH where
 wt:Int
 code:List Int
 tree:nu
structure iq where
 rk:jH
 fA:Nat
 ranks:List Nat
structure wB where
 done:List jH
 next:List iq
 begun:Bool
def rk0:jH:=⟨0,[],.mk 0 0 []⟩
def Ke:iq:=⟨rk0,0,[]⟩
def nO:wB:=⟨[],[],false⟩
abbrev dJ:=List wB
def SY (a b:jH):Int:=sL (lG a.wt b.wt) (je lG a.code b.code)
def vN (q:List iq)(i j:Nat):Bool:=decide (SY (q.getD i Ke).rk (q.getD j Ke).rk<0)
def wc (q:List iq)(i j:Nat):List iq:=(q.set i (q.getD j Ke)).set j (q.getD i Ke)
def Kf:Nat→List iq→Nat→List iq
 |0,q,_=>q
 |f+1,q,j=>if(j-1)/2=j∨vN q j ((j-1)/2)=false then q else Kf f (wc q ((j-1)/2) j) ((j-1)/2)
def p9 (q:List iq)(i n:Nat):Nat:=if 2*i+2<n∧vN q (2*i+2) (2*i+1)=true then 2*i+2 else 2*i+1
def oD:Nat→List iq→Nat→Nat→List iq
 |0,q,_,_=>q
 |f+1,q,i,n=>if n≤2*i+1 then q else if vN q (p9 q i n) i=false then q else oD f (wc q i (p9 q i n)) (p9 q i n) n
def ti (n:Nat):Nat→List iq→List iq
 |0,q=>q
 |k+1,q=>ti n k (oD n q k n)
def Ac (q:List iq)(x:iq):List iq:=Kf (q.length+1) (q++ [x]) q.length
def pA (q:List iq):List iq:=oD (q.length-1) (wc q 0 (q.length-1)) 0 (q.length-1)
structure cH where
 its:List kZ
 rules:List Int
 aN:List Int
def wy0:uz:=⟨0,0,[]⟩
def cH.fA (B:cH)(e w:Nat):uz:=(B.its.getD e fQ).bx.getD w wy0
def vO (get:dJ→Nat→Nat→dJ×Option jH):List (Nat×Nat)→dJ→jH→dJ×Option jH
 | [],st,c=>(st,some c)
 |(k,r)::l,st,c=>match get st k r with
  |(st,none)=>(st,none)
  |(st,some x)=>vO get l st ⟨c.wt+x.wt,c.code++x.code,.mk c.tree.rule c.tree.lex (c.tree.kids++ [x.tree])⟩
def mU (B:cH)(get:dJ→Nat→Nat→dJ×Option jH)(st:dJ)(e w:Nat)(ranks:List Nat):dJ×Option iq:=
 if(B.fA e w).rule<0 then(st,some ⟨⟨B.aN.getD (B.fA e w).lex.toNat 0,[1000+(B.fA e w).lex],.mk (B.fA e w).rule (B.fA e w).lex []⟩,w,ranks⟩)
 else match vO get ((B.fA e w).kids.zip ranks) st ⟨B.rules.getD (B.fA e w).rule.toNat 0,[(B.fA e w).rule],.mk (B.fA e w).rule (B.fA e w).lex []⟩with
  |(st,none)=>(st,none)
  |(st,some x)=>(st,some ⟨x,w,ranks⟩)
def DR (st:dJ)(e:Nat)(q:List iq):dJ:=st.set e ⟨(st.getD e nO).done,q,(st.getD e nO).begun⟩
def Ad (B:cH)(get:dJ→Nat→Nat→dJ×Option jH)(e:Nat)(st:dJ)(w:Nat):dJ:=
 match mU B get st e w (List.replicate (B.fA e w).kids.length 0)with
 |(st,none)=>st
 |(st,some c)=>DR st e ((st.getD e nO).next++ [c])
def zM (B:cH)(get:dJ→Nat→Nat→dJ×Option jH)(e:Nat)(st:dJ):dJ:=
 if(st.getD e nO).begun then st else
  (λst:dJ=>DR st e (ti (st.getD e nO).next.length ((st.getD e nO).next.length/2) (st.getD e nO).next))
   ((List.range (B.its.getD e fQ).bx.length).foldl (Ad B get e) (st.set e ⟨(st.getD e nO).done,(st.getD e nO).next,true⟩))
def Ae (B:cH)(get:dJ→Nat→Nat→dJ×Option jH)(e:Nat)(c:iq):Nat→Nat→dJ→dJ
 |0,_,st=>st
 |m+1,d,st=>
  let st2:=match mU B get st e c.fA (c.ranks.set d (c.ranks.getD d 0+1))with
   |(st,none)=>st
   |(st,some x)=>DR st e (Ac (st.getD e nO).next x)
  if 0<c.ranks.getD d 0 then st2 else Ae B get e c m (d+1) st2
def MW (st:dJ)(e:Nat):dJ:=
 st.set e ⟨(st.getD e nO).done++ [((pA (st.getD e nO).next).getD ((st.getD e nO).next.length-1) Ke).rk],(pA (st.getD e nO).next).take ((st.getD e nO).next.length-1),(st.getD e nO).begun⟩
def Ft (st:dJ)(e:Nat):iq:=(pA (st.getD e nO).next).getD ((st.getD e nO).next.length-1) Ke
def tj (B:cH)(get:dJ→Nat→Nat→dJ×Option jH)(e afN:Nat):Nat→dJ→dJ
 |0,st=>st
 |m+1,st=>if(st.getD e nO).done.length≤afN∧0<(st.getD e nO).next.length then
  tj B get e afN m (Ae B get e (Ft st e) (Ft st e).ranks.length 0 (MW st e))
  else st
def ej (B:cH):Nat→dJ→Nat→Nat→dJ×Option jH
 |0,st,_,_=>(st,none)
 |f+1,st,e,r=>
  let st2:=tj B (ej B f) e r (r+1) (zM B (ej B f) e st)
  (st2,(st2.getD e nO).done[r]?)
def pB (get:dJ→Nat→Nat→dJ×Option jH)(ranks:List Nat):List Nat→Nat→dJ→Option (Nat×jH)→dJ×Option (Nat×jH)
 | [],_,st,b=>(st,b)
 |e::l,i,st,b=>match get st e (ranks.getD i 0)with
  |(st,none)=>pB get ranks l (i+1) st b
  |(st,some x)=>pB get ranks l (i+1) st (match b with
   |none=>some (i,x)
   |some y=>if SY x y.2<0 then some (i,x)else some y)
def tm (get:dJ→Nat→Nat→dJ×Option jH)(full:List Nat):Nat→dJ→List Nat→List nu→List nu
 |0,_,_,out=>out
 |m+1,st,ranks,out=>match pB get ranks full 0 st none with
  |(_,none)=>out
  |(st,some x)=>tm get full m st (ranks.set x.1 (ranks.getD x.1 0+1)) (out++ [x.2.tree])
def bsG (g:ob)(its:List kZ):cH:=⟨its,g.rules.map (·.weight),g.aN.map (·.weight)⟩
def sF (g:ob)(words:List bI)(n:Int):List nu×(Int×Int):=
 if(lC g).1≠0 then([],lC g)else if n<0∨200<n then([],(3,-3))else if(dI g words).2.1≠0 then([],(dI g words).2)
 else(tm (ej (bsG g (dI g words).1.1) 60) (dI g words).1.2 n.toNat (List.replicate (dI g words).1.1.length nO) (List.replicate (dI g words).1.2.length 0) [],(0,0))
structure xK where
 wt:Int
 cv:aY
 code:List Int
 tree:cM
structure kP where
 rk:xK
 fA:Nat
 rv:aY
 ranks:List Nat
structure ir where
 dv:aY
 done:List xK
 nv:aY
 next:List kP
 begun:Bool
def rkC (x:xK):List Value:=[iv x.wt,x.cv.1,iv x.tree.rule,iv x.tree.lex,x.tree.kv.1]
def MX:Rp xK:=⟨5,by decide,rkC,λ_=>True,λ_=>rfl,λx u h=>bL rfl (bL x.cv.2 (bL rfl (bL rfl (bL x.tree.kv.2 λ_ h=>by cases h)))) u h⟩
def chC (x:kP):List Value:=[iv x.rk.wt,x.rk.cv.1,iv x.rk.tree.rule,iv x.rk.tree.lex,x.rk.tree.kv.1,iv (x.fA:Nat),x.rv.1]
def iu:Rp kP:=⟨7,by decide,chC,λ_=>True,λ_=>rfl,λx u h=>bL rfl (bL x.rk.cv.2 (bL rfl (bL rfl (bL x.rk.tree.kv.2 (bL rfl (bL x.rv.2 λ_ h=>by cases h)))))) u h⟩
def eG:Rp ir:=⟨3,by decide,λx=>[x.dv.1,x.nv.1,.bool x.begun],λ_=>True,λ_=>rfl,λx u h=>bL x.dv.2 (bL x.nv.2 (bL rfl λ_ h=>by cases h)) u h⟩
abbrev rkL (x:xK):List df:=[sl aL x.cv.1 x.code,bM x.tree]
abbrev chL (x:kP):List df:=[sl aL x.rk.cv.1 x.rk.code,bM x.rk.tree,sl aL x.rv.1 (bC x.ranks)]
def oE (x:xK):df:=gT (rkL x)
def gB (x:kP):df:=gT (chL x)
def jY (tR tC:TypeId)(x:ir):List ao:=[row x.dv.1 tR 5 x.done.length (rows MX x.done),row x.nv.1 tC 7 x.next.length (rows iu x.next),aF (aI oE x.done),aF (aI gB x.next)]
def mJ (x:xK):jH:=⟨x.wt,x.code,dN x.tree⟩
def gV (x:kP):iq:=⟨mJ x.rk,x.fA,x.ranks⟩
def ek (x:ir):wB:=⟨x.done.map mJ,x.next.map gV,x.begun⟩
end Go.Proofs.YtblifkgpebebmaaGreatDoor
