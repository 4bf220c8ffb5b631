/-
  Laws of walks through programs, and facts on grammars, trees and queries.
  Conditions: none.
-/
import Derived.Test.YtiefglecbgdaiaaGreatDoorGR4
import Derived.Shelf.Spec.SlicesGrow
set_option maxHeartbeats 2000000
set_option maxRecDepth 20000
set_option linter.unusedVariables false
set_option linter.unusedSimpArgs false
namespace Go.Proofs.YtiefglecbgdaiaaGreatDoor
open Go Go.J Tryz
theorem Rc {T:List er}{q k:Nat}(hk:k<T.length)(c:q<k)(h:kZ T q k=true)(d:∀b,b<k→(List.range b).any (λa=>kZ T a b)=false):xN T=some k:=by
 unfold xN;rw[List.find?_range_eq_some];refine⟨An.2 ⟨q,dM.2 c,h⟩,dM.2 hk,λj e=>by rw[d j e];rfl⟩
theorem Re {T:List er}(c:∀b,b<T.length→(List.range b).any (λa=>kZ T a b)=false):xN T=none:=by
 unfold xN;rw[List.find?_eq_none]
 intro b h;rw[c b (dM.1 h)];decide
theorem DL {p:Nat→Bool}{n:Nat}(h:∀a,a<n→p a=false):(List.range n).any p=false:=by
 rw[List.any_eq_false];intro a b;rw[h a (dM.1 b)];decide
theorem Fo {n:Int}{l:List pM}{k:Nat}{t:pM}(ht:l[k]?=some t)(known:List cM):mw n known k (l.drop k)=if isName t.1=false then(10,(k:Int))else if t.1∈known then(7,(k:Int))else if t.2.1<0∨n≤t.2.1∨t.2.2<0∨n≤t.2.2 then(3,(k:Int))
 else mw n (known++ [t.1]) (k+1) (l.drop (k+1)):=by rw[bW ht,mw]
theorem IJ {n:Int}{l:List pM}{k:Nat}(h:l.length≤k)(known:List cM):mw n known k (l.drop k)=(0,0):=by rw[iy h,mw]
theorem MA {T:List er}{Fs:List pM}(h:T.length=0∨60<T.length∨40<Fs.length):jk T Fs=(2,-1):=by
 unfold jk
 by_cases h1:40<Fs.length
 ·rw[aB h1]
 ·have e:BW T=(2,-1):=by unfold BW;rw[aB zE]
  rw[aA h1,e];rfl
theorem PA {T:List er}{Fs:List pM}(h:¬40<Fs.length)(a:(BW T).1≠0):jk T Fs=BW T:=by unfold jk;rw[aA h,aB a]
theorem PB {T:List er}{Fs:List pM}{b:Nat}(h:¬40<Fs.length)(a:¬(BW T).1≠0)(c:xN T=some b):jk T Fs=(16,(b:Int)):=by unfold jk;rw[aA h,aA a,c]
theorem P9 {T:List er}{Fs:List pM}(h:¬40<Fs.length)(a:¬(BW T).1≠0)(b:xN T=none):jk T Fs=mw T.length [] 0 Fs:=by unfold jk;rw[aA h,aA a,b]
theorem E3 (tv xv:ah)(e:List sD)(f:List jh):dK prog 63 #[.agg #[tv.1,xv.1]] [sl lW tv.1 e,aL s6 e,sl fw xv.1 f,tz] (fv (jk (e.map dG) (f.map iJ))):=by
 refine dK.Jt (args:=[.agg #[tv.1,xv.1]]) 122 func63 rfl ntmps63 rfl (λc=>go ?_)
 have F:(e.map dG).length=e.length:=aO ..
 have W:(f.map iJ).length=f.length:=aO ..
 refine St.wf tv.1 (λX Y=>St.wf xv.1 (λo Z=>go ?_));refine St.cC (.mk rfl) rfl (λJ=>St.al (λK=>g10 ?_));refine St.gf _ rfl rfl (λd=>Ev.cU (.mk rfl) vc) rfl (St.gf _ rfl rfl (λd=>Ev.jN (aa.gv rfl d) wU trivial (by rfl)) rfl ?_);refine St.gf _ rfl rfl (λd=>Ev.gN (aa.gv rfl d) wU) rfl (St.gf _ rfl rfl (λd=>Ev.gtr (aa.gv rfl d) (.mk rfl)) rfl (g2 ?_));refine St.gf _ rfl rfl (λd=>Ev.cU (.mk rfl) Dq) rfl (St.gf _ rfl rfl (λd=>Ev.jN (aa.gv rfl d) Gy trivial (by rfl)) rfl ?_);refine St.gf _ rfl rfl (λd=>Ev.gN (aa.gv rfl d) Gy) rfl (St.gf _ rfl rfl (λd=>Ev.gtr (aa.gv rfl d) (.mk rfl)) rfl (g3 ?_));refine St.cq (λL=> ?_) (λL=> ?_)
 ·have p:jk (e.map dG) (f.map iJ)=(2,-1):=MA zE
  refine g2 ?_;refine St.ee (Ev.call (cV 2 (-1)) qh (.aX rfl rfl)) (g5 ?_);refine St.rV [_] [] ?_;exact congrArg fv p.symm
 ·have r:¬40<(f.map iJ).length:=by omega
  refine g7 ?_;refine St.ee (Ev.call (Hg tv.1 e) aa9 (.aq rfl)) (St.al (λb3=>g10 ?_));refine St.cond _ rfl (λs=> ?_) (λs=> ?_)
  ·skip
   have i:(BW (e.map dG)).1≠0:=by simpa using s
   refine g8 ?_;refine St.rV [_] [] ?_;exact congrArg fv (PA r i).symm
  ·skip
   have i:¬(BW (e.map dG)).1≠0:=by simpa using s
   have u:=(JX (eY.1 i)).2.2
   have apW:=u.len
   refine g6 ?_;refine St.ak (qX tv.1 e u) Xt (.aq rfl) rfl ?_;rintro v41 _ ⟨M,N,rfl,rfl⟩;refine St.dD (St.al (λb4=>g13 ?_));refine St.lS (ι:=Nat) (λk T=>(45,iv k)::T) (λk=>k≤e.length∧∀b,b<k→(List.range b).any (λa=>kZ (e.map dG) a b)=false) (λk=>e.length-k) 0 (aC.k4 1 2 4 44) ⟨aQ _,λb i=>absurd i zE⟩ ?_;intro k v;obtain⟨hk,x⟩:=v;refine g6 ?_;refine St.cq (λO=> ?_) (λO=> ?_)
   ·refine g17 ?_
    refine St.lS (ι:=Nat) (λq T=>(49,iv q)::T) (λq=>q≤k∧∀a,a<q→kZ (e.map dG) a k=false) (λq=>k-q) 0 (aC.k7 1 2 4 5 44 45 48) ⟨aQ _,λa G=>absurd G zE⟩ ?_;intro q v;obtain⟨hq,y⟩:=v;refine g6 ?_;refine St.cq (λP=> ?_) (λP=> ?_)
    ·refine g15 ?_
     refine St.ak (LU M N (e.map dG) u q k zE zE) Nx (.eI rfl rfl rfl) rfl ?_;rintro Q _ ⟨mt,ok,rfl,rfl⟩;refine St.aM (g14 ?_);refine St.cond _ rfl (λz=> ?_) (λz=> ?_)
     ·skip
      have p:=PB (Fs:=f.map iJ) r i (Rc zE zE z x)
      refine g3 ?_;refine St.ee (Ev.call (cV 16 k) qh (.aX rfl rfl)) (g13 ?_);refine St.rV [_] [] ?_;exact congrArg fv p.symm
     ·skip
      refine g8 ?_;refine St.aS (q+1) ⟨by omega,λa G=>by rcases dI a q with h|h;exact y a h;rw[show a=q by omega];exact z⟩
    ·rw[show q=k by omega]at y
     refine g11 ?_;refine St.aS (k+1) ⟨by omega,λb i=>by rcases dI b k with h|h;exact x b h;rw[show b=k by omega];exact DL y⟩
   ·have A:k=e.length:=by omega
    have H:=P9 r i (Re (by rw[F,←A];exact x))
    rw[F]at H;refine g7 ?_;refine St.makeMap mkStr rfl (λB=>g13 ?_);refine St.td (ι:=Nat) (κ:=List (cM×Value)) (λk m T=>(69,iv k)::T) (λk m=>[aW B (eW mkStr m),tI K [iv 0,iv 0] 39,tI J [tv.1,xv.1] 25,aD (sl lW tv.1 e),aD (aL s6 e),aD (sl fw xv.1 f)]) (λk m=>k≤f.length∧jk (e.map dG) (f.map iJ)=mw e.length ((f.take k).map jh.name) k ((f.map iJ).drop k)∧LS m ((f.take k).map jh.name)) (λk m=>f.length-k) 0 [] (aC.k5 1 2 10 67 68) ⟨aQ _,H,LS.nil⟩ ?_;rintro k m ⟨hk,C,I⟩;refine g6 ?_;refine St.cq (λR=> ?_) (λR=> ?_)
    ·obtain⟨t,ht⟩:=aF (show k<f.length by omega)
     have S:=aY ht
     have g:=Fo (n:=e.length) (l:=f.map iJ) (k:=k) (t:=iJ t) (by rw[bJ,ht];rfl) ((f.take k).map jh.name)
     rw[←C]at g
     have U:t.name.length≤9223372036854775807:=by have:=(o t S).1;simp only[nY]at this;omega
     refine g8 ?_;refine St.ee (Ev.iD (.mk rfl) ht underlying91 trivial Mt gH.eq) (St.al (λV=>g9 ?_));refine St.ee (Ev.call (rP t.name U) T7 (.aq rfl)) (g3 ?_);refine St.cq (λD=> ?_) (λD=> ?_)
     ·rw[aB (show isName (iJ t).1=false from(by simpa using D:isName t.name=false))]at g
      refine g3 ?_;refine St.ee (Ev.call (cV 10 k) qh (.aX rfl rfl)) (g10 ?_);refine St.rV [_] [] ?_;exact congrArg fv g.symm
     ·rw[aA (show ¬isName (iJ t).1=false from(by simpa using D:¬isName t.name=false))]at g
      refine g8 ?_;refine St.ee (Ev.uV mkStr (k:=t.name) (.mk rfl) (.mk rfl) qE (by exact wX) ec) ?_;refine g3 ?_;refine St.slot 86 (.bool (decide (t.name∈(f.take k).map jh.name))) rfl (congrArg Value.bool (I t.name)) (g9 ?_);refine St.cq (λj=> ?_) (λj=> ?_)
      ·rw[aB (show(iJ t).1∈(f.take k).map jh.name from j)]at g
       refine g3 ?_;refine St.ee (Ev.call (cV 7 k) qh (.aX rfl rfl)) (g10 ?_);refine St.rV [_] [] ?_;exact congrArg fv g.symm
      ·rw[aA (show ¬(iJ t).1∈(f.take k).map jh.name from j)]at g
       refine g8 ?_;refine St.mapUpdate mkStr (k:=t.name) (.mk rfl) (.mk rfl) (.mk rfl) qE (by exact wX) ?_;refine g8 ?_;refine St.gf _ rfl rfl (λd=>Ev.cU (.mk rfl) IA) rfl (St.gf _ rfl rfl (λd=>Ev.jN (aa.gv rfl d) fA trivial (by rfl)) rfl ?_);refine St.gf _ rfl rfl (λd=>Ev.cU (.mk rfl) vc) rfl (St.gf _ rfl rfl (λd=>Ev.jN (aa.gv rfl d) wU trivial (by rfl)) rfl ?_);refine St.gf _ rfl rfl (λd=>Ev.gN (aa.gv rfl d) wU) rfl (St.gf _ rfl rfl (λd=>Ev.geq (aa.gv rfl d) (aa.gv rfl d)) rfl (g2 ?_));refine St.gf _ rfl rfl (λd=>Ev.cU (.mk rfl) IB) rfl (St.gf _ rfl rfl (λd=>Ev.jN (aa.gv rfl d) fA trivial (by rfl)) rfl ?_);refine St.gf _ rfl rfl (λd=>Ev.lss (aa.gv rfl d) (.mk rfl)) rfl (g2 ?_);refine St.gf _ rfl rfl (λd=>Ev.cU (.mk rfl) IB) rfl (St.gf _ rfl rfl (λd=>Ev.jN (aa.gv rfl d) fA trivial (by rfl)) rfl ?_);refine St.gf _ rfl rfl (λd=>Ev.cU (.mk rfl) vc) rfl (St.gf _ rfl rfl (λd=>Ev.jN (aa.gv rfl d) wU trivial (by rfl)) rfl ?_);refine St.gf _ rfl rfl (λd=>Ev.gN (aa.gv rfl d) wU) rfl (St.gf _ rfl rfl (λd=>Ev.geq (aa.gv rfl d) (aa.gv rfl d)) rfl (g3 ?_));refine St.cq (λE=> ?_) (λE=> ?_)
       ·rw[aB (show(iJ t).2.1<0∨(e.length:Int)≤(iJ t).2.1∨(iJ t).2.2<0∨(e.length:Int)≤(iJ t).2.2 from(by omega:t.CR<0∨(e.length:Int)≤t.CR∨t.value<0∨(e.length:Int)≤t.value))]at g
        refine g3 ?_;refine St.ee (Ev.call (cV 3 k) qh (.aX rfl rfl)) (g9 ?_);refine St.rV [_] [] ?_;exact congrArg fv g.symm
       ·rw[aA (show ¬((iJ t).2.1<0∨(e.length:Int)≤(iJ t).2.1∨(iJ t).2.2<0∨(e.length:Int)≤(iJ t).2.2)from(by omega:¬(t.CR<0∨(e.length:Int)≤t.CR∨t.value<0∨(e.length:Int)≤t.value)))]at g
        refine g8 ?_;refine St.vL (k+1) (lN m t.name (iv k)) ⟨by omega,by rw[g,gm jh.name ht];rfl,by rw[gm jh.name ht];exact I.snoc _ _⟩
    ·rw[IJ (by rw[aO];omega)]at C
     refine g7 ?_;refine St.ee (Ev.build (au.nil) (λw=>fP w)) (g4 ?_);refine St.rV [_] [] ?_;exact congrArg fv C.symm
theorem Ij {nt nf nn:Int}{l:eB}{k:Nat}{t:LV}(ht:l[k]?=some t):fJ nt nf nn k (l.drop k)=if t.1<0∨nt≤t.1 then(3,(k:Int))else if(BH nf nn k (-1) t.2).1≠0 then BH nf nn k (-1) t.2 else fJ nt nf nn (k+1) (l.drop (k+1)):=by rw[bW ht,fJ]
theorem MU {nt nf nn:Int}{l:eB}{k:Nat}(h:l.length≤k):fJ nt nf nn k (l.drop k)=(0,0):=by rw[iy h,fJ]
theorem Pf {nf nn i z:Int}{l:List (Int×Int)}{q:Nat}{x:Int×Int}(hx:l[q]?=some x):BH nf nn i z (l.drop q)=if x.1<0∨nf≤x.1∨x.2<0∨nn≤x.2 then(3,i)else if x.1≤z then(13,i)else BH nf nn i x.1 (l.drop (q+1)):=by rw[bW hx,BH]
theorem Ua {nf nn i z:Int}{l:List (Int×Int)}{q:Nat}(h:l.length≤q):BH nf nn i z (l.drop q)=(0,0):=by rw[iy h,BH]
theorem ct (g:dC):(bE g).length=g.nodes.length:=aO ..
theorem l7 {g:dC}{k:Nat}{t:db}(h:g.nodes[k]?=some t):(bE g)[k]?=some (mQ t):=by unfold bE;rw[bJ,h];rfl
theorem HX (tv xv:ah)(d:List sD)(b:List jh)(g:dC):dK prog 110 #[.agg #[tv.1,xv.1],bF g] [sl lW tv.1 d,sl fw xv.1 b,aI g] (fv (fc d.length b.length (bE g))):=by
 refine dK.Ve (args:=[.agg #[tv.1,xv.1],bF g]) 86 func110 rfl ntmps110 rfl (λc=>go ?_)
 refine St.jU (aI g) (λ_:Unit=>jb g) (λρ h=>⟨(),h⟩) λ_=> ?_
 refine St.cast (H':=[aD (sl bz g.nv.1 g.nodes),aD (aL cF g.nodes),aD (sl lW tv.1 d),aD (sl fw xv.1 b),aD (aI g)]) rfl (St.wf tv.1 (λH I=>St.wf xv.1 (λs J=>St.wf g.nv.1 (λK L=>?_))))
 have u:=ct g
 refine go ?_;refine St.cC (.mk rfl) rfl (λv=>St.cC (.mk rfl) rfl (λy=>St.al (λA=>g10 ?_)));refine St.gf _ rfl rfl (λa=>Ev.cU (.mk rfl) vd) rfl (St.gf _ rfl rfl (λa=>Ev.jN (aa.gv rfl a) na trivial (by rfl)) rfl ?_);refine St.gf _ rfl rfl (λa=>Ev.gN (aa.gv rfl a) na) rfl (St.gf _ rfl rfl (λa=>Ev.gtr (aa.gv rfl a) (.mk rfl)) rfl (g3 ?_));refine St.cq (λB=> ?_) (λB=> ?_)
 ·have m:fc d.length b.length (bE g)=(2,-2):=by unfold fc;rw[aB zE]
  refine g2 ?_;refine St.ee (Ev.call (gT 2 (-2)) Bu (.aX rfl rfl)) (g5 ?_);refine St.rV [_] [] ?_;exact congrArg fv m.symm
 ·have m:fc d.length b.length (bE g)=fJ d.length b.length g.nodes.length 0 (bE g):=by unfold fc;rw[aA zE,u]
  refine g12 ?_;refine St.lS (ι:=Nat) (λk T=>(24,iv k)::T) (λk=>k≤g.nodes.length∧fc d.length b.length (bE g)=fJ d.length b.length g.nodes.length k ((bE g).drop k)) (λk=>g.nodes.length-k) 0 (aC.k5 2 3 4 22 23) ⟨aQ _,m⟩ ?_;intro k C;obtain⟨hk,n⟩:=C;refine g6 ?_;refine St.cq (λD=> ?_) (λD=> ?_)
  ·obtain⟨t,ht⟩:=aF (show k<g.nodes.length by omega)
   have E:=aY ht
   refine St.bh cF g.nodes (x:=t) E (St.fF (sl bC t.lv.1 t.bA) [cF t] (λρ h=>h _ (aR ..)) (St.wf t.lv.1 (λM N=>?_)))
   have e:=Ij (nt:=d.length) (nf:=b.length) (nn:=g.nodes.length) (l7 ht)
   rw[←n]at e;refine g8 ?_;refine St.ee (Ev.iD (.mk rfl) ht xK trivial jF gH.eq) (St.al (λO=>g11 ?_));refine St.gf _ rfl rfl (λa=>Ev.cU (.mk rfl) uK) rfl (St.gf _ rfl rfl (λa=>Ev.jN (aa.gv rfl a) fA trivial (by rfl)) rfl ?_);refine St.gf _ rfl rfl (λa=>Ev.cU (.mk rfl) vc) rfl (St.gf _ rfl rfl (λa=>Ev.jN (aa.gv rfl a) wU trivial (by rfl)) rfl ?_);refine St.gf _ rfl rfl (λa=>Ev.gN (aa.gv rfl a) wU) rfl (St.gf _ rfl rfl (λa=>Ev.geq (aa.gv rfl a) (aa.gv rfl a)) rfl (g3 ?_));refine St.cq (λF=> ?_) (λF=> ?_)
   ·rw[aB (show(mQ t).1<0∨(d.length:Int)≤(mQ t).1 from(by omega:t.type<0∨(d.length:Int)≤t.type))]at e
    refine g3 ?_;refine St.ee (Ev.call (gT 3 k) Bu (.aX rfl rfl)) (g10 ?_);refine St.rV [_] [] ?_;exact congrArg fv e.symm
   ·rw[aA (show ¬((mQ t).1<0∨(d.length:Int)≤(mQ t).1)from(by omega:¬(t.type<0∨(d.length:Int)≤t.type)))]at e
    refine g16 ?_;refine St.td (ι:=Nat) (κ:=Int) (λq z T=>(45,iv q)::(7,iv z)::T) (λq z=>[aD (sl bC t.lv.1 t.bA),tI A [iv 0,iv 0] 39,tI v [tv.1,xv.1] 25,tI y [g.nv.1] 30,aD (sl bz g.nv.1 g.nodes),aD (aL cF g.nodes),aD (sl lW tv.1 d),aD (sl fw xv.1 b),aD (aI g)]) (λq z=>q≤t.bA.length∧BH b.length g.nodes.length k (-1) (mQ t).2=BH b.length g.nodes.length k z ((t.bA.map fV).drop q)) (λq z=>t.bA.length-q) 0 (-1) (aC.k9 2 3 4 5 22 23 24 43 44) ⟨aQ _,rfl⟩ ?_;rintro q z ⟨P,j⟩;refine g6 ?_;refine St.cq (λG=> ?_) (λG=> ?_)
    ·obtain⟨p,hp⟩:=aF (show q<t.bA.length by omega)
     have f:=Pf (nf:=b.length) (nn:=g.nodes.length) (i:=k) (z:=z) (l:=t.bA.map fV) (q:=q) (x:=fV p) (by rw[bJ,hp];rfl)
     refine g7 ?_;refine St.ee (Ev.iD (.mk rfl) hp lT trivial de gH.eq) (St.al (λQ=>g10 ?_));refine St.gf _ rfl rfl (λa=>Ev.cU (.mk rfl) Dm) rfl (St.gf _ rfl rfl (λa=>Ev.jN (aa.gv rfl a) fA trivial (by rfl)) rfl ?_);refine St.gf _ rfl rfl (λa=>Ev.cU (.mk rfl) Dq) rfl (St.gf _ rfl rfl (λa=>Ev.jN (aa.gv rfl a) Gy trivial (by rfl)) rfl ?_);refine St.gf _ rfl rfl (λa=>Ev.gN (aa.gv rfl a) Gy) rfl (St.gf _ rfl rfl (λa=>Ev.geq (aa.gv rfl a) (aa.gv rfl a)) rfl (g2 ?_));refine St.gf _ rfl rfl (λa=>Ev.cU (.mk rfl) uM) rfl (St.gf _ rfl rfl (λa=>Ev.jN (aa.gv rfl a) fA trivial (by rfl)) rfl ?_);refine St.gf _ rfl rfl (λa=>Ev.lss (aa.gv rfl a) (.mk rfl)) rfl (g2 ?_);refine St.gf _ rfl rfl (λa=>Ev.cU (.mk rfl) uM) rfl (St.gf _ rfl rfl (λa=>Ev.jN (aa.gv rfl a) fA trivial (by rfl)) rfl ?_);refine St.gf _ rfl rfl (λa=>Ev.cU (.mk rfl) vd) rfl (St.gf _ rfl rfl (λa=>Ev.jN (aa.gv rfl a) na trivial (by rfl)) rfl ?_);refine St.gf _ rfl rfl (λa=>Ev.gN (aa.gv rfl a) na) rfl (St.gf _ rfl rfl (λa=>Ev.geq (aa.gv rfl a) (aa.gv rfl a)) rfl (g3 ?_));refine St.cq (λo=> ?_) (λo=> ?_)
     ·rw[aB (show(fV p).1<0∨(b.length:Int)≤(fV p).1∨(fV p).2<0∨(g.nodes.length:Int)≤(fV p).2 from(by omega:p.dE<0∨(b.length:Int)≤p.dE∨p.tqo<0∨(g.nodes.length:Int)≤p.tqo))]at f
      rw[j,f,aB (by show(3:Int)≠0;decide)]at e;refine g3 ?_;refine St.ee (Ev.call (gT 3 k) Bu (.aX rfl rfl)) (g14 ?_);refine St.rV [_] [] ?_;exact congrArg fv e.symm
     ·rw[aA (show ¬((fV p).1<0∨(b.length:Int)≤(fV p).1∨(fV p).2<0∨(g.nodes.length:Int)≤(fV p).2)from(by omega:¬(p.dE<0∨(b.length:Int)≤p.dE∨p.tqo<0∨(g.nodes.length:Int)≤p.tqo)))]at f
      refine g11 ?_;refine St.cq (λr=> ?_) (λr=> ?_)
      ·rw[aB (show(fV p).1≤z from(by omega:p.dE≤z))]at f
       rw[j,f,aB (by show(13:Int)≠0;decide)]at e;refine g3 ?_;refine St.ee (Ev.call (gT 13 k) Bu (.aX rfl rfl)) (g14 ?_);refine St.rV [_] [] ?_;exact congrArg fv e.symm
      ·rw[aA (show ¬(fV p).1≤z from(by omega:¬p.dE≤z))]at f
       refine g14 ?_;refine St.vL (q+1) p.dE ⟨by omega,by rw[j,f];rfl⟩
    ·rw[Ua (by rw[aO];omega)]at j
     rw[aA (by rw[j];decide)]at e;refine g11 ?_;refine St.aS (k+1) ⟨by omega,by rw[e]⟩
  ·rw[MU zE]at n
   refine g7 ?_;refine St.ee (Ev.build (au.nil) (λw=>fP w)) (g4 ?_);refine St.rV [_] [] ?_;exact congrArg fv n.symm
theorem CK {M:List Bool}{k:Nat}{b:Bool}(h:M[k]?=some b):pZ (M.drop k)=if b=false then 0 else if pZ (M.drop (k+1))<0 then-1 else pZ (M.drop (k+1))+1:=by rw[bW h,pZ]
theorem PN {M:List Bool}{k:Nat}(h:M.length≤k):pZ (M.drop k)= -1:=by rw[iy h,pZ]
def n9 (M:List Bool)(k:Nat):Prop:=pZ M=if pZ (M.drop k)<0 then-1 else pZ (M.drop k)+k
theorem n9.nil (M:List Bool):n9 M 0:=by
 unfold n9;rw[List.drop_zero]
 have:∀M:List Bool,pZ M= -1∨0≤pZ M:=by
  intro M
  induction M with
  |nil=>left;rfl
  |cons b M a=>
   rw[pZ]
   split
   ·right;decide
   ·split
    ·left;rfl
    ·right;omega
 rcases this M with h|h
 ·rw[h];rfl
 ·rw[aA zE];omega
theorem n9.step {M:List Bool}{k:Nat}(h:n9 M k)(b:M[k]?=some true):n9 M (k+1):=by
 unfold n9 at h⊢
 have a:=CK b
 rw[aA (show ¬(true=false) by decide)]at a
 by_cases e:pZ (M.drop (k+1))<0
 ·rw[aB e]at a⊢
  rw[h,a];rfl
 ·rw[aA e]at a⊢
  rw[h,a,aA zE];omega
theorem n9.hit {M:List Bool}{k:Nat}(h:n9 M k)(b:M[k]?=some false):pZ M=k:=by
 unfold n9 at h
 have a:=CK b
 rw[aB rfl]at a
 rw[h,a,aA (by decide)];omega
theorem n9.fin {M:List Bool}{k:Nat}(h:n9 M k)(a:M.length≤k):pZ M= -1:=by
 unfold n9 at h
 rw[h,PN a];rfl
def eO:Rp Bool:=⟨1,by decide,λa=>[.bool a],λ_=>True,λ_=>rfl,λx u h=>by rw[ba.1 h];rfl⟩
theorem pg (U:List Bool):rows eO U=U.map λa=>Value.bool a:=by
 show U.flatMap (λa=>[Value.bool a])=_
 induction U with
 |nil=>rfl
 |cons a U b=>rw[iQ,b];rfl
theorem QT {U:List Bool}{k:Nat}{a:Bool}(h:U[k]?=some a):(rows eO U)[k*1+0]?=some (.bool a):=by
 rw[pg,fU,hY,bJ,h];rfl
theorem GU {U:List Bool}{k:Nat}{a:Bool}:(rows eO U).set (k*1+0) (.bool a)=rows eO (U.set k a):=by
 rw[pg,pg,fU,hY,mJ]
theorem QU (n:Nat):List.replicate n (Value.bool false)=rows eO (List.replicate n false):=by rw[pg,rM]
theorem HV (u:Value)(M:List Bool):dK prog 164 #[u,.bool false] [sl eO u M] (iv (pZ M)):=by
 refine dK.pz (args:=[u,.bool false]) 19 func164 rfl ntmps164 rfl (λc=>go ?_);refine St.wf u (λh i=>g13 ?_);refine St.lS (ι:=Nat) (λk T=>(8,iv k)::T) (λk=>k≤M.length∧n9 M k) (λk=>M.length-k) 0 (aC.k3 0 1 7) ⟨aQ _,n9.nil M⟩ ?_;intro k j;obtain⟨hk,a⟩:=j;refine g6 ?_;refine St.cq (λl=> ?_) (λl=> ?_)
 ·obtain⟨b,g⟩:=aF (show k<M.length by omega)
  refine g17 ?_;refine St.ee (Ev.Ju (.mk rfl) (.mk rfl) EY) (g2 ?_);refine St.cond _ rfl (λd=> ?_) (λd=> ?_)
  ·skip
   have e:M[k]?=some false:=by rw[g];cases b;rfl;cases d
   refine g12 ?_;refine St.rV [_] [] ?_;exact congrArg iv (a.hit e).symm
  ·skip
   have f:M[k]?=some true:=by rw[g];cases b;cases d;rfl
   refine g8 ?_;refine St.aS (k+1) ⟨by omega,a.step f⟩
 ·refine g11 ?_
  refine St.rV [_] [] ?_;exact congrArg iv (a.fin zE).symm
abbrev cm (l:List Nat):List Int:=l.map λi:Nat=>(i:Int)
theorem fR (U:List Int):rows aJ U=U.map λa=>iv a:=by
 show U.flatMap (λa=>[iv a])=_
 induction U with
 |nil=>rfl
 |cons a U b=>rw[iQ,b];rfl
theorem Mi {l:List Nat}{i:Nat}:(rows aJ (cm (l++ [i])))[l.length*1+0]?=some (iv (i:Nat)):=by
 rw[fR,fU,hY,cm,jJ,bJ,nO (aU _),gp];rfl
theorem QX {l:List Nat}{i:Nat}:(rows aJ (cm (l++ [i]))).take (l.length*1)=rows aJ (cm l):=by
 rw[fR,fR,fU,cm,cm,cY,cY];exact List.take_left' (by simp)
theorem wD {l:List Nat}{p:Int}(h:0≤p):rows aJ (cm l)++ [iv p]=rows aJ (cm (l++ [p.toNat])):=by
 rw[fR,fR,cm,cm,cY,cY,fM,kb,fM,kb,vG h]
theorem V9 {α:Type}{l:List α}(h:0<l.length):∃m x,l=m++ [x]:=by
 rcases List.eq_nil_or_concat l with rfl|⟨m,x,rfl⟩
 ·simp at h
 ·exact⟨m,x,by rw[List.concat_eq_append]⟩
theorem yg (g:dC)(e:tu (bE g))(X:g.nodes.length≤60):dK prog 113 #[bF g] [aI g] (iv (unr (bE g))):=by
 refine dK.pz (args:=[bF g]) 58 func113 rfl ntmps113 rfl (λc=>go ?_)
 refine St.jU (aI g) (λ_:Unit=>jb g) (λρ h=>⟨(),h⟩) λ_=> ?_
 refine St.cast (H':=[aD (sl bz g.nv.1 g.nodes),aD (aL cF g.nodes),aD (aI g)]) rfl ?_
 have H:=ct g
 have Y:0<g.nodes.length:=by have:=e.1;omega
 refine go ?_;refine St.cC (.mk rfl) rfl (λC=>g8 ?_);refine St.nC (m:=g.nodes.length) (.mk rfl) (.mk rfl) kD EU SY Zx rfl rfl zE rfl rfl (λa=> ?_);refine St.aP (tO a g.nodes.length g.nodes.length) rfl (QU _) (g6 ?_);refine St.ee (Ev.dV (k:=0) (.mk rfl) (.mk rfl) kD EU zE zE) (St.dF (.mk rfl) (.mk rfl) EU rfl zE (by decide) ?_);refine St.aP (tO a g.nodes.length g.nodes.length) rfl GU (g5 ?_);refine St.iu rfl (.aq rfl) bQ dQ ec rfl rfl (by simp[Value.cells]) rfl rfl (λD=> ?_);refine St.aP (tO D 1 1) (show _=([0]:List Nat).length from rfl) (show _=rows aJ (cm [0])from rfl) (g4 ?_);refine St.td (ι:=Unit) (κ:=Value×List Nat×List Bool) (λu z T=>(4,z.1)::T) (λu z=>[row (tO a g.nodes.length g.nodes.length) 4 1 g.nodes.length (rows eO z.2.2),row z.1 3 1 (z.2.1).length (rows aJ (cm (z.2.1))),tI C [g.nv.1] 30,aD (sl bz g.nv.1 g.nodes),aD (aL cF g.nodes)]) (λu z=>Sa (bE g) z.2.2 z.2.1∧g.nodes.length-qK z.2.2+z.2.1.length≤g.nodes.length+1) (λu z=>g.nodes.length-qK z.2.2+z.2.1.length) () ((tO D 1 1),[0],(List.replicate g.nodes.length false).set 0 true) (aC.k3 1 2 3) ⟨by have:=Sa.start e.1;rw[H]at this;exact this,by show _-_+1≤_;omega⟩ ?_;rintro u ⟨l,st,M⟩ ⟨hd,n⟩
 dsimp only at hd n⊢
 have I:=hd.len
 refine g8 ?_;refine St.cq (λo=> ?_) (λo=> ?_)
 ·obtain⟨s0,i,rfl⟩:=V9 (show 0<st.length by omega)
  have Z:(s0++ [i]).length=s0.length+1:=by rw[cA];rfl
  have J:=bO (hd.ZP i (by simp))
  obtain⟨t,ht⟩:=aF (show i<g.nodes.length by omega)
  have K:=aY ht
  have E:(bE g).getD i gq=mQ t:=by rw[ax,l7 ht];rfl
  have L:=hd.pop
  refine St.bh cF g.nodes (x:=t) K (St.fF (sl bC t.lv.1 t.bA) [cF t] (λρ h=>h _ (aR ..)) (St.wf t.lv.1 (λUD SM=>g9 ?_)));refine St.ee (Ev.dV (k:=s0.length) (.mk rfl) (.mk rfl) bQ dQ zE zE) (St.ee (Ev.dw (.mk rfl) fA trivial zE Mi) (g9 ?_));refine St.ee (Ev.tR (h:=s0.length) (.mk rfl) (.mk rfl) bQ dQ zE zE) (St.J8 l s0.length zE (St.aP (th l 1 0 s0.length) rfl QX (g16 ?_)));refine St.td (ι:=Nat) (κ:=Value×List Nat×List Bool) (λq z T=>(36,iv q)::(4,z.1)::T) (λq z=>[row (tO a g.nodes.length g.nodes.length) 4 1 g.nodes.length (rows eO z.2.2),row z.1 3 1 (z.2.1).length (rows aJ (cm (z.2.1))),tI C [g.nv.1] 30,aD (sl bC t.lv.1 t.bA),aD (sl bz g.nv.1 g.nodes),aD (aL cF g.nodes)]) (λq z=>q≤t.bA.length∧sM (bE g) i q z.2.2 z.2.1∧g.nodes.length-qK z.2.2+z.2.1.length=g.nodes.length-qK M+s0.length) (λq z=>t.bA.length-q) 0 (th l 1 0 s0.length,s0,M) (aC.k5 1 2 3 34 35) ⟨aQ _,L,rfl⟩ ?_;rintro q ⟨F,f,W⟩ ⟨hq,d,G⟩
  dsimp only at d G⊢
  have N:=d.len
  have O:=Dg W
  refine g6 ?_;refine St.cq (λP=> ?_) (λP=> ?_)
  ·obtain⟨p,hp⟩:=aF (show q<t.bA.length by omega)
   have r:((bE g).getD i gq).2[q]?=some (fV p):=by rw[E];show(t.bA.map fV)[q]?=_;rw[bJ,hp];rfl
   obtain⟨_,s,j⟩:=e.at_ (aY r)
   replace s:0≤p.tqo:=s
   replace j:p.tqo.toNat<(bE g).length:=j
   obtain⟨b,v⟩:=aF (show p.tqo.toNat<W.length by omega);refine g7 ?_;refine St.ee (Ev.iD (.mk rfl) hp lT trivial de gH.eq) (St.al (λb7=>g8 ?_));refine St.ee (Ev.dV (k:=p.tqo.toNat) (.mk rfl) (.mk rfl) kD EU zE zE) (St.ee (Ev.dw (.mk rfl) EY trivial zE (QT v)) (g3 ?_));refine St.cond _ rfl (λw=> ?_) (λw=> ?_)
   ·skip
    have y:W[p.tqo.toNat]?=some false:=by rw[v];cases b;rfl;cases w
    have A:=TT y
    have Q:=Dg (W.set p.tqo.toNat true)
    rw[ep]at Q
    have R:=d.new e r
    refine g5 ?_;refine St.ee (Ev.dV (k:=p.tqo.toNat) (.mk rfl) (.mk rfl) kD EU zE zE) (St.dF (.mk rfl) (.mk rfl) EU rfl zE (by decide) ?_);refine St.aP (tO a g.nodes.length g.nodes.length) rfl GU (g6 ?_);refine St.iu rfl (.aq rfl) bQ dQ ec rfl rfl (by simp[Value.cells]) rfl rfl (λS=> ?_);refine St.bH (.mk rfl) (.mk rfl) bQ dQ ec yt (by simp[Value.oneCell',Value.cells]) zE zE rfl rfl rfl rfl (λv54 U=> ?_);refine St.aP v54 (show _=(f++ [p.tqo.toNat]).length from cW) (show _=rows aJ (cm (f++ [p.tqo.toNat]))from wD s) (g9 ?_);refine St.vL (q+1) (v54,f++ [p.tqo.toNat],W.set p.tqo.toNat true) ⟨by omega,R,by rw[A,cA];simp only[List.length_cons,List.length_nil];omega⟩
   ·skip
    have B:W[p.tqo.toNat]?=some true:=by rw[v];cases b;cases w;rfl
    have hold:=d.Ax r B
    refine g8 ?_;refine St.vL (q+1) (F,f,W) ⟨by omega,hold,G⟩
  ·obtain rfl:q=t.bA.length:=by omega
   refine g6 ?_;rw[show t.bA.length=((bE g).getD i gq).2.length by rw[E];exact(aO _).symm]at d;refine St.ni () (F,f,W) ⟨d.done,by dsimp only;omega⟩ (by dsimp only;rw[cA];simp only[List.length_cons,List.length_nil];omega) (by repeat(first|exact Sub.nil|refine Sub.cons (by first|rfl|exact congrArg (λz=>some (iv z)) (by first|omega|(dsimp only;omega))|exact congrArg (λz=>some (Value.bool z)) (by first|assumption|exact jI (by assumption))) ?_)) (λ_ hw=>hw.sub)
 ·obtain rfl:st=[]:=ka zE
  have V:=hd.fin e
  refine St.bU (tO a g.nodes.length g.nodes.length) eO M rfl zE (λ_ _=>trivial) (g8 ?_);refine St.ee (Ev.call (HV (tO a g.nodes.length g.nodes.length) M) abR (.aX rfl rfl)) (g4 ?_);refine St.rV [_] [] ?_;exact congrArg iv (by rw[V];rfl)
theorem Ph {nf nn i:Int}:∀{l:List (Int×Int)} {z:Int},(BH nf nn i z l).1=0→∀x∈l,0≤x.1∧x.1<nf∧0≤x.2∧x.2<nn
 | [],_,_=>λx hx=>by cases hx
 |y::l,z,h=>by
  rw[BH]at h
  by_cases h1:y.1<0∨nf≤y.1∨y.2<0∨nn≤y.2
  ·rw[aB h1]at h;exact absurd h (by simp)
  rw[aA h1]at h
  by_cases a:y.1≤z
  ·rw[aB a]at h;exact absurd h (by simp)
  rw[aA a]at h;intro x hx
  rcases cN.1 hx with rfl|hx
  ·omega
  ·exact Ph h x hx
theorem uX {nt nf nn:Int}:∀{l:eB} {i:Nat},(fJ nt nf nn i l).1=0→∀n∈l,(0≤n.1∧n.1<nt)∧∀x∈n.2,0≤x.1∧x.1<nf∧0≤x.2∧x.2<nn
 | [],_,_=>λx hx=>by cases hx
 |y::l,i,h=>by
  rw[fJ]at h
  by_cases h1:y.1<0∨nt≤y.1
  ·rw[aB h1]at h;exact absurd h (by simp)
  rw[aA h1]at h
  by_cases a:(BH nf nn i (-1) y.2).1≠0
  ·rw[aB a]at h;exact absurd h a
  rw[aA a]at h;intro x hx
  rcases cN.1 hx with rfl|hx
  ·exact⟨by omega,Ph (eY.1 a)⟩
  ·exact uX h x hx
theorem zo {nt nf:Int}{g:eB}(h:(fc nt nf g).1=0):0<g.length∧g.length≤60∧∀n∈g,(0≤n.1∧n.1<nt)∧∀x∈n.2,0≤x.1∧x.1<nf∧0≤x.2∧x.2<g.length:=by
 unfold fc at h
 by_cases h1:g.length=0∨60<g.length
 ·rw[aB h1]at h;exact absurd h (by simp)
 rw[aA h1]at h;exact⟨by omega,by omega,uX h⟩
theorem Pm {nt nf:Int}{g:eB}(h:(fc nt nf g).1=0):tu g:=by
 obtain⟨h1,_,a⟩:=zo h;exact⟨h1,λn b x hx=>by have:=(a n b).2 x hx;omega⟩
theorem Bi (a b:ah)(T:List er)(d:j5 T)(i j:Int)(hi:0≤i∧i.toNat<T.length)(c:0≤j∧j.toNat<T.length):dK prog 111 #[kX a b,iv i,iv j] [sl bP a.1 (da T),sl bP b.1 (dZ T)] (.bool (iY T i.toNat j.toNat)):=by
 have:=NO a b T d i.toNat j.toNat hi.2 c.2
 rw[vG hi.1,vG c.1]at this;exact this
theorem OT {T:List er}{Fs:List pM}{G:eB}{k:Nat}(hk:k<G.length)(h:uD T Fs G k=true)(a:∀i,i<k→uD T Fs G i=false):mm T Fs G=some k:=by
 unfold mm;rw[List.find?_range_eq_some]
 exact⟨h,dM.2 hk,λj b=>by rw[a j b];rfl⟩
theorem OU {T:List er}{Fs:List pM}{G:eB}(a:∀i,i<G.length→uD T Fs G i=false):mm T Fs G=none:=by
 unfold mm;rw[List.find?_eq_none]
 intro b h;rw[a b (dM.1 h)];decide
theorem Cv {T:List er}{Fs:List pM}{G:eB}(h:(fc T.length Fs.length G).1≠0):dP T Fs G=fc T.length Fs.length G:=by unfold dP;rw[aB h]
theorem N3 {T:List er}{Fs:List pM}{G:eB}{i:Nat}(h:¬(fc T.length Fs.length G).1≠0)(a:mm T Fs G=some i):dP T Fs G=(12,(i:Int)):=by unfold dP;rw[aA h,a]
theorem N4 {T:List er}{Fs:List pM}{G:eB}(h:¬(fc T.length Fs.length G).1≠0)(a:mm T Fs G=none):dP T Fs G=if 0≤unr G then(5,unr G)else(0,0):=by unfold dP;rw[aA h,a]
theorem qY (tv xv r s:ah)(a:List sD)(d:List jh)(g:dC)(H:j5 (a.map dG))(N:∀f∈d,0≤f.CR∧f.CR<a.length∧0≤f.value∧f.value<a.length):dK prog 69 #[.agg #[tv.1,xv.1],kX r s,bF g] [sl lW tv.1 a,sl fw xv.1 d,sl bP r.1 (da (a.map dG)),sl bP s.1 (dZ (a.map dG)),aI g] (fv (dP (a.map dG) (d.map iJ) (bE g))):=by
 refine dK.aaY (args:=[.agg #[tv.1,xv.1],kX r s,bF g]) 74 func69 rfl ntmps69 rfl (λc=>go ?_)
 refine St.jU (aI g) (λ_:Unit=>jb g) (λρ h=>⟨(),h⟩) λ_=> ?_
 refine St.cast (H':=[aD (sl bz g.nv.1 g.nodes),aD (aL cF g.nodes),aD (sl lW tv.1 a),aD (sl fw xv.1 d),aD (sl bP r.1 (da (a.map dG))),aD (sl bP s.1 (dZ (a.map dG))),aD (aI g)]) rfl ?_
 have O:=ct g
 have C:(a.map dG).length=a.length:=aO ..
 have D:(d.map iJ).length=d.length:=aO ..
 refine St.wf g.nv.1 (λY Z=>go ?_);refine St.cC (.mk rfl) rfl (λb3=>St.cC (.mk rfl) rfl (λb4=>St.cC (.mk rfl) rfl (λb5=>St.al (λb6=>g7 ?_))));refine St.ee (Ev.call (HX tv xv a d g) abB (.aX rfl rfl)) (St.al (λb7=>g10 ?_));refine St.cond _ rfl (λE=> ?_) (λE=> ?_)
 ·skip
  have v:(fc (a.map dG).length (d.map iJ).length (bE g)).1≠0:=by rw[C,D];simpa using E
  have e:=Cv v
  rw[C,D]at e;refine g8 ?_;refine St.rV [_] [] ?_;exact congrArg fv e.symm
 ·skip
  have v:¬(fc (a.map dG).length (d.map iJ).length (bE g)).1≠0:=by rw[C,D];simpa using E
  have P:=Pm (eY.1 v)
  obtain⟨hg0,Q,I⟩:=zo (eY.1 v);refine g12 ?_;refine St.lS (ι:=Nat) (λk T=>(24,iv k)::T) (λk=>k≤g.nodes.length∧∀i,i<k→uD (a.map dG) (d.map iJ) (bE g) i=false) (λk=>g.nodes.length-k) 0 (aC.k6 3 4 5 6 22 23) ⟨aQ _,λi hi=>absurd hi zE⟩ ?_;intro k F;obtain⟨hk,l⟩:=F;refine g6 ?_;refine St.cq (λR=> ?_) (λR=> ?_)
  ·obtain⟨t,ht⟩:=aF (show k<g.nodes.length by omega)
   have S:=aY ht
   refine St.bh cF g.nodes (x:=t) S (St.fF (sl bC t.lv.1 t.bA) [cF t] (λρ h=>h _ (aR ..)) (St.wf t.lv.1 (λUD SM=>?_)))
   have J:(bE g).getD k gq=mQ t:=by rw[ax,l7 ht];rfl
   obtain⟨K,G⟩:=I (mQ t) (aY (l7 ht))
   replace K:0≤t.type∧t.type<((a.map dG).length:Int):=K
   refine g8 ?_;refine St.ee (Ev.iD (.mk rfl) ht xK trivial jF gH.eq) (St.al (λb9=>g13 ?_));refine St.lS (ι:=Nat) (λq T=>(32,iv q)::T) (λq=>q≤t.bA.length∧∀j,j<q→∀x,(mQ t).2[j]?=some x→Jq (a.map dG) (d.map iJ) (bE g) t.type x=false) (λq=>t.bA.length-q) 0 (aC.k11 3 4 5 6 8 9 22 23 24 30 31) ⟨aQ _,λj y=>absurd y zE⟩ ?_;intro q F;obtain⟨hq,L⟩:=F;refine g6 ?_;refine St.cq (λU=> ?_) (λU=> ?_)
   ·obtain⟨p,hp⟩:=aF (show q<t.bA.length by omega)
    have m:(mQ t).2[q]?=some (fV p):=by show(t.bA.map fV)[q]?=_;rw[bJ,hp];rfl
    have z:=G (fV p) (aY m)
    replace z:0≤p.dE∧p.dE<((d.map iJ).length:Int)∧0≤p.tqo∧p.tqo<((bE g).length:Int):=z
    obtain⟨fe,n⟩:=aF (show p.dE.toNat<d.length by omega);obtain⟨u,hu⟩:=aF (show p.tqo.toNat<g.nodes.length by omega)
    have V:=N fe (aY n)
    have A:=(I (mQ u) (aY (l7 hu))).1
    replace A:0≤u.type∧u.type<((a.map dG).length:Int):=A
    have M:(!iY (a.map dG) t.type.toNat fe.CR.toNat|| !iY (a.map dG) u.type.toNat fe.value.toNat)=Jq (a.map dG) (d.map iJ) (bE g) t.type (fV p):=by
     unfold Jq
     rw[show(fV p).1=p.dE from rfl,show(fV p).2=p.tqo from rfl,ax,bJ,n,ax,l7 hu];rfl
    refine g7 ?_;refine St.ee (Ev.iD (.mk rfl) hp lT trivial de gH.eq) (St.al (λb11=>g9 ?_));refine St.ee (Ev.cI (k:=p.dE.toNat) (.mk rfl) (.mk rfl) Gy Mt zE zE) (St.ee (Ev.iD (.mk rfl) n underlying91 trivial Mt gH.eq) (St.al (λW=>g4 ?_)));refine St.rq mixed (by kernel_rfl) (Mm.drawn _ _) ?_;refine g5 ?_;refine Sq.ee (Ev.call (Bi r s (a.map dG) H t.type fe.CR ⟨by omega,by omega⟩ ⟨by omega,by omega⟩) Vj (.eI rfl rfl rfl)) ?_;refine g2 ?_;refine Sq.gf _ rfl rfl (λb=>Ev.MS (.mk rfl) xJ trivial (by exact xH)) rfl ?_;refine Sq.gf _ rfl rfl (λb=>Ev.cU (.mk rfl) vd) rfl (Sq.gf _ rfl rfl (λb=>Ev.jN (aa.gv rfl b) na trivial (by rfl)) rfl ?_);refine Sq.gf _ rfl rfl (λb=>Ev.cU (.mk rfl) uM) rfl (Sq.gf _ rfl rfl (λb=>Ev.jN (aa.gv rfl b) fA trivial (by rfl)) rfl ?_);refine Sq.gf _ rfl rfl (λb=>Ev.cI (k:=p.tqo.toNat) (aa.gv rfl b) (aa.gv rfl b) na jF (by first|omega|(simp only[cn]at b;omega)) (by first|omega|(simp only[cn]at b;omega))) rfl ?_;refine Sq.gf _ rfl rfl (λb=>Ev.W1 (aa.gv rfl b) (by first|omega|(simp only[cn]at b;omega)) uK) rfl ?_;refine Sq.gf _ rfl rfl (λb=>Ev.ld1 (aa.gv rfl b) hu fA trivial rfl) rfl (Sq.gf _ rfl rfl (λb=>Ev.cU (.mk rfl) IB) rfl (Sq.gf _ rfl rfl (λb=>Ev.jN (aa.gv rfl b) fA trivial (by rfl)) rfl ?_));refine Sq.gf _ rfl rfl (λb=>Ev.call (Bi r s (a.map dG) H u.type fe.value ⟨by omega,by omega⟩ ⟨by omega,by omega⟩) Vj (.cons (aa.gv rfl b) (.cons (aa.gv rfl b) (.cons (aa.gv rfl b) .nil)))) rfl ?_;refine Sq.gf _ rfl rfl (λb=>Ev.not (aa.gv rfl b)) rfl (g3 ?_);refine St.cond _ rfl (λB=> ?_) (λB=> ?_)
    ·skip
     rw[M]at B
     have o:uD (a.map dG) (d.map iJ) (bE g) k=true:=by unfold uD;rw[J,An];exact⟨fV p,aY m,B⟩
     have e:=N3 v (OT zE o l)
     refine g3 ?_;refine St.ee (Ev.call (gT 12 k) Bu (.aX rfl rfl)) (g13 ?_);refine St.rV [_] [] ?_;exact congrArg fv e.symm
    ·skip
     rw[M]at B;refine g8 ?_;refine St.aS (q+1) ⟨by omega,λj y x hx=>by rcases dI j q with h|h;exact L j h x hx;rw[show j=q by omega,m]at hx;cases hx;exact B⟩
   ·refine g11 ?_
    have o:uD (a.map dG) (d.map iJ) (bE g) k=false:=by
     unfold uD;rw[J,List.any_eq_false]
     intro x hx;obtain⟨j,y⟩:=Cz hx
     rw[show(mQ t).1=t.type from rfl,L j (by have:=bO y;rw[show(mQ t).2.length=t.bA.length from aO _]at this;omega) x y];decide
    refine St.aS (k+1) ⟨by omega,λi hi=>by rcases dI i k with h|h;exact l i h;rw[show i=k by omega];exact o⟩
  ·have e:=N4 v (OU (by rw[O];intro i hi;exact l i zE))
   refine g9 ?_;refine St.ee (Ev.call (yg g P zE) abC (.aq rfl)) (g9 ?_);refine St.cq (λX=> ?_) (λX=> ?_)
   ·rw[aB zE]at e
    refine g3 ?_;refine St.ee (Ev.call (gT 5 (unr (bE g))) Bu (.aX rfl rfl)) (g5 ?_);refine St.rV [_] [] ?_;exact congrArg fv e.symm
   ·rw[aA zE]at e
    refine g4 ?_;refine St.ee (Ev.build (au.nil) (λw=>fP w)) (g4 ?_);refine St.rV [_] [] ?_;exact congrArg fv e.symm
def ot (a b:Int):Int:=if a<b then-1 else if b<a then 1 else 0
def Asc (l:List dt):Prop:=∀(i j:Nat) (x y:dt),i<j→l[i]?=some x→l[j]?=some y→x.dE<y.dE
def ahN (l:List dt)(k:Int)(v:Value):Prop:=∃(i:Nat) (b:Bool),v= .tuple #[iv i,.bool b]∧(b=true→∃x,l[i]?=some x∧x.dE=k)∧(b=false→∀x∈l,x.dE≠k)
theorem ze (x:Int):dK prog 187 #[iv x] [] (.bool false):=by
 refine dK.gx (args:=[iv x]) 6 func187 rfl ntmps187 rfl (λc=>g14 ?_);refine St.rV [_] [] ?_;exact be (by simp)
theorem eh (x y:Int):dK prog 122 #[iv x,iv y] [] (iv (ot x y)):=by
 refine dK.gx (args:=[iv x,iv y]) 20 func122 rfl ntmps122 rfl (λc=>g8 ?_);refine St.ee (Ev.call (ze x) Vt (.aq rfl)) (g6 ?_);refine St.ee (Ev.call (ze y) Vt (.aq rfl)) (g9 ?_);refine St.uG _ rfl rfl (g8 ?_);refine St.uG _ rfl rfl (g10 ?_);refine St.cq (λa=> ?_) (λa=> ?_)
 ·refine g7 ?_
  refine St.rV [_] [] ?_;exact ie (by unfold ot;rw[aB a])
 ·refine g10 ?_
  refine St.cq (λb=> ?_) (λb=> ?_)
  ·refine g7 ?_
   refine St.rV [_] [] ?_;exact ie (by unfold ot;rw[aA zE,aB zE])
  ·refine g8 ?_
   refine St.rV [_] [] ?_;exact ie (by unfold ot;rw[aA zE,aA zE])
theorem u6 (x:dt)(k:Int):dK prog 127 ([Value.agg #[iv x.dE,iv x.tqo],iv k]++ []).toArray [] (iv (ot x.dE k)):=by
 refine dK.gx (args:=[Value.agg #[iv x.dE,iv x.tqo],iv k]++ []) 9 func127 rfl ntmps127 rfl (λc=>g2 ?_);refine St.cC (.mk rfl) rfl (λa=>g8 ?_);refine St.ee (Ev.call (eh x.dE k) qi (.aX rfl rfl)) (g4 ?_);refine St.rV [_] [] ?_;rfl
theorem NF (u:Value)(l:List dt)(k:Int)(r:Asc l)(F:l.length≤1000000):dx prog 126 #[u,iv k,.func (.func 127) #[] #[]] ([sl bC u l].map aD) (λv H'=>ahN l k v∧H'=[]):=by
 refine dx.body (args:=[u,iv k,.func (.func 127) #[] #[]]) 49 func126 rfl ntmps126 rfl (λc=>St.cast (H':=[aD (sl bC u l)]) rfl (g22 ?_));refine St.lS (ι:=Nat×Nat) (λx T=>(9,iv x.1)::(10,iv x.2)::T) (λx=>x.1≤x.2∧x.2≤l.length∧(∀j y,j<x.1→l[j]?=some y→y.dE<k)∧(∀j y,x.2≤j→l[j]?=some y→k≤y.dE)) (λx=>x.2-x.1) (0,l.length) (aC.k6 0 1 2 6 7 8) ⟨aQ _,aU _,λj y w=>absurd w (Nat.not_lt_zero j),λj y w h=>by have:=bO h;omega⟩ ?_;rintro ⟨i,j⟩ ⟨B,A,p,s⟩
 dsimp only at B A p s⊢
 refine g8 ?_;refine St.cq (λt=> ?_) (λt=> ?_)
 ·have C:i≤(i+j)/2:=by omega
  have G:(i+j)/2<j:=by omega
  obtain⟨y,hy⟩:=aF (show(i+j)/2<l.length by omega);refine g8 ?_;refine St.ee (Ev.mj ((i+j)) (.mk rfl) (by rw[fA];rfl) xL zE) ?_;refine St.ee (Ev.tQ 1 2 (by decide) (.mk rfl) (.mk rfl) (by decide)) ?_;refine St.ee (Ev.Dh (.mk rfl) (by rw[xL];rfl) fA zE) ?_;refine g8 ?_;refine St.ee (Ev.cI (k:=((i+j)/2)) (.mk rfl) (.mk rfl) eX de zE zE) (St.ee (Ev.iD (.mk rfl) hy lT trivial de gH.eq) (go ?_));refine St.ee (Ev.ej (u6 y k) Vl (.mk rfl) (.aX rfl rfl)) (g3 ?_);refine St.cq (λn=> ?_) (λn=> ?_)
  ·have a:y.dE<k:=by unfold ot at n;split at n<;>first|assumption|(split at n<;>omega)
   refine g7 ?_;refine St.aS ((i+j)/2+1,j) ⟨by show(i+j)/2+1≤j;omega,A,λq z b hz=>by rcases dI q ((i+j)/2)with g|g;exact Int.lt_trans (r _ _ _ _ g hz hy) a;rw[show q=(i+j)/2 from Nat.le_antisymm (Nat.le_of_lt_succ b) g,hy]at hz;cases hz;exact a,s⟩
  ·have a:k≤y.dE:=by unfold ot at n;split at n<;>omega
   refine g6 ?_;refine St.aS (i,(i+j)/2) ⟨C,by show(i+j)/2≤l.length;omega,p,λq z b hz=>by rcases dI ((i+j)/2) q with g|g;exact Int.le_trans a (Int.le_of_lt (r _ _ _ _ g hy hz));rw[show q=(i+j)/2 from Nat.le_antisymm g b,hy]at hz;cases hz;exact a⟩
 ·have D:i=j:=by omega
  subst D;refine g11 ?_;refine St.split 38 _ rfl (λd=> ?_) (λd=> ?_)
  ·have o:i<l.length:=by simpa using d
   obtain⟨y,hy⟩:=aF o;refine go ?_;refine St.eK rfl rfl (go ?_);refine St.eK rfl rfl (go ?_);refine St.eK rfl rfl (go ?_);refine St.eK rfl rfl (go ?_);refine St.eK rfl rfl (St.ee (Ev.iD (.mk rfl) hy lT trivial de gH.eq) (St.eK rfl rfl (go ?_)));refine St.eK rfl rfl (St.ee (Ev.ej (u6 y k) Vl (.mk rfl) (.aX rfl rfl)) (St.eK rfl rfl (go ?_)));refine St.split 47 _ rfl (λf=> ?_) (λf=> ?_)
   ·refine St.ee (Ev.o5 (.mk rfl) rfl (.mk rfl)) ?_
    refine g5 ?_;refine St.rV [_,_] [] ?_
    have m:ot y.dE k=0:=by simpa using f
    have a:y.dE=k:=by unfold ot at m;split at m;cases m;split at m;cases m;omega
    exact⟨⟨i,true,rfl,λ_=>⟨y,hy,a⟩,λh=>(by cases h)⟩,rfl⟩
   ·refine St.ee (Ev.o5 (.mk rfl) rfl (.mk rfl)) ?_
    refine g5 ?_;refine St.rV [_,_] [] ?_
    have m:ot y.dE k≠0:=by simpa using f
    have a:y.dE≠k:=λe=>m (by unfold ot;rw[aA zE,aA zE])
    have E:=s i y (aU _) hy
    exact⟨⟨i,false,rfl,λh=>(by cases h),λ_ z hz=>by obtain⟨q,b⟩:=Cz hz;rcases Nat.lt_trichotomy q i with g|g|g;have:=p q z g b;omega;rw[g,hy]at b;cases b;exact a;have:=r _ _ _ _ g hy b;omega⟩,rfl⟩
  ·have o:l.length≤i:=by simpa using d
   refine go ?_;refine St.dq rfl rfl rfl (St.dq rfl rfl rfl (St.dq rfl rfl rfl (St.dq rfl rfl rfl (St.dq rfl rfl rfl (St.dq rfl rfl rfl (St.dq rfl rfl rfl (St.dq rfl rfl rfl (St.ee (Ev.p8 (.mk rfl) rfl (.mk rfl)) (g5 ?_)))))))));refine St.rV [_,_] [] ?_;exact⟨⟨i,false,rfl,λh=>(by cases h),λ_ z hz=>by obtain⟨q,b⟩:=Cz hz;have h1:=bO b;have H:=p q z zE b;omega⟩,rfl⟩
def Gr (G:eB)(i:Nat)(k:Int):Int:=match(G.getD i gq).2.find? λx=>x.1==k with
 |some x=>x.2
 |none=> -1
theorem RI (G:eB)(k:Int):Gr G 0 k=nS G k:=rfl
theorem VH {l:List dt}(b:Asc l){j:Nat}{x:dt}{k:Int}(hx:l[j]?=some x)(hk:x.dE=k):(l.map fV).find? (λy=>y.1==k)=some (fV x):=by
 cases h:(l.map fV).find? (λy=>y.1==k)with
 |none=>
  rw[List.find?_eq_none]at h;exact absurd (show((fV x).1==k)=true by rw[beq_iff_eq];exact hk) (h (fV x) (dh (aY hx)))
 |some y=>
  have h1:=List.find?_some h
  obtain⟨z,hz,rfl⟩:=cS.1 (List.mem_of_find?_eq_some h)
  have c:z.dE=k:=by simpa[fV]using h1
  obtain⟨q,a⟩:=Cz hz
  rcases Nat.lt_trichotomy q j with g|g|g
  ·have:=b _ _ _ _ g a hx;omega
  ·rw[g,hx]at a;cases a;rfl
  ·have:=b _ _ _ _ g hx a;omega
theorem RJ {l:List dt}{k:Int}(h:∀x∈l,x.dE≠k):(l.map fV).find? (λy=>y.1==k)=none:=by
 rw[List.find?_eq_none];intro y hy;obtain⟨z,hz,rfl⟩:=cS.1 hy
 rw[beq_iff_eq];exact h z hz
theorem KZ {nf nn i:Int}:∀{l:List dt} {z:Int},(BH nf nn i z (l.map fV)).1=0→(∀x∈l,z<x.dE)∧Asc l
 | [],_,_=>⟨λx hx=>(by cases hx),λi j x y _ hi=>(by simp at hi)⟩
 |y::l,z,h=>by
  rw[fM,BH]at h
  by_cases h1:(fV y).1<0∨nf≤(fV y).1∨(fV y).2<0∨nn≤(fV y).2
  ·rw[aB h1]at h;exact absurd h (by simp)
  rw[aA h1]at h
  by_cases c:(fV y).1≤z
  ·rw[aB c]at h;exact absurd h (by simp)
  rw[aA c]at h;obtain⟨d,g⟩:=KZ h
  replace d:∀x∈l,y.dE<x.dE:=d
  replace c:¬y.dE≤z:=c
  refine⟨λx hx=> ?_,λi j a b m e f=> ?_⟩
  ·rcases cN.1 hx with rfl|hx
   ·omega
   ·have:=d x hx;omega
  ·obtain⟨j,rfl⟩:∃k,j=k+1:=⟨j-1,by omega⟩
   rw[sg]at f
   cases i with
   |zero=>rw[List.getElem?_cons_zero]at e;cases e;exact d b (aY f)
   |succ i=>rw[sg]at e;exact g i j a b zE e f
theorem sX {nt nf nn:Int}:∀{l:List db} {i:Nat},(fJ nt nf nn i (l.map mQ)).1=0→∀n∈l,Asc n.bA
 | [],_,_=>λx hx=>by cases hx
 |y::l,i,h=>by
  rw[fM,fJ]at h
  by_cases h1:(mQ y).1<0∨nt≤(mQ y).1
  ·rw[aB h1]at h;exact absurd h (by simp)
  rw[aA h1]at h
  by_cases a:(BH nf nn i (-1) (mQ y).2).1≠0
  ·rw[aB a]at h;exact absurd h a
  rw[aA a]at h;intro x hx
  rcases cN.1 hx with rfl|hx
  ·exact(KZ (eY.1 a)).2
  ·exact sX h x hx
theorem CM {nt nf:Int}{g:dC}(h:(fc nt nf (bE g)).1=0):∀n∈g.nodes,Asc n.bA:=by
 unfold fc at h
 by_cases h1:(bE g).length=0∨60<(bE g).length
 ·rw[aB h1]at h;exact absurd h (by simp)
 rw[aA h1]at h;exact sX h
theorem lI (g:dC)(i:Nat)(k:Int)(hi:i<g.nodes.length)(q:∀n∈g.nodes,Asc n.bA∧n.bA.length≤1000000):dK prog 82 #[bF g,iv i,iv k] [aI g] (iv (Gr (bE g) i k)):=by
 refine dK.pz (args:=[bF g,iv i,iv k]) 32 func82 rfl ntmps82 rfl (λc=>go ?_)
 refine St.jU (aI g) (λ_:Unit=>jb g) (λρ h=>⟨(),h⟩) λ_=> ?_
 refine St.cast (H':=[aD (sl bz g.nv.1 g.nodes),aD (aL cF g.nodes),aD (aI g)]) rfl ?_;obtain⟨t,ht⟩:=aF hi
 have p:=aY ht
 refine St.bh cF g.nodes (x:=t) p (St.fF (sl bC t.lv.1 t.bA) [cF t] (λρ h=>h _ (aR ..)) ?_)
 have r:(bE g).getD i gq=mQ t:=by rw[ax,l7 ht];rfl
 have d:Gr (bE g) i k=match(t.bA.map fV).find? (λx=>x.1==k)with|some x=>x.2|none=> -1:=by unfold Gr;rw[r];rfl
 obtain⟨a,s⟩:=q t p;refine go ?_;refine St.cC (.mk rfl) rfl (λv=>g12 ?_);refine St.ak (NF t.lv.1 t.bA k a s) abK (.eI rfl rfl rfl) rfl ?_;rintro v17 _ ⟨⟨j,b,rfl,e,f⟩,rfl⟩;refine St.aM (g14 ?_);refine St.cond _ rfl (λl=> ?_) (λl=> ?_)
 ·skip
  have m:b=false:=by simpa using l
  rw[RJ (f m)]at d;refine g7 ?_;refine St.rV [_] [] ?_;exact ie d.symm
 ·skip
  have u:b=true:=by simpa using l
  obtain⟨x,hx,o⟩:=e u
  have w:=bO hx
  rw[VH a hx o]at d;refine g18 ?_;refine St.rV [_] [] ?_;exact ie d.symm
theorem Ey (g:dC)(kids:Int)(f:0<g.nodes.length)(i:∀n∈g.nodes,Asc n.bA∧n.bA.length≤1000000):dK prog 108 #[bF g,iv kids] [aI g] (.bool (o6 (bE g) kids)):=by
 refine dK.pz (args:=[bF g,iv kids]) 18 func108 rfl ntmps108 rfl (λc=>g2 ?_);refine St.cC (.mk rfl) rfl (λo=>g10 ?_);refine St.lS (ι:=Nat) (λk T=>(6,iv k)::T) (λk=>k≤4∧∀j,j<k→(decide (0≤nS (bE g) (j:Nat))==decide (((j:Nat):Int)≤kids))=true) (λk=>4-k) 0 (aC.k2 1 2) ⟨aQ _,λj b=>absurd b zE⟩ ?_;intro k l;obtain⟨hk,e⟩:=l;refine g6 ?_;refine St.cq (λm=> ?_) (λm=> ?_)
 ·refine g14 ?_
  refine St.ee (Ev.call (lI g 0 k f i) O4 (.eI rfl rfl rfl)) (g4 ?_);refine St.ee (Ev.uF (.mk rfl) (.mk rfl) EY) (g2 ?_);refine St.cond _ rfl (λa=> ?_) (λa=> ?_)
  ·skip
   have d:(decide (0≤nS (bE g) (k:Nat))==decide (((k:Nat):Int)≤kids))=false:=by rw[tc];simp[RI]at a;exact a
   refine g11 ?_;refine St.rV [_] [] ?_;exact be (by unfold o6;symm;rw[List.all_eq_false];exact⟨k,dM.2 zE,by rw[d];decide⟩)
  ·skip
   have d:(decide (0≤nS (bE g) (k:Nat))==decide (((k:Nat):Int)≤kids))=true:=by rw[beq_iff_eq];simp[RI]at a;exact a
   refine g8 ?_;refine St.aS (k+1) ⟨by omega,λj b=>by rcases dI j k with h|h;exact e j h;rw[show j=k by omega];exact d⟩
 ·refine g11 ?_
  refine St.rV [_] [] ?_;exact be (by unfold o6;symm;rw[fY];intro j b;exact e j (by have:=dM.1 b;omega))
end Go.Proofs.YtiefglecbgdaiaaGreatDoor
namespace Go.Proofs
open Go.Shelf
def Tryz.Ic:Go.Shelf.Ren:=⟨λ|4=>243|n=>n,λ|0=>0|3=>3|4=>4|9=>9|20=>20|22=>164|25=>168|n=>n,λ|n=>n⟩
theorem Tryz.PY:Go.Proofs.Lays8.n4 Tryz.prog Tryz.Ic:={
 mixed:=by kernel_rfl
 f4:=⟨Tryz.f243.name,by decide,Tryz.func243.trans (congrArg some (by kernel_rfl))⟩
 t0:=Zb
 a0:=Tryz.isAgg0
 z0:=Tryz.sizeOf0
 v0:=Tryz.zeroValue0
 t3:=fA
 a3:=Tryz.isAgg3
 z3:=Tryz.sizeOf3
 v3:=Tryz.zeroValue3
 t4:=EY
 a4:=Tryz.isAgg4
 z4:=Tryz.sizeOf4
 v4:=Tryz.zeroValue4
 t9:=wX
 a9:=Tryz.isAgg9
 z9:=Tryz.sizeOf9
 v9:=Tryz.zeroValue9
 t20:=Tryz.underlying20
 a20:=Tryz.isAgg20
 z20:=Tryz.sizeOf20
 v20:=Tryz.zeroValue20
 t22:=eX
 a22:=Tryz.isAgg164
 z22:=Tryz.sizeOf164
 v22:=Tryz.zeroValue164}
end Go.Proofs
namespace Go.Proofs.YtiefglecbgdaiaaGreatDoor
open Go Go.J Tryz
instance:iV prog 100 0 0:=⟨by kernel_rfl⟩
theorem acH:aK prog 53:=⟨_,func53,rfl,by kernel_rfl⟩
theorem Dl:bq prog 100 2=some 2:=by kernel_rfl
instance:type_of%(iV.mk Dl):=⟨Dl⟩
instance:iV prog 100 1 1:=⟨by kernel_rfl⟩
theorem Xu:aK prog 69:=⟨_,func69,rfl,by kernel_rfl⟩
instance:iV prog 100 3 3:=⟨by kernel_rfl⟩
theorem Vi:aK prog 109:=⟨_,func109,rfl,by kernel_rfl⟩
theorem Dw:bq prog 98 2=some 2:=by kernel_rfl
instance:type_of%(iV.mk Dw):=⟨Dw⟩
theorem Dx:bq prog 98 3=some 3:=by kernel_rfl
instance:type_of%(iV.mk Dx):=⟨Dx⟩
instance:iV prog 98 1 1:=⟨by kernel_rfl⟩
theorem abA:aK prog 108:=⟨_,func108,rfl,by kernel_rfl⟩
instance:iV prog 98 4 4:=⟨by kernel_rfl⟩
theorem ajZ:aK prog 63:=⟨_,func63,rfl,by kernel_rfl⟩
theorem Hw:aK prog 64:=⟨_,func64,rfl,by kernel_rfl⟩
instance:iV prog 98 0 0:=⟨by kernel_rfl⟩
theorem aj0:aK prog 67:=⟨_,func67,rfl,by kernel_rfl⟩
theorem aj1:aK prog 68:=⟨_,func68,rfl,by kernel_rfl⟩
theorem Lp:aK prog 71:=⟨_,func71,rfl,by kernel_rfl⟩
theorem Ds:bq prog 51 0=some 0:=by kernel_rfl
instance:type_of%(iV.mk Ds):=⟨Ds⟩
theorem tD:bq prog 51 1=some 1:=by kernel_rfl
instance:type_of%(iV.mk tD):=⟨tD⟩
theorem Dt:bq prog 51 2=some 2:=by kernel_rfl
instance:type_of%(iV.mk Dt):=⟨Dt⟩
theorem jo:(prog.info? 51).map (·.size)=some 3:=by kernel_rfl
instance:type_of%(qW.mk jo):=⟨jo⟩
theorem SC:(prog.info? 51).bind (λi=>i.zero.map Value.cells)=some #[.int .i64 0,.int .i64 0,.slice none 0 0]:=by kernel_rfl
instance:type_of%(sP.mk SC):=⟨SC⟩
theorem acI:aK prog 70:=⟨_,func70,rfl,by kernel_rfl⟩
instance:sP prog 161 #[.nilFunc]:=⟨by kernel_rfl⟩
theorem ahR:(prog.info? 161).map (·.size)=some 1:=by kernel_rfl
theorem ajO:(prog.info? 35).map (·.bytes)=some 24:=by kernel_rfl
theorem Xp:aK prog 20:=⟨_,func20,rfl,by kernel_rfl⟩
theorem ab5:aK prog 23:=⟨_,func23,rfl,by kernel_rfl⟩
instance:sP prog 35 #[.slice none 0 0]:=⟨by kernel_rfl⟩
instance:sP prog 144 #[.nilFunc]:=⟨by kernel_rfl⟩
theorem ahQ:(prog.info? 144).map (·.size)=some 1:=by kernel_rfl
end Go.Proofs.YtiefglecbgdaiaaGreatDoor
namespace Go.Proofs.YtiefglecbgdaiaaGreatDoor
open Go Go.J Tryz
theorem Vx:aK prog 229:=⟨_,func229,rfl,by kernel_rfl⟩
theorem ahE (w:World):dB prog 30 w= .ok #[(0,1)] w:=by kernel_rfl
instance:iV prog 288 1 2:=⟨by kernel_rfl⟩
instance:iV prog 288 2 3:=⟨by kernel_rfl⟩
instance:iV prog 288 3 4:=⟨by kernel_rfl⟩
theorem SG:(prog.info? 164).bind (·.zero)=some (Value.slice none 0 0):=by kernel_rfl
theorem aa0:(prog.info? 164).map (·.bytes)=some 24:=by kernel_rfl
theorem ahZ:(prog.info? 286).map (·.size)=some 1:=by kernel_rfl
theorem acB:aK prog 243:=⟨_,func243,rfl,by kernel_rfl⟩
theorem ah8:(prog.info? 318).bind (λi=>i.zero.map Value.cells)=some #[.int .i64 0,.int .i64 0]:=by kernel_rfl
theorem Cl:(prog.info? 318).map (·.size)=some 2:=by kernel_rfl
theorem SH:(prog.info? 318).bind (·.zero)=some (Value.agg #[.int .i64 0,.int .i64 0]):=by kernel_rfl
theorem FI:aK prog 210:=⟨_,func210,rfl,by kernel_rfl⟩
instance:iV prog 288 0 0:=⟨by kernel_rfl⟩
theorem aa4:(prog.info? 318).map (·.bytes)=some 16:=by kernel_rfl
theorem ab3:aK prog 211:=⟨_,func211,rfl,by kernel_rfl⟩
theorem O2:aK prog 203:=⟨_,func203,rfl,by kernel_rfl⟩
theorem ahD (w:World):dB prog 288 w= .ok #[(0,2),(2,1),(3,1),(4,1)] w:=by kernel_rfl
theorem ah7:(prog.info? 288).bind (λi=>i.zero.map Value.cells)=some #[.slice none 0 0,.slice none 0 0,.slice none 0 0,.slice none 0 0,.slice none 0 0]:=by kernel_rfl
theorem Vs:aK prog 176:=⟨_,func176,rfl,by kernel_rfl⟩
theorem abW:aK prog 177:=⟨_,func177,rfl,by kernel_rfl⟩
theorem abX:aK prog 178:=⟨_,func178,rfl,by kernel_rfl⟩
theorem Jv:aK prog 119:=⟨_,func119,rfl,by kernel_rfl⟩
instance:iV prog 226 0 0:=⟨by kernel_rfl⟩
theorem Dp:bq prog 226 1=some 1:=by kernel_rfl
instance:type_of%(iV.mk Dp):=⟨Dp⟩
instance:iV prog 226 2 2:=⟨by kernel_rfl⟩
theorem sz5:(prog.info? 5).map (·.size)=some 1:=by kernel_rfl
theorem zv5:(prog.info? 5).bind (·.zero)=some (Value.int .u8 0):=by kernel_rfl
theorem yH:bq prog 226 3=some 3:=by kernel_rfl
instance:type_of%(iV.mk yH):=⟨yH⟩
theorem by5:(prog.info? 5).map (·.bytes)=some 1:=by kernel_rfl
instance:iV prog 220 1 1:=⟨by kernel_rfl⟩
instance:iV prog 220 0 0:=⟨by kernel_rfl⟩
theorem Dn:bq prog 217 0=some 0:=by kernel_rfl
instance:type_of%(iV.mk Dn):=⟨Dn⟩
theorem Tp:bq prog 217 1=some 1:=by kernel_rfl
theorem Kz:(prog.info? 217).map (·.size)=some 6:=by kernel_rfl
instance:type_of%(qW.mk Kz):=⟨Kz⟩
theorem ab6:aK prog 230:=⟨_,func230,rfl,by kernel_rfl⟩
instance:iV prog 217 2 2:=⟨by kernel_rfl⟩
instance:iV prog 217 3 3:=⟨by kernel_rfl⟩
theorem L1:(prog.info? 277).map (·.size)=some 3:=by kernel_rfl
instance:type_of%(qW.mk L1):=⟨L1⟩
theorem r9:(prog.info? 214).map (·.size)=some 1:=by kernel_rfl
theorem abQ:aK prog 150:=⟨_,func150,rfl,by kernel_rfl⟩
theorem aa8:aK prog 103:=⟨_,func103,rfl,by kernel_rfl⟩
instance:iV prog 223 2 7:=⟨by kernel_rfl⟩
theorem ab1:aK prog 207:=⟨_,func207,rfl,by kernel_rfl⟩
theorem ab0:aK prog 206:=⟨_,func206,rfl,by kernel_rfl⟩
instance:iV prog 223 3 13:=⟨by kernel_rfl⟩
theorem pG:(prog.info? 229).map (·.size)=some 6:=by kernel_rfl
instance:type_of%(qW.mk pG):=⟨pG⟩
theorem uP:bq prog 229 2=some 5:=by kernel_rfl
instance:type_of%(iV.mk uP):=⟨uP⟩
theorem abP:aK prog 145:=⟨_,func145,rfl,by kernel_rfl⟩
instance:iV prog 234 0 0:=⟨by kernel_rfl⟩
instance:iV prog 234 1 1:=⟨by kernel_rfl⟩
theorem L0:(prog.info? 226).map (·.size)=some 4:=by kernel_rfl
instance:type_of%(qW.mk L0):=⟨L0⟩
theorem abY:aK prog 204:=⟨_,func204,rfl,by kernel_rfl⟩
instance:iV prog 223 5 16:=⟨by kernel_rfl⟩
theorem ahC (w:World):dB prog 229 w= .ok #[(0,4),(4,1),(5,1)] w:=by kernel_rfl
theorem SB:(prog.info? 229).bind (λi=>i.zero.map Value.cells)=some #[.int .i64 0,.int .i64 0,.int .i64 0,.slice none 0 0,.slice none 0 0,.slice none 0 0]:=by kernel_rfl
instance:type_of%(sP.mk SB):=⟨SB⟩
theorem HI:(prog.info? 229).bind (·.zero)=some (Value.agg #[.int .i64 0,.int .i64 0,.int .i64 0,.slice none 0 0,.slice none 0 0,.slice none 0 0]):=by kernel_rfl
theorem Nu:(prog.info? 229).map (·.bytes)=some 96:=by kernel_rfl
theorem Ky:(prog.info? 107).map (·.size)=some 1:=by kernel_rfl
instance:iV prog 223 4 14:=⟨by kernel_rfl⟩
theorem Ck:(prog.info? 220).map (·.size)=some 2:=by kernel_rfl
instance:type_of%(qW.mk Ck):=⟨Ck⟩
theorem abZ:aK prog 205:=⟨_,func205,rfl,by kernel_rfl⟩
theorem uO:bq prog 229 1=some 4:=by kernel_rfl
instance:type_of%(iV.mk uO):=⟨uO⟩
theorem uw:(prog.info? 234).map (·.size)=some 3:=by kernel_rfl
instance:type_of%(qW.mk uw):=⟨uw⟩
theorem LQ:(prog.info? 234).bind (·.zero)=some (Value.agg #[.int .i64 0,.int .i64 0,.slice none 0 0]):=by kernel_rfl
theorem Vh:(prog.info? 234).map (·.bytes)=some 40:=by kernel_rfl
theorem Wt:(prog.info? 227).map (·.size)=some 1:=by kernel_rfl
theorem aa7:aK prog 101:=⟨_,func101,rfl,by kernel_rfl⟩
theorem SA:(prog.info? 220).bind (λi=>i.zero.map Value.cells)=some #[.int .i64 0,.slice none 0 0]:=by kernel_rfl
instance:type_of%(sP.mk SA):=⟨SA⟩
theorem ahA (w:World):dB prog 220 w= .ok #[(0,1),(1,1)] w:=by kernel_rfl
theorem Vq:aK prog 169:=⟨_,func169,rfl,by kernel_rfl⟩
theorem O0:aK prog 167:=⟨_,func167,rfl,by kernel_rfl⟩
instance:iV prog 223 0 0:=⟨by kernel_rfl⟩
theorem O1:aK prog 170:=⟨_,func170,rfl,by kernel_rfl⟩
theorem Vr:aK prog 171:=⟨_,func171,rfl,by kernel_rfl⟩
instance:iV prog 223 1 5:=⟨by kernel_rfl⟩
theorem uN:bq prog 229 0=some 0:=by kernel_rfl
instance:type_of%(iV.mk uN):=⟨uN⟩
theorem Jz:aK prog 172:=⟨_,func172,rfl,by kernel_rfl⟩
theorem Nz:aK prog 165:=⟨_,func165,rfl,by kernel_rfl⟩
theorem Wj (w:World):dB prog 226 w= .ok #[(0,1),(1,1),(2,1),(3,1)] w:=by kernel_rfl
theorem XB:(prog.info? 226).bind (λi=>i.zero.map Value.cells)=some #[.int .i64 0,.int .i64 0,.int .i64 0,.slice none 0 0]:=by kernel_rfl
theorem Wk (w:World):dB prog 234 w= .ok #[(0,1),(1,1),(2,1)] w:=by kernel_rfl
theorem LM:(prog.info? 234).bind (λi=>i.zero.map Value.cells)=some #[.int .i64 0,.int .i64 0,.slice none 0 0]:=by kernel_rfl
instance:type_of%(sP.mk LM):=⟨LM⟩
theorem abS:aK prog 168:=⟨_,func168,rfl,by kernel_rfl⟩
theorem S9:(prog.info? 217).bind (λi=>i.zero.map Value.cells)=some #[.int .i64 0,.int .i64 0,.slice none 0 0,.slice none 0 0,.slice none 0 0,.slice none 0 0]:=by kernel_rfl
instance:type_of%(sP.mk S9):=⟨S9⟩
theorem ag9 (w:World):dB prog 217 w= .ok #[(0,1),(1,1),(2,1),(3,1),(4,1),(5,1)] w:=by kernel_rfl
theorem VX:(prog.info? 30).bind (·.zero)=some (Value.agg #[.slice none 0 0]):=by kernel_rfl
theorem aa3:(prog.info? 30).map (·.bytes)=some 24:=by kernel_rfl
instance:sP prog 277 #[.slice none 0 0,.slice none 0 0,.slice none 0 0]:=⟨by kernel_rfl⟩
theorem Vp:aK prog 166:=⟨_,func166,rfl,by kernel_rfl⟩
theorem XF:(prog.info? 277).bind (·.zero)=some (Value.agg #[.slice none 0 0,.slice none 0 0,.slice none 0 0]):=by kernel_rfl
theorem aa2:(prog.info? 277).map (·.bytes)=some 72:=by kernel_rfl
theorem ahT:(prog.info? 213).map (·.size)=some 1:=by kernel_rfl
instance:iV prog 217 4 4:=⟨by kernel_rfl⟩
instance:iV prog 217 5 5:=⟨by kernel_rfl⟩
theorem XE:(prog.info? 214).bind (·.zero)=some (Value.slice none 0 0):=by kernel_rfl
theorem aa1:(prog.info? 214).map (·.bytes)=some 24:=by kernel_rfl
theorem ahU:(prog.info? 215).map (·.size)=some 1:=by kernel_rfl
theorem Jw:aK prog 121:=⟨_,func121,rfl,by kernel_rfl⟩
theorem acA:aK prog 242:=⟨_,func242,rfl,by kernel_rfl⟩
theorem ab9:aK prog 241:=⟨_,func241,rfl,by kernel_rfl⟩
theorem ab8:aK prog 240:=⟨_,func240,rfl,by kernel_rfl⟩
theorem ab7:aK prog 239:=⟨_,func239,rfl,by kernel_rfl⟩
theorem ab2:aK prog 209:=⟨_,func209,rfl,by kernel_rfl⟩
instance:iV prog 170 0 0:=⟨by kernel_rfl⟩
theorem abV:aK prog 175:=⟨_,func175,rfl,by kernel_rfl⟩
theorem abU:aK prog 174:=⟨_,func174,rfl,by kernel_rfl⟩
theorem abT:aK prog 173:=⟨_,func173,rfl,by kernel_rfl⟩
instance:iV prog 234 2 2:=⟨by kernel_rfl⟩
theorem abG:aK prog 117:=⟨_,func117,rfl,by kernel_rfl⟩
theorem abH:aK prog 118:=⟨_,func118,rfl,by kernel_rfl⟩
theorem LL:(prog.info? 170).bind (λi=>i.zero.map Value.cells)=some #[.slice none 0 0,.int .i64 0,.slice none 0 0]:=by kernel_rfl
instance:type_of%(sP.mk LL):=⟨LL⟩
theorem Wi (w:World):dB prog 170 w= .ok #[(0,1),(1,1),(2,1)] w:=by kernel_rfl
theorem RC:(prog.info? 170).map (·.size)=some 3:=by kernel_rfl
instance:type_of%(qW.mk RC):=⟨RC⟩
theorem abD:aK prog 114:=⟨_,func114,rfl,by kernel_rfl⟩
theorem abE:aK prog 115:=⟨_,func115,rfl,by kernel_rfl⟩
theorem abF:aK prog 116:=⟨_,func116,rfl,by kernel_rfl⟩
theorem ahB (w:World):dB prog 223 w= .ok #[(0,5),(5,2),(7,6),(13,1),(14,2),(16,1)] w:=by kernel_rfl
theorem ah6:(prog.info? 223).bind (λi=>i.zero.map Value.cells)=some #[.slice none 0 0,.slice none 0 0,.slice none 0 0,.slice none 0 0,.slice none 0 0,.slice none 0 0,.slice none 0 0,.int .i64 0,.int .i64 0,.slice none 0 0,.slice none 0 0,.slice none 0 0,.slice none 0 0,.slice none 0 0,.int .i64 0,.slice none 0 0,.map none]:=by kernel_rfl
theorem Tn:bq prog 170 1=some 1:=by kernel_rfl
instance:iV prog 170 2 2:=⟨by kernel_rfl⟩
theorem T1 {a:Value}(b:a.oneCell'=true)(w:World):(Instr.build 30 #[(0,a)]).run prog w= .ok (.agg #[a]) w:=
 bI VV (ahE w) (by simp[Instr.fill,J.bL,J.cells_one b])
theorem yr {a b:Value}(c:a.oneCell'=true)(h1:b.oneCell'=true)(w:World):(Instr.build 318 #[(0,a),(1,b)]).run prog w= .ok (.agg #[a,b]) w:=
 JE underlying318 ah8 dQ (by simp[Instr.fill,J.bL,J.cells_one c,J.cells_one h1])
theorem Nr {a b:Value}(w:World):(Instr.build 288 #[(0,.agg #[a,b])]).run prog w= .ok (.agg #[a,b,.slice none 0 0,.slice none 0 0,.slice none 0 0]) w:=
 bI ah7 (ahD w) (by simp[Instr.fill,J.bL])
theorem Xj (w:World):(Instr.build 30 #[]).run prog w= .ok (.agg #[.slice none 0 0]) w:=
 bI VV (ahE w) (by simp[Instr.fill,J.bL])
theorem Np {a b c d:Value}(w:World):(Instr.build 229 #[(0,.agg #[a,b,c,d])]).run prog w= .ok (.agg #[a,b,c,d,.slice none 0 0,.slice none 0 0]) w:=
 bI SB (ahC w) (by simp[Instr.fill,J.bL])
theorem Hr {a b:Value}(c:a.oneCell'=true)(h1:b.oneCell'=true)(w:World):(Instr.build 220 #[(0,a),(1,b)]).run prog w= .ok (.agg #[a,b]) w:=
 bI SA (ahA w) (by simp[Instr.fill,J.bL,J.cells_one c,J.cells_one h1])
theorem uE {a b c:Value}(d:a.oneCell'=true)(h1:b.oneCell'=true)(w:World):(Instr.build 226 #[(0,a),(1,b),(3,.agg #[c])]).run prog w= .ok (.agg #[a,b,.int .i64 0,c]) w:=
 bI XB (Wj w) (by simp[Instr.fill,J.bL,J.cells_one d,J.cells_one h1])
theorem Hs {a b:Value}(c:a.oneCell'=true)(h1:b.oneCell'=true)(w:World):(Instr.build 234 #[(0,a),(1,b)]).run prog w= .ok (.agg #[a,b,.slice none 0 0]) w:=
 bI LM (Wk w) (by simp[Instr.fill,J.bL,J.cells_one c,J.cells_one h1])
theorem yp {a b c d:Value}(e:a.oneCell'=true)(h1:b.oneCell'=true)(f:c.oneCell'=true)(w:World):(Instr.build 226 #[(0,a),(1,b),(2,c),(3,.agg #[d])]).run prog w= .ok (.agg #[a,b,c,d]) w:=
 bI XB (Wj w) (by simp[Instr.fill,J.bL,J.cells_one e,J.cells_one h1,J.cells_one f])
theorem yq {a b:Value}(c:a.oneCell'=true)(d:b.oneCell'=true)(w:World):(Instr.build 234 #[(0,a),(2,b)]).run prog w= .ok (.agg #[a,.int .i64 0,b]) w:=
 bI LM (Wk w) (by simp[Instr.fill,J.bL,J.cells_one c,J.cells_one d])
theorem Ho {a b:Value}(c:a.oneCell'=true)(h1:b.oneCell'=true)(w:World):(Instr.build 217 #[(0,a),(1,b)]).run prog w= .ok (.agg #[a,b,.slice none 0 0,.slice none 0 0,.slice none 0 0,.slice none 0 0]) w:=
 bI S9 (ag9 w) (by simp[Instr.fill,J.bL,J.cells_one c,J.cells_one h1])
theorem vT {i j k l m n a b c d e f g o p h:Value}(q:h.oneCell'=true)(w:World):(Instr.build 223 #[(0,.agg #[i,j,k,l,m]),(1,.agg #[n,a]),(2,.agg #[b,c,d,e,f,g]),(4,.agg #[o,p]),(5,h)]).run prog w= .ok (.agg #[i,j,k,l,m,n,a,b,c,d,e,f,g,.slice none 0 0,o,p,h]) w:=
 bI ah6 (ahB w) (by simp[Instr.fill,J.bL,J.cells_one q])
theorem DT (w:World):(Instr.build 170 #[]).run prog w= .ok (.agg #[.slice none 0 0,.int .i64 0,.slice none 0 0]) w:=
 bI LL (Wi w) (by simp[Instr.fill,J.bL])
theorem Hn {a b:Value}(c:a.oneCell'=true)(h1:b.oneCell'=true)(w:World):(Instr.build 170 #[(0,a),(1,b)]).run prog w= .ok (.agg #[a,b,.slice none 0 0]) w:=
 bI LL (Wi w) (by simp[Instr.fill,J.bL,J.cells_one c,J.cells_one h1])
def qQ (n:Nat)(o:List Nat):List Int:=(List.range n).map λi=>if i∈o then(o.idxOf i:Int)else-1
theorem zw (n:Nat)(o:List Nat):(qQ n o).length=n:=by simp[qQ]
theorem yS {n:Nat}{o:List Nat}{i:Nat}(h:i<n):(qQ n o)[i]?=some (if i∈o then(o.idxOf i:Int)else-1):=by
 unfold qQ;rw[bJ,nP h];rfl
theorem QC {n:Nat}{o:List Nat}{i:Nat}(h:i<n)(b:i∉o):(qQ n o).set i (o.length:Int)=qQ n (o++ [i]):=by
 refine nN λj=> ?_
 rcases dI j n with a|a
 ·rw[yS a]
  by_cases e:j=i
  ·subst e
   rw[ic (by rw[zw];exact a),aB (by simp),List.idxOf_append,aA b];simp
  ·rw[iz (λh=>e h.symm),yS a]
   by_cases c:j∈o
   ·rw[aB c,aB (by simp[c]),List.idxOf_append,aB c]
   ·rw[aA c,aA (by simp[c,e])]
 ·rw[iR (by rw[ep,zw];exact a),iR (by rw[zw];exact a)]
theorem QB (n:Nat):qQ n []=List.replicate n (-1):=by
 unfold qQ;refine nN λj=> ?_
 rw[bJ,si]
 rcases dI j n with a|a
 ·rw[nP a,aB a];simp
 ·rw[iR (by simpa using a),aA zE];rfl
theorem k9 (l:List Int)(k:Nat)(x:Int):(rows aJ l).set (k*1+0) (iv x)=rows aJ (l.set k x):=by
 rw[fU,hY,fR,fR,mJ]
theorem gg {l:List Int}{k:Nat}{x:Int}(h:l[k]?=some x):(rows aJ l)[k*1+0]?=some (iv x):=by
 rw[fU,hY,fR,bJ,h];rfl
theorem A7 (n:Nat):List.replicate n (iv 0)=rows aJ (List.replicate n 0):=by rw[fR,rM]
theorem Jb (d e bg bv:Nat)(nv:Value)(g:dC)(F:tu (bE g))(X:g.nodes.length≤120)(L:(bE g).length=g.nodes.length):∀(f:Nat) (o:List Nat) (i:Nat) (q:Value),q.oneCell'=true→DD (bE g) o→i<g.nodes.length→N0 g.nodes.length o<f→dx prog 229 ([iv i]++ [(tW d),(tW e),(tW bg),(tW bv)]).toArray [aD (sl bz g.nv.1 g.nodes),aD (aL cF g.nodes),tI d [nv] 35,row nv 3 1 g.nodes.length (rows aJ (qQ g.nodes.length (o))),tI e [q] 35,row q 3 1 (o).length (rows aJ (cm (o))),tI bg [g.nv.1] 30,tI bv [(.func (.func 229) #[] [(tW d),(tW e),(tW bg),(tW bv)].toArray)] 144] (λv H'=>∃l,l.oneCell'=true∧H'=[tI d [nv] 35,row nv 3 1 g.nodes.length (rows aJ (qQ g.nodes.length (lU (bE g) f o i))),tI e [l] 35,row l 3 1 (lU (bE g) f o i).length (rows aJ (cm (lU (bE g) f o i))),tI bg [g.nv.1] 30,tI bv [(.func (.func 229) #[] [(tW d),(tW e),(tW bg),(tW bv)].toArray)] 144]):=by
 intro f
 induction f with
 |zero=>intro o i q _ _ _ h;omega
 |succ f M=> ?_
 intro o i q N A hi hu;refine dx.body (args:=[iv i]++ [(tW d),(tW e),(tW bg),(tW bv)]) 38 func229 rfl ntmps229 rfl (λc=>g6 ?_);refine St.ee (Ev.dw (.mk rfl) fA trivial zE (gg (yS hi))) (g3 ?_);refine St.cond _ rfl (λw=> ?_) (λw=> ?_)
 ·skip
  have u:i∈o:=by by_cases c:i∈o;exact c;rw[aA c]at w;exact absurd (im w) (by decide)
  have r:lU (bE g) (f+1) o i=o:=by rw[lD,aB u]
  refine g2 ?_;refine St.rV [] [tI d [nv] 35,row nv 3 1 g.nodes.length (rows aJ (qQ g.nodes.length (o))),tI e [q] 35,row q 3 1 (o).length (rows aJ (cm (o))),tI bg [g.nv.1] 30,tI bv [(.func (.func 229) #[] [(tW d),(tW e),(tW bg),(tW bv)].toArray)] 144] ?_;exact⟨q,N,by rw[r]⟩
 ·skip
  have u:i∉o:=λc=>by rw[aB c]at w;exact absurd (ly w) zE
  have r:lU (bE g) (f+1) o i=nb (bE g) f (o++ [i]) ((bE g).getD i gq).2:=by rw[lD,aA u]
  have Y:=l8 A.nd (n:=g.nodes.length) (λj m=>by have:=A.lt j m;omega)
  have Z:=H5 hi u
  obtain⟨t,ht⟩:=aF (show i<g.nodes.length by omega)
  have O:=aY ht
  have P:(bE g).getD i gq=mQ t:=by rw[ax,l7 ht];rfl
  have y:((bE g).getD i gq).2=t.bA.map fV:=by rw[P];rfl
  refine St.bh cF g.nodes (x:=t) O (St.fF (sl bC t.lv.1 t.bA) [cF t] (λρ h=>h _ (aR ..)) (St.wf t.lv.1 (λUD SM=>?_)))
  have B:DD (bE g) (o++ [i]):=⟨by rw[List.nodup_append];exact⟨A.nd,by simp,by intro a Q b R;rw[ba.1 R];rintro rfl;exact u Q⟩,λj m=>by rcases ca.1 m with m|m;exact A.lt j m;rw[ba.1 m,L];exact hi⟩
  refine g9 ?_;refine St.dF (.mk rfl) (.mk rfl) dQ rfl zE (by decide) ?_;refine St.aP nv rfl (show _=rows aJ (qQ g.nodes.length (o++ [i])) by rw[k9,QC hi u]) ?_;refine g6 ?_;refine St.iu rfl (.aq rfl) bQ dQ ec rfl rfl (by simp[Value.cells]) rfl rfl (λb20=> ?_);refine St.bH (.mk rfl) (.mk rfl) bQ dQ ec yt (by simp[Value.oneCell',Value.cells]) zE zE rfl rfl rfl rfl (λv21 S=> ?_);refine St.aP v21 (show _=(o++ [i]).length from cW) (show _=rows aJ (cm (o++ [i]))from wD (Int.natCast_nonneg i)) (St.cH v21 (λG _=>St.cP (.mk rfl) (.mk rfl) fT G (by rfl) ?_));refine g15 ?_;refine St.aP nv rfl (show _=rows aJ (qQ g.nodes.length (nb (bE g) f (o++ [i]) ((((bE g).getD i gq).2).take (0))))from rfl) (St.aP v21 (show _=(nb (bE g) f (o++ [i]) ((((bE g).getD i gq).2).take (0))).length from rfl) (show _=rows aJ (cm (nb (bE g) f (o++ [i]) ((((bE g).getD i gq).2).take (0))))from rfl) (St.td (ι:=Nat) (κ:=Value) (λk z T=>(29,iv k)::T) (λk z=>[tI d [nv] 35,row nv 3 1 g.nodes.length (rows aJ (qQ g.nodes.length (nb (bE g) f (o++ [i]) ((((bE g).getD i gq).2).take (k))))),tI e [z] 35,row z 3 1 (nb (bE g) f (o++ [i]) ((((bE g).getD i gq).2).take (k))).length (rows aJ (cm (nb (bE g) f (o++ [i]) ((((bE g).getD i gq).2).take (k))))),tI bg [g.nv.1] 30,tI bv [(.func (.func 229) #[] [(tW d),(tW e),(tW bg),(tW bv)].toArray)] 144,aD (sl bC t.lv.1 t.bA),aD (sl bz g.nv.1 g.nodes),aD (aL cF g.nodes)]) (λk z=>k≤t.bA.length∧z.oneCell'=true∧DD (bE g) (nb (bE g) f (o++ [i]) ((((bE g).getD i gq).2).take (k)))) (λk z=>t.bA.length-k) 0 v21 (aC.k3 4 27 28) ⟨aQ _,G,B⟩ ?_));rintro k z ⟨hk,hz,H⟩;refine g6 ?_;refine St.cq (λU=> ?_) (λU=> ?_)
  ·obtain⟨p,hp⟩:=aF (show k<t.bA.length by omega)
   have I:((bE g).getD i gq).2[k]?=some (fV p):=by rw[y];show(t.bA.map fV)[k]?=_;rw[bJ,hp];rfl
   obtain⟨_,J,s⟩:=F.at_ (aY I)
   replace J:0≤p.tqo:=J
   replace s:p.tqo.toNat<(bE g).length:=s
   have K:(((bE g).getD i gq).2).take (k+1)=(((bE g).getD i gq).2).take k++ [fV p]:=ag I
   obtain⟨j,m⟩:∃j:Nat,j=p.tqo.toNat:=⟨_,rfl⟩
   have C:p.tqo=(j:Int):=by omega
   have V:N0 g.nodes.length (nb (bE g) f (o++ [i]) ((((bE g).getD i gq).2).take (k)))≤N0 g.nodes.length (o++ [i]):=H4 (λx hx=>(rF (bE g) f _ _).subset hx)
   refine g7 ?_;refine St.ee (Ev.iD (.mk rfl) hp lT trivial de gH.eq) (St.al (λb7=>g3 ?_));refine St.dup (sl bz g.nv.1 g.nodes) (St.dup (aL cF g.nodes) (g4 ?_));refine St.slot 35 (iv (j:Nat)) rfl (congrArg iv C) (St.ej (M (nb (bE g) f (o++ [i]) ((((bE g).getD i gq).2).take (k))) j z hz H zE zE) Vx (.mk rfl) (.aq rfl) rfl ?_);rintro v36 _ ⟨l,D,rfl⟩;refine St.NZ ?_
   have E:lU (bE g) f (nb (bE g) f (o++ [i]) ((((bE g).getD i gq).2).take (k))) j=nb (bE g) f (o++ [i]) ((((bE g).getD i gq).2).take (k+1)):=by rw[K,Cu];show _=lU (bE g) f _ p.tqo.toNat;rw[←m]
   rw[E];refine g8 ?_;refine St.vL (k+1) l ⟨by omega,D,by rw[K,Cu];exact Rx F _ _ _ H s⟩
  ·obtain rfl:k=t.bA.length:=by omega
   have W:(((bE g).getD i gq).2).take t.bA.length=((bE g).getD i gq).2:=fZ (by rw[y,aO];exact aU _)
   rw[W,←r];refine g4 ?_;refine St.fi (St.rV [] [tI d [nv] 35,row nv 3 1 g.nodes.length (rows aJ (qQ g.nodes.length (lU (bE g) (f+1) o i))),tI e [z] 35,row z 3 1 (lU (bE g) (f+1) o i).length (rows aJ (cm (lU (bE g) (f+1) o i))),tI bg [g.nv.1] 30,tI bv [(.func (.func 229) #[] [(tW d),(tW e),(tW bg),(tW bv)].toArray)] 144] ?_);exact⟨z,hz,rfl⟩
def Uk:db:=⟨0,bx,[]⟩
theorem QZ {N:List db}{k:Nat}{x:db}(h:N[k]?=some x)(t:Int):(rows bz N).set (k*2+0) (iv t)=rows bz (N.set k ⟨t,x.lv,x.bA⟩):=by
 induction N generalizing k with
 |nil=>cases h
 |cons a N b=>
  cases k with
  |zero=>obtain rfl:=Option.some.inj h;rfl
  |succ k=>
   have:=b (k:=k) h
   show(bz.cells a++rows bz N).set ((k+1)*2+0) (iv t)=bz.cells a++rows bz (N.set k _)
   rw[←this,oE _ _ (by show 2≤_;omega)]
   congr 2
   show(k+1)*2+0-2=_
   omega
theorem QY {N:List db}{k:Nat}{x:db}(h:N[k]?=some x)(v:ah)(L:List dt):(rows bz N).set (k*2+1) v.1=rows bz (N.set k ⟨x.type,v,L⟩):=by
 induction N generalizing k with
 |nil=>cases h
 |cons a N b=>
  cases k with
  |zero=>obtain rfl:=Option.some.inj h;rfl
  |succ k=>
   have:=b (k:=k) h
   show(bz.cells a++rows bz N).set ((k+1)*2+1) v.1=bz.cells a++rows bz (N.set k _)
   rw[←this,oE _ _ (by show 2≤_;omega)]
   congr 2
   show(k+1)*2+1-2=_
   omega
def QL (g:eB)(o:List Nat)(i:Nat):LV:=((g.getD i gq).1,(g.getD i gq).2.map λx=>(x.1,(o.idxOf x.2.toNat:Int)))
theorem Oq (g:eB)(r:Nat):iH g r=(xx g r).map (QL g (xx g r)):=rfl
theorem vO (g:dC)(K:tu (bE g))(hn:g.nodes.length≤120)(hL:∀t∈g.nodes,t.bA.length≤1000000)(r:Nat)(hr:r<g.nodes.length):dx prog 203 #[bF g,iv r] ([aI g].map aD) (λv H'=>H'=[aD (bS (iH (bE g) r) v)]):=by
 refine dx.body (args:=[bF g,iv r]) 88 func203 rfl ntmps203 rfl (λc=>St.cast (H':=[aD (aI g)]) rfl (go ?_))
 refine St.jU (aI g) (λ_:Unit=>jb g) (λρ h=>⟨(),h⟩) λ_=> ?_
 refine St.cast (H':=[aD (sl bz g.nv.1 g.nodes),aD (aL cF g.nodes),aD (aI g)]) rfl ?_
 have U9:=ct g
 refine go ?_;refine St.cC (.mk rfl) rfl (λG=>St.al (λM=>g7 ?_));refine St.nC (m:=g.nodes.length) (.mk rfl) (.mk rfl) bQ dQ ec yt rfl rfl zE rfl rfl (λb=> ?_);refine St.aP (tO b g.nodes.length g.nodes.length) rfl (A7 _) (St.al (λH=>St.cP (.mk rfl) (.mk rfl) fT rfl (by rfl) ?_));refine g11 ?_;refine St.td (ι:=Nat) (κ:=List Int) (λk U T=>(20,iv k)::T) (λk U=>[row (tO b g.nodes.length g.nodes.length) 3 1 g.nodes.length (rows aJ (U)),tI H [(tO b g.nodes.length g.nodes.length)] 35,tI G [g.nv.1] 30,tI M [(.slice none 0 0)] 30,aD (sl bz g.nv.1 g.nodes),aD (aL cF g.nodes),aD (aI g)]) (λk U=>k≤g.nodes.length∧U.length=g.nodes.length∧∀i,i<k→U[i]?=some (-1)) (λk U=>g.nodes.length-k) 0 (List.replicate g.nodes.length 0) (aC.k5 1 2 4 5 19) ⟨aQ _,by simp,λi hi=>by omega⟩ ?_;rintro k U ⟨hk,O,hU⟩;refine g6 ?_;refine St.cq (λh21=> ?_) (λh21=> ?_)
 ·refine g14 ?_
  refine St.dF (.mk rfl) (.mk rfl) dQ rfl zE (by decide) ?_;refine St.aP (tO b g.nodes.length g.nodes.length) rfl (k9 _ _ _) (g8 ?_);refine St.vL (k+1) (U.set k (-1)) ⟨by omega,by rw[ep];exact O,λi hi=>by by_cases e:i=k;(rw[e,ic zE]);(rw[iz (λh=>e h.symm)];exact hU i zE)⟩
 ·obtain rfl:k=g.nodes.length:=by omega
  have P:U=qQ g.nodes.length []:=by rw[QB];refine nN λj=> ?_;rw[si];rcases dI j g.nodes.length with d|d;(rw[hU j d,aB d]);(rw[iR zE,aA zE])
  subst P;refine g7 ?_;refine St.al (λQ=>g4 ?_);refine St.al (λb8=>g4 ?_);refine St.ee (Ev.func (.gn rfl rfl rfl rfl)) (St.cP (.mk rfl) (.mk rfl) ahQ rfl (by rfl) ?_);refine g3 ?_;refine St.e7 3 1 (St.aP (.slice none 0 0) (show _=([]:List Nat).length from rfl) (show _=rows aJ (cm [])from rfl) (St.dup (sl bz g.nv.1 g.nodes) (St.dup (aL cF g.nodes) (g3 ?_))));refine St.ej (Jb H Q G b8 (tO b g.nodes.length g.nodes.length) g K hn U9 ((bE g).length+1) [] r (.slice none 0 0) rfl ⟨List.nodup_nil,λj d=>by cases d⟩ hr (by rw[LC];omega)) Vx (.mk rfl) (.aq rfl) rfl ?_;rintro v30 _ ⟨I,hov,rfl⟩;refine St.NZ ?_
  obtain⟨o,YU⟩:∃o,o=lU (bE g) ((bE g).length+1) [] r:=⟨_,rfl⟩
  rw[←YU]
  have A:xx (bE g) r=o:=YU.symm
  obtain⟨B,C,_⟩:=QJ K (r:=r) zE;rw[A]at B C
  have hol:=l8 B.nd (n:=g.nodes.length) (λj d=>by have:=B.lt j d;omega)
  refine g6 ?_;refine St.yP (Rr:=bz) (g:=Uk) (m:=o.length) (sz:=2) rfl (.mk rfl) (.mk rfl) na jF HH Nt rfl rfl zE rfl rfl (λa=> ?_);refine St.ee (Ev.build (au.aq rfl) (λw=>T1 rfl w)) (St.al (λb9=>g12 ?_));refine St.fact (aL cF (List.replicate o.length Uk)) (λρ _ _ x hx=>by rw[Ao hx];exact lp _ _) ?_;refine St.td (ι:=Nat) (κ:=List db) (λk N T=>(37,iv k)::T) (λk N=>[row (tO a o.length o.length) 166 2 o.length (rows bz (N)),tI b9 [(tO a o.length o.length)] 30,tI Q [I] 35,row I 3 1 o.length (rows aJ (cm o)),tI G [g.nv.1] 30,tI M [(.slice none 0 0)] 30,tI H [(tO b g.nodes.length g.nodes.length)] 35,row (tO b g.nodes.length g.nodes.length) 3 1 g.nodes.length (rows aJ (qQ g.nodes.length o)),aD (aL cF N),aD (sl bz g.nv.1 g.nodes),aD (aL cF g.nodes),aD (aI g)]) (λk N=>k≤o.length∧N.length=o.length∧(N.take k).map mQ=(o.take k).map (QL (bE g) o)∧(∀j,k≤j→j<o.length→N[j]?=some Uk)∧∀x∈N,bz.wf x) (λk N=>o.length-k) 0 (List.replicate o.length Uk) (aC.k6 2 4 5 9 35 36) ⟨aQ _,by simp,rfl,λj _ d=>by rw[List.getElem?_replicate,if_pos d],λx hx=>by rw[Ao hx];exact⟨by decide,by decide⟩⟩ ?_;rintro k N ⟨hk,D,f,E,F⟩;refine g6 ?_;refine St.cq (λh38=> ?_) (λh38=> ?_)
  ·obtain⟨i,hi⟩:=aF (show k<o.length by omega)
   have UB:=B.lt i (aY hi)
   obtain⟨t,ht⟩:=aF (show i<g.nodes.length by omega)
   have R:=aY ht
   have S:(bE g).getD i gq=mQ t:=by rw[ax,l7 ht];rfl
   have V:=E k (aU _) zE
   have YM:=C i (aY hi)
   rw[S]at YM
   have htL:=hL t R
   refine St.wf g.nv.1 (λW _=>?_)
   have htw:aZ t.type:=W t R
   refine St.bh cF g.nodes (x:=t) R (St.fF (sl bC t.lv.1 t.bA) [cF t] (λρ h=>h _ (aR ..)) (St.wf t.lv.1 (λUD SM=>g8 ?_)));refine St.ee (Ev.dw (.mk rfl) fA trivial zE (gg (show(cm o)[k]?=some (i:Int) by rw[bJ,hi];rfl))) ?_;refine g5 ?_;refine St.ef [row (tO a o.length o.length) 166 2 o.length (rows bz (N))] mixed (λnp ns=>SW.gd 0 ?_);refine SW.gd 1 ?_;refine SW.gd 2 ?_;refine SW.gd 3 ?_;refine SW.gd 4 ?_;refine SW.gd 5 ?_;refine SW.gd 6 ?_;refine SW.gd 7 ?_;refine SW.gd 8 ?_;refine SW.dd 9 rfl (λ_=>Ev.nT (k:=k) rfl (.mk rfl) (.mk rfl) na jF zE zE) (SW.dd 10 rfl (λ_=>Ev.uJ rfl (.mk rfl) uK) (SW.t1 11 ?_));refine St.dF (.mk rfl) (.mk rfl) dQ rfl zE (by decide) ?_;refine g2 ?_;refine SW.go (SW.dn (g2 ?_));refine St.aP (tO a o.length o.length) rfl (show _=rows bz (N.set k ⟨t.type,bx,[]⟩)from QZ V _) (g12 ?_);refine St.e7 168 2 (St.aP (.slice none 0 0) (show _=([]:List dt).length from rfl) (show _=rows bC []from rfl) (St.td (ι:=Nat) (κ:=ah×List dt) (λq z T=>(60,iv q)::T) (λq z=>[row (tO a o.length o.length) 166 2 o.length (rows bz (N.set k ⟨t.type,z.1,z.2⟩)),row z.1.1 168 2 (z.2).length (rows bC (z.2)),tI b9 [(tO a o.length o.length)] 30,tI Q [I] 35,row I 3 1 o.length (rows aJ (cm o)),tI G [g.nv.1] 30,tI M [(.slice none 0 0)] 30,tI H [(tO b g.nodes.length g.nodes.length)] 35,row (tO b g.nodes.length g.nodes.length) 3 1 g.nodes.length (rows aJ (qQ g.nodes.length o)),aD (sl bC t.lv.1 t.bA),aD (aL cF N),aD (sl bz g.nv.1 g.nodes),aD (aL cF g.nodes),aD (aI g)]) (λq z=>q≤t.bA.length∧z.2.length=q∧z.2.map fV=(t.bA.take q).map (λp=>(p.dE,(o.idxOf p.tqo.toNat:Int)))∧∀x∈z.2,bC.wf x) (λq z=>t.bA.length-q) 0 (bx,[]) (aC.k10 2 4 5 9 10 35 36 37 58 59) ⟨aQ _,rfl,rfl,λx hx=>by cases hx⟩ ?_));rintro q ⟨lv,L⟩ ⟨hq,hLl,J,l⟩
   dsimp only at hLl J l⊢
   have s:(N.set k ⟨t.type,lv,L⟩)[k]?=some ⟨t.type,lv,L⟩:=ic zE
   refine g6 ?_;refine St.cq (λX=> ?_) (λX=> ?_)
   ·obtain⟨p,hp⟩:=aF (show q<t.bA.length by omega)
    have u:p.tqo.toNat∈o:=YM (fV p) (dh (aY hp))
    have hpi:=List.idxOf_lt_length_iff.2 u
    have hpn:=B.lt _ u
    have hp0:0≤p.tqo:=by have h0:=K.at_ (i:=i) (x:=fV p) (by rw[S];exact dh (aY hp));exact h0.2.1
    refine g7 ?_;refine St.ee (Ev.iD (.mk rfl) hp lT trivial de gH.eq) (St.al (λVc=>g3 ?_));refine St.ef [row (tO a o.length o.length) 166 2 o.length (rows bz (N.set k ⟨t.type,lv,L⟩)),row lv.1 168 2 (L).length (rows bC (L))] mixed (λnp ns=>SW.gd 0 ?_);refine SW.gd 1 ?_;refine SW.gd 2 ?_;refine SW.gd 3 ?_;refine SW.gd 4 ?_;refine SW.gd 5 ?_;refine SW.dd 6 rfl (λ_=>Ev.nT (k:=k) rfl (.mk rfl) (.mk rfl) na jF zE zE) (SW.dd 7 rfl (λ_=>Ev.uJ rfl (.mk rfl) uL) (SW.gd 9 ?_));refine SW.gd 10 ?_;refine SW.gd 11 ?_;refine SW.gd 12 ?_;refine SW.gd 13 ?_;refine SW.dd 14 rfl (λ_=>Ev.dV (k:=p.tqo.toNat) (.mk rfl) (.mk rfl) bQ dQ zE zE) (SW.dd 15 rfl (λ_=>Ev.dw (.mk rfl) fA trivial zE (gg (yS zE))) (SW.slot 79 (iv ((o.idxOf p.tqo.toNat:Nat):Int)) rfl (by rw[aB u]) ?_));refine SW.dd 16 rfl (λ_=>Ev.build (ps:=[(0,(.tmp 74)),(1,(.tmp 79))]) (au.aX rfl rfl) (λw=>pR rfl rfl w)) (SW.slot 80 (.agg #[iv p.dE,iv ((o.idxOf p.tqo.toNat:Nat):Int)]) rfl rfl (SW.t2 8 17 ?_ ?_))
    focus
     refine St.ee (Ev.dw (.mk rfl) eX trivial zE (eo bz _ k 1 _ s (by decide))) ?_;refine g2 ?_;refine SW.go (SW.t1 17 ?_);refine St.iu rfl (.aq rfl) eX de kg rfl rfl (by simp[Value.cells]) rfl rfl (λY=> ?_);refine g2 ?_;refine SW.go (SW.t1 18 ?_);refine St.bH (.mk rfl) (.mk rfl) eX de kg qg (by simp[Value.oneCell',Value.cells]) zE zE rfl rfl rfl rfl (λv82 Z=> ?_);refine St.aP v82 (show _=(L++ [(⟨p.dE,o.idxOf p.tqo.toNat⟩:dt)]).length from cW) (show _=rows bC (L++ [(⟨p.dE,o.idxOf p.tqo.toNat⟩:dt)]) by rw[bN];rfl) ?_;refine St.cH v82 (λy _=>g2 ?_);refine SW.go (SW.dd 19 rfl (λ_=>Ev.nT (k:=k) rfl (.mk rfl) (.mk rfl) na jF zE zE) (SW.dd 20 rfl (λ_=>Ev.uJ rfl (.mk rfl) uL) (SW.t1 21 ?_)));refine St.dF (.mk rfl) (.mk rfl) qD y zE (by decide) ?_;refine g2 ?_;refine SW.go (SW.dn ?_)
    rotate_left
    focus
     refine St.iu rfl (.aq rfl) eX de kg rfl rfl (by simp[Value.cells]) rfl rfl (λY=> ?_);refine g2 ?_;refine SW.go (SW.t1 8 ?_);refine St.ee (Ev.dw (.mk rfl) eX trivial zE (eo bz _ k 1 _ s (by decide))) ?_;refine g2 ?_;refine SW.go (SW.t1 18 ?_);refine St.bH (.mk rfl) (.mk rfl) eX de kg qg (by simp[Value.oneCell',Value.cells]) zE zE rfl rfl rfl rfl (λv82 Z=> ?_);refine St.aP v82 (show _=(L++ [(⟨p.dE,o.idxOf p.tqo.toNat⟩:dt)]).length from cW) (show _=rows bC (L++ [(⟨p.dE,o.idxOf p.tqo.toNat⟩:dt)]) by rw[bN];rfl) ?_;refine St.cH v82 (λy _=>g2 ?_);refine SW.go (SW.dd 19 rfl (λ_=>Ev.nT (k:=k) rfl (.mk rfl) (.mk rfl) na jF zE zE) (SW.dd 20 rfl (λ_=>Ev.uJ rfl (.mk rfl) uL) (SW.t1 21 ?_)));refine St.dF (.mk rfl) (.mk rfl) qD y zE (by decide) ?_;refine g2 ?_;refine SW.go (SW.dn ?_)
    all_goals
     refine g2 ?_;refine St.aP (tO a o.length o.length) rfl (show _=rows bz (N.set k ⟨t.type,⟨v82,y⟩,L++ [⟨p.dE,o.idxOf p.tqo.toNat⟩]⟩)from(QY s ⟨v82,y⟩ (L++ [⟨p.dE,o.idxOf p.tqo.toNat⟩])).trans (congrArg (rows bz) (List.set_set ..))) (g5 ?_);refine St.vL (q+1) (⟨v82,y⟩,L++ [⟨p.dE,o.idxOf p.tqo.toNat⟩]) ⟨by omega,by dsimp only;rw[cA,hLl];rfl,by dsimp only;rw[cY,J,ag hp,cY];rfl,λx hx=>by rcases ca.1 hx with hx|hx;exact l x hx;rw[ba.1 hx];exact⟨(UD p (aY hp)).1,by show aZ ((o.idxOf p.tqo.toNat:Nat):Int);unfold aZ;omega⟩⟩
   ·obtain rfl:q=t.bA.length:=by omega
    rw[fZ (aU _)]at J;refine St.bU lv.1 bC L rfl rfl l (St.fF (aL cF (N.set k ⟨t.type,lv,L⟩)) [aL cF N,sl bC lv.1 L] (λρ h x hx=>by rcases lV hx with hx|rfl;exact h _ (aR ..) x hx;exact h _ (cO _ (aR ..))) ?_)
    have akY:((N.set k ⟨t.type,lv,L⟩).take (k+1)).map mQ=(o.take (k+1)).map (QL (bE g) o):=by rw[ag (ic zE),ag hi,List.take_set_of_le (aU _),cY,cY,f];congr 1;show [(t.type,L.map fV)]=[QL (bE g) o i];rw[J,QL,S];show _=[(t.type,(t.bA.map fV).map _)];rw[jJ];rfl
    refine g11 ?_;refine St.vL (k+1) (N.set k ⟨t.type,lv,L⟩) ⟨by omega,by rw[ep];exact D,akY,λj h1 h2=>by rw[iz zE];exact E j zE h2,λx hx=>by rcases lV hx with hx|rfl;exact F x hx;exact htw⟩
  ·obtain rfl:k=o.length:=by omega
   have U8:N.map mQ=iH (bE g) r:=by rw[Oq,A];rw[fZ zE,fZ zE]at f;exact f
   refine St.bU (tO a o.length o.length) bz N rfl D.symm F (St.fF (aI ⟨⟨(tO a o.length o.length),rfl⟩,N⟩) [sl bz (tO a o.length o.length) N,aL cF N] (λρ h=>h) (St.fF (bS (iH (bE g) r) (.agg #[(tO a o.length o.length)])) [aI ⟨⟨(tO a o.length o.length),rfl⟩,N⟩] (λρ h=>⟨⟨⟨(tO a o.length o.length),rfl⟩,N⟩,rfl,U8,h _ (aR ..)⟩) (g12 ?_)));refine St.rV [_] [aD (bS (iH (bE g) r) (.agg #[(tO a o.length o.length)]))] ?_;exact rfl
theorem Uh {T:List er}{a b:Nat}(h:both T a b=0):iP T a b=none:=by
 unfold iP
 cases e:comm T a b with
 |nil=>rfl
 |cons m r=>
  have:m∈comm T a b:=by rw[e];exact aR ..
  rw[lM,h,Nat.zero_testBit]at this;cases this
theorem agZ {T:List er}{a b m:Nat}(h:(both T a b).testBit m=true)(g:∀i,i<m→(both T a b).testBit i=false):iP T a b=if kZ T a b=true then none else some m:=by
 have hm:=lM.2 h
 unfold iP
 cases e:comm T a b with
 |nil=>rw[e]at hm;cases hm
 |cons c r=>
  have hp:(comm T a b).Pairwise (· < ·):=by unfold comm;exact List.Pairwise.filter _ List.pairwise_lt_range
  rw[e]at hp
  have j:c∈comm T a b:=by rw[e];exact aR ..
  have e2:c=m:=by
   rw[e]at hm
   rcases cN.1 hm with d|d
   ·exact d.symm
   ·have k:=(jq.1 hp).1 m d
    have f:=g c k
    rw[lM.1 j]at f;cases f
  subst e2;rfl
theorem GH (T:List er):xW T.length (iP T):=λa b m h=>by
 unfold iP at h
 split at h
 ·cases h
 ·rename_i c r e
  split at h
  ·cases h
  ·obtain rfl:=Option.some.inj h
   have:c∈comm T a b:=by rw[e];exact aR ..
   unfold comm at this;exact dM.1 (List.mem_filter.1 this).1
def mtV (o:Option Nat)(wr:Bool):Value:= .tuple #[iv ((o.getD 0:Nat):Int),.bool o.isSome,.bool wr]
theorem yb (f g:ah)(T:List er)(m:j5 T)(a b:Nat)(o:a<T.length)(p:b<T.length):dx prog 107 #[kX f g,iv a,iv b] ([sl bP f.1 (da T),sl bP g.1 (dZ T),tz].map aD) (λv H'=>v=mtV (iP T a b) (kZ T a b)∧H'=[]):=by
 refine dx.body (args:=[kX f g,iv a,iv b]) 33 func107 rfl ntmps107 rfl (λc=>St.cast (H':=[aD (sl bP f.1 (da T)),aD (sl bP g.1 (dZ T)),aD (tz)]) rfl (go ?_))
 have l:=m.len
 have q:=FX T
 refine go ?_;refine St.cC (.mk rfl) rfl (λu=>g6 ?_);refine St.rq mixed (by kernel_rfl) (Mm.drawn _ _) ?_;refine g4 ?_;refine Sq.ee (Ev.ld1 (.mk rfl) (ow o) gj trivial rfl) (g4 ?_);refine Sq.ee (Ev.ld1 (.mk rfl) (ow p) gj trivial rfl) (Sq.ee (Ev.aaL (.mk rfl) (.mk rfl) ⟨nq _ _ l,nq _ _ l⟩) (g5 ?_));refine St.slot 9 (uv (both T a b)) rfl rfl ?_
 have e:both T a b<18446744073709551616:=oZ Nat.and_le_left (nq _ _ l)
 refine g5 ?_;refine St.cq (λr=> ?_) (λr=> ?_)
 ·have h:both T a b=0:=by omega
  refine g9 ?_;refine St.rV [_,_,_] [] ?_;exact⟨by rw[Ak h,Uh h];rfl,rfl⟩
 ·have h:both T a b≠0:=by omega
  obtain⟨i,n⟩:=FU h e
  have s:Lib.ctz 64 (both T a b)<T.length:=by rw[oh,nQ,gD]at i;exact i.1
  have d:=H8 m i n
  have j:=agZ i n
  refine g5 ?_;refine St.ee (Ev.call (L9 (both T a b) e) Vm (.aq rfl)) (g9 ?_);refine St.ee (Ev.cI (k:=(Lib.ctz 64 (both T a b))) (.mk rfl) (.mk rfl) pI lQ zE zE) (St.ee (Ev.ld1 (.mk rfl) (ow s) gj trivial rfl) (g4 ?_));refine St.cq (λt=> ?_) (λt=> ?_)
  ·rw[cX zE]at d
   rw[aB d]at j;refine g9 ?_;refine St.rV [_,_,_] [] ?_;exact⟨by rw[d,j];rfl,rfl⟩
  ·rw[df zE]at d
   rw[aA (by rw[d];decide)]at j;refine g11 ?_;refine St.rV [_,_,_] [] ?_;exact⟨by rw[d,j];rfl,rfl⟩
theorem find_spec (e:Nat)(g h:ah)(pv tv lv:Value)(rk:Nat→Nat)(B:Nat)(R:List Nat)(H:R.length≤1000000)(P0:List Nat)(x:Sl rk B P0 R)(i0:Nat)(j:i0<R.length):dx prog 210 #[tW e,iv i0] [tI e [g.1,h.1,pv,tv,lv] 288,row pv 3 1 R.length (rows aJ (cm (P0)))] (λv H'=>∃t,v=iv ((R.getD i0 0:Nat):Int)∧Sl rk B t R∧H'=[tI e [g.1,h.1,pv,tv,lv] 288,row pv 3 1 R.length (rows aJ (cm (t)))]):=by
 refine dx.body (args:=[tW e,iv i0]) 41 func210 rfl ntmps210 rfl (λc=>g7 ?_);refine St.td (ι:=Nat) (κ:=List Nat) (λi Q T=>(1,iv i)::T) (λi Q=>[tI e [g.1,h.1,pv,tv,lv] 288,row pv 3 1 R.length (rows aJ (cm (Q)))]) (λi Q=>i<R.length∧Sl rk B Q R∧R.getD i 0=R.getD i0 0) (λi Q=>B-rk i) i0 P0 (aC.k2 0 4) ⟨j,x,rfl⟩ ?_;rintro i Q ⟨hi,f,y⟩
 have A:=f.len
 obtain⟨a,l⟩:=aF (show i<Q.length by omega)
 have d:Q.getD i 0=a:=by rw[ax,l];rfl
 have C:=f.lt i hi
 rw[d]at C;refine St.lO pv zE (λbs cs m=>g9 ?_);refine St.ee (Ev.dw (.mk rfl) fA trivial zE (gg (show(cm Q)[i]?=some (a:Int) by rw[bJ,l];rfl))) ?_;refine g4 ?_;refine St.cq (λn=> ?_) (λn=> ?_)
 ·have D:Q.getD i 0≠i:=by rw[d];omega
  obtain⟨b,u⟩:=aF (show a<Q.length by omega)
  have o:Q.getD a 0=b:=by rw[ax,u];rfl
  obtain⟨w,E,p,q⟩:=f.aeC hi D;rw[d,o]at w E p q;refine g4 ?_;refine St.ef [row pv 3 1 R.length (rows aJ (cm (Q)))] mixed (λI J=>SW.gd 0 ?_);refine SW.gd 1 ?_;refine SW.gd 2 ?_;refine SW.gd 3 ?_;refine SW.gd 4 ?_;refine SW.gd 5 ?_;refine SW.gd 6 ?_;refine SW.gd 7 ?_;refine SW.gd 8 ?_;refine SW.gd 9 ?_;refine SW.gd 10 ?_;refine SW.gd 11 ?_;refine SW.gd 12 ?_;refine SW.gd 13 ?_;refine SW.dd 14 rfl (λ_=>Ev.nT (k:=i) m (.mk rfl) (.mk rfl) bQ dQ zE zE) (SW.t1 15 ?_);refine St.ee (Ev.dw (.mk rfl) fA trivial zE (gg (show(cm Q)[i]?=some (a:Int) by rw[bJ,l];rfl))) ?_;refine g2 ?_;refine SW.go (SW.dd 16 rfl (λ_=>Ev.nT (k:=a) m (.mk rfl) (.mk rfl) bQ dQ zE zE) (SW.t1 17 ?_));refine St.ee (Ev.dw (.mk rfl) fA trivial zE (gg (show(cm Q)[a]?=some (b:Int) by rw[bJ,u];rfl))) ?_;refine g2 ?_;refine SW.go (SW.dd 18 rfl (λ_=>Ev.nT (k:=i) m (.mk rfl) (.mk rfl) bQ dQ zE zE) (SW.t1 19 ?_));refine St.dF (.mk rfl) (.mk rfl) dQ rfl zE (by decide) ?_;refine g2 ?_;refine SW.go (SW.dn (go ?_));refine St.aP pv rfl (show _=rows aJ (cm (Q.set i b)) by rw[k9,cm,cm,mJ]) ?_
  have r:(Q.set i b)[i]?=some b:=ic zE
  refine g7 ?_;refine St.ee (Ev.dw (.mk rfl) fA trivial zE (gg (show(cm (Q.set i b))[i]?=some (b:Int) by rw[bJ,r];rfl))) ?_;refine g4 ?_;refine St.ni b (Q.set i b) ⟨by omega,w,by omega⟩ (by have:=f.le b zE;omega) (by repeat(first|exact Sub.nil|refine Sub.cons (by first|rfl|exact congrArg (λz=>some (iv z)) (by first|omega|(dsimp only;omega))|exact congrArg (λz=>some (Value.bool z)) (by first|assumption|exact jI (by assumption))) ?_)) (λ_ hw=>hw.sub)
 ·have s:Q.getD i 0=i:=by rw[d];omega
  have F:=(f.me i hi).1 s
  have G:R.getD i0 0=i:=by omega
  refine g12 ?_;refine St.rV [_] [tI e [g.1,h.1,pv,tv,lv] 288,row pv 3 1 R.length (rows aJ (cm (Q)))] ?_;exact⟨Q,by rw[G];rfl,f,rfl⟩
abbrev DC:=ah×List dt
def qP (q:DC):e8:=sl bC q.1.1 q.2
def zp (q:DC):lE:=q.2.map fV
def shf (n:Nat)(p:dt):dt:=⟨p.dE,(n:Int)+p.tqo⟩
theorem CU (p:dt):∀(l:List dt) (k:Nat),((rows bC l).set (k*2) (iv p.dE)).set (k*2+1) (iv p.tqo)=rows bC (l.set k p)
 | [],k=>by simp[rows]
 |a::l,0=>rfl
 |a::l,k+1=>by
  have:=CU p l k
  show((bC.cells a++rows bC l).set ((k+1)*2) _).set ((k+1)*2+1) _=bC.cells a++rows bC (l.set k p)
  rw[←this,show(k+1)*2=2+k*2 by omega,oE _ _ (by show 2≤_;omega),oE _ _ (by show 2≤_;omega)]
  congr 2
  ·congr 1;show 2+k*2-2=_;omega
  ·show 2+k*2+1-2=_;omega
theorem GS (n:Nat):rows aJ (cm (List.range n))++ [iv (n:Nat)]=rows aJ (cm (List.range (n+1))):=by
 rw[vH];exact wD (Int.natCast_nonneg n)
theorem ui (l:Nat)(u y:ah)(g:dC)(Y:tu (bE g))(hn:g.nodes.length≤120)(Z:∀t∈g.nodes,t.bA.length≤1000000)(n0:Nat)(hn0:n0≤120)(a:List Int)(ht0:a.length=n0)(f:List DC)(E:f.length=n0)(d b e:Value)(ho:d.oneCell'=true∧b.oneCell'=true∧e.oneCell'=true):dx prog 176 #[tW l,bF g] [tI l [u.1,y.1,d,b,e] 288,row d 3 1 (List.range n0).length (rows aJ (cm (List.range n0))),row b 3 1 (a).length (rows aJ (a)),row e 164 1 (f).length (rows cr ((f).map Prod.fst)),aD (aL qP (f)),aD (aI g)] (λv H'=>∃(pv tv lv:Value) (ls:List DC),v=iv (n0:Nat)∧(pv.oneCell'=true∧tv.oneCell'=true∧lv.oneCell'=true)∧ls.map zp=f.map zp++(bE g).map (λn=>n.2.map λx=>(x.1,(n0:Int)+x.2))∧H'=[tI l [u.1,y.1,pv,tv,lv] 288,row pv 3 1 (List.range (n0+g.nodes.length)).length (rows aJ (cm (List.range (n0+g.nodes.length)))),row tv 3 1 (a++g.nodes.map db.type).length (rows aJ (a++g.nodes.map db.type)),row lv 164 1 (ls).length (rows cr ((ls).map Prod.fst)),aD (aL qP (ls))]):=by
 refine dx.body (args:=[tW l,bF g]) 82 func176 rfl ntmps176 rfl (λc=>go ?_)
 refine St.jU (aI g) (λ_:Unit=>jb g) (λρ h=>⟨(),h⟩) λ_=> ?_
 refine St.cast (H':=[aD (sl bz g.nv.1 g.nodes),aD (aL cF g.nodes),tI l [u.1,y.1,d,b,e] 288,row d 3 1 (List.range n0).length (rows aJ (cm (List.range n0))),row b 3 1 (a).length (rows aJ (a)),row e 164 1 (f).length (rows cr ((f).map Prod.fst)),aD (aL qP (f)),aD (aI g)]) rfl ?_
 have U9:=ct g
 obtain⟨F,G,H⟩:=ho;refine go ?_;refine St.cC (.mk rfl) rfl (λO=>g10 ?_);refine St.slot 15 (iv (n0:Nat)) rfl (congrArg iv zE) (g13 ?_);refine St.aP b (show _=(a++(g.nodes.take (0)).map db.type).length by rw[pL,kb,ib]) (show _=rows aJ (a++(g.nodes.take (0)).map db.type) by rw[pL,kb,ib]) ?_;refine St.td (ι:=Nat) (κ:=Value×Value×Value×List DC) (λk z T=>(19,iv k)::T) (λk z=>[tI l [u.1,y.1,z.1,z.2.1,z.2.2.1] 288,row z.1 3 1 (List.range (n0+k)).length (rows aJ (cm (List.range (n0+k)))),row z.2.1 3 1 (a++(g.nodes.take (k)).map db.type).length (rows aJ (a++(g.nodes.take (k)).map db.type)),row z.2.2.1 164 1 (z.2.2.2).length (rows cr ((z.2.2.2).map Prod.fst)),aD (aL qP (z.2.2.2)),tI O [g.nv.1] 30,aD (sl bz g.nv.1 g.nodes),aD (aL cF g.nodes)]) (λk z=>k≤g.nodes.length∧(z.1.oneCell'=true∧z.2.1.oneCell'=true∧z.2.2.1.oneCell'=true)∧z.2.2.2.length=n0+k∧z.2.2.2.map zp=f.map zp++((bE g).take k).map (λn=>n.2.map λx=>(x.1,(n0:Int)+x.2))) (λk z=>g.nodes.length-k) 0 (d,b,e,f) (aC.k5 0 4 5 17 18) ⟨aQ _,⟨F,G,H⟩,E,by rw[pL,kb,ib]⟩ ?_;rintro k ⟨pv,tv,lv,ls⟩ ⟨hk,⟨h1,P,Q⟩,R,o⟩
 dsimp only at h1 P Q R o⊢
 have hTl:(a++(g.nodes.take (k)).map db.type).length=n0+k:=by rw[cA,aO,eR];omega
 have hRl:(List.range (n0+k)).length=n0+k:=kF
 refine g6 ?_;refine St.cq (λI=> ?_) (λI=> ?_)
 ·obtain⟨t,ht⟩:=aF (show k<g.nodes.length by omega)
  have S:=aY ht
  have htL:=Z t S
  have p5:=l7 ht
  refine St.bh cF g.nodes (x:=t) S (St.fF (sl bC t.lv.1 t.bA) [cF t] (λρ h=>h _ (aR ..)) (St.wf t.lv.1 (λUD SM=>g8 ?_)));refine St.ee (Ev.iD (.mk rfl) ht xK trivial jF gH.eq) (St.al (λb7=>g9 ?_));refine St.yP (Rr:=bC) (g:=(⟨0,0⟩:dt)) (m:=t.bA.length) (sz:=2) rfl (.mk rfl) (.mk rfl) eX de kg qg rfl rfl zE rfl rfl (λj=> ?_);refine g13 ?_;refine St.td (ι:=Nat) (κ:=List dt) (λq M T=>(31,iv q)::T) (λq M=>[row (tO j t.bA.length t.bA.length) 168 2 t.bA.length (rows bC (M)),tI b7 [iv t.type,t.lv.1] 166,tI l [u.1,y.1,pv,tv,lv] 288,row pv 3 1 (List.range (n0+k)).length (rows aJ (cm (List.range (n0+k)))),row tv 3 1 (a++(g.nodes.take (k)).map db.type).length (rows aJ (a++(g.nodes.take (k)).map db.type)),row lv 164 1 (ls).length (rows cr ((ls).map Prod.fst)),aD (aL qP (ls)),tI O [g.nv.1] 30,aD (sl bz g.nv.1 g.nodes),aD (aL cF g.nodes),aD (sl bC t.lv.1 t.bA)]) (λq M=>q≤t.bA.length∧M.length=t.bA.length∧M.take q=(t.bA.take q).map (shf n0)∧∀x∈M,bC.wf x) (λq M=>t.bA.length-q) 0 (List.replicate t.bA.length (⟨0,0⟩:dt)) (aC.k11 0 4 5 6 7 8 17 18 19 29 30) ⟨aQ _,by simp,rfl,λx hx=>by rw[List.eq_of_mem_replicate hx];exact⟨by unfold aZ;decide,by unfold aZ;decide⟩⟩ ?_;rintro q M ⟨hq,B,A,C⟩;refine g6 ?_;refine St.cq (λh32=> ?_) (λh32=> ?_)
  ·obtain⟨p,hp⟩:=aF (show q<t.bA.length by omega)
   have U:=aY hp
   obtain⟨_,V,W⟩:=Y.at_ (i:=k) (x:=fV p) (by rw[ax,p5];exact dh U)
   replace V:0≤p.tqo:=V
   replace W:p.tqo.toNat<(bE g).length:=W
   have J:bC.wf (shf n0 p):=⟨(UD p U).1,by show aZ ((n0:Int)+p.tqo);unfold aZ;omega⟩
   refine g8 ?_;refine St.ee (Ev.iD (.mk rfl) hp lT trivial de gH.eq) (St.al (λb10=>g13 ?_));refine St.ee (Ev.build (au.aX rfl rfl) (λw=>pR rfl rfl w)) (St.slot 44 (.agg #[iv p.dE,iv ((n0:Int)+p.tqo)]) rfl rfl (go ?_));refine St.Ms (k:=q) (.mk rfl) (.mk rfl) de rfl rfl zE (St.aP (tO j t.bA.length t.bA.length) rfl (CU (shf n0 p) M q) (g8 ?_));refine St.vL (q+1) (M.set q (shf n0 p)) ⟨by omega,by rw[ep];exact B,by rw[ag (ic zE),List.take_set_of_le (aU _),A,ag hp,cY];rfl,λx hx=>by rcases lV hx with hx|rfl;exact C x hx;exact J⟩
  ·obtain rfl:q=t.bA.length:=by omega
   rw[fZ zE,fZ (aU _)]at A;refine St.bU (tO j t.bA.length t.bA.length) bC M rfl B.symm C (St.fF (aL qP (ls++ [(⟨(tO j t.bA.length t.bA.length),rfl⟩,M)])) [aL qP ls,sl bC (tO j t.bA.length t.bA.length) M] (λρ h x hx=>by rcases ca.1 hx with hx|hx;exact h _ (aR ..) x hx;rw[ba.1 hx];exact h _ (cO _ (aR ..))) ?_)
   have K:(ls++ [((⟨(tO j t.bA.length t.bA.length),rfl⟩:ah),M)]).map zp=f.map zp++((bE g).take (k+1)).map (λn=>n.2.map λx=>(x.1,(n0:Int)+x.2)):=by rw[cY,o,ag p5,cY,dg];congr 2;show [M.map fV]=[(t.bA.map fV).map _];rw[A,jJ,jJ];rfl
   refine g15 ?_;refine St.slot 54 (iv ((n0+k:Nat):Int)) rfl (congrArg iv zE) (St.iu rfl (.aq rfl) bQ dQ ec rfl rfl (by simp[Value.cells]) rfl rfl (λb55=> ?_));refine St.bH (.mk rfl) (.mk rfl) bQ dQ ec yt (by simp[Value.oneCell',Value.cells]) zE zE rfl rfl rfl rfl (λr aqA=> ?_);refine St.aP r (show _=(List.range (n0+(k+1))).length by rw[kF,kF];omega) (show _=rows aJ (cm (List.range (n0+(k+1))))from GS (n0+k)) ?_;refine St.cH r (λD _=>g2 ?_);refine St.cP (.mk rfl) (.mk rfl) fT D (by rfl) ?_;refine g3 ?_;refine St.ef [row tv 3 1 (a++(g.nodes.take (k)).map db.type).length (rows aJ (a++(g.nodes.take (k)).map db.type)),tI l [u.1,y.1,r,tv,lv] 288] mixed (λnp ns=>SW.gd 0 ?_);refine SW.gd 1 ?_;refine SW.gd 2 ?_;refine SW.gd 3 ?_;refine SW.gd 5 ?_;refine SW.gd 6 ?_;refine SW.t2 4 7 ?_ ?_
   focus
    refine g3 ?_;refine SW.go (SW.t1 7 ?_);refine St.iu rfl (.aq rfl) bQ dQ ec rfl rfl (by simp[Value.cells]) rfl rfl (λL=> ?_);refine g2 ?_;refine SW.go (SW.t1 8 ?_);refine St.bH (.mk rfl) (.mk rfl) bQ dQ ec yt (by simp[Value.oneCell',Value.cells]) zE zE rfl rfl rfl rfl (λv67 N=> ?_);refine St.aP v67 (show _=(a++(g.nodes.take (k+1)).map db.type).length by rw[ag ht,cY,←dg];exact cW) (show _=rows aJ (a++(g.nodes.take (k+1)).map db.type) by rw[ag ht,cY,←dg];exact(bN aJ _ t.type).symm) ?_;refine St.cH v67 (λs _=>g2 ?_);refine SW.go (SW.gd 9 ?_);refine SW.gd 10 ?_;refine SW.t1 11 ?_;refine St.cP (.mk rfl) (.mk rfl) fT s (by rfl) ?_;refine g2 ?_;refine SW.go (SW.dn ?_)
   rotate_left
   focus
    refine St.iu rfl (.aq rfl) bQ dQ ec rfl rfl (by simp[Value.cells]) rfl rfl (λL=> ?_);refine g2 ?_;refine SW.go (SW.t1 4 ?_);refine g3 ?_;refine SW.go (SW.t1 8 ?_);refine St.bH (.mk rfl) (.mk rfl) bQ dQ ec yt (by simp[Value.oneCell',Value.cells]) zE zE rfl rfl rfl rfl (λv67 N=> ?_);refine St.aP v67 (show _=(a++(g.nodes.take (k+1)).map db.type).length by rw[ag ht,cY,←dg];exact cW) (show _=rows aJ (a++(g.nodes.take (k+1)).map db.type) by rw[ag ht,cY,←dg];exact(bN aJ _ t.type).symm) ?_;refine St.cH v67 (λs _=>g2 ?_);refine SW.go (SW.gd 9 ?_);refine SW.gd 10 ?_;refine SW.t1 11 ?_;refine St.cP (.mk rfl) (.mk rfl) fT s (by rfl) ?_;refine g2 ?_;refine SW.go (SW.dn ?_)
   all_goals
    refine g8 ?_;refine St.iu rfl (.aq rfl) Cp qD SG rfl rfl (by simp[Value.cells]) rfl rfl (λb76=> ?_);refine St.bH (.mk rfl) (.mk rfl) Cp qD SG aa0 (by simp[Value.oneCell',Value.cells]) zE zE rfl rfl rfl rfl (λv77 aqE=> ?_);refine St.aP v77 (show _=(ls++ [((⟨(tO j t.bA.length t.bA.length),rfl⟩:ah),M)]).length from cW) (show _=rows cr ((ls++ [((⟨(tO j t.bA.length t.bA.length),rfl⟩:ah),M)]).map Prod.fst) by rw[cY];exact(bN cr _ (⟨(tO j t.bA.length t.bA.length),rfl⟩:ah)).symm) ?_;refine St.cH v77 (λX _=>g2 ?_);refine St.cP (.mk rfl) (.mk rfl) ahZ X (by rfl) ?_;refine g8 ?_;refine St.vL (k+1) (r,v67,v77,ls++ [(⟨(tO j t.bA.length t.bA.length),rfl⟩,M)]) ⟨by omega,⟨D,s,X⟩,by dsimp only;rw[cA,R];rfl,K⟩
 ·obtain rfl:k=g.nodes.length:=by omega
  have M7:(bE g).take g.nodes.length=bE g:=fZ zE
  rw[M7]at o;rw[fZ (aU _)];refine g12 ?_;refine St.rV [_] [tI l [u.1,y.1,pv,tv,lv] 288,row pv 3 1 (List.range (n0+g.nodes.length)).length (rows aJ (cm (List.range (n0+g.nodes.length)))),row tv 3 1 (a++g.nodes.map db.type).length (rows aJ (a++g.nodes.map db.type)),row lv 164 1 (ls).length (rows cr ((ls).map Prod.fst)),aD (aL qP (ls))] ?_;exact⟨pv,tv,lv,ls,rfl,⟨h1,P,Q⟩,o,rfl⟩
theorem JC {α:Type}(R:Rp α)(a b:List α):rows R (a++b)=rows R a++rows R b:=qF
theorem M6 (n:Nat)(q:n≤100000000):dx prog 243 #[.slice none 0 0,iv n] [] (λv H'=>v.oneCell'=true∧H'=[row v 168 2 0 []]):=by
 intro w ρ o
 have c:fH ⟨w,ρ,jl [],True⟩ [] ρ w:=o
 by_cases hz:n=0
 ·subst hz
  refine(Any8.slices_Grow_room Tryz.PY none 0 0 0 w (aU _) (by decide) (by decide) (aU _)).mono ?_;rintro e w' ⟨rfl,rfl⟩;refine⟨_,_,rfl,⟨rfl,rfl⟩,Mm.mk (ρ:=ρ) ?_⟩;refine⟨c.os,c.tape,c.output,c.size,c.Ax,c.fits,c.le,c.new,λE j=> ?_,λE j b d=> ?_,D2 _ _⟩
  ·rw[ba.1 j];exact eQ.2 ⟨rfl,.inl ⟨rfl,rfl⟩⟩
  ·rw[ba.1 j,eA]at d;cases d
 ·obtain⟨i0,f,r⟩:=eE.1 de
  obtain⟨i1,g,l⟩:=eE.1 qg;obtain⟨i2,i,m⟩:=oc.1 kg;rw[f]at g i;obtain rfl:=Option.some.inj g;obtain rfl:=Option.some.inj i;refine(Any8.slices_Grow_grow Tryz.PY i0 _ f m zE none 0 0 n [] w (aU _) zE (by rw[l];omega) zE (by simp) (λ_=>rfl) (λa h=>by cases h)).mono ?_;rintro e w' ⟨rfl,rfl⟩;rw[jH,Nat.sub_zero]
  have p:=grownCap_ge w n 0 168
  have hle:=grownCap_le_maxLen w n 0 168 (by unfold maxLen;omega)
  refine⟨_,_,rfl,⟨rfl,rfl⟩,Mm.mk (ρ:=ρ) ?_⟩;refine c.drawn.GK rfl ⟨rfl,aU _⟩ rfl (by show w.heap.size≤(w.heap.push _).size;simp) (λk hk=>RowKit.Below.heap_alloc w.drew _ k hk) (eQ.2 ⟨rfl,.inr ⟨w.heap.size,_,_,rfl,aQ _,heap_alloc_new w.drew _,aQ _,hle,?_,by simp⟩⟩) ?_
  ·simp only[Array.size_append,List.size_toArray,List.length_nil,size_zeroCells]
   show 0+n*2+(grownCap w n 0 168-n)*2=grownCap w n 0 168*2
   omega
  ·intro b d;rw[eA]at d;simp[Value.ownBlock]at d;show w.heap.size≤b;omega
theorem FQ (e:Value)(vs:List DC)(n:vs.length≤10)(i:∀q∈vs,q.2.length≤2000000):dx prog 211 #[e] ([sl cr e (vs.map Prod.fst),aL qP vs].map aD) (λv H'=>v.oneCell'=true∧H'=[row v 168 2 ((vs.map Prod.snd).flatten).length (rows bC (vs.map Prod.snd).flatten)]):=by
 refine dx.body (args:=[e]) 36 func211 rfl ntmps211 rfl (λc=>St.cast (H':=[aD (sl cr e (vs.map Prod.fst)),aD (aL qP vs)]) rfl (go ?_))
 have o:(vs.map Prod.fst).length=vs.length:=aO _
 refine g18 ?_;refine St.lH (ι:=Nat) (λk T=>(11,iv k)::(3,iv ((((vs.take k).map Prod.snd).flatten).length:Nat))::T) (λk=>[aD (sl cr e (vs.map Prod.fst)),aD (aL qP vs)]) (λk=>k≤vs.length∧(((vs.take k).map Prod.snd).flatten).length≤2000000*k) (λk=>vs.length-k) 0 (aC.k4 0 2 9 10) ⟨aQ _,aQ _⟩ ?_;rintro k ⟨hk,j⟩;refine g6 ?_;refine St.cq (λp=> ?_) (λp=> ?_)
 ·obtain⟨q,b⟩:=aF (show k<vs.length by omega)
  have a:=aY b
  have r:=i q a
  have l:(((vs.take (k+1)).map Prod.snd).flatten).length=(((vs.take k).map Prod.snd).flatten).length+q.2.length:=by rw[ag b,cY,List.flatten_append,cA];simp
  refine St.bh qP vs (x:=q) a (St.fF (sl bC q.1.1 q.2) [qP q] (λρ h=>h _ (aR ..)) (g7 ?_));refine St.ee (Ev.ld1 (.mk rfl) (show(vs.map Prod.fst)[k]?=some q.1 by rw[bJ,b];rfl) eX trivial rfl) ?_;refine g9 ?_;refine St.slot 18 (iv ((((vs.take (k+1)).map Prod.snd).flatten).length:Nat)) rfl (congrArg iv zE) (g9 ?_);refine St.uG _ rfl (df zE) (g8 ?_);refine St.aH (k+1) ⟨by omega,by omega⟩
 ·obtain rfl:k=vs.length:=by omega
  rw[fZ (aU _)]at j⊢
  obtain⟨f,m⟩:∃f,f=(vs.map Prod.snd).flatten:=⟨_,rfl⟩
  rw[←m]at j⊢;refine g8 ?_;refine St.call (M6 f.length zE) acB (.aX rfl rfl) rfl ?_;rintro v24 _ ⟨g,rfl⟩;refine St.bB (St.aP v24 (show _=([]:List dt).length from rfl) (show _=rows bC []from rfl) (g12 ?_));refine St.aP v24 (show _=(((vs.take 0).map Prod.snd).flatten).length from rfl) (show _=rows bC (((vs.take 0).map Prod.snd).flatten)from rfl) (St.td (ι:=Nat) (κ:=Value) (λk z T=>(27,iv k)::(6,z)::T) (λk z=>[row z 168 2 (((vs.take k).map Prod.snd).flatten).length (rows bC (((vs.take k).map Prod.snd).flatten)),aD (sl cr e (vs.map Prod.fst)),aD (aL qP vs)]) (λk z=>k≤vs.length∧z.oneCell'=true∧(((vs.take k).map Prod.snd).flatten).length≤2000000*k) (λk z=>vs.length-k) 0 v24 (aC.k3 2 25 26) ⟨aQ _,g,aQ _⟩ ?_);rintro k z ⟨hk,hz,w⟩;refine g6 ?_;refine St.cq (λs=> ?_) (λs=> ?_)
  ·obtain⟨q,b⟩:=aF (show k<vs.length by omega)
   have a:=aY b
   have r:=i q a
   have d:((vs.take (k+1)).map Prod.snd).flatten=((vs.take k).map Prod.snd).flatten++q.2:=by rw[ag b,cY,List.flatten_append];simp
   have l:=congrArg List.length d
   rw[cA]at l;refine St.bh qP vs (x:=q) a (St.fF (sl bC q.1.1 q.2) [qP q] (λρ h=>h _ (aR ..)) (g7 ?_));refine St.ee (Ev.ld1 (.mk rfl) (show(vs.map Prod.fst)[k]?=some q.1 by rw[bJ,b];rfl) eX trivial rfl) ?_;refine g6 ?_;refine St.ym (.mk rfl) (.mk rfl) eX de kg qg (AB bC _) zE zE rfl rfl trivial rfl (λv33 t=>St.aP v33 (show _=(((vs.take (k+1)).map Prod.snd).flatten).length by rw[d,cA]) (show _=rows bC (((vs.take (k+1)).map Prod.snd).flatten) by rw[d,JC]) ?_);rw[show bC.size=2 from rfl];refine St.cH v33 (λu _=>g9 ?_);refine St.vL (k+1) v33 ⟨by omega,u,by omega⟩
  ·obtain rfl:k=vs.length:=by omega
   rw[fZ (aU _)];refine g12 ?_;refine St.rV [_] [row z 168 2 ((vs.map Prod.snd).flatten).length (rows bC (vs.map Prod.snd).flatten)] ?_;exact⟨hz,by rw[m];rfl⟩
end Go.Proofs.YtiefglecbgdaiaaGreatDoor
