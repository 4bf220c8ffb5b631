/-
  Laws of walks through programs, and facts on grammars, trees and queries.
  Conditions: none.
-/
import Derived.Test.YtblifkgpebebmaaGreatDoorGA3
import Derived.Laws.Small
import Derived.Shelf.Strings.IndexAnyAll
import Derived.Lib.OthersKept
import Derived.Shelf.Small.Utf8
import Derived.Laws.RangeAny
import Derived.Laws.Cover4
import Derived.Scope
import Derived.Handy
import Derived.Shelf.RegionOpen
import Derived.Shelf.RegionOpenPlain
import Derived.Shelf.Utf8.RuneCount
import Derived.Shelf.Unicode.ValidAny
import Derived.Lib.Join
set_option maxHeartbeats 16000000
set_option maxRecDepth 20000
set_option linter.unusedVariables false
set_option linter.unusedSimpArgs false
namespace Go.Proofs.YtblifkgpebebmaaGreatDoor
open Go Go.J Tryz
theorem Q0 {T:List ej}{q k:Nat}(hk:k<T.length)(c:q<k)(h:kF T q k=true)(d:∀b,b<k→(List.range b).any (λa=>kF T a b)=false):wX T=some k:=by
 unfold wX;rw[List.find?_range_eq_some];refine⟨pZ.2 ⟨q,dq.2 c,h⟩,dq.2 hk,λj e=>by rw[d j e];rfl⟩
theorem Q1 {T:List ej}(c:∀b,b<T.length→(List.range b).any (λa=>kF T a b)=false):wX T=none:=by
 unfold wX;rw[List.find?_eq_none]
 intro b h;rw[c b (dq.1 h)];decide
theorem CN {p:Nat→Bool}{n:Nat}(h:∀a,a<n→p a=false):(List.range n).any p=false:=by
 rw[List.any_eq_false];intro a b;rw[h a (dq.1 b)];decide
theorem EN {n:Int}{l:List od}{k:Nat}{t:od}(ht:l[k]?=some t)(known:List bB):mQ n known k (l.drop k)=if isName t.1=false then(10,(k:Int))else if t.1∈known then(7,(k:Int))else if t.2.1<0∨n≤t.2.1∨t.2.2<0∨n≤t.2.2 then(3,(k:Int))
 else mQ n (known++ [t.1]) (k+1) (l.drop (k+1)):=by rw[bP ht,mQ]
theorem Gr {n:Int}{l:List od}{k:Nat}(h:l.length≤k)(known:List bB):mQ n known k (l.drop k)=(0,0):=by rw[j6 h,mQ]
theorem Kn {T:List ej}{Fs:List od}(h:T.length=0∨60<T.length∨40<Fs.length):jO T Fs=(2,-1):=by
 unfold jO
 by_cases h1:40<Fs.length
 ·rw[aC h1]
 ·have e:Aq T=(2,-1):=by unfold Aq;rw[aC (by omega)]
  rw[aA h1,e];rfl
theorem Nb {T:List ej}{Fs:List od}(h:¬40<Fs.length)(a:(Aq T).1≠0):jO T Fs=Aq T:=by unfold jO;rw[aA h,aC a]
theorem Nc {T:List ej}{Fs:List od}{b:Nat}(h:¬40<Fs.length)(a:¬(Aq T).1≠0)(c:wX T=some b):jO T Fs=(16,(b:Int)):=by unfold jO;rw[aA h,aA a,c]
theorem Na {T:List ej}{Fs:List od}(h:¬40<Fs.length)(a:¬(Aq T).1≠0)(b:wX T=none):jO T Fs=mQ T.length [] 0 Fs:=by unfold jO;rw[aA h,aA a,b]
theorem Cw (tv xv:aV)(ts:List rZ)(e:List jI):eD prog 43 #[.agg #[tv.1,xv.1]] [sl ml tv.1 ts,aF ry ts,sl gY xv.1 e,tz] (fv (jO (ts.map dG) (e.map gy))):=by
 refine eD.Mb (args:=[.agg #[tv.1,xv.1]]) 122 func43 rfl ntmps43 rfl (λc=> ?_);refine go ?_
 have E:(ts.map dG).length=ts.length:=aN ..
 have U:(e.map gy).length=e.length:=aN ..
 refine St.wf tv.1 (λV W=> ?_);refine St.wf xv.1 (λo X=> ?_);refine go ?_;refine St.dK (.mk rfl) rfl (λI=> ?_);refine St.al (λJ=> ?_);refine g10 ?_;refine St.gf _ rfl rfl (λd=>Ev.dV (.mk rfl) ux) rfl ?_;refine St.gf _ rfl rfl (λd=>Ev.kP (ai.gv rfl d) vq trivial (by rfl)) rfl ?_;refine St.gf _ rfl rfl (λd=>Ev.fj (ai.gv rfl d) vq) rfl ?_;refine St.gf _ rfl rfl (λd=>Ev.gtr (ai.gv rfl d) (.mk rfl)) rfl ?_;refine g2 ?_;refine St.gf _ rfl rfl (λd=>Ev.dV (.mk rfl) Cr) rfl ?_;refine St.gf _ rfl rfl (λd=>Ev.kP (ai.gv rfl d) Fw trivial (by rfl)) rfl ?_;refine St.gf _ rfl rfl (λd=>Ev.fj (ai.gv rfl d) Fw) rfl ?_;refine St.gf _ rfl rfl (λd=>Ev.gtr (ai.gv rfl d) (.mk rfl)) rfl ?_;refine g3 ?_;refine St.cq (λK=> ?_) (λK=> ?_)
 ·have p:jO (ts.map dG) (e.map gy)=(2,-1):=Kn (by omega)
  refine g2 ?_;refine St.ee (Ev.call (cQ 2 (-1)) yR (.aY rfl rfl)) ?_;refine g5 ?_;refine St.rV [_] [] ?_;exact congrArg fv p.symm
 ·have r:¬40<(e.map gy).length:=by omega
  refine g7 ?_;refine St.ee (Ev.call (GS tv.1 ts) ahK (.ar rfl)) ?_;refine St.al (λY=> ?_);refine g10 ?_;refine St.cond _ rfl (λs=> ?_) (λs=> ?_)
  ·skip
   have g:(Aq (ts.map dG)).1≠0:=by simpa using s
   refine g8 ?_;refine St.rV [_] [] ?_;exact congrArg fv (Nb r g).symm
  ·skip
   have g:¬(Aq (ts.map dG)).1≠0:=by simpa using s
   have u:=(I6 (iG.1 g)).2.2
   have Z:=u.len
   refine g6 ?_;refine St.ag (py tv.1 ts u) Vs (.ar rfl) rfl ?_;rintro v41 _ ⟨L,M,rfl,rfl⟩;refine St.dQ ?_;refine St.al (λb4=> ?_);refine g13 ?_;refine St.lS (ι:=Nat) (λk T=>(45,iv k)::T) (λk=>k≤ts.length∧∀b,b<k→(List.range b).any (λa=>kF (ts.map dG) a b)=false) (λk=>ts.length-k) 0 (aD.cons 1 rfl (aD.cons 2 rfl (aD.cons 4 rfl (aD.cons 44 rfl aD.nil)))) ⟨aO _,λb g=>absurd g (by omega)⟩ ?_;intro k v;obtain⟨hk,x⟩:=v;refine g6 ?_;refine St.cq (λy=> ?_) (λy=> ?_)
   ·refine g17 ?_
    refine St.lS (ι:=Nat) (λq T=>(49,iv q)::T) (λq=>q≤k∧∀a,a<q→kF (ts.map dG) a k=false) (λq=>k-q) 0 (aD.cons 1 rfl (aD.cons 2 rfl (aD.cons 4 rfl (aD.cons 5 rfl (aD.cons 44 rfl (aD.cons 45 rfl (aD.cons 48 rfl aD.nil))))))) ⟨aO _,λa F=>absurd F (by omega)⟩ ?_;intro q v;obtain⟨hq,z⟩:=v;refine g6 ?_;refine St.cq (λN=> ?_) (λN=> ?_)
    ·refine g15 ?_
     refine St.ag (KE L M (ts.map dG) u q k (by omega) (by omega)) Vw (.eh rfl rfl rfl) rfl ?_;rintro O _ ⟨mt,ok,rfl,rfl⟩;refine St.aK ?_;refine g14 ?_;refine St.cond _ rfl (λi=> ?_) (λi=> ?_)
     ·skip
      have p:=Nc (Fs:=e.map gy) r g (Q0 (by omega) (by omega) i x)
      refine g3 ?_;refine St.ee (Ev.call (cQ 16 k) yR (.aY rfl rfl)) ?_;refine g13 ?_;refine St.rV [_] [] ?_;exact congrArg fv p.symm
     ·skip
      refine g8 ?_;refine St.aS (q+1) ⟨by omega,λa F=>by rcases eM a q with h|h;exact z a h;rw[show a=q by omega];exact i⟩
    ·rw[show q=k by omega]at z
     refine g11 ?_;refine St.aS (k+1) ⟨by omega,λb g=>by rcases eM b k with h|h;exact x b h;rw[show b=k by omega];exact CN z⟩
   ·have A:k=ts.length:=by omega
    have G:=Na r g (Q1 (by rw[E,←A];exact x))
    rw[E]at G;refine g7 ?_;refine St.makeMap mkStr rfl (λB=> ?_);refine g13 ?_;refine St.te (ι:=Nat) (κ:=List (bB×Value)) (λk m T=>(69,iv k)::T) (λk m=>[aW B (eU mkStr m),aW J (.cells [iv 0,iv 0].toArray 35 (0,0)),aW I (.cells [tv.1,xv.1].toArray 25 (0,0)),aB (sl ml tv.1 ts),aB (aF ry ts),aB (sl gY xv.1 e)]) (λk m=>k≤e.length∧jO (ts.map dG) (e.map gy)=mQ ts.length ((e.take k).map jI.name) k ((e.map gy).drop k)∧KD m ((e.take k).map jI.name)) (λk m=>e.length-k) 0 [] (aD.cons 1 rfl (aD.cons 2 rfl (aD.cons 10 rfl (aD.cons 67 rfl (aD.cons 68 rfl aD.nil))))) ⟨aO _,G,KD.nil⟩ ?_;rintro k m ⟨hk,C,H⟩;refine g6 ?_;refine St.cq (λP=> ?_) (λP=> ?_)
    ·obtain⟨t,ht⟩:=aE (show k<e.length by omega)
     have Q:=ae ht
     have f:=EN (n:=ts.length) (l:=e.map gy) (k:=k) (t:=gy t) (by rw[bQ,ht];rfl) ((e.take k).map jI.name)
     rw[←C]at f
     have R:t.name.length≤9223372036854775807:=by have:=(o t Q).1;simp only[mr]at this;omega
     refine g8 ?_;refine St.ee (Ev.jr (.mk rfl) ht underlying135 trivial Bf j7.eq) ?_;refine St.al (λR6=> ?_);refine g9 ?_;refine St.ee (Ev.call (qo t.name R) RI (.ar rfl)) ?_;refine g3 ?_;refine St.cq (λD=> ?_) (λD=> ?_)
     ·rw[aC (show isName (gy t).1=false from(by simpa using D:isName t.name=false))]at f
      refine g3 ?_;refine St.ee (Ev.call (cQ 10 k) yR (.aY rfl rfl)) ?_;refine g10 ?_;refine St.rV [_] [] ?_;exact congrArg fv f.symm
     ·rw[aA (show ¬isName (gy t).1=false from(by simpa using D:¬isName t.name=false))]at f
      refine g8 ?_;refine St.ee (Ev.th mkStr (k:=t.name) (.mk rfl) (.mk rfl) pY (by exact wW) eQ) ?_;refine g3 ?_;refine St.slot 86 (.bool (decide (t.name∈(e.take k).map jI.name))) rfl (congrArg Value.bool (H t.name)) ?_;refine g9 ?_;refine St.cq (λj=> ?_) (λj=> ?_)
      ·rw[aC (show(gy t).1∈(e.take k).map jI.name from j)]at f
       refine g3 ?_;refine St.ee (Ev.call (cQ 7 k) yR (.aY rfl rfl)) ?_;refine g10 ?_;refine St.rV [_] [] ?_;exact congrArg fv f.symm
      ·rw[aA (show ¬(gy t).1∈(e.take k).map jI.name from j)]at f
       refine g8 ?_;refine St.mapUpdate mkStr (k:=t.name) (.mk rfl) (.mk rfl) (.mk rfl) pY (by exact wW) ?_;refine g8 ?_;refine St.gf _ rfl rfl (λd=>Ev.dV (.mk rfl) Cm) rfl ?_;refine St.gf _ rfl rfl (λd=>Ev.kP (ai.gv rfl d) gG trivial (by rfl)) rfl ?_;refine St.gf _ rfl rfl (λd=>Ev.dV (.mk rfl) ux) rfl ?_;refine St.gf _ rfl rfl (λd=>Ev.kP (ai.gv rfl d) vq trivial (by rfl)) rfl ?_;refine St.gf _ rfl rfl (λd=>Ev.fj (ai.gv rfl d) vq) rfl ?_;refine St.gf _ rfl rfl (λd=>Ev.geq (ai.gv rfl d) (ai.gv rfl d)) rfl ?_;refine g2 ?_;refine St.gf _ rfl rfl (λd=>Ev.dV (.mk rfl) Cn) rfl ?_;refine St.gf _ rfl rfl (λd=>Ev.kP (ai.gv rfl d) gG trivial (by rfl)) rfl ?_;refine St.gf _ rfl rfl (λd=>Ev.lss (ai.gv rfl d) (.mk rfl)) rfl ?_;refine g2 ?_;refine St.gf _ rfl rfl (λd=>Ev.dV (.mk rfl) Cn) rfl ?_;refine St.gf _ rfl rfl (λd=>Ev.kP (ai.gv rfl d) gG trivial (by rfl)) rfl ?_;refine St.gf _ rfl rfl (λd=>Ev.dV (.mk rfl) ux) rfl ?_;refine St.gf _ rfl rfl (λd=>Ev.kP (ai.gv rfl d) vq trivial (by rfl)) rfl ?_;refine St.gf _ rfl rfl (λd=>Ev.fj (ai.gv rfl d) vq) rfl ?_;refine St.gf _ rfl rfl (λd=>Ev.geq (ai.gv rfl d) (ai.gv rfl d)) rfl ?_;refine g3 ?_;refine St.cq (λS=> ?_) (λS=> ?_)
       ·rw[aC (show(gy t).2.1<0∨(ts.length:Int)≤(gy t).2.1∨(gy t).2.2<0∨(ts.length:Int)≤(gy t).2.2 from(by omega:t.BR<0∨(ts.length:Int)≤t.BR∨t.value<0∨(ts.length:Int)≤t.value))]at f
        refine g3 ?_;refine St.ee (Ev.call (cQ 3 k) yR (.aY rfl rfl)) ?_;refine g9 ?_;refine St.rV [_] [] ?_;exact congrArg fv f.symm
       ·rw[aA (show ¬((gy t).2.1<0∨(ts.length:Int)≤(gy t).2.1∨(gy t).2.2<0∨(ts.length:Int)≤(gy t).2.2)from(by omega:¬(t.BR<0∨(ts.length:Int)≤t.BR∨t.value<0∨(ts.length:Int)≤t.value)))]at f
        refine g8 ?_;refine St.ue (k+1) (l6 m t.name (iv k)) ⟨by omega,by rw[f,gV jI.name ht];rfl,by rw[gV jI.name ht];exact H.snoc _ _⟩
    ·rw[Gr (by rw[aN];omega)]at C
     refine g7 ?_;refine St.ee (Ev.build (bH.nil) (λw=>jv w)) ?_;refine g4 ?_;refine St.rV [_] [] ?_;exact congrArg fv C.symm
inductive Reach (g:dz):Nat→Prop where
 |root:Reach g 0
 |step {i:Nat} {x:Int×Int}:Reach g i→x∈(g.getD i iK).2→Reach g x.2.toNat
def oe (M N:List Bool):Prop:=M.length=N.length∧∀x:Nat,M[x]?=some true→N[x]?=some true
theorem oe.refl (M:List Bool):oe M M:=⟨rfl,λ_ h=>h⟩
theorem oe.trans {A B C:List Bool}(h:oe A B)(k:oe B C):oe A C:=⟨h.1.trans k.1,λx hx=>k.2 x (h.2 x hx)⟩
theorem oe.Yn {A B:List Bool}(h:oe A B)(k:oe B A):A=B:=by
 refine pa λi=> ?_
 rcases eM i A.length with a|a
 ·have b:i<B.length:=by rw[←h.1];exact a
  rw[bU a,bU b]
  have h1:=h.2 i
  have c:=k.2 i
  rw[bU a,bU b]at h1 c
  cases d:A[i]<;>cases e2:B[i]<;>simp_all
 ·rw[ic a,ic (by rw[←h.1];exact a)]
theorem oe.set (M:List Bool)(i:Nat):oe M (M.set i true):=⟨by rw[cn],λx hx=>by
 by_cases e:i=x
 ·subst e;rw[fU (ah hx)]
 ·rw[ig e];exact hx⟩
theorem oe.mark (i:Nat)(M:List Bool)(x:Int×Int):oe M (Ei i M x):=by
 unfold Ei;split
 ·exact oe.set _ _
 ·exact oe.refl _
theorem oe.fold {γ:Type}{f:List Bool→γ→List Bool}(h:∀M c,oe M (f M c)):∀(l:List γ) (M:List Bool),oe M (l.foldl f M)
 | [],M=>oe.refl M
 |c::l,M=>(h M c).trans (oe.fold h l (f M c))
theorem yj {γ:Type}{f:List Bool→γ→List Bool}(h:∀M c,oe M (f M c)):∀(l:List γ) (M:List Bool),l.foldl f M=M→∀c∈l,f M c=M
 | [],_,_,c,a=>by cases a
 |c::l,M,he,d,hd=>by
  rw[we]at he
  have h1:f M c=M:=oe.Yn (by have:=oe.fold h l (f M c);rw[he]at this;exact this) (h M c)
  rcases cH.1 hd with rfl|hd
  ·exact h1
  ·rw[h1]at he;exact yj h l M he d hd
theorem oe.node (g:dz)(M:List Bool)(i:Nat):oe M (Uw g M i):=oe.fold (λM x=>oe.mark i M x) _ M
theorem oe.pass (g:dz)(M:List Bool):oe M (pass g M):=oe.fold (λM i=>oe.node g M i) _ M
def pf (M:List Bool):Nat:=M.countP λb=>b
theorem N0:∀{A B:List Bool},oe A B→pf A≤pf B∧(pf B≤pf A→A=B)
 | [],[],_=>⟨aR _,λ_=>rfl⟩
 | [],_::_,h=>absurd h.1 (by simp)
 |_::_,[],h=>absurd h.1 (by simp)
 |a::A,b::B,h=>by
  have ht:oe A B:=⟨by simpa using h.1,λx hx=>by have:=h.2 (x+1) (by simpa using hx);simpa using this⟩
  have c:=h.2 0
  obtain⟨i1,i2⟩:=N0 ht;unfold pf at*
  cases a<;>cases b<;>simp_all<;>omega
theorem Cg (M:List Bool):pf M≤M.length:=List.countP_le_length
theorem mT (g:dz):∀k,(eZ g k).length=g.length
 |0=>by simp[eZ]
 |k+1=>by rw[eZ,←(oe.pass g _).1,mT g k]
theorem zF {g:dz}(b:0<g.length):∀k,pass g (eZ g k)=eZ g k∨k+1≤pf (eZ g k)
 |0=>by
  refine .inr ?_
  obtain⟨n,c⟩:∃n,g.length=n+1:=⟨g.length-1,by omega⟩
  simp[eZ,pf,c,List.replicate_succ]
 |k+1=>by
  rcases zF b k with h|h
  ·left;rw[eZ,h,h]
  ·by_cases e:pass g (eZ g (k+1))=eZ g (k+1)
   ·exact .inl e
   ·right
    have h1:=N0 (oe.pass g (eZ g k))
    rw[eZ]
    rcases eM (pf (eZ g k)) (pf (pass g (eZ g k)))with a|a
    ·omega
    ·have:=h1.2 a
     exact absurd (by rw[eZ,←this,←this]) e
theorem HU {g:dz}(a:0<g.length):pass g (eZ g g.length)=eZ g g.length:=by
 rcases zF a g.length with h|h
 ·exact h
 ·have:=Cg (eZ g g.length)
  rw[mT]at this;omega
theorem Gp {g:dz}{M:List Bool}(b:M.length=g.length)(h:pass g M=M){i:Nat}(c:M[i]?=some true){x:Int×Int}(hx:x∈(g.getD i iK).2)(d:x.2.toNat<g.length):M[x.2.toNat]?=some true:=by
 have h1:=yj (λM i=>oe.node g M i) _ M h i (dq.2 (by rw[←b];exact ah c))
 have a:=yj (λM x=>oe.mark i M x) _ M h1 x hx
 unfold Ei at a;rw[aC (by rw[aw,c];rfl)]at a;rw[←a,fU (by rw[b];exact d)]
def AM (g:dz)(M:List Bool):Prop:=∀x:Nat,M[x]?=some true→Reach g x
theorem AM.set {g:dz}{M:List Bool}(h:AM g M){i:Nat}(a:Reach g i):AM g (M.set i true):=λx hx=>by
 by_cases e:i=x
 ·subst e;exact a
 ·rw[ig e]at hx;exact h x hx
theorem AM.fold {γ:Type}{g:dz}{f:List Bool→γ→List Bool}:∀(l:List γ) (M:List Bool),(∀M,∀c∈l,AM g M→AM g (f M c))→AM g M→AM g (l.foldl f M)
 | [],_,_,h=>h
 |c::l,M,a,h=>AM.fold l _ (λM d hd=>a M d (cN _ hd)) (a M c (aP ..) h)
theorem AM.pass {g:dz}{M:List Bool}(h:AM g M):AM g (pass g M):=
 AM.fold _ _ (λM i _ c=>AM.fold _ _ (λM x hx c=>by
  unfold Ei
  split
  ·rename_i a
   refine c.set (Reach.step (c i ?_) hx);rw[aw]at a
   cases e:M[i]? with
   |none=>rw[e]at a;cases a
   |some b=>rw[e]at a;simp at a;rw[a]
  ·exact c) c) h
theorem AM.eZ (g:dz):∀k,AM g (eZ g k)
 |0=>λx hx=>by
  by_cases e:0=x
  ·subst e;exact Reach.root
  ·rw[Proofs.YtblifkgpebebmaaGreatDoor.eZ,ig e,s7]at hx
   split at hx<;>simp at hx
 |k+1=>(AM.eZ g k).pass
def sk (g:dz):Prop:=0<g.length∧∀n∈g,∀x∈n.2,0≤x.1∧0≤x.2∧x.2.toNat<g.length
theorem sk.at_ {g:dz}(h:sk g){i:Nat}{x:Int×Int}(hx:x∈(g.getD i iK).2):0≤x.1∧0≤x.2∧x.2.toNat<g.length:=by
 rcases eM i g.length with a|a
 ·refine h.2 _ (gz a) x ?_
  rw[aw,bU a]at hx;exact hx
 ·rw[aw,ic a]at hx;cases hx
theorem nM {g:dz}(h:0<g.length):∀k,(eZ g k)[0]?=some true
 |0=>by rw[eZ,fU (by simp;exact h)]
 |k+1=>(oe.pass g _).2 0 (nM h k)
theorem uA {g:dz}(h:sk g){x:Nat}:Reach g x↔(eZ g g.length)[x]?=some true:=by
 refine⟨λa=> ?_,AM.eZ g _ x⟩
 induction a with
 |root=>exact nM h.1 _
 |step _ hx b=>exact Gp (mT g _) (HU h.1) b hx (h.at_ hx).2.2
structure Qn (g:dz)(M:List Bool)(st:List Nat):Prop where
 len:M.length=g.length
 snd:AM g M
 root:M[0]?=some true
 Xh:∀i∈st,M[i]?=some true
 cls:∀i,M[i]?=some true→i∉st→∀x∈(g.getD i iK).2,M[x.2.toNat]?=some true
theorem Qn.start {g:dz}(h:0<g.length):Qn g ((List.replicate g.length false).set 0 true) [0]:=by
 refine⟨by simp,AM.eZ g 0,nM h 0,λi a=>by rw[List.mem_singleton.1 a];exact nM h 0,λi hm a=> ?_⟩;rw[ig (λe=>a (bO.2 e.symm)),s7]at hm
 split at hm<;>simp at hm
theorem Qn.fin {g:dz}(a:sk g){M:List Bool}(h:Qn g M []):M=eZ g g.length:=by
 refine oe.Yn ⟨by rw[h.len,mT],λx hx=>(uA a).1 (h.snd x hx)⟩ ⟨by rw[h.len,mT],λx hx=> ?_⟩
 have:=(uA a).2 hx
 clear hx
 induction this with
 |root=>exact h.root
 |step _ hx b=>exact h.cls _ b (by simp) _ hx
structure rS (g:dz)(i k:Nat)(M:List Bool)(st:List Nat):Prop where
 len:M.length=g.length
 snd:AM g M
 root:M[0]?=some true
 me:M[i]?=some true
 Xh:∀j∈st,M[j]?=some true
 cls:∀j,M[j]?=some true→j≠i→j∉st→∀x∈(g.getD j iK).2,M[x.2.toNat]?=some true
 upto:∀x∈(g.getD i iK).2.take k,M[x.2.toNat]?=some true
theorem Qn.pop {g:dz}{M:List Bool}{st:List Nat}{i:Nat}(h:Qn g M (st++ [i])):rS g i 0 M st:=
 ⟨h.len,h.snd,h.root,h.Xh i (by simp),λj a=>h.Xh j (by simp[a]),λj hm b a=>h.cls j hm (by simp[a,b]),λx hx=>by simp at hx⟩
theorem rS.done {g:dz}{M:List Bool}{st:List Nat}{i:Nat}(h:rS g i (g.getD i iK).2.length M st):Qn g M st:=
 ⟨h.len,h.snd,h.root,h.Xh,λj hm a=>by
  by_cases e:j=i
  ·subst e;intro x hx;exact h.upto x (by rw[jl];exact hx)
  ·exact h.cls j hm e a⟩
theorem rS.AA {g:dz}{M:List Bool}{st:List Nat}{i k:Nat}{x:Int×Int}(h:rS g i k M st)(hx:(g.getD i iK).2[k]?=some x)(hm:M[x.2.toNat]?=some true):rS g i (k+1) M st:=
 ⟨h.len,h.snd,h.root,h.me,h.Xh,h.cls,λy hy=>by
  rw[aX hx]at hy
  rcases cD.1 hy with hy|hy
  ·exact h.upto y hy
  ·rw[bO.1 hy];exact hm⟩
theorem rS.new {g:dz}(d:sk g){M:List Bool}{st:List Nat}{i k:Nat}{x:Int×Int}(h:rS g i k M st)(hx:(g.getD i iK).2[k]?=some x):rS g i (k+1) (M.set x.2.toNat true) (st++ [x.2.toNat]):=by
 have c:=ae hx
 have f:=(d.at_ c).2.2
 have mono:=(oe.set M x.2.toNat).2
 have new:(M.set x.2.toNat true)[x.2.toNat]?=some true:=fU (by rw[h.len];exact f)
 refine⟨by rw[cn];exact h.len,h.snd.set (Reach.step (h.snd i h.me) c),mono _ h.root,mono _ h.me,λj a=> ?_,λj hm l a y hy=> ?_,λy hy=> ?_⟩
 ·rcases cD.1 a with a|a
  ·exact mono _ (h.Xh j a)
  ·rw[bO.1 a];exact new
 ·have b:j∉st∧j≠x.2.toNat:=by simpa using a
  rw[ig (λe=>b.2 e.symm)]at hm;exact mono _ (h.cls j hm l b.1 y hy)
 ·rw[aX hx]at hy
  rcases cD.1 hy with hy|hy
  ·exact mono _ (h.upto y hy)
  ·rw[bO.1 hy];exact new
theorem Rc {M:List Bool}{i:Nat}(h:M[i]?=some false):pf (M.set i true)=pf M+1:=by
 induction M generalizing i with
 |nil=>cases h
 |cons b M a=>
  cases i with
  |zero=>simp at h;subst h;simp[pf]
  |succ i=>
   have:=a (i:=i) (by simpa using h)
   unfold pf at*
   cases b<;>simp_all<;>omega
theorem HK {nt nf nn:Int}{l:dz}{k:Nat}{t:KF}(ht:l[k]?=some t):fD nt nf nn k (l.drop k)=if t.1<0∨nt≤t.1 then(3,(k:Int))else if(Ac nf nn k (-1) t.2).1≠0 then Ac nf nn k (-1) t.2 else fD nt nf nn (k+1) (l.drop (k+1)):=by rw[bP ht,fD]
theorem LA {nt nf nn:Int}{l:dz}{k:Nat}(h:l.length≤k):fD nt nf nn k (l.drop k)=(0,0):=by rw[j6 h,fD]
theorem OB {nf nn i z:Int}{l:List (Int×Int)}{q:Nat}{x:Int×Int}(hx:l[q]?=some x):Ac nf nn i z (l.drop q)=if x.1<0∨nf≤x.1∨x.2<0∨nn≤x.2 then(3,i)else if x.1≤z then(13,i)else Ac nf nn i x.1 (l.drop (q+1)):=by rw[bP hx,Ac]
theorem Su {nf nn i z:Int}{l:List (Int×Int)}{q:Nat}(h:l.length≤q):Ac nf nn i z (l.drop q)=(0,0):=by rw[j6 h,Ac]
theorem cz (g:dD):(ay g).length=g.nodes.length:=aN ..
theorem ka {g:dD}{k:Nat}{t:df}(h:g.nodes[k]?=some t):(ay g)[k]?=some (lx t):=by unfold ay;rw[bQ,h];rfl
theorem GL (tv xv:aV)(ts:List rZ)(b:List jI)(g:dD):eD prog 83 #[.agg #[tv.1,xv.1],bA g] [sl ml tv.1 ts,sl gY xv.1 b,aG g] (fv (fX ts.length b.length (ay g))):=by
 refine eD.Z0 (args:=[.agg #[tv.1,xv.1],bA g]) 86 func83 rfl ntmps83 rfl (λc=> ?_);refine go ?_
 refine St.jP (aG g) (λ_:Unit=>kb g) (λρ h=>⟨(),h⟩) λ_=> ?_
 refine St.cast (H':=[aB (sl bh g.nv.1 g.nodes),aB (aF cA g.nodes),aB (sl ml tv.1 ts),aB (sl gY xv.1 b),aB (aG g)]) rfl ?_;refine St.wf tv.1 (λH I=> ?_);refine St.wf xv.1 (λr J=> ?_);refine St.wf g.nv.1 (λs K=> ?_)
 have u:=cz g
 refine go ?_;refine St.dK (.mk rfl) rfl (λv=> ?_);refine St.dK (.mk rfl) rfl (λy=> ?_);refine St.al (λA=> ?_);refine g10 ?_;refine St.gf _ rfl rfl (λa=>Ev.dV (.mk rfl) uy) rfl ?_;refine St.gf _ rfl rfl (λa=>Ev.kP (ai.gv rfl a) oZ trivial (by rfl)) rfl ?_;refine St.gf _ rfl rfl (λa=>Ev.fj (ai.gv rfl a) oZ) rfl ?_;refine St.gf _ rfl rfl (λa=>Ev.gtr (ai.gv rfl a) (.mk rfl)) rfl ?_;refine g3 ?_;refine St.cq (λB=> ?_) (λB=> ?_)
 ·have j:fX ts.length b.length (ay g)=(2,-2):=by unfold fX;rw[aC (by omega)]
  refine g2 ?_;refine St.ee (Ev.call (gD 2 (-2)) Ka (.aY rfl rfl)) ?_;refine g5 ?_;refine St.rV [_] [] ?_;exact congrArg fv j.symm
 ·have j:fX ts.length b.length (ay g)=fD ts.length b.length g.nodes.length 0 (ay g):=by unfold fX;rw[aA (by omega),u]
  refine g12 ?_;refine St.lS (ι:=Nat) (λk T=>(24,iv k)::T) (λk=>k≤g.nodes.length∧fX ts.length b.length (ay g)=fD ts.length b.length g.nodes.length k ((ay g).drop k)) (λk=>g.nodes.length-k) 0 (aD.cons 2 rfl (aD.cons 3 rfl (aD.cons 4 rfl (aD.cons 22 rfl (aD.cons 23 rfl aD.nil))))) ⟨aO _,j⟩ ?_;intro k C;obtain⟨hk,m⟩:=C;refine g6 ?_;refine St.cq (λD=> ?_) (λD=> ?_)
  ·obtain⟨t,ht⟩:=aE (show k<g.nodes.length by omega)
   have E:=ae ht
   refine St.cI cA g.nodes (x:=t) E ?_;refine St.eY (sl au t.lv.1 t.aq) [cA t] (λρ h=>h _ (aP ..)) ?_;refine St.wf t.lv.1 (λL M=> ?_)
   have d:=HK (nt:=ts.length) (nf:=b.length) (nn:=g.nodes.length) (ka ht)
   rw[←m]at d;refine g8 ?_;refine St.ee (Ev.jr (.mk rfl) ht wU trivial jS j7.eq) ?_;refine St.al (λN=> ?_);refine g11 ?_;refine St.gf _ rfl rfl (λa=>Ev.dV (.mk rfl) tP) rfl ?_;refine St.gf _ rfl rfl (λa=>Ev.kP (ai.gv rfl a) gG trivial (by rfl)) rfl ?_;refine St.gf _ rfl rfl (λa=>Ev.dV (.mk rfl) ux) rfl ?_;refine St.gf _ rfl rfl (λa=>Ev.kP (ai.gv rfl a) vq trivial (by rfl)) rfl ?_;refine St.gf _ rfl rfl (λa=>Ev.fj (ai.gv rfl a) vq) rfl ?_;refine St.gf _ rfl rfl (λa=>Ev.geq (ai.gv rfl a) (ai.gv rfl a)) rfl ?_;refine g3 ?_;refine St.cq (λF=> ?_) (λF=> ?_)
   ·rw[aC (show(lx t).1<0∨(ts.length:Int)≤(lx t).1 from(by omega:t.type<0∨(ts.length:Int)≤t.type))]at d
    refine g3 ?_;refine St.ee (Ev.call (gD 3 k) Ka (.aY rfl rfl)) ?_;refine g10 ?_;refine St.rV [_] [] ?_;exact congrArg fv d.symm
   ·rw[aA (show ¬((lx t).1<0∨(ts.length:Int)≤(lx t).1)from(by omega:¬(t.type<0∨(ts.length:Int)≤t.type)))]at d
    refine g16 ?_;refine St.te (ι:=Nat) (κ:=Int) (λq z T=>(45,iv q)::(7,iv z)::T) (λq z=>[aB (sl au t.lv.1 t.aq),aW A (.cells [iv 0,iv 0].toArray 35 (0,0)),aW v (.cells [tv.1,xv.1].toArray 25 (0,0)),aW y (.cells [g.nv.1].toArray 30 (0,0)),aB (sl bh g.nv.1 g.nodes),aB (aF cA g.nodes),aB (sl ml tv.1 ts),aB (sl gY xv.1 b),aB (aG g)]) (λq z=>q≤t.aq.length∧Ac b.length g.nodes.length k (-1) (lx t).2=Ac b.length g.nodes.length k z ((t.aq.map fR).drop q)) (λq z=>t.aq.length-q) 0 (-1) (aD.cons 2 rfl (aD.cons 3 rfl (aD.cons 4 rfl (aD.cons 5 rfl (aD.cons 22 rfl (aD.cons 23 rfl (aD.cons 24 rfl (aD.cons 43 rfl (aD.cons 44 rfl aD.nil))))))))) ⟨aO _,rfl⟩ ?_;rintro q z ⟨O,f⟩;refine g6 ?_;refine St.cq (λn=> ?_) (λn=> ?_)
    ·obtain⟨p,hp⟩:=aE (show q<t.aq.length by omega)
     have e:=OB (nf:=b.length) (nn:=g.nodes.length) (i:=k) (z:=z) (l:=t.aq.map fR) (q:=q) (x:=fR p) (by rw[bQ,hp];rfl)
     refine g7 ?_;refine St.ee (Ev.jr (.mk rfl) hp lB trivial dh j7.eq) ?_;refine St.al (λP=> ?_);refine g10 ?_;refine St.gf _ rfl rfl (λa=>Ev.dV (.mk rfl) Co) rfl ?_;refine St.gf _ rfl rfl (λa=>Ev.kP (ai.gv rfl a) gG trivial (by rfl)) rfl ?_;refine St.gf _ rfl rfl (λa=>Ev.dV (.mk rfl) Cr) rfl ?_;refine St.gf _ rfl rfl (λa=>Ev.kP (ai.gv rfl a) Fw trivial (by rfl)) rfl ?_;refine St.gf _ rfl rfl (λa=>Ev.fj (ai.gv rfl a) Fw) rfl ?_;refine St.gf _ rfl rfl (λa=>Ev.geq (ai.gv rfl a) (ai.gv rfl a)) rfl ?_;refine g2 ?_;refine St.gf _ rfl rfl (λa=>Ev.dV (.mk rfl) tS) rfl ?_;refine St.gf _ rfl rfl (λa=>Ev.kP (ai.gv rfl a) gG trivial (by rfl)) rfl ?_;refine St.gf _ rfl rfl (λa=>Ev.lss (ai.gv rfl a) (.mk rfl)) rfl ?_;refine g2 ?_;refine St.gf _ rfl rfl (λa=>Ev.dV (.mk rfl) tS) rfl ?_;refine St.gf _ rfl rfl (λa=>Ev.kP (ai.gv rfl a) gG trivial (by rfl)) rfl ?_;refine St.gf _ rfl rfl (λa=>Ev.dV (.mk rfl) uy) rfl ?_;refine St.gf _ rfl rfl (λa=>Ev.kP (ai.gv rfl a) oZ trivial (by rfl)) rfl ?_;refine St.gf _ rfl rfl (λa=>Ev.fj (ai.gv rfl a) oZ) rfl ?_;refine St.gf _ rfl rfl (λa=>Ev.geq (ai.gv rfl a) (ai.gv rfl a)) rfl ?_;refine g3 ?_;refine St.cq (λG=> ?_) (λG=> ?_)
     ·rw[aC (show(fR p).1<0∨(b.length:Int)≤(fR p).1∨(fR p).2<0∨(g.nodes.length:Int)≤(fR p).2 from(by omega:p.dF<0∨(b.length:Int)≤p.dF∨p.tqo<0∨(g.nodes.length:Int)≤p.tqo))]at e
      rw[f,e,aC (by show(3:Int)≠0;decide)]at d;refine g3 ?_;refine St.ee (Ev.call (gD 3 k) Ka (.aY rfl rfl)) ?_;refine g14 ?_;refine St.rV [_] [] ?_;exact congrArg fv d.symm
     ·rw[aA (show ¬((fR p).1<0∨(b.length:Int)≤(fR p).1∨(fR p).2<0∨(g.nodes.length:Int)≤(fR p).2)from(by omega:¬(p.dF<0∨(b.length:Int)≤p.dF∨p.tqo<0∨(g.nodes.length:Int)≤p.tqo)))]at e
      refine g11 ?_;refine St.cq (λo=> ?_) (λo=> ?_)
      ·rw[aC (show(fR p).1≤z from(by omega:p.dF≤z))]at e
       rw[f,e,aC (by show(13:Int)≠0;decide)]at d;refine g3 ?_;refine St.ee (Ev.call (gD 13 k) Ka (.aY rfl rfl)) ?_;refine g14 ?_;refine St.rV [_] [] ?_;exact congrArg fv d.symm
      ·rw[aA (show ¬(fR p).1≤z from(by omega:¬p.dF≤z))]at e
       refine g14 ?_;refine St.ue (q+1) p.dF ⟨by omega,by rw[f,e];rfl⟩
    ·rw[Su (by rw[aN];omega)]at f
     rw[aA (by rw[f];decide)]at d;refine g11 ?_;refine St.aS (k+1) ⟨by omega,by rw[d]⟩
  ·rw[LA (by omega)]at m
   refine g7 ?_;refine St.ee (Ev.build (bH.nil) (λw=>jv w)) ?_;refine g4 ?_;refine St.rV [_] [] ?_;exact congrArg fv m.symm
theorem BL {M:List Bool}{k:Nat}{b:Bool}(h:M[k]?=some b):oz (M.drop k)=if b=false then 0 else if oz (M.drop (k+1))<0 then-1 else oz (M.drop (k+1))+1:=by rw[bP h,oz]
theorem Nt {M:List Bool}{k:Nat}(h:M.length≤k):oz (M.drop k)= -1:=by rw[j6 h,oz]
def mR (M:List Bool)(k:Nat):Prop:=oz M=if oz (M.drop k)<0 then-1 else oz (M.drop k)+k
theorem mR.nil (M:List Bool):mR M 0:=by
 unfold mR;rw[List.drop_zero]
 have:∀M:List Bool,oz M= -1∨0≤oz M:=by
  intro M
  induction M with
  |nil=>left;rfl
  |cons b M a=>
   rw[oz]
   split
   ·right;decide
   ·split
    ·left;rfl
    ·right;omega
 rcases this M with h|h
 ·rw[h];rfl
 ·rw[aA (by omega)];omega
theorem mR.step {M:List Bool}{k:Nat}(h:mR M k)(b:M[k]?=some true):mR M (k+1):=by
 unfold mR at h⊢
 have a:=BL b
 rw[aA (show ¬(true=false) by decide)]at a
 by_cases e:oz (M.drop (k+1))<0
 ·rw[aC e]at a⊢
  rw[h,a];rfl
 ·rw[aA e]at a⊢
  rw[h,a,aA (by omega)];omega
theorem mR.hit {M:List Bool}{k:Nat}(h:mR M k)(b:M[k]?=some false):oz M=k:=by
 unfold mR at h
 have a:=BL b
 rw[aC rfl]at a
 rw[h,a,aA (by decide)];omega
theorem mR.fin {M:List Bool}{k:Nat}(h:mR M k)(a:M.length≤k):oz M= -1:=by
 unfold mR at h
 rw[h,Nt a];rfl
def eI:Rp Bool:=⟨1,by decide,λa=>[.bool a],λ_=>True,λ_=>rfl,λx u h=>by rw[bO.1 h];rfl⟩
theorem pE (U:List Bool):rows eI U=U.map λa=>Value.bool a:=by
 show U.flatMap (λa=>[Value.bool a])=_
 induction U with
 |nil=>rfl
 |cons a U b=>rw[jU,b];rfl
theorem P7 {U:List Bool}{k:Nat}{a:Bool}(h:U[k]?=some a):(rows eI U)[k*1+0]?=some (.bool a):=by
 rw[pE,gX,j4,bQ,h];rfl
theorem FM {U:List Bool}{k:Nat}{a:Bool}:(rows eI U).set (k*1+0) (.bool a)=rows eI (U.set k a):=by
 rw[pE,pE,gX,j4,jk]
theorem P8 (n:Nat):List.replicate n (Value.bool false)=rows eI (List.replicate n false):=by rw[pE,s9]
theorem GJ (u:Value)(M:List Bool):eD prog 117 #[u,.bool false] [sl eI u M] (iv (oz M)):=by
 refine eD.nD (args:=[u,.bool false]) 19 func117 rfl ntmps117 rfl (λc=> ?_);refine go ?_;refine St.wf u (λg l=> ?_);refine g13 ?_;refine St.lS (ι:=Nat) (λk T=>(8,iv k)::T) (λk=>k≤M.length∧mR M k) (λk=>M.length-k) 0 (aD.cons 0 rfl (aD.cons 1 rfl (aD.cons 7 rfl aD.nil))) ⟨aO _,mR.nil M⟩ ?_;intro k h;obtain⟨hk,a⟩:=h;refine g6 ?_;refine St.cq (λi=> ?_) (λi=> ?_)
 ·obtain⟨b,f⟩:=aE (show k<M.length by omega)
  refine g17 ?_;refine St.ee (Ev.RD (.mk rfl) (.mk rfl) IA) ?_;refine g2 ?_;refine St.cond _ rfl (λd=> ?_) (λd=> ?_)
  ·skip
   have e:M[k]?=some false:=by rw[f];cases b;rfl;cases d
   refine g12 ?_;refine St.rV [_] [] ?_;exact congrArg iv (a.hit e).symm
  ·skip
   have j:M[k]?=some true:=by rw[f];cases b;cases d;rfl
   refine g8 ?_;refine St.aS (k+1) ⟨by omega,a.step j⟩
 ·refine g11 ?_
  refine St.rV [_] [] ?_;exact congrArg iv (a.fin (by omega)).symm
abbrev cW (l:List Nat):List Int:=l.map λi:Nat=>(i:Int)
theorem jQ (U:List Int):rows aI U=U.map λa=>iv a:=by
 show U.flatMap (λa=>[iv a])=_
 induction U with
 |nil=>rfl
 |cons a U b=>rw[jU,b];rfl
theorem LQ {l:List Nat}{i:Nat}:(rows aI (cW (l++ [i])))[l.length*1+0]?=some (iv (i:Nat)):=by
 rw[jQ,gX,j4,cW,kH,bQ,lZ (aR _),ff];rfl
theorem PB {l:List Nat}{i:Nat}:(rows aI (cW (l++ [i]))).take (l.length*1)=rows aI (cW l):=by
 rw[jQ,jQ,gX,cW,cW,cO,cO];exact List.take_left' (by simp)
theorem vV {l:List Nat}{p:Int}(h:0≤p):rows aI (cW l)++ [iv p]=rows aI (cW (l++ [p.toNat])):=by
 rw[jQ,jQ,cW,cW,cO,cO,fL,lE,fL,lE,uV h]
theorem TT {α:Type}{l:List α}(h:0<l.length):∃m x,l=m++ [x]:=by
 rcases List.eq_nil_or_concat l with rfl|⟨m,x,rfl⟩
 ·simp at h
 ·exact⟨m,x,by rw[List.concat_eq_append]⟩
theorem yC (g:dD)(e:sk (ay g))(X:g.nodes.length≤60):eD prog 86 #[bA g] [aG g] (iv (YX (ay g))):=by
 refine eD.nD (args:=[bA g]) 58 func86 rfl ntmps86 rfl (λc=> ?_);refine go ?_
 refine St.jP (aG g) (λ_:Unit=>kb g) (λρ h=>⟨(),h⟩) λ_=> ?_
 refine St.cast (H':=[aB (sl bh g.nv.1 g.nodes),aB (aF cA g.nodes),aB (aG g)]) rfl ?_
 have G:=cz g
 have Y:0<g.nodes.length:=by have:=e.1;omega
 refine go ?_;refine St.dK (.mk rfl) rfl (λA=> ?_);refine g8 ?_;refine St.sQ (m:=g.nodes.length) (.mk rfl) (.mk rfl) jj Bj Qm YC rfl rfl (by omega) rfl rfl (λa=> ?_);refine St.aM (.slice (some ⟨a,0,none⟩) g.nodes.length g.nodes.length) rfl (P8 _) ?_;refine g6 ?_;refine St.ee (Ev.dX (k:=0) (.mk rfl) (.mk rfl) jj Bj (by omega) (by omega)) ?_;refine St.cG (.mk rfl) (.mk rfl) Bj rfl (by omega) (by decide) ?_;refine St.aM (.slice (some ⟨a,0,none⟩) g.nodes.length g.nodes.length) rfl FM ?_;refine g5 ?_;refine St.fp rfl (.ar rfl) bI dL eQ rfl rfl (by simp[Value.cells]) rfl rfl (λB=> ?_);refine St.aM (.slice (some ⟨B,0,none⟩) 1 1) (show _=([0]:List Nat).length from rfl) (show _=rows aI (cW [0])from rfl) ?_;refine g4 ?_;refine St.te (ι:=Unit) (κ:=Value×List Nat×List Bool) (λu z T=>(4,z.1)::T) (λu z=>[row (.slice (some ⟨a,0,none⟩) g.nodes.length g.nodes.length) 4 1 g.nodes.length (rows eI z.2.2),row z.1 3 1 (z.2.1).length (rows aI (cW (z.2.1))),aW A (.cells [g.nv.1].toArray 30 (0,0)),aB (sl bh g.nv.1 g.nodes),aB (aF cA g.nodes)]) (λu z=>Qn (ay g) z.2.2 z.2.1∧g.nodes.length-pf z.2.2+z.2.1.length≤g.nodes.length+1) (λu z=>g.nodes.length-pf z.2.2+z.2.1.length) () ((.slice (some ⟨B,0,none⟩) 1 1),[0],(List.replicate g.nodes.length false).set 0 true) (aD.cons 1 rfl (aD.cons 2 rfl (aD.cons 3 rfl aD.nil))) ⟨by have:=Qn.start e.1;rw[G]at this;exact this,by show _-_+1≤_;omega⟩ ?_;rintro u ⟨j,st,M⟩ ⟨hd,l⟩
 dsimp only at hd l⊢
 have H:=hd.len
 refine g8 ?_;refine St.cq (λI=> ?_) (λI=> ?_)
 ·obtain⟨s0,i,rfl⟩:=TT (show 0<st.length by omega)
  have Z:(s0++ [i]).length=s0.length+1:=by rw[bN];rfl
  have J:=ah (hd.Xh i (by simp))
  obtain⟨t,ht⟩:=aE (show i<g.nodes.length by omega)
  have K:=ae ht
  have C:(ay g).getD i iK=lx t:=by rw[aw,ka ht];rfl
  have L:=hd.pop
  refine St.cI cA g.nodes (x:=t) K ?_;refine St.eY (sl au t.lv.1 t.aq) [cA t] (λρ h=>h _ (aP ..)) ?_;refine St.wf t.lv.1 (λSM SK=> ?_);refine g9 ?_;refine St.ee (Ev.dX (k:=s0.length) (.mk rfl) (.mk rfl) bI dL (by omega) (by omega)) ?_;refine St.ee (Ev.ct (.mk rfl) gG trivial (by omega) LQ) ?_;refine g9 ?_;refine St.ee (Ev.pG (h:=s0.length) (.mk rfl) (.mk rfl) bI dL (by omega) (by omega)) ?_;refine St.DH j s0.length (by omega) ?_;refine St.aM (pH j 1 0 s0.length) rfl PB ?_;refine g16 ?_;refine St.te (ι:=Nat) (κ:=Value×List Nat×List Bool) (λq z T=>(36,iv q)::(4,z.1)::T) (λq z=>[row (.slice (some ⟨a,0,none⟩) g.nodes.length g.nodes.length) 4 1 g.nodes.length (rows eI z.2.2),row z.1 3 1 (z.2.1).length (rows aI (cW (z.2.1))),aW A (.cells [g.nv.1].toArray 30 (0,0)),aB (sl au t.lv.1 t.aq),aB (sl bh g.nv.1 g.nodes),aB (aF cA g.nodes)]) (λq z=>q≤t.aq.length∧rS (ay g) i q z.2.2 z.2.1∧g.nodes.length-pf z.2.2+z.2.1.length=g.nodes.length-pf M+s0.length) (λq z=>t.aq.length-q) 0 (pH j 1 0 s0.length,s0,M) (aD.cons 1 rfl (aD.cons 2 rfl (aD.cons 3 rfl (aD.cons 34 rfl (aD.cons 35 rfl aD.nil))))) ⟨aO _,L,rfl⟩ ?_;rintro q ⟨D,f,W⟩ ⟨hq,d,E⟩
  dsimp only at d E⊢
  have N:=d.len
  have O:=Cg W
  refine g6 ?_;refine St.cq (λP=> ?_) (λP=> ?_)
  ·obtain⟨p,hp⟩:=aE (show q<t.aq.length by omega)
   have n:((ay g).getD i iK).2[q]?=some (fR p):=by rw[C];show(t.aq.map fR)[q]?=_;rw[bQ,hp];rfl
   obtain⟨_,o,F⟩:=e.at_ (ae n)
   replace o:0≤p.tqo:=o
   replace F:p.tqo.toNat<(ay g).length:=F
   obtain⟨b,r⟩:=aE (show p.tqo.toNat<W.length by omega);refine g7 ?_;refine St.ee (Ev.jr (.mk rfl) hp lB trivial dh j7.eq) ?_;refine St.al (λb7=> ?_);refine g8 ?_;refine St.ee (Ev.dX (k:=p.tqo.toNat) (.mk rfl) (.mk rfl) jj Bj (by omega) (by omega)) ?_;refine St.ee (Ev.ct (.mk rfl) IA trivial (by omega) (P7 r)) ?_;refine g3 ?_;refine St.cond _ rfl (λs=> ?_) (λs=> ?_)
   ·skip
    have v:W[p.tqo.toNat]?=some false:=by rw[r];cases b;rfl;cases s
    have w:=Rc v
    have y:=Cg (W.set p.tqo.toNat true)
    rw[cn]at y
    have Q:=d.new e n
    refine g5 ?_;refine St.ee (Ev.dX (k:=p.tqo.toNat) (.mk rfl) (.mk rfl) jj Bj (by omega) (by omega)) ?_;refine St.cG (.mk rfl) (.mk rfl) Bj rfl (by omega) (by decide) ?_;refine St.aM (.slice (some ⟨a,0,none⟩) g.nodes.length g.nodes.length) rfl FM ?_;refine g6 ?_;refine St.fp rfl (.ar rfl) bI dL eQ rfl rfl (by simp[Value.cells]) rfl rfl (λR=> ?_);refine St.aj (.mk rfl) (.mk rfl) bI dL eQ xO (by simp[Value.oneCell',Value.cells]) (by omega) (by omega) rfl rfl rfl rfl (λv54 S=> ?_);refine St.aM v54 (show _=(f++ [p.tqo.toNat]).length from cR) (show _=rows aI (cW (f++ [p.tqo.toNat]))from vV o) ?_;refine g9 ?_;refine St.ue (q+1) (v54,f++ [p.tqo.toNat],W.set p.tqo.toNat true) ⟨by omega,Q,by rw[w,bN];simp only[List.length_cons,List.length_nil];omega⟩
   ·skip
    have U:W[p.tqo.toNat]?=some true:=by rw[r];cases b;cases s;rfl
    have hold:=d.AA n U
    refine g8 ?_;refine St.ue (q+1) (D,f,W) ⟨by omega,hold,E⟩
  ·obtain rfl:q=t.aq.length:=by omega
   refine g6 ?_;rw[show t.aq.length=((ay g).getD i iK).2.length by rw[C];exact(aN _).symm]at d;refine St.nC () (D,f,W) ⟨d.done,by dsimp only;omega⟩ (by dsimp only;rw[bN];simp only[List.length_cons,List.length_nil];omega) (by repeat(first|exact Sub.nil|refine Sub.cons (by first|rfl|exact congrArg (λz=>some (iv z)) (by first|omega|(dsimp only;omega))|exact congrArg (λz=>some (Value.bool z)) (by first|assumption|exact j5 (by assumption))) ?_)) (λ_ hw=>hw.sub)
 ·obtain rfl:st=[]:=lD (by omega)
  have V:=hd.fin e
  refine St.bR (.slice (some ⟨a,0,none⟩) g.nodes.length g.nodes.length) eI M rfl (by omega) (λ_ _=>trivial) ?_;refine g8 ?_;refine St.ee (Ev.call (GJ (.slice (some ⟨a,0,none⟩) g.nodes.length g.nodes.length) M) ZK (.aY rfl rfl)) ?_;refine g4 ?_;refine St.rV [_] [] ?_;exact congrArg iv (by rw[V];rfl)
theorem OD {nf nn i:Int}:∀{l:List (Int×Int)} {z:Int},(Ac nf nn i z l).1=0→∀x∈l,0≤x.1∧x.1<nf∧0≤x.2∧x.2<nn
 | [],_,_=>λx hx=>by cases hx
 |y::l,z,h=>by
  rw[Ac]at h
  by_cases h1:y.1<0∨nf≤y.1∨y.2<0∨nn≤y.2
  ·rw[aC h1]at h;exact absurd h (by simp)
  rw[aA h1]at h
  by_cases a:y.1≤z
  ·rw[aC a]at h;exact absurd h (by simp)
  rw[aA a]at h;intro x hx
  rcases cH.1 hx with rfl|hx
  ·omega
  ·exact OD h x hx
theorem tj {nt nf nn:Int}:∀{l:dz} {i:Nat},(fD nt nf nn i l).1=0→∀n∈l,(0≤n.1∧n.1<nt)∧∀x∈n.2,0≤x.1∧x.1<nf∧0≤x.2∧x.2<nn
 | [],_,_=>λx hx=>by cases hx
 |y::l,i,h=>by
  rw[fD]at h
  by_cases h1:y.1<0∨nt≤y.1
  ·rw[aC h1]at h;exact absurd h (by simp)
  rw[aA h1]at h
  by_cases a:(Ac nf nn i (-1) y.2).1≠0
  ·rw[aC a]at h;exact absurd h a
  rw[aA a]at h;intro x hx
  rcases cH.1 hx with rfl|hx
  ·exact⟨by omega,OD (iG.1 a)⟩
  ·exact tj h x hx
theorem z6 {nt nf:Int}{g:dz}(h:(fX nt nf g).1=0):0<g.length∧g.length≤60∧∀n∈g,(0≤n.1∧n.1<nt)∧∀x∈n.2,0≤x.1∧x.1<nf∧0≤x.2∧x.2<g.length:=by
 unfold fX at h
 by_cases h1:g.length=0∨60<g.length
 ·rw[aC h1]at h;exact absurd h (by simp)
 rw[aA h1]at h;exact⟨by omega,by omega,tj h⟩
theorem OH {nt nf:Int}{g:dz}(h:(fX nt nf g).1=0):sk g:=by
 obtain⟨h1,_,a⟩:=z6 h;exact⟨h1,λn b x hx=>by have:=(a n b).2 x hx;omega⟩
theorem Ay (a b:aV)(T:List ej)(e:im T)(i j:Int)(c:0≤i∧i.toNat<T.length)(d:0≤j∧j.toNat<T.length):eD prog 84 #[kC a b,iv i,iv j] [sl bF a.1 (de T),sl bF b.1 (db T)] (.bool (iD T i.toNat j.toNat)):=by
 have:=M8 a b T e i.toNat j.toNat c.2 d.2
 rw[uV c.1,uV d.1]at this;exact this
theorem NC {T:List ej}{Fs:List od}{G:dz}{k:Nat}(hk:k<G.length)(h:tE T Fs G k=true)(a:∀i,i<k→tE T Fs G i=false):mP T Fs G=some k:=by
 unfold mP;rw[List.find?_range_eq_some]
 exact⟨h,dq.2 hk,λj b=>by rw[a j b];rfl⟩
theorem ND {T:List ej}{Fs:List od}{G:dz}(a:∀i,i<G.length→tE T Fs G i=false):mP T Fs G=none:=by
 unfold mP;rw[List.find?_eq_none]
 intro b h;rw[a b (dq.1 h)];decide
theorem Bt {T:List ej}{Fs:List od}{G:dz}(h:(fX T.length Fs.length G).1≠0):dP T Fs G=fX T.length Fs.length G:=by unfold dP;rw[aC h]
theorem Ln {T:List ej}{Fs:List od}{G:dz}{i:Nat}(h:¬(fX T.length Fs.length G).1≠0)(a:mP T Fs G=some i):dP T Fs G=(12,(i:Int)):=by unfold dP;rw[aA h,a]
theorem Lo {T:List ej}{Fs:List od}{G:dz}(h:¬(fX T.length Fs.length G).1≠0)(a:mP T Fs G=none):dP T Fs G=if 0≤YX G then(5,YX G)else(0,0):=by unfold dP;rw[aA h,a]
theorem pz (tv xv o r:aV)(ts:List rZ)(b:List jI)(g:dD)(G:im (ts.map dG))(M:∀f∈b,0≤f.BR∧f.BR<ts.length∧0≤f.value∧f.value<ts.length):eD prog 49 #[.agg #[tv.1,xv.1],kC o r,bA g] [sl ml tv.1 ts,sl gY xv.1 b,sl bF o.1 (de (ts.map dG)),sl bF r.1 (db (ts.map dG)),aG g] (fv (dP (ts.map dG) (b.map gy) (ay g))):=by
 refine eD.Z1 (args:=[.agg #[tv.1,xv.1],kC o r,bA g]) 74 func49 rfl ntmps49 rfl (λc=> ?_);refine go ?_
 refine St.jP (aG g) (λ_:Unit=>kb g) (λρ h=>⟨(),h⟩) λ_=> ?_
 refine St.cast (H':=[aB (sl bh g.nv.1 g.nodes),aB (aF cA g.nodes),aB (sl ml tv.1 ts),aB (sl gY xv.1 b),aB (sl bF o.1 (de (ts.map dG))),aB (sl bF r.1 (db (ts.map dG))),aB (aG g)]) rfl ?_
 have N:=cz g
 have B:(ts.map dG).length=ts.length:=aN ..
 have C:(b.map gy).length=b.length:=aN ..
 refine St.wf g.nv.1 (λO Y=> ?_);refine go ?_;refine St.dK (.mk rfl) rfl (λZ=> ?_);refine St.dK (.mk rfl) rfl (λb4=> ?_);refine St.dK (.mk rfl) rfl (λb5=> ?_);refine St.al (λb6=> ?_);refine g7 ?_;refine St.ee (Ev.call (GL tv xv ts b g) ahM (.aY rfl rfl)) ?_;refine St.al (λb7=> ?_);refine g10 ?_;refine St.cond _ rfl (λD=> ?_) (λD=> ?_)
 ·skip
  have s:(fX (ts.map dG).length (b.map gy).length (ay g)).1≠0:=by rw[B,C];simpa using D
  have d:=Bt s
  rw[B,C]at d;refine g8 ?_;refine St.rV [_] [] ?_;exact congrArg fv d.symm
 ·skip
  have s:¬(fX (ts.map dG).length (b.map gy).length (ay g)).1≠0:=by rw[B,C];simpa using D
  have P:=OH (iG.1 s)
  obtain⟨hg0,Q,H⟩:=z6 (iG.1 s);refine g12 ?_;refine St.lS (ι:=Nat) (λk T=>(24,iv k)::T) (λk=>k≤g.nodes.length∧∀i,i<k→tE (ts.map dG) (b.map gy) (ay g) i=false) (λk=>g.nodes.length-k) 0 (aD.cons 3 rfl (aD.cons 4 rfl (aD.cons 5 rfl (aD.cons 6 rfl (aD.cons 22 rfl (aD.cons 23 rfl aD.nil)))))) ⟨aO _,λi E=>absurd E (by omega)⟩ ?_;intro k F;obtain⟨hk,e⟩:=F;refine g6 ?_;refine St.cq (λR=> ?_) (λR=> ?_)
  ·obtain⟨t,ht⟩:=aE (show k<g.nodes.length by omega)
   have S:=ae ht
   refine St.cI cA g.nodes (x:=t) S ?_;refine St.eY (sl au t.lv.1 t.aq) [cA t] (λρ h=>h _ (aP ..)) ?_;refine St.wf t.lv.1 (λSM SK=> ?_)
   have I:(ay g).getD k iK=lx t:=by rw[aw,ka ht];rfl
   obtain⟨J,U⟩:=H (lx t) (ae (ka ht))
   replace J:0≤t.type∧t.type<((ts.map dG).length:Int):=J
   refine g8 ?_;refine St.ee (Ev.jr (.mk rfl) ht wU trivial jS j7.eq) ?_;refine St.al (λb9=> ?_);refine g13 ?_;refine St.lS (ι:=Nat) (λq T=>(32,iv q)::T) (λq=>q≤t.aq.length∧∀j,j<q→∀x,(lx t).2[j]?=some x→IV (ts.map dG) (b.map gy) (ay g) t.type x=false) (λq=>t.aq.length-q) 0 (aD.cons 3 rfl (aD.cons 4 rfl (aD.cons 5 rfl (aD.cons 6 rfl (aD.cons 8 rfl (aD.cons 9 rfl (aD.cons 22 rfl (aD.cons 23 rfl (aD.cons 24 rfl (aD.cons 30 rfl (aD.cons 31 rfl aD.nil))))))))))) ⟨aO _,λj v=>absurd v (by omega)⟩ ?_;intro q F;obtain⟨hq,K⟩:=F;refine g6 ?_;refine St.cq (λV=> ?_) (λV=> ?_)
   ·obtain⟨p,hp⟩:=aE (show q<t.aq.length by omega)
    have l:(lx t).2[q]?=some (fR p):=by show(t.aq.map fR)[q]?=_;rw[bQ,hp];rfl
    have y:=U (fR p) (ae l)
    replace y:0≤p.dF∧p.dF<((b.map gy).length:Int)∧0≤p.tqo∧p.tqo<((ay g).length:Int):=y
    obtain⟨fe,m⟩:=aE (show p.dF.toNat<b.length by omega);obtain⟨u,hu⟩:=aE (show p.tqo.toNat<g.nodes.length by omega)
    have W:=M fe (ae m)
    have z:=(H (lx u) (ae (ka hu))).1
    replace z:0≤u.type∧u.type<((ts.map dG).length:Int):=z
    have L:(!iD (ts.map dG) t.type.toNat fe.BR.toNat|| !iD (ts.map dG) u.type.toNat fe.value.toNat)=IV (ts.map dG) (b.map gy) (ay g) t.type (fR p):=by
     unfold IV
     rw[show(fR p).1=p.dF from rfl,show(fR p).2=p.tqo from rfl,aw,bQ,m,aw,ka hu];rfl
    refine g7 ?_;refine St.ee (Ev.jr (.mk rfl) hp lB trivial dh j7.eq) ?_;refine St.al (λYA=> ?_);refine g9 ?_;refine St.ee (Ev.cL (k:=p.dF.toNat) (.mk rfl) (.mk rfl) Fw Bf (by omega) (by omega)) ?_;refine St.ee (Ev.jr (.mk rfl) m underlying135 trivial Bf j7.eq) ?_;refine St.al (λR6=> ?_);refine g4 ?_;refine St.rq mixed (by kernel_rfl) (Mm.drawn _ _) ?_;refine g5 ?_;refine Sq.ee (Ev.call (Ay o r (ts.map dG) G t.type fe.BR ⟨by omega,by omega⟩ ⟨by omega,by omega⟩) Zu (.eh rfl rfl rfl)) ?_;refine g2 ?_;refine Sq.gf _ rfl rfl (λa=>Ev.Wt (.mk rfl) wT trivial (by exact wQ)) rfl ?_;refine Sq.gf _ rfl rfl (λa=>Ev.dV (.mk rfl) uy) rfl ?_;refine Sq.gf _ rfl rfl (λa=>Ev.kP (ai.gv rfl a) oZ trivial (by rfl)) rfl ?_;refine Sq.gf _ rfl rfl (λa=>Ev.dV (.mk rfl) tS) rfl ?_;refine Sq.gf _ rfl rfl (λa=>Ev.kP (ai.gv rfl a) gG trivial (by rfl)) rfl ?_;refine Sq.gf _ rfl rfl (λa=>Ev.cL (k:=p.tqo.toNat) (ai.gv rfl a) (ai.gv rfl a) oZ jS (by first|omega|(simp only[ew]at a;omega)) (by first|omega|(simp only[ew]at a;omega))) rfl ?_;refine Sq.gf _ rfl rfl (λa=>Ev.UQ (ai.gv rfl a) (by first|omega|(simp only[ew]at a;omega)) tP) rfl ?_;refine Sq.gf _ rfl rfl (λa=>Ev.ld1 (ai.gv rfl a) hu gG trivial rfl) rfl ?_;refine Sq.gf _ rfl rfl (λa=>Ev.dV (.mk rfl) Cn) rfl ?_;refine Sq.gf _ rfl rfl (λa=>Ev.kP (ai.gv rfl a) gG trivial (by rfl)) rfl ?_;refine Sq.gf _ rfl rfl (λa=>Ev.call (Ay o r (ts.map dG) G u.type fe.value ⟨by omega,by omega⟩ ⟨by omega,by omega⟩) Zu (.cons (ai.gv rfl a) (.cons (ai.gv rfl a) (.cons (ai.gv rfl a) .nil)))) rfl ?_;refine Sq.gf _ rfl rfl (λa=>Ev.not (ai.gv rfl a)) rfl ?_;refine g3 ?_;refine St.cond _ rfl (λA=> ?_) (λA=> ?_)
    ·skip
     rw[L]at A
     have n:tE (ts.map dG) (b.map gy) (ay g) k=true:=by unfold tE;rw[I,pZ];exact⟨fR p,ae l,A⟩
     have d:=Ln s (NC (by omega) n e)
     refine g3 ?_;refine St.ee (Ev.call (gD 12 k) Ka (.aY rfl rfl)) ?_;refine g13 ?_;refine St.rV [_] [] ?_;exact congrArg fv d.symm
    ·skip
     rw[L]at A;refine g8 ?_;refine St.aS (q+1) ⟨by omega,λj v x hx=>by rcases eM j q with h|h;exact K j h x hx;rw[show j=q by omega,l]at hx;cases hx;exact A⟩
   ·refine g11 ?_
    have n:tE (ts.map dG) (b.map gy) (ay g) k=false:=by
     unfold tE;rw[I,List.any_eq_false]
     intro x hx;obtain⟨j,v⟩:=Bz hx
     rw[show(lx t).1=t.type from rfl,K j (by have:=ah v;rw[show(lx t).2.length=t.aq.length from aN _]at this;omega) x v];decide
    refine St.aS (k+1) ⟨by omega,λi E=>by rcases eM i k with h|h;exact e i h;rw[show i=k by omega];exact n⟩
  ·have d:=Lo s (ND (by rw[N];intro i E;exact e i (by omega)))
   refine g9 ?_;refine St.ee (Ev.call (yC g P (by omega)) ahN (.ar rfl)) ?_;refine g9 ?_;refine St.cq (λX=> ?_) (λX=> ?_)
   ·rw[aC (by omega)]at d
    refine g3 ?_;refine St.ee (Ev.call (gD 5 (YX (ay g))) Ka (.aY rfl rfl)) ?_;refine g5 ?_;refine St.rV [_] [] ?_;exact congrArg fv d.symm
   ·rw[aA (by omega)]at d
    refine g4 ?_;refine St.ee (Ev.build (bH.nil) (λw=>jv w)) ?_;refine g4 ?_;refine St.rV [_] [] ?_;exact congrArg fv d.symm
def oC (a b:Int):Int:=if a<b then-1 else if b<a then 1 else 0
def Asc (l:List dw):Prop:=∀(i j:Nat) (x y:dw),i<j→l[i]?=some x→l[j]?=some y→x.dF<y.dF
def ae2 (l:List dw)(k:Int)(v:Value):Prop:=∃(i:Nat) (b:Bool),v= .tuple #[iv i,.bool b]∧(b=true→∃x,l[i]?=some x∧x.dF=k)∧(b=false→∀x∈l,x.dF≠k)
theorem yp (x:Int):eD prog 133 #[iv x] [] (.bool false):=by
 refine eD.qB (args:=[iv x]) 6 func133 rfl ntmps133 rfl (λc=> ?_);refine g14 ?_;refine St.rV [_] [] ?_;exact be (by simp)
theorem ea (x y:Int):eD prog 100 #[iv x,iv y] [] (iv (oC x y)):=by
 refine eD.qB (args:=[iv x,iv y]) 20 func100 rfl ntmps100 rfl (λc=> ?_);refine g8 ?_;refine St.ee (Ev.call (yp x) UJ (.ar rfl)) ?_;refine g6 ?_;refine St.ee (Ev.call (yp y) UJ (.ar rfl)) ?_;refine g9 ?_;refine St.tG _ rfl rfl ?_;refine g8 ?_;refine St.tG _ rfl rfl ?_;refine g10 ?_;refine St.cq (λa=> ?_) (λa=> ?_)
 ·refine g7 ?_
  refine St.rV [_] [] ?_;exact ie (by unfold oC;rw[aC a])
 ·refine g10 ?_
  refine St.cq (λb=> ?_) (λb=> ?_)
  ·refine g7 ?_
   refine St.rV [_] [] ?_;exact ie (by unfold oC;rw[aA (by omega),aC (by omega)])
  ·refine g8 ?_
   refine St.rV [_] [] ?_;exact ie (by unfold oC;rw[aA (by omega),aA (by omega)])
theorem su (x:dw)(k:Int):eD prog 138 ([Value.agg #[iv x.dF,iv x.tqo],iv k]++ []).toArray [] (iv (oC x.dF k)):=by
 refine eD.qB (args:=[Value.agg #[iv x.dF,iv x.tqo],iv k]++ []) 9 func138 rfl ntmps138 rfl (λc=> ?_);refine g2 ?_;refine St.dK (.mk rfl) rfl (λa=> ?_);refine g8 ?_;refine St.ee (Ev.call (ea x.dF k) qE (.aY rfl rfl)) ?_;refine g4 ?_;refine St.rV [_] [] ?_;rfl
theorem Ly (u:Value)(l:List dw)(k:Int)(r:Asc l)(F:l.length≤1000000):dx prog 137 #[u,iv k,.func (.func 138) #[] #[]] ([sl au u l].map aB) (λv H'=>ae2 l k v∧H'=[]):=by
 refine dx.body (args:=[u,iv k,.func (.func 138) #[] #[]]) 49 func137 rfl ntmps137 rfl (λc=> ?_);refine St.cast (H':=[aB (sl au u l)]) rfl ?_;refine g22 ?_;refine St.lS (ι:=Nat×Nat) (λx T=>(9,iv x.1)::(10,iv x.2)::T) (λx=>x.1≤x.2∧x.2≤l.length∧(∀j y,j<x.1→l[j]?=some y→y.dF<k)∧(∀j y,x.2≤j→l[j]?=some y→k≤y.dF)) (λx=>x.2-x.1) (0,l.length) (aD.cons 0 rfl (aD.cons 1 rfl (aD.cons 2 rfl (aD.cons 6 rfl (aD.cons 7 rfl (aD.cons 8 rfl aD.nil)))))) ⟨aO _,aR _,λj y w=>absurd w (Nat.not_lt_zero j),λj y w h=>by have:=ah h;omega⟩ ?_;rintro ⟨i,j⟩ ⟨B,A,b,s⟩
 dsimp only at B A b s⊢
 refine g8 ?_;refine St.cq (λC=> ?_) (λC=> ?_)
 ·have D:i≤(i+j)/2:=by omega
  have G:(i+j)/2<j:=by omega
  obtain⟨y,hy⟩:=aE (show(i+j)/2<l.length by omega);refine g8 ?_;refine St.ee (Ev.Vz ((i+j)) (.mk rfl) (by rw[gG];rfl) Bn (by omega)) ?_;refine St.ee (Ev.XX 1 2 (by decide) (.mk rfl) (.mk rfl) (by decide)) ?_;refine St.ee (Ev.W1 (.mk rfl) (by rw[Bn];rfl) gG (by omega)) ?_;refine g8 ?_;refine St.ee (Ev.cL (k:=((i+j)/2)) (.mk rfl) (.mk rfl) eV dh (by omega) (by omega)) ?_;refine St.ee (Ev.jr (.mk rfl) hy lB trivial dh j7.eq) ?_;refine go ?_;refine St.ee (Ev.ep (su y k) UK (.mk rfl) (.aY rfl rfl)) ?_;refine g3 ?_;refine St.cq (λo=> ?_) (λo=> ?_)
  ·have d:y.dF<k:=by unfold oC at o;split at o<;>first|assumption|(split at o<;>omega)
   refine g7 ?_;refine St.aS ((i+j)/2+1,j) ⟨by show(i+j)/2+1≤j;omega,A,λq z a hz=>by rcases eM q ((i+j)/2)with g|g;exact Int.lt_trans (r _ _ _ _ g hz hy) d;rw[show q=(i+j)/2 from Nat.le_antisymm (Nat.le_of_lt_succ a) g,hy]at hz;cases hz;exact d,s⟩
  ·have d:k≤y.dF:=by unfold oC at o;split at o<;>omega
   refine g6 ?_;refine St.aS (i,(i+j)/2) ⟨D,by show(i+j)/2≤l.length;omega,b,λq z a hz=>by rcases eM ((i+j)/2) q with g|g;exact Int.le_trans d (Int.le_of_lt (r _ _ _ _ g hy hz));rw[show q=(i+j)/2 from Nat.le_antisymm g a,hy]at hz;cases hz;exact d⟩
 ·have t:i=j:=by omega
  subst t;refine g11 ?_;refine St.split 38 _ rfl (λf=> ?_) (λf=> ?_)
  ·have p:i<l.length:=by simpa using f
   obtain⟨y,hy⟩:=aE p;refine go ?_;refine St.cF rfl rfl ?_;refine go ?_;refine St.cF rfl rfl ?_;refine go ?_;refine St.cF rfl rfl ?_;refine go ?_;refine St.cF rfl rfl ?_;refine go ?_;refine St.cF rfl rfl ?_;refine St.ee (Ev.jr (.mk rfl) hy lB trivial dh j7.eq) ?_;refine St.cF rfl rfl ?_;refine go ?_;refine St.cF rfl rfl ?_;refine St.ee (Ev.ep (su y k) UK (.mk rfl) (.aY rfl rfl)) ?_;refine St.cF rfl rfl ?_;refine go ?_;refine St.split 47 _ rfl (λm=> ?_) (λm=> ?_)
   ·refine St.ee (Ev.gZ (.mk rfl) rfl (.mk rfl)) ?_
    refine g5 ?_;refine St.rV [_,_] [] ?_
    have n:oC y.dF k=0:=by simpa using m
    have d:y.dF=k:=by unfold oC at n;split at n;cases n;split at n;cases n;omega
    exact⟨⟨i,true,rfl,λ_=>⟨y,hy,d⟩,λh=>(by cases h)⟩,rfl⟩
   ·refine St.ee (Ev.gZ (.mk rfl) rfl (.mk rfl)) ?_
    refine g5 ?_;refine St.rV [_,_] [] ?_
    have n:oC y.dF k≠0:=by simpa using m
    have d:y.dF≠k:=λe=>n (by unfold oC;rw[aA (by omega),aA (by omega)])
    have E:=s i y (aR _) hy
    exact⟨⟨i,false,rfl,λh=>(by cases h),λ_ z hz=>by obtain⟨q,a⟩:=Bz hz;rcases Nat.lt_trichotomy q i with g|g|g;have:=b q z g a;omega;rw[g,hy]at a;cases a;exact d;have:=r _ _ _ _ g hy a;omega⟩,rfl⟩
  ·have p:l.length≤i:=by simpa using f
   refine go ?_;refine St.bq rfl rfl rfl ?_;refine St.bq rfl rfl rfl ?_;refine St.bq rfl rfl rfl ?_;refine St.bq rfl rfl rfl ?_;refine St.bq rfl rfl rfl ?_;refine St.bq rfl rfl rfl ?_;refine St.bq rfl rfl rfl ?_;refine St.bq rfl rfl rfl ?_;refine St.ee (Ev.kR (.mk rfl) rfl (.mk rfl)) ?_;refine g5 ?_;refine St.rV [_,_] [] ?_;exact⟨⟨i,false,rfl,λh=>(by cases h),λ_ z hz=>by obtain⟨q,a⟩:=Bz hz;have h1:=ah a;have H:=b q z (by omega) a;omega⟩,rfl⟩
def Fj (G:dz)(i:Nat)(k:Int):Int:=match(G.getD i iK).2.find? λx=>x.1==k with
 |some x=>x.2
 |none=> -1
theorem Pm (G:dz)(k:Int):Fj G 0 k=rR G k:=rfl
theorem Te {l:List dw}(b:Asc l){j:Nat}{x:dw}{k:Int}(hx:l[j]?=some x)(hk:x.dF=k):(l.map fR).find? (λy=>y.1==k)=some (fR x):=by
 cases h:(l.map fR).find? (λy=>y.1==k)with
 |none=>
  rw[List.find?_eq_none]at h;exact absurd (show((fR x).1==k)=true by rw[beq_iff_eq];exact hk) (h (fR x) (eN (ae hx)))
 |some y=>
  have h1:=List.find?_some h
  obtain⟨z,hz,rfl⟩:=cy.1 (List.mem_of_find?_eq_some h)
  have c:z.dF=k:=by simpa[fR]using h1
  obtain⟨q,a⟩:=Bz hz
  rcases Nat.lt_trichotomy q j with g|g|g
  ·have:=b _ _ _ _ g a hx;omega
  ·rw[g,hx]at a;cases a;rfl
  ·have:=b _ _ _ _ g hx a;omega
theorem Pn {l:List dw}{k:Int}(h:∀x∈l,x.dF≠k):(l.map fR).find? (λy=>y.1==k)=none:=by
 rw[List.find?_eq_none];intro y hy;obtain⟨z,hz,rfl⟩:=cy.1 hy
 rw[beq_iff_eq];exact h z hz
theorem J8 {nf nn i:Int}:∀{l:List dw} {z:Int},(Ac nf nn i z (l.map fR)).1=0→(∀x∈l,z<x.dF)∧Asc l
 | [],_,_=>⟨λx hx=>(by cases hx),λi j x y _ g=>(by simp at g)⟩
 |y::l,z,h=>by
  rw[fL,Ac]at h
  by_cases h1:(fR y).1<0∨nf≤(fR y).1∨(fR y).2<0∨nn≤(fR y).2
  ·rw[aC h1]at h;exact absurd h (by simp)
  rw[aA h1]at h
  by_cases c:(fR y).1≤z
  ·rw[aC c]at h;exact absurd h (by simp)
  rw[aA c]at h;obtain⟨d,k⟩:=J8 h
  replace d:∀x∈l,y.dF<x.dF:=d
  replace c:¬y.dF≤z:=c
  refine⟨λx hx=> ?_,λi j a b m e f=> ?_⟩
  ·rcases cH.1 hx with rfl|hx
   ·omega
   ·have:=d x hx;omega
  ·obtain⟨j,rfl⟩:∃n,j=n+1:=⟨j-1,by omega⟩
   rw[s6]at f
   cases i with
   |zero=>rw[List.getElem?_cons_zero]at e;cases e;exact d b (ae f)
   |succ i=>rw[s6]at e;exact k i j a b (by omega) e f
theorem rj {nt nf nn:Int}:∀{l:List df} {i:Nat},(fD nt nf nn i (l.map lx)).1=0→∀n∈l,Asc n.aq
 | [],_,_=>λx hx=>by cases hx
 |y::l,i,h=>by
  rw[fL,fD]at h
  by_cases h1:(lx y).1<0∨nt≤(lx y).1
  ·rw[aC h1]at h;exact absurd h (by simp)
  rw[aA h1]at h
  by_cases a:(Ac nf nn i (-1) (lx y).2).1≠0
  ·rw[aC a]at h;exact absurd h a
  rw[aA a]at h;intro x hx
  rcases cH.1 hx with rfl|hx
  ·exact(J8 (iG.1 a)).2
  ·exact rj h x hx
theorem BM {nt nf:Int}{g:dD}(h:(fX nt nf (ay g)).1=0):∀n∈g.nodes,Asc n.aq:=by
 unfold fX at h
 by_cases h1:(ay g).length=0∨60<(ay g).length
 ·rw[aC h1]at h;exact absurd h (by simp)
 rw[aA h1]at h;exact rj h
theorem nB (g:dD)(i:Nat)(k:Int)(o:i<g.nodes.length)(p:∀n∈g.nodes,Asc n.aq∧n.aq.length≤1000000):eD prog 111 #[bA g,iv i,iv k] [aG g] (iv (Fj (ay g) i k)):=by
 refine eD.nD (args:=[bA g,iv i,iv k]) 32 func111 rfl ntmps111 rfl (λc=> ?_);refine go ?_
 refine St.jP (aG g) (λ_:Unit=>kb g) (λρ h=>⟨(),h⟩) λ_=> ?_
 refine St.cast (H':=[aB (sl bh g.nv.1 g.nodes),aB (aF cA g.nodes),aB (aG g)]) rfl ?_;obtain⟨t,ht⟩:=aE o
 have m:=ae ht
 refine St.cI cA g.nodes (x:=t) m ?_;refine St.eY (sl au t.lv.1 t.aq) [cA t] (λρ h=>h _ (aP ..)) ?_
 have q:(ay g).getD i iK=lx t:=by rw[aw,ka ht];rfl
 have d:Fj (ay g) i k=match(t.aq.map fR).find? (λx=>x.1==k)with|some x=>x.2|none=> -1:=by unfold Fj;rw[q];rfl
 obtain⟨a,r⟩:=p t m;refine go ?_;refine St.dK (.mk rfl) rfl (λw=> ?_);refine g12 ?_;refine St.ag (Ly t.lv.1 t.aq k a r) ZR (.eh rfl rfl rfl) rfl ?_;rintro v17 _ ⟨⟨j,b,rfl,s,e⟩,rfl⟩;refine St.aK ?_;refine g14 ?_;refine St.cond _ rfl (λf=> ?_) (λf=> ?_)
 ·skip
  have u:b=false:=by simpa using f
  rw[Pn (e u)]at d;refine g7 ?_;refine St.rV [_] [] ?_;exact ie d.symm
 ·skip
  have v:b=true:=by simpa using f
  obtain⟨x,hx,l⟩:=s v
  have y:=ah hx
  rw[Te a hx l]at d;refine g18 ?_;refine St.rV [_] [] ?_;exact ie d.symm
theorem Dp (g:dD)(kids:Int)(f:0<g.nodes.length)(i:∀n∈g.nodes,Asc n.aq∧n.aq.length≤1000000):eD prog 81 #[bA g,iv kids] [aG g] (.bool (nN (ay g) kids)):=by
 refine eD.nD (args:=[bA g,iv kids]) 18 func81 rfl ntmps81 rfl (λc=> ?_);refine g2 ?_;refine St.dK (.mk rfl) rfl (λo=> ?_);refine g10 ?_;refine St.lS (ι:=Nat) (λk T=>(6,iv k)::T) (λk=>k≤4∧∀j,j<k→(decide (0≤rR (ay g) (j:Nat))==decide (((j:Nat):Int)≤kids))=true) (λk=>4-k) 0 (aD.cons 1 rfl (aD.cons 2 rfl aD.nil)) ⟨aO _,λj b=>absurd b (by omega)⟩ ?_;intro k l;obtain⟨hk,e⟩:=l;refine g6 ?_;refine St.cq (λm=> ?_) (λm=> ?_)
 ·refine g14 ?_
  refine St.ee (Ev.call (nB g 0 k f i) IZ (.eh rfl rfl rfl)) ?_;refine g4 ?_;refine St.ee (Ev.IX (.mk rfl) (.mk rfl) IA) ?_;refine g2 ?_;refine St.cond _ rfl (λa=> ?_) (λa=> ?_)
  ·skip
   have d:(decide (0≤rR (ay g) (k:Nat))==decide (((k:Nat):Int)≤kids))=false:=by rw[se];simp[Pm]at a;exact a
   refine g11 ?_;refine St.rV [_] [] ?_;exact be (by unfold nN;symm;rw[List.all_eq_false];exact⟨k,dq.2 (by omega),by rw[d];decide⟩)
  ·skip
   have d:(decide (0≤rR (ay g) (k:Nat))==decide (((k:Nat):Int)≤kids))=true:=by rw[beq_iff_eq];simp[Pm]at a;exact a
   refine g8 ?_;refine St.aS (k+1) ⟨by omega,λj b=>by rcases eM j k with h|h;exact e j h;rw[show j=k by omega];exact d⟩
 ·refine g11 ?_
  refine St.rV [_] [] ?_;exact be (by unfold nN;symm;rw[eW];intro j b;exact e j (by have:=dq.1 b;omega))
theorem MJ {l:List dw}(a:Asc l)(b:∀x∈l,0≤x.dF):∀(i:Nat) (x:dw),l[i]?=some x→(i:Int)≤x.dF
 |0,x,hx=>b x (ae hx)
 |i+1,x,hx=>by
  obtain⟨y,hy⟩:=aE (show i<l.length by have:=ah hx;omega)
  have h1:=MJ a b i y hy
  have c:=a i (i+1) y x (pN i) hy hx
  omega
theorem R4 {l:List dw}(b:Asc l){nf:Nat}(a:∀x∈l,0≤x.dF∧x.dF<nf):l.length≤nf:=by
 rcases Nat.eq_zero_or_pos l.length with h|h
 ·omega
 ·obtain⟨y,hy⟩:=aE (show l.length-1<l.length by omega)
  have h1:=MJ b (λx hx=>(a x hx).1) _ y hy
  have c:=(a y (ae hy)).2
  omega
theorem BH {n:Int}:∀{l:List od} {known:List bB} {i:Nat},(mQ n known i l).1=0→∀f∈l,0≤f.2.1∧f.2.1<n∧0≤f.2.2∧f.2.2<n
 | [],_,_,_=>λf a=>by cases a
 |t::l,known,i,h=>by
  rw[mQ]at h
  by_cases h1:isName t.1=false
  ·rw[aC h1]at h;exact absurd h (by simp)
  rw[aA h1]at h
  by_cases b:t.1∈known
  ·rw[aC b]at h;exact absurd h (by simp)
  rw[aA b]at h
  by_cases c:t.2.1<0∨n≤t.2.1∨t.2.2<0∨n≤t.2.2
  ·rw[aC c]at h;exact absurd h (by simp)
  rw[aA c]at h;intro f a
  rcases cH.1 a with rfl|a
  ·omega
  ·exact BH h f a
theorem SG {T:List ej}{Fs:List od}(h:(jO T Fs).1=0):0<T.length∧im T∧Fs.length≤40∧∀f∈Fs,0≤f.2.1∧f.2.1<T.length∧0≤f.2.2∧f.2.2<T.length:=by
 unfold jO at h
 by_cases h1:40<Fs.length
 ·rw[aC h1]at h;exact absurd h (by simp)
 rw[aA h1]at h
 by_cases a:(Aq T).1≠0
 ·rw[aC a]at h;exact absurd h a
 rw[aA a]at h;obtain⟨_,c,d⟩:=I6 (iG.1 a)
 cases e:wX T with
 |some b=>rw[e]at h;exact absurd h (by simp)
 |none=>rw[e]at h;exact⟨c,d,by omega,BH h⟩
structure Nq where
 no:Nat
 leaf:Bool
 label:bB
 up:Int
 fin:Nat
 frm:Nat
 tqo:Nat
def XJ:Nq:=⟨0,false,[],0,0,0,0⟩
def tm0:jK:= .mk 0 [] 0 (.mk [] []) []
def Qj:Dn:=⟨[],[],0,tm0⟩
def oQ:sg:=⟨[],[],0,0,tm0⟩
mutual
def Us:jY→Nat
 | .mk _ _ l=>1+Ur l
def Ur:List jY→Nat
 | []=>0
 |x::l=>Us x+Ur l
end
mutual
def XG:jY→Nat
 | .mk r _ l=>(if r<0 then 1 else 0)+XF l
def XF:List jY→Nat
 | []=>0
 |x::l=>XG x+XF l
end
def ak7 (g:gB)(r x:Int):bB:=if r<0 then(g.aL.getD x.toNat Qj).word else(g.rules.getD r.toNat oQ).name
mutual
def T7 (g:gB):jY→Nat→Int→Nat→List Nq
 | .mk r x l,k,up,w=>⟨k,decide (r<0),ak7 g r x,up,k+(1+Ur l),w,w+((if r<0 then 1 else 0)+XF l)⟩::Lw g l (k+1) k (w+(if r<0 then 1 else 0))
def Lw (g:gB):List jY→Nat→Int→Nat→List Nq
 | [],_,_,_=>[]
 |x::l,k,up,w=>T7 g x k up w++Lw g l (k+Us x) up (w+XG x)
end
mutual
def BK (nr nl:Nat):jY→Prop
 | .mk r x l=>(-1≤r∧r<nr)∧(r<0→l=[]∧0≤x∧x<nl)∧(0≤r→l≠ [])∧BJ nr nl l
def BJ (nr nl:Nat):List jY→Prop
 | []=>True
 |x::l=>BK nr nl x∧BJ nr nl l
end
mutual
theorem xc (g:gB):∀(t:jY) (k:Nat) (up:Int) (w:Nat),(T7 g t k up w).length=Us t
 | .mk r x l,k,up,w=>by rw[T7,fA,JD g l,Us];omega
theorem JD (g:gB):∀(l:List jY) (k:Nat) (up:Int) (w:Nat),(Lw g l k up w).length=Ur l
 | [],_,_,_=>by rw[Lw,Ur];rfl
 |x::l,k,up,w=>by rw[Lw,bN,xc g x,JD g l,Ur]
end
mutual
theorem J9 {nr nl:Nat}:∀t:jY,BK nr nl t→0<XG t
 | .mk r x l,h=>by
  rw[BK]at h;rw[XG]
  by_cases a:r<0
  ·rw[aC a];omega
  ·have:=Sv l h.2.2.2 (h.2.2.1 (by omega));omega
theorem Sv {nr nl:Nat}:∀l:List jY,BJ nr nl l→l≠ []→0<XF l
 | [],_,h=>absurd rfl h
 |x::l,h,_=>by
  rw[BJ]at h
  have:=J9 x h.1
  rw[XF];omega
end
def IJ (x y:Nq):Prop:=x.no<y.no∧((y.no<x.fin∧x.frm≤y.frm∧y.tqo≤x.tqo)∨(x.fin≤y.no∧x.tqo≤y.frm))
def Yi (k m w n:Nat)(x:Nq):Prop:=k≤x.no∧x.no<x.fin∧x.fin≤k+m∧w≤x.frm∧x.frm<x.tqo∧x.tqo≤w+n
mutual
theorem OT {nr nl:Nat}(g:gB):∀(t:jY) (k:Nat) (up:Int) (w:Nat),BK nr nl t→(T7 g t k up w).Pairwise IJ∧∀x∈T7 g t k up w,Yi k (Us t) w (XG t) x
 | .mk r x l,k,up,w,h=>by
  have hp:=J9 _ h
  rw[BK]at h;obtain⟨h1,a⟩:=OQ g l (k+1) k (w+(if r<0 then 1 else 0)) h.2.2.2;rw[T7,Us];rw[XG]at hp⊢;refine⟨jW.2 ⟨λy hy=> ?_,h1⟩,λy hy=> ?_⟩
  ·obtain⟨b,a2,a3,a4,a5,c⟩:=a y hy
   refine⟨?_,Or.inl ⟨?_,?_,?_⟩⟩<;>dsimp only<;>omega
  ·rcases cH.1 hy with rfl|hy
   ·refine⟨?_,?_,?_,?_,?_,?_⟩<;>dsimp only<;>omega
   ·obtain⟨b,a2,a3,a4,a5,c⟩:=a y hy
    refine⟨?_,?_,?_,?_,?_,?_⟩<;>omega
theorem OQ {nr nl:Nat}(g:gB):∀(l:List jY) (k:Nat) (up:Int) (w:Nat),BJ nr nl l→(Lw g l k up w).Pairwise IJ∧∀x∈Lw g l k up w,Yi k (Ur l) w (XF l) x
 | [],_,_,_,_=>by rw[Lw];exact⟨List.Pairwise.nil,λx hx=>by cases hx⟩
 |t::l,k,up,w,h=>by
  rw[BJ]at h;obtain⟨h1,a⟩:=OT g t k up w h.1;obtain⟨c,b⟩:=OQ g l (k+Us t) up (w+XG t) h.2;rw[Lw,Ur,XF];refine⟨sB.2 ⟨h1,c,λx hx y hy=> ?_⟩,λy hy=> ?_⟩
  ·obtain⟨d,a2,a3,a4,a5,e⟩:=a x hx
   obtain⟨f,i,j,m,n,o⟩:=b y hy;exact⟨by omega,Or.inr ⟨by omega,by omega⟩⟩
  ·rcases cD.1 hy with hy|hy
   ·obtain⟨d,a2,a3,a4,a5,e⟩:=a y hy
    refine⟨?_,?_,?_,?_,?_,?_⟩<;>omega
   ·obtain⟨f,i,j,m,n,o⟩:=b y hy
    refine⟨?_,?_,?_,?_,?_,?_⟩<;>omega
end
mutual
theorem OS (g:gB):∀(t:jY) (k:Nat) (up:Int) (w i:Nat) (x:Nq),(T7 g t k up w)[i]?=some x→x.no=k+i
 | .mk r y l,k,up,w,i,x,h=>by
  rw[T7]at h
  cases i with
  |zero=>rw[List.getElem?_cons_zero]at h;cases h;rfl
  |succ i=>rw[s6]at h;have:=OP g l _ _ _ i x h;omega
theorem OP (g:gB):∀(l:List jY) (k:Nat) (up:Int) (w i:Nat) (x:Nq),(Lw g l k up w)[i]?=some x→x.no=k+i
 | [],_,_,_,_,_,h=>by rw[Lw]at h;simp at h
 |t::l,k,up,w,i,x,h=>by
  rw[Lw]at h
  rcases eM i (Us t)with a|a
  ·rw[ob (by rw[xc];exact a)]at h
   exact OS g t k up w i x h
  ·rw[lZ (by rw[xc];exact a),xc]at h
   have:=OP g l _ _ _ _ x h
   omega
end
structure Ax (L:List Nq):Prop where
 ahead:L.Pairwise IJ
 no:∀(i:Nat) (x:Nq),L[i]?=some x→x.no=i
 words:∀x∈L,x.frm<x.tqo∧x.no<x.fin
theorem Ax.of {nr nl:Nat}(g:gB){t:jY}(h:BK nr nl t):Ax (T7 g t 0 (-1) 0):=by
 obtain⟨h1,a⟩:=OT g t 0 (-1) 0 h;exact⟨h1,λi x hx=>by have:=OS g t 0 (-1) 0 i x hx;omega,λx hx=>by obtain⟨b,a2,a3,a4,a5,c⟩:=a x hx;exact⟨a5,a2⟩⟩
theorem getD_some {L:List Nq}{i:Nat}(h:i<L.length):L[i]?=some (L.getD i XJ):=by
 rw[aw,bU h];rfl
theorem Ax.lt {L:List Nq}(h:Ax L){i j:Nat}(b:i<j)(c:j<L.length):IJ (L.getD i XJ) (L.getD j XJ)∧(L.getD i XJ).no=i∧(L.getD j XJ).no=j:=by
 have h1:=getD_some (show i<L.length by omega)
 have a:=getD_some c
 refine⟨?_,h.no _ _ h1,h.no _ _ a⟩
 have:=List.pairwise_iff_getElem.1 h.ahead i j (by omega) c b
 rw[bU (show i<L.length by omega)]at h1;rw[bU c]at a
 injection h1 with h1;injection a with a
 rw[←h1,←a];exact this
theorem Ax.one {L:List Nq}(h:Ax L){i:Nat}(a:i<L.length):(L.getD i XJ).frm<(L.getD i XJ).tqo:=(h.words _ (ae (getD_some a))).1
end Go.Proofs.YtblifkgpebebmaaGreatDoor
namespace Go.Proofs.YtblifkgpebebmaaGreatDoor
open Go Go.J Tryz
instance:gu prog 115 0 0:=⟨by kernel_rfl⟩
theorem Vv:aJ prog 67:=⟨_,func67,rfl,by kernel_rfl⟩
theorem Cl:bf prog 115 2=some 2:=by kernel_rfl
instance:type_of%(gu.mk Cl):=⟨Cl⟩
instance:gu prog 115 1 1:=⟨by kernel_rfl⟩
theorem Vt:aJ prog 49:=⟨_,func49,rfl,by kernel_rfl⟩
instance:gu prog 115 3 3:=⟨by kernel_rfl⟩
theorem Zt:aJ prog 82:=⟨_,func82,rfl,by kernel_rfl⟩
theorem xS:bf prog 110 2=some 2:=by kernel_rfl
instance:type_of%(gu.mk xS):=⟨xS⟩
theorem xT:bf prog 110 3=some 3:=by kernel_rfl
instance:type_of%(gu.mk xT):=⟨xT⟩
instance:gu prog 110 1 1:=⟨by kernel_rfl⟩
theorem ahL:aJ prog 81:=⟨_,func81,rfl,by kernel_rfl⟩
instance:gu prog 110 4 4:=⟨by kernel_rfl⟩
theorem ahA:aJ prog 43:=⟨_,func43,rfl,by kernel_rfl⟩
theorem Gg:aJ prog 44:=⟨_,func44,rfl,by kernel_rfl⟩
instance:gu prog 110 0 0:=⟨by kernel_rfl⟩
theorem ahB:aJ prog 47:=⟨_,func47,rfl,by kernel_rfl⟩
theorem ahC:aJ prog 48:=⟨_,func48,rfl,by kernel_rfl⟩
end Go.Proofs.YtblifkgpebebmaaGreatDoor
namespace Go.J
open Go
abbrev ints (l:List Nat):List Int:=l.map (λi:Nat=>(i:Int))
section
variable {P:Program}{n:Nat}{F:Fr}{A:World→Prop}{x y:Operand}{ty:TypeId}
end
end Go.J
namespace Go.J
open Go Go.Proofs Go.Proofs.YtblifkgpebebmaaGreatDoor
section
variable {P:Program}{n:Nat}{F:Fr}{A:World→Prop}{c:Ctx}{H R:List ak}{ty:TypeId}{x y:Operand}{v:Value}{Q:Exit→Act→World→Prop}{ops:Array Oper}{rest:List Oper}{d size:Nat}
 {pos:String} {after:Array Edge} {t e:TypeId} {m k:Nat} {cs:List Value}
theorem Ev.jZ {off o i b o' cap:Nat}{s:TypeId}(c:v= .slice (some ⟨b,o',none⟩) m cap)(hx:ai F x (cY v size k off))(d:bf P s i=some o):Ev P n F A (.fieldAddr s x i) ty (cY v size k (off+o)):= .of_run λa w e _=>by
 subst c;rw[eE]at hx
 simp[execOp,hx.eval e,nO d,eE,Addr.add_lit,Nat.add_assoc]
end
section
variable {n:Nat}{F:Fr}{c:Ctx}{R:List ak}{T:Act→World→Prop}
theorem St.afO {a b d e f g h i:ak}(k:St n F (Mm c (a::b::d::e::f::g::h::i::R)) T):St n F (Mm c ([a,b,d,e,f,g,h,i]++R)) T:=k
end
end Go.J
namespace Go.Proofs.YtblifkgpebebmaaGreatDoor
open Go Go.J Tryz
theorem take_set {A:List Int}{p:List Nat}{i:Nat}(h:A.take p.length=ints p)(a:p.length<A.length):(A.set p.length (i:Int)).take (p.length+1)=ints (p++ [i]):=by
 have b:(A.set p.length (i:Int))[p.length]?=some (i:Int):=by rw[fU a]
 rw[aX b,List.take_set,h,ints,ints,cO,List.set_eq_of_length_le (by rw[aN];exact aR _)];rfl
end Go.Proofs.YtblifkgpebebmaaGreatDoor
namespace Go.Proofs
open Go.Shelf Go.RowKit Go.Lib
variable {P:Program}{ρ:Ren}
theorem N6 {r:Int}(h:128≤r):∃(n:Nat) (x:UInt8),(Utf8.encode r).size=n∧2≤n∧n≤4∧(Utf8.encode r).data.toList[n-1]?=some x∧128≤x.toNat:=by
 have key:∀c:Nat,128≤c→c<1114112→∃(n:Nat) (x:UInt8),(if c<0x80 then(⟨#[UInt8.ofNat c]⟩:ByteArray)else if c<0x800 then⟨#[UInt8.ofNat (0xC0+c/64),UInt8.ofNat (0x80+c%64)]⟩
  else if c<0x10000 then⟨#[UInt8.ofNat (0xE0+c/4096),UInt8.ofNat (0x80+c/64%64),UInt8.ofNat (0x80+c%64)]⟩
  else⟨#[UInt8.ofNat (0xF0+c/262144),UInt8.ofNat (0x80+c/4096%64),UInt8.ofNat (0x80+c/64%64),UInt8.ofNat (0x80+c%64)]⟩).size=n∧2≤n∧n≤4∧
  (if c<0x80 then(⟨#[UInt8.ofNat c]⟩:ByteArray)else if c<0x800 then⟨#[UInt8.ofNat (0xC0+c/64),UInt8.ofNat (0x80+c%64)]⟩
  else if c<0x10000 then⟨#[UInt8.ofNat (0xE0+c/4096),UInt8.ofNat (0x80+c/64%64),UInt8.ofNat (0x80+c%64)]⟩
  else⟨#[UInt8.ofNat (0xF0+c/262144),UInt8.ofNat (0x80+c/4096%64),UInt8.ofNat (0x80+c/64%64),UInt8.ofNat (0x80+c%64)]⟩).data.toList[n-1]?=some x∧128≤x.toNat:=by
  intro c h1 d
  have hx:128≤(UInt8.ofNat (0x80+c%64)).toNat:=by simp[UInt8.toNat_ofNat'];omega
  rw[aA (by omega)]
  by_cases k:c<0x800
  ·rw[aC k];exact⟨2,_,rfl,by omega,by omega,rfl,hx⟩
  ·rw[aA k]
   by_cases b:c<0x10000
   ·rw[aC b];exact⟨3,_,rfl,by omega,by omega,rfl,hx⟩
   ·rw[aA b];exact⟨4,_,rfl,by omega,by omega,rfl,hx⟩
 unfold Utf8.encode
 by_cases a:Utf8.valid r=true
 ·simp only[a,if_true]
  refine key r.toNat (by omega) ?_
  simp[Utf8.valid]at a
  omega
 ·simp only[a]
  exact key Utf8.runeError (by decide) (by decide)
theorem vZ {w:World}{s d:TypeId}{k:IntKind}{r:Int}(a:P.underlying s=some (.int k))(hd:P.underlying d=some .string):(convert s d (.int k r)).run P w= .ok (.string (Utf8.encode r)) w:=by
 simp[convert,run_underlying a,run_underlying hd,Conv.intToString]
theorem Cy {w:World}{t:TypeId}{s:ByteArray}{i:Int}{k:Nat}{b:UInt8}(ht:P.underlying t=some .string)(c:i=k)(a:s.data.toList[k]?=some b):(Instr.index t (.string s) (.int .i64 i)).run P w= .ok (.int .u8 (b.toNat:Int)) w:=by
 subst c
 have d:k<s.size:=by have:=(ez.1 a).1;rwa[←Lib.size_eq]at this
 have h1:s[k]?=some b:=by
  rw[ByteArray.getElem?_lt' _ _ d]
  have:=(ez.1 a).2
  simpa[ByteArray.getElem_eq_getElem_data]using this
 simp[Instr.index,asIntOf,run_underlying ht,h1]
theorem AZ {l:List UInt8}{c:UInt8}(h:∀x∈l,x≠c):Lib.indexByte l c<0:=by
 have h1:=Lib.contains_iff_indexByte l c
 have a:l.contains c=false:=by
  rw[Bool.eq_false_iff];intro b;exact h c (List.contains_iff_mem.1 b) rfl
 rw[a]at h1
 have:=iX h1.symm
 omega
set_option maxRecDepth 1000000 in
theorem Any.yo (L:Lays.n152 P ρ)(s:ByteArray)(r:Int)(w:World)(h0:128≤r)(h1:r≠65533)(hv:Lib.validRune r=true)(hs:∀(j:Nat) b,s.data.toList[j]?=some b→b.toNat<128)(SQ:s.size≤100):
 Calls P (ρ.f 152) #[.string s,.int .i32 r] w λe w'=>e= .returned (.int .i64 (-1))∧∃k,w'=w.drewN k:=by
 have t3:=L.t3;have a3:=L.a3;have z3:=L.z3;have v3:=L.v3
 have t4:=L.t4;have a4:=L.a4;have z4:=L.z4;have v4:=L.v4
 have t5:=L.t5;have a5:=L.a5;have z5:=L.z5;have v5:=L.v5
 have t9:=L.t9;have a9:=L.a9;have z9:=L.z9;have v9:=L.v9
 have t21:=L.t21;have a21:=L.a21;have z21:=L.z21;have v21:=L.v21
 have ahY:∀args w,(callFunc (ρ.f 137) args).run P w= .ok (.enter (ρ.f 137) args) w:=enters_of L.f137 (by kernel_rfl) rfl
 have ahX:∀args w,(callFunc (ρ.f 119) args).run P w= .ok (.enter (ρ.f 119) args) w:=enters_of L.f119 (by kernel_rfl) rfl
 have mixed:=L.mixed
 have d1:decide ((0:Int)≤r)=true:=dt (by omega)
 have d2:decide (r<128)=false:=fK (by omega)
 have d3:(r==(65533:Int))=false:=se.2 h1
 obtain⟨n,x,hn,hn2,hn4,hx,Ul⟩:=N6 h0
 have hc:=λ(w:World)=>vZ (P:=P) (w:=w) (r:=r) t21 t9
 generalize Utf8.encode r=rs at hn hx hc
 subst hn
 go_enter L.f152,Body.n152_ntmps ρ
 go_wp2_with (go_at_fn (ρ.f 119);refine(Any.utf8_ValidRune {L with} _ _).mono ?_;rintro e w' ⟨rfl,hw⟩;rw[hw,hv])
 subst hw;refine wp_scope_straight ?_
 go_wp2
 by_cases hl:rs.size-1<s.size
 ·have hi0:(0:Int)≤(rs.size:Int)-1:=by omega
  have hi1:(rs.size:Int)-1<(s.size:Int):=by omega
  obtain⟨y,hy⟩:∃y:UInt8,s.data.toList[rs.size-1]?=some y:=⟨_,bU (by rw[←Lib.size_eq];exact hl)⟩
  have amR:=hs _ _ hy
  refine wp_loop_rounds 1 ?_;rw[rounds_succ]
  go_wp2
  refine wp_scope_straight ?_
  have kx:∀w,(Instr.index (ρ.t 9) (.string rs) (.int .i64 ((rs.size:Int)-1))).run P w= .ok (.int .u8 (x.toNat:Int)) w:=λw=>Cy t9 (by omega) hx
  have ky:∀w,(Instr.index (ρ.t 9) (.string s) (.int .i64 ((rs.size:Int)-1))).run P w= .ok (.int .u8 (y.toNat:Int)) w:=λw=>Cy t9 (by omega) hy
  have hne:((y.toNat:Int)==(x.toNat:Int))=false:=se.2 (by omega)
  go_wp2
  go_region_o
  have ahY:∀args w,(callFunc (ρ.f 137) args).run P w= .ok (.enter (ρ.f 137) args) w:=enters_of L.f137 (by kernel_rfl) rfl
  have hw1:IntKind.i64.wrap (rs.size:Int)=(rs.size:Int):=by
   simp only[IntKind.wrap,IntKind.bits,IntKind.signed]
   simp
   omega
  have s1:(0:Int)≤(rs.size:Int)-1+1:=by omega
  have s2:(rs.size:Int)-1+1≤(s.size:Int):=by omega
  have s3:(0:Int)≤(rs.size:Int):=by omega
  have s4:(rs.size:Int)≤(s.size:Int):=by omega
  obtain⟨z,hz⟩:∃z,Lib.indexByte (s.extract rs.size s.size).data.toList ((x.toNat:Int).toNat.toUInt8)=z:=⟨_,rfl⟩
  have hz0:z<0:=by
   rw[←hz]
   refine AZ λb hb=> ?_
   have Di:b∈s.data.toList:=by
    have:(s.extract rs.size s.size).data.toList=(s.data.toList.drop rs.size).take (s.size-rs.size):=by simp
    rw[this]at hb;exact G9 (C5 hb)
   obtain⟨k,hk⟩:=Bz Di
   have h5:=hs k b hk
   intro e
   have h6:((x.toNat:Int)).toNat.toUInt8=x:=by simp
   rw[h6]at e;rw[e]at h5;omega
  go_wp2
  go_region_with_o (
   go_at_fn (ρ.f 137)
   refine(Any.strings_IndexByte {L with} _ _ _).mono ?_;rintro e w' ⟨rfl,hw⟩
   rw[hw,hz])
  go_wp2
  simp only[Exit.noGoto,Exit.inBlock,Exit.then]
  go_ret
  exact⟨rfl,2,rfl⟩
 ·have hi1:decide ((rs.size:Int)-1<(s.size:Int))=false:=fK (by omega)
  refine wp_loop_rounds 1 ?_;rw[rounds_succ]
  go_wp2
  show Exit.inBlock 0 _ Exit.ret _ _
  go_ret
  exact⟨rfl,0,rfl⟩
set_option maxRecDepth 1000000 in
theorem Any.Aa (L:Lays.n152 P ρ)(s:ByteArray)(r:Int)(w:World)(h0:128≤r)(h1:r≠65533)(hv:Lib.validRune r=false):
 Calls P (ρ.f 152) #[.string s,.int .i32 r] w λe w'=>e= .returned (.int .i64 (-1))∧∃k,w'=w.drewN k:=by
 have t3:=L.t3;have a3:=L.a3;have z3:=L.z3;have v3:=L.v3
 have t4:=L.t4;have a4:=L.a4;have z4:=L.z4;have v4:=L.v4
 have t5:=L.t5;have a5:=L.a5;have z5:=L.z5;have v5:=L.v5
 have t9:=L.t9;have a9:=L.a9;have z9:=L.z9;have v9:=L.v9
 have t21:=L.t21;have a21:=L.a21;have z21:=L.z21;have v21:=L.v21
 have ahX:∀args w,(callFunc (ρ.f 119) args).run P w= .ok (.enter (ρ.f 119) args) w:=enters_of L.f119 (by kernel_rfl) rfl
 have d1:decide ((0:Int)≤r)=true:=dt (by omega)
 have d2:decide (r<128)=false:=fK (by omega)
 have d3:(r==(65533:Int))=false:=se.2 h1
 go_enter L.f152,Body.n152_ntmps ρ
 go_wp2_with (go_at_fn (ρ.f 119);refine(Any.utf8_ValidRune {L with} _ _).mono ?_;rintro e w' ⟨rfl,hw⟩;rw[hw,hv])
 subst hw
 go_ret
 exact⟨rfl,0,rfl⟩
set_option maxRecDepth 1000000 in
theorem Any.xB (L:Lays.n152 P ρ)(s:ByteArray)(w:World)(hs:∀(j:Nat) b,s.data.toList[j]?=some b→b.toNat<128):
 Calls P (ρ.f 152) #[.string s,.int .i32 65533] w λe w'=>e= .returned (.int .i64 (-1))∧∃pos,w'=w.iter s pos:=by
 have HA:Aside (∀(j:Nat) b,s.data.toList[j]?=some b→b.toNat<128):=hs
 clear hs
 have t3:=L.t3;have a3:=L.a3;have z3:=L.z3;have v3:=L.v3
 have t4:=L.t4;have a4:=L.a4;have z4:=L.z4;have v4:=L.v4
 have t5:=L.t5;have a5:=L.a5;have z5:=L.z5;have v5:=L.v5
 have t9:=L.t9;have a9:=L.a9;have z9:=L.z9;have v9:=L.v9
 have t21:=L.t21;have a21:=L.a21;have z21:=L.z21;have v21:=L.v21
 go_enter L.f152,Body.n152_ntmps ρ
 go_wp2
 go_loopg [5,6] s.size (λg _ _ wx=>∃i:Nat,i+g=s.size∧wx=w.iter s i)
 case atStart=>exact⟨0,by omega,rfl⟩
 case round=>
  obtain⟨i,hig,rfl⟩:=hrel
  cases gk with
  |zero=>
   obtain rfl:i=s.size:=by omega
   have WX:=run_next_end (P:=P) w s s.size
   go_wp2
   go_ret
   exact⟨rfl,_,rfl⟩
  |succ g=>
   have hi:i<s.size:=by omega
   obtain⟨x,hx⟩:∃x:UInt8,s[i]'hi=x:=⟨_,rfl⟩
   have Um:s.data.toList[i]?=some x:=by rw[←hx];exact Lib.data_getElem? s i hi
   have Ul:x.toNat<128:=HA.out i x Um
   have WX:=λty=>run_next_ascii (P:=P) w s i ty hi (by rw[hx];exact Ul)
   rw[hx]at WX
   have hne:((x.toNat:Int)==(65533:Int))=false:=se.2 (by omega)
   go_wp2
   go_roundg g
   case measure=>omega
   case rel=>exact⟨i+1,by omega,rfl⟩
theorem Any.vC (L:Lays.n152 P ρ)(s:ByteArray)(r:Int)(w:World)(a:128≤r)(c:∀(j:Nat) b,s.data.toList[j]?=some b→b.toNat<128)(g:s.size≤100):
 Calls P (ρ.f 152) #[.string s,.int .i32 r] w λe w'=>e= .returned (.int .i64 (-1))∧Below w.heap.size w w':=by
 by_cases h1:r=65533
 ·subst h1
  refine(Any.xB L s w c).mono ?_;rintro e w' ⟨rfl,pos,rfl⟩;exact⟨rfl,(Below.refl _ w).alloc (aR _) _⟩
 ·cases d:Lib.validRune r with
  |true=>
   refine(Any.yo L s r w a h1 d c g).mono ?_;rintro e w' ⟨rfl,k,rfl⟩;exact⟨rfl,rfl,rfl,rfl,aR _,λ_ _=>rfl⟩
  |false=>
   refine(Any.Aa L s r w a h1 d).mono ?_;rintro e w' ⟨rfl,k,rfl⟩;exact⟨rfl,rfl,rfl,rfl,aR _,λ_ _=>rfl⟩
theorem EW {w:World}{k:Nat}{s:ByteArray}{p:Nat}{o:Obj}(h:w.heap[k]?=some o):(w.iterAt k s p).heap[k]?=some (.stringIter s p):=by
 have hk:=(wA.1 h).1
 show(w.heap.setIfInBounds k _)[k]?=_
 simp[hk]
theorem iterAt_size {w:World}{k:Nat}{s:ByteArray}{p:Nat}:(w.iterAt k s p).heap.size=w.heap.size:=by
 show(w.heap.setIfInBounds k _).size=_
 simp
theorem D1 {w wx:World}{k:Nat}{s:ByteArray}{p:Nat}(h:Below k w wx):Below k w (wx.iterAt k s p):=
 ⟨h.os,h.tape,h.output,by rw[iterAt_size];exact h.size,λj a=>by
  show(wx.heap.setIfInBounds k _)[j]?=_
  rw[Array.getElem?_setIfInBounds_ne (by omega)]
  exact h.block j a⟩
theorem HT {s chars:List UInt8}{i n:Nat}(h:NoAny s chars i)(c:∀(j:Nat) b,chars[j]?=some b→b.toNat<128)(d:∀j,j<n→128≤J.bt s (i+j)):NoAny s chars (i+n):=by
 intro j b l a
 by_cases k:j<i
 ·exact h j b k a
 ·have h1:=d (j-i) (by omega)
  rw[show i+(j-i)=j by omega]at h1
  have e:J.bt s j=b.toNat:=by unfold J.bt;rw[aw,a];rfl
  rw[e]at h1;rw[Bool.eq_false_iff];intro f;obtain⟨q,g⟩:=Bz (List.contains_iff_mem.1 f)
  have:=c q b g
  omega
theorem MR {B:Nat}{w a b:World}(h:Below B w a)(d:B≤a.heap.size)(k:Below a.heap.size a b):Below B w b:=
 ⟨k.os.trans h.os,k.tape.trans h.tape,k.output.trans h.output,dY h.size k.size,λj c=>(k.block j (by omega)).trans (h.block j c)⟩
end Go.Proofs
namespace Go.Proofs
open Go.Shelf Go.RowKit Go.Lib
variable {P:Program}{ρ:Ren}
set_option maxRecDepth 1000000 in
theorem Any.sO (L:Lays.n153 P ρ)(s chars:ByteArray)(w:World)(h2:2≤chars.size)(NT:chars.size≤100)(h8:s.size≤8)(NS:∀(j:Nat) b,chars.data.toList[j]?=some b→b.toNat<128):
 Calls P (ρ.f 153) #[.string s,.string chars] w λe w'=>e= .returned (.int .i64 (Lib.indexAny s.data.toList chars.data.toList))∧Below w.heap.size w w':=by
 have HA:Aside (∀(j:Nat) b,chars.data.toList[j]?=some b→b.toNat<128):=NS
 clear NS
 have anB:chars.toList.isEmpty=false:=by
  rw[Lib.toList_data]
  cases h:chars.data.toList with
  |nil=>have:=Lib.size_eq chars;rw[h,List.length_nil]at this;omega
  |cons _ _=>rfl
 have hn1:((chars.size:Int)==1)=false:=se.2 (by omega)
 have h8z:decide ((8:Int)<(s.size:Int))=false:=fK (by omega)
 have t3:=L.t3;have a3:=L.a3;have z3:=L.z3;have v3:=L.v3
 have t4:=L.t4;have a4:=L.a4;have z4:=L.z4;have v4:=L.v4
 have t5:=L.t5;have a5:=L.a5;have z5:=L.z5;have v5:=L.v5
 have t9:=L.t9;have a9:=L.a9;have z9:=L.z9;have v9:=L.v9
 have t21:=L.t21;have a21:=L.a21;have z21:=L.z21;have v21:=L.v21
 have am0:∀args w,(callFunc (ρ.f 152) args).run P w= .ok (.enter (ρ.f 152) args) w:=enters_of L.f152 (by kernel_rfl) rfl
 have am2:∀args w,(callFunc (ρ.f 226) args).run P w= .ok (.enter (ρ.f 226) args) w:=enters_of L.f226 (by kernel_rfl) rfl
 go_enter L.f153,Body.n153_ntmps ρ
 go_wp2_with (go_at_fn (ρ.f 226);refine(Any.strings_shouldUseASCIISet {L with} _ _).mono ?_;rintro e w' ⟨rfl,hw⟩;rw[hw,h8z])
 go_loopg [9,10] s.size (λg _ _ wx=>∃i:Nat,i+g=s.size∧wx.heap[w.heap.size]?=some (.stringIter s i)∧Below w.heap.size w wx∧Lib.NoAny s.data.toList chars.data.toList i)
 case atStart=>exact⟨0,by omega,World.iter_heap w s 0,(Below.refl _ w).alloc (aR _) _,Lib.NoAny.zero _ _⟩
 case round=>
  obtain⟨i,hig,hk,abR,WW⟩:=hrel
  have HN:Aside (Lib.NoAny s.data.toList chars.data.toList i):=WW
  clear WW
  have HB:Aside (Below w.heap.size w wr):=abR
  clear abR
  cases gk with
  |zero=>
   obtain rfl:i=s.size:=by omega
   have WX:=λty=>run_next_end_at (P:=P) wr w.heap.size s s.size ty hk (by omega)
   go_wp2
   go_ret
   exact⟨by rw[Lib.indexAny_none (by rw[←Lib.size_eq];exact HN.out)];rfl,HB.out⟩
  |succ g=>
   have hi:i<s.size:=by omega
   have SH:i<s.data.toList.length:=by rw[←Lib.size_eq];exact hi
   have WX:=λty=>run_next_any_at (P:=P) wr w.heap.size s i ty hk hi
   obtain⟨b1,b2,b3⟩:=J.qt SH
   have abX:=decodeL_drop s i
   have SQ:=Lib.size_eq s
   rw[abX]at b1 b2 b3
   obtain⟨r,wd,hd⟩:∃r wd,Utf8.decode s i=(r,wd):=⟨_,_,rfl⟩
   rw[hd]at WX b1 b2 b3
   simp only at WX b1 b2 b3
   obtain⟨w2,hw2⟩:∃w2,wr.iterAt w.heap.size s (i+wd)=w2:=⟨_,rfl⟩
   have hk2:w2.heap[w.heap.size]?=some (.stringIter s (i+wd)):=hw2▸EW hk
   have Di:Below w.heap.size w w2:=hw2▸D1 HB.out
   rw[hw2]at WX
   clear hw2 abX hd
   have HK2:Aside (w2.heap[w.heap.size]?=some (.stringIter s (i+wd))):=hk2
   have HB2:Aside (Below w.heap.size w w2):=Di
   clear hk2 Di
   rcases b3 with⟨c1,c2⟩|⟨c1,c2⟩
   ·obtain⟨x,Um⟩:∃x,s.data.toList[i]?=some x:=⟨_,bU SH⟩
    have hbx:J.bt s.data.toList i=x.toNat:=by unfold J.bt;rw[aw,Um];rfl
    rw[hbx]at c1 c2;obtain⟨rfl,rfl⟩:=Prod.mk.inj c2
    have Hx:Aside (s.data.toList[i]?=some x):=Um
    clear Um hbx c2
    have Kk:=Lib.contains_iff_indexByte chars.data.toList x
    have Ue:((x.toNat:Int)).toNat.toUInt8=x:=by simp
    cases SI:chars.data.toList.contains x
    ·rw[SI]at Kk
     have YI:¬((0:Int)≤Lib.indexByte chars.data.toList x):=iX Kk.symm
     clear Kk
     go_wp2_with (go_at_fn (ρ.f 152);refine(Any.strings_IndexRune_ascii {L with} _ _ _ (by omega) (by omega)).mono ?_;rintro e w' ⟨rfl,rfl⟩;rw[Ue];dsimp only)
     go_wp2
     go_roundg g
     case measure=>omega
     case rel=>exact⟨i+1,by omega,HK2.out,HB2.out,HN.out.succ Hx.out SI⟩
    ·rw[SI]at Kk
     have hge:(0:Int)≤Lib.indexByte chars.data.toList x:=ei Kk.symm
     clear Kk
     go_wp2_with (go_at_fn (ρ.f 152);refine(Any.strings_IndexRune_ascii {L with} _ _ _ (by omega) (by omega)).mono ?_;rintro e w' ⟨rfl,rfl⟩;rw[Ue];dsimp only)
     go_wp2
     go_ret
     exact⟨by rw[Lib.indexAny_hit HN.out Hx.out SI];rfl,HB2.out⟩
   ·have HC:Aside (∀j,j<wd→128≤J.bt s.data.toList (i+j)):=c2
    clear c2
    go_wp2_with (go_at_fn (ρ.f 152);refine(Any.vC {L with} _ _ _ (by omega) HA.out NT).mono ?_;rintro e w3 ⟨rfl,hb3⟩;dsimp only)
    go_wp2
    go_roundg (s.size-(i+wd))
    case measure=>omega
    case rel=>exact⟨i+wd,by omega,by rw[hb3.block _ (wA.1 HK2.out).1];exact HK2.out,MR HB2.out HB2.out.size hb3,HT HN.out HA.out HC.out⟩
theorem Any.D0 (L:Lays.n153 P ρ)(a:(P.info? (ρ.t 116)).map (λi=>(i.zero,i.size))=some (some (.agg (Array.replicate 256 (.bool false))),256))(s chars:ByteArray)(w:World)(d:2≤chars.size)(g:chars.size≤100)(h:s.size<4294967281)
 (c:∀(j:Nat) b,chars.data.toList[j]?=some b→b.toNat<128):
 Calls P (ρ.f 153) #[.string s,.string chars] w λe w'=>e= .returned (.int .i64 (Lib.indexAny s.data.toList chars.data.toList))∧Below w.heap.size w w':=by
 by_cases k:s.size≤8
 ·exact Any.sO L s chars w d g k c
 ·refine(Any.strings_IndexAny_long L (zero_of_info a).1 (zero_of_info a).2 s chars w (by omega) (by omega) h (by omega) c).mono ?_
  rintro e w' ⟨l,m⟩;refine⟨l,?_⟩;rw[m];exact((Below.refl _ _).alloc (aR _) _).alloc (by simp) _
theorem Any.wu (L:Lays.n150 P ρ)(S6:(P.info? (ρ.t 116)).map (λi=>(i.zero,i.size))=some (some (.agg (Array.replicate 256 (.bool false))),256))(s chars:ByteArray)(w:World)(h2:2≤chars.size)(NT:chars.size≤100)(hs:s.size<4294967281)
 (hac:∀(j:Nat) b,chars.data.toList[j]?=some b→b.toNat<128):
 Calls P (ρ.f 150) #[.string s,.string chars] w λe w'=>e= .returned (.bool (Lib.containsAny s.data.toList chars.data.toList))∧Below w.heap.size w w':=by
 have c:=Any.D0 {L with} S6 s chars w h2 NT hs hac
 have t3:=L.t3;have a3:=L.a3;have z3:=L.z3;have v3:=L.v3
 have t4:=L.t4;have a4:=L.a4;have z4:=L.z4;have v4:=L.v4
 have t9:=L.t9;have a9:=L.a9;have z9:=L.z9;have v9:=L.v9
 have am1:∀args w,(callFunc (ρ.f 153) args).run P w= .ok (.enter (ρ.f 153) args) w:=enters_of L.f153 (by kernel_rfl) rfl
 go_enter L.f150,Body.n150_ntmps ρ
 go_wp2_with (go_at_fn (ρ.f 153);refine c.mono ?_;rintro e w' ⟨rfl,hw⟩)
 go_ret
 exact⟨rfl,hw⟩
theorem uq (s:List UInt8):Lib.containsAny s J.xG=s.any J.iy:=by
 rw[Dd];unfold Lib.containsAny;rw[decide_eq_true_iff,pZ]
 constructor
 ·have g:∀l:List UInt8,0≤Lib.indexAny l J.xG→∃b,b∈l∧J.iy b=true:=by
   intro l
   induction l with
   |nil=>intro h;exact absurd h (by decide)
   |cons c l i=>
    intro h;unfold Lib.indexAny at h
    have j:=Lib.indexAny_ge J.xG l
    split at h
    ·rename_i d
     exact⟨c,aP ..,by unfold J.iy;exact d⟩
    ·split at h
     ·omega
     ·rename_i he
      have k:Lib.indexAny l J.xG≠ -1:=λe=>he (by rw[e];rfl)
      obtain⟨b,a,f⟩:=i (by omega);exact⟨b,cN _ a,f⟩
  exact g s
 ·rintro ⟨b,a,f⟩
  rcases Int.lt_or_le (Lib.indexAny s J.xG) 0 with h|h
  ·exfalso
   have key:∀l:List UInt8,Lib.indexAny l J.xG<0→∀b∈l,J.iy b=false:=by
    intro l
    induction l with
    |nil=>intro _ b a;cases a
    |cons c l i=>
     intro h b a;unfold Lib.indexAny at h
     have j:=Lib.indexAny_ge J.xG l
     split at h
     ·omega
     ·rename_i d
      rcases cH.1 a with rfl|a
      ·unfold J.iy;simpa using d
      ·refine i ?_ b a
       split at h
       ·rename_i he;rw[beq_iff_eq]at he;omega
       ·rename_i he;omega
   rw[key s h b a]at f;cases f
  ·exact h
end Go.Proofs
namespace Go.Proofs
open Go.Shelf
def Tryz.EZ:Go.Shelf.Ren:=⟨λ|195=>102|n=>n,λ|0=>0|3=>3|4=>4|9=>9|n=>n,λ|n=>n⟩
theorem Tryz.Sj:Go.Proofs.Lays.n195 Tryz.prog Tryz.EZ:={
 mixed:=by kernel_rfl
 f195:=Tryz.func102.trans (congrArg some (by kernel_rfl))
 t0:=YW
 a0:=Tryz.isAgg0
 z0:=Tryz.sizeOf0
 v0:=Tryz.zeroValue0
 t3:=gG
 a3:=Tryz.isAgg3
 z3:=Tryz.sizeOf3
 v3:=Tryz.zeroValue3
 t4:=IA
 a4:=Tryz.isAgg4
 z4:=Tryz.sizeOf4
 v4:=Tryz.zeroValue4
 t9:=wW
 a9:=Tryz.isAgg9
 z9:=Tryz.sizeOf9
 v9:=Tryz.zeroValue9}
def Tryz.qK:Go.Shelf.Ren:=⟨λ|196=>103|259=>134|n=>n,λ|0=>0|3=>3|4=>4|5=>5|9=>9|12=>12|46=>218|53=>157|119=>217|138=>220|139=>221|n=>n,λ|3=>0|4=>1|n=>n⟩
theorem Tryz.Sk:Go.Proofs.Lays.n196 Tryz.prog Tryz.qK:={
 mixed:=by kernel_rfl
 f196:=Tryz.func103.trans (congrArg some (by kernel_rfl))
 f259:=Tryz.func134.trans (congrArg some (by kernel_rfl))
 t0:=YW
 a0:=Tryz.isAgg0
 z0:=Tryz.sizeOf0
 v0:=Tryz.zeroValue0
 t3:=gG
 a3:=Tryz.isAgg3
 z3:=Tryz.sizeOf3
 v3:=Tryz.zeroValue3
 t4:=IA
 a4:=Tryz.isAgg4
 z4:=Tryz.sizeOf4
 v4:=Tryz.zeroValue4
 t5:=GG
 a5:=Tryz.isAgg5
 z5:=Tryz.sizeOf5
 v5:=Tryz.zeroValue5
 t9:=wW
 a9:=Tryz.isAgg9
 z9:=Tryz.sizeOf9
 v9:=Tryz.zeroValue9
 t12:=Tryz.underlying12
 a12:=Tryz.isAgg12
 z12:=Tryz.sizeOf12
 v12:=Tryz.zeroValue12
 t46:=Bn
 a46:=Tryz.isAgg218
 z46:=Tryz.sizeOf218
 v46:=Tryz.zeroValue218
 t53:=lY
 a53:=Tryz.isAgg157
 z53:=Tryz.sizeOf157
 v53:=Tryz.zeroValue157
 t119:=Tryz.underlying217
 a119:=Tryz.isAgg217
 z119:=Tryz.sizeOf217
 t138:=Tryz.underlying220
 a138:=Tryz.isAgg220
 z138:=Tryz.sizeOf220
 v138:=Tryz.zeroValue220
 t139:=Tryz.underlying221
 a139:=Tryz.isAgg221
 z139:=Tryz.sizeOf221
 v139:=Tryz.zeroValue221
 g3:=by kernel_rfl
 g4:=by kernel_rfl}
def Tryz.wL:Go.Shelf.Ren:=⟨λ|119=>176|137=>175|150=>104|152=>152|153=>135|217=>184|224=>177|225=>178|226=>153|227=>154|228=>155|266=>186|n=>n,λ|0=>0|3=>3|4=>4|5=>5|9=>9|21=>21|46=>218|116=>275|117=>276|124=>297|n=>n,λ|n=>n⟩
theorem Tryz.Si:Go.Proofs.Lays.n150 Tryz.prog Tryz.wL:={
 mixed:=by kernel_rfl
 f119:=Tryz.func176.trans (congrArg some (by kernel_rfl))
 f137:=Tryz.func175.trans (congrArg some (by kernel_rfl))
 f150:=Tryz.func104.trans (congrArg some (by kernel_rfl))
 f152:=Tryz.func152.trans (congrArg some (by kernel_rfl))
 f153:=Tryz.func135.trans (congrArg some (by kernel_rfl))
 f217:=Tryz.func184.trans (congrArg some (by kernel_rfl))
 f224:=Tryz.func177.trans (congrArg some (by kernel_rfl))
 f225:=Tryz.func178.trans (congrArg some (by kernel_rfl))
 f226:=Tryz.func153.trans (congrArg some (by kernel_rfl))
 f227:=Tryz.func154.trans (congrArg some (by kernel_rfl))
 f228:=Tryz.func155.trans (congrArg some (by kernel_rfl))
 f266:=Tryz.func186.trans (congrArg some (by kernel_rfl))
 t0:=YW
 a0:=Tryz.isAgg0
 z0:=Tryz.sizeOf0
 v0:=Tryz.zeroValue0
 t3:=gG
 a3:=Tryz.isAgg3
 z3:=Tryz.sizeOf3
 v3:=Tryz.zeroValue3
 t4:=IA
 a4:=Tryz.isAgg4
 z4:=Tryz.sizeOf4
 v4:=Tryz.zeroValue4
 t5:=GG
 a5:=Tryz.isAgg5
 z5:=Tryz.sizeOf5
 v5:=Tryz.zeroValue5
 t9:=wW
 a9:=Tryz.isAgg9
 z9:=Tryz.sizeOf9
 v9:=Tryz.zeroValue9
 t21:=Tryz.underlying21
 a21:=Tryz.isAgg21
 z21:=Tryz.sizeOf21
 v21:=Tryz.zeroValue21
 t46:=Bn
 a46:=Tryz.isAgg218
 z46:=Tryz.sizeOf218
 v46:=Tryz.zeroValue218
 t116:=Tryz.underlying275
 a116:=Tryz.isAgg275
 z116:=Tryz.sizeOf275
 t117:=Tryz.underlying276
 a117:=Tryz.isAgg276
 z117:=Tryz.sizeOf276
 v117:=Tryz.zeroValue276
 t124:=Tryz.underlying297
 a124:=Tryz.isAgg297
 z124:=Tryz.sizeOf297
 v124:=Tryz.zeroValue297}
end Go.Proofs
namespace Go.Proofs.YtblifkgpebebmaaGreatDoor
open Go Go.J Tryz
theorem ZG:aJ prog 102:=⟨_,func102,rfl,by kernel_rfl⟩
theorem ZH:aJ prog 103:=⟨_,func103,rfl,by kernel_rfl⟩
theorem ZI:aJ prog 104:=⟨_,func104,rfl,by kernel_rfl⟩
def VU (w:World):Prop:=Lib.Utf8Tabs (Tryz.qK.g 3) (Tryz.qK.g 4) w
abbrev u8:du:=du.of VU
theorem Xl:(prog.info? (Tryz.wL.t 116)).map (λi=>(i.zero,i.size))=some (some (.agg (Array.replicate 256 (.bool false))),256):=by kernel_rfl
theorem JU (s:bB):(⟨s.toArray⟩:ByteArray).size=s.length:=by simp[ByteArray.size]
theorem TH (s:bB)(a:s.length<9223372036854775807):kX prog 102 #[sv s] [u8] (iv (Lib.runeCountL s)):=
 kX.qQ λw _=>by
  refine(Any.utf8_RuneCountInString Tryz.Sj ⟨s.toArray⟩ w (by rw[JU];exact a)).mono ?_;rintro e w' ⟨rfl,pos,rfl⟩;exact⟨rfl,(RowKit.Below.refl _ w).alloc (aR _) _⟩
theorem ID (s:bB)(a:s.length<9223372036854775807):kX prog 103 #[sv s] [u8] (.bool (Lib.validD s)):=
 kX.qQ λw hw=>Any.utf8_ValidString Tryz.Sk ⟨s.toArray⟩ w (by rw[JU];omega) hw
theorem MH (s:bB)(a:s.length<4294967281):kX prog 104 #[sv s,sv xG] [u8] (.bool (s.any iy)):=
 kX.qQ λw _=>by
  have:=Any.wu Tryz.Si Xl ⟨s.toArray⟩ ⟨xG.toArray⟩ w (by decide) (by decide) (by rw[JU];exact a) (λj b h=>by
   have:∀b∈xG,b.toNat<128:=by decide
   exact this b (ae h))
  rw[←uq];exact this
theorem XU (s:bB):s.length≤4*Lib.runeCountL s:=by
 have key:∀(f p:Nat),s.length-p≤f→s.length-p≤4*Lib.runeCountFrom ⟨s.toArray⟩ f p:=by
  intro f
  induction f with
  |zero=>intro p h;omega
  |succ f b=>
   intro p h
   by_cases hp:p<s.length
   ·have c:p<(⟨s.toArray⟩:ByteArray).size:=by rw[JU];exact hp
    obtain⟨d1,d2,_⟩:=qt hp
    have a:=Lib.decodeL_drop ⟨s.toArray⟩ p
    simp only at a
    have hw:(Lib.decodeL (s.drop p)).2≤4:=by
     rw[uu]
     rcases ur (n:=s.length-p) (pP s p) (pP s (p+1)) (pP s (p+2)) (pP s (p+3))with⟨_,e⟩|⟨_,_,_,_,e⟩|⟨_,r,_,e⟩|⟨_,r,_,e⟩|⟨_,r,_,e⟩<;>rw[e]<;>simp
    have:=b (p+(Lib.decodeL (s.drop p)).2) (by omega)
    rw[Lib.runeCountFrom,aC c,←a];omega
   ·omega
 have:=key s.length 0 (by omega)
 have e:Lib.runeCountFrom ⟨s.toArray⟩ s.length 0=Lib.runeCountL s:=by unfold Lib.runeCountL Lib.runeCount;congr 1
 rw[e]at this;omega
theorem G1 (s:bB):(((decide ((1:Int)≤(Lib.runeCountL s:Int))&&decide ((Lib.runeCountL s:Int)≤30))&&Lib.validD s)&& !(s.any iy))=isWord s:=by
 rw[Ky]
 have h1:decide ((1:Int)≤(Lib.runeCountL s:Int))=decide (1≤Lib.runeCountL s):=decide_eq_decide.2 (by omega)
 have a:decide ((Lib.runeCountL s:Int)≤30)=decide (Lib.runeCountL s≤30):=decide_eq_decide.2 (by omega)
 rw[h1,a]
theorem uc (s:bB)(d:s.length<9223372036854775807):kX prog 67 #[sv s] [u8] (.bool (isWord s)):=by
 refine kX.body (args:=[sv s]) (ds:=[u8]) 21 func67 rfl ntmps67 rfl (λc b=> ?_)
 change St _ _ (Mm c [aB u8]) _
 refine g8 ?_;refine St.ee (Ev.nF b (TH s d) ZG (.ar rfl)) ?_;refine g8 ?_;refine St.gt _ rfl rfl (λa=>Ev.move (.mk rfl)) rfl ?_;refine St.gt _ rfl rfl (λa=>Ev.leq (ai.gv rfl a) (.mk rfl)) rfl ?_;refine g2 ?_;refine St.gt _ rfl rfl (λa=>Ev.move (.mk rfl)) rfl ?_;refine St.gt _ rfl rfl (λa=>Ev.nF b (ID s d) ZH (.cons (ai.gv rfl a) .nil)) rfl ?_;refine g2 ?_;refine St.gt _ rfl rfl (λa=>Ev.move (.mk rfl)) rfl ?_;refine St.gt _ rfl rfl (λa=>Ev.nF b (MH s (by have e:=XU s;first|omega|(simp only[Bool.and_eq_true,decide_eq_true_eq]at a;omega)|(simp at a;omega)|(trace_state;omega))) ZI (.cons (ai.gv rfl a) (.ar rfl))) rfl ?_;refine St.gt _ rfl rfl (λa=>Ev.not (ai.gv rfl a)) rfl ?_;refine g5 ?_;refine St.rV [_] [] ?_;exact be (by first|exact G1 s|(simp[G1]))
theorem Sn (T:List ej)(Fs:List od)(x:eX):xD T Fs (og x)=if isWord x.word=false then 10 else if x.weight<0∨1000000<x.weight then 3 else if(dP T Fs (ay x.graph)).1≠0 then(dP T Fs (ay x.graph)).1 else(qZ (dH x.er)).1:=rfl
theorem PK (T:List ej)(Fs:List od)(x:cZ):pV T Fs (lI x)=if x.kids<1∨3<x.kids∨x.weight<0∨1000000<x.weight then 3 else if(dP T Fs (ay x.graph)).1≠0 then(dP T Fs (ay x.graph)).1 else if nN (ay x.graph) x.kids=false then 5 else(qZ (dH x.er)).1:=rfl
theorem Da {T:List ej}{Fs:List od}{G:dz}(h:(dP T Fs G).1=0):(fX T.length Fs.length G).1=0:=by
 rcases Decidable.em ((fX T.length Fs.length G).1=0)with h1|h1
 ·exact h1
 ·rw[Bt h1]at h;exact h
theorem Au {T:List ej}{Fs:List od}(c:Fs.length≤40){g:dD}(h:(dP T Fs (ay g)).1=0):0<g.nodes.length∧∀n∈g.nodes,Asc n.aq∧n.aq.length≤1000000:=by
 have h1:=Da h
 obtain⟨b,_,d⟩:=z6 h1;refine⟨by rw[cz]at b;exact b,λn a=>⟨BM h1 n a,?_⟩⟩
 have e:=(d (lx n) (eN a)).2
 have:=R4 (BM h1 n a) (nf:=Fs.length) (λx hx=>by
  have:=e (fR x) (eN hx)
  exact⟨this.1,this.2.1⟩)
 omega
theorem GI (tv xv d e:aV)(ts:List rZ)(a:List jI)(x:eX)(n:im (ts.map dG))(o:∀f∈a,0≤f.BR∧f.BR<ts.length∧0≤f.value∧f.value<ts.length)(hw:dy.wf x):kX prog 48 #[.agg #[tv.1,xv.1],kC d e,ad9 x] [sl ml tv.1 ts,sl gY xv.1 a,sl bF d.1 (de (ts.map dG)),sl bF e.1 (db (ts.map dG)),eO x,u8] (iv (xD (ts.map dG) (a.map gy) (og x))):=by
 refine kX.body (args:=[.agg #[tv.1,xv.1],kC d e,ad9 x]) (ds:=[sl ml tv.1 ts,sl gY xv.1 a,sl bF d.1 (de (ts.map dG)),sl bF e.1 (db (ts.map dG)),eO x,u8]) 34 func48 rfl ntmps48 rfl (λc p=> ?_);refine St.cast (H':=[aB (sl ml tv.1 ts),aB (sl gY xv.1 a),aB (sl bF d.1 (de (ts.map dG))),aB (sl bF e.1 (db (ts.map dG))),aB (eO x),aB (u8)]) rfl ?_;refine go ?_
 refine St.jP (eO x) (λ_:Unit=>XB x) (λρ h=>⟨(),h⟩) λ_=> ?_
 refine St.cast (H':=[aB (aG x.graph),aB (cm x.er),aB (sl ml tv.1 ts),aB (sl gY xv.1 a),aB (sl bF d.1 (de (ts.map dG))),aB (sl bF e.1 (db (ts.map dG))),aB (eO x),aB (u8)]) rfl ?_
 have b:=Sn (ts.map dG) (a.map gy) x
 obtain⟨m,r,i⟩:=hw
 replace m:x.word.length≤140737488351232:=m
 refine go ?_;refine St.dK (.mk rfl) rfl (λs=> ?_);refine St.dK (.mk rfl) rfl (λt=> ?_);refine St.dK (.mk rfl) rfl (λu=> ?_);refine g8 ?_;refine St.ee (Ev.nF p (uc x.word (by omega)) Vv (.ar rfl)) ?_;refine g3 ?_;refine St.cond _ rfl (λj=> ?_) (λj=> ?_)
 ·skip
  rw[aC (by simpa using j)]at b;refine g7 ?_;refine St.rV [_] [] ?_;exact ie b.symm
 ·skip
  rw[aA (by simpa using j)]at b;refine g9 ?_;refine St.gf _ rfl rfl (λg=>Ev.dV (.mk rfl) Cl) rfl ?_;refine St.gf _ rfl rfl (λg=>Ev.kP (ai.gv rfl g) gG trivial (by rfl)) rfl ?_;refine St.gf _ rfl rfl (λg=>Ev.gtr (ai.gv rfl g) (.mk rfl)) rfl ?_;refine g3 ?_;refine St.cq (λq=> ?_) (λq=> ?_)
  ·rw[aC (by omega)]at b
   refine g7 ?_;refine St.rV [_] [] ?_;exact ie b.symm
  ·rw[aA (by omega)]at b
   refine g8 ?_;refine St.ee (Ev.iV 1 (.mk rfl) mf trivial jT rfl rfl) ?_;refine St.slot 23 (bA x.graph) rfl rfl ?_;refine St.ee (Ev.call (pz tv xv d e ts a x.graph n o) Vt (.eh rfl rfl rfl)) ?_;refine St.al (λv=> ?_);refine g10 ?_;refine St.cond _ rfl (λk=> ?_) (λk=> ?_)
   ·skip
    have l:(dP (ts.map dG) (a.map gy) (ay x.graph)).1≠0:=by simpa using k
    rw[aC l]at b;refine g9 ?_;refine St.rV [_] [] ?_;exact ie b.symm
   ·skip
    have l:¬(dP (ts.map dG) (a.map gy) (ay x.graph)).1≠0:=by simpa using k
    rw[aA l]at b;refine g5 ?_;refine St.ee (Ev.iV 6 (.mk rfl) lX trivial fc rfl rfl) ?_;refine St.slot 31 (cM x.er) rfl rfl ?_;refine St.ee (Ev.call (uL x.er i) Zt (.ar rfl)) ?_;refine St.ee (Ev.Cj (.mk rfl) Li rfl (by first|rw[gG]|(dsimp only;rw[gG])|kernel_rfl) rfl) ?_;refine g4 ?_;refine St.rV [_] [] ?_;exact ie b.symm
theorem KJ (tv xv e g:aV)(ts:List rZ)(b:List jI)(x:cZ)(n:im (ts.map dG))(o:∀f∈b,0≤f.BR∧f.BR<ts.length∧0≤f.value∧f.value<ts.length)(p:b.length≤40)(hw:cS.wf x):eD prog 47 #[.agg #[tv.1,xv.1],kC e g,rm x] [sl ml tv.1 ts,sl gY xv.1 b,sl bF e.1 (de (ts.map dG)),sl bF g.1 (db (ts.map dG)),bx x] (iv (pV (ts.map dG) (b.map gy) (lI x))):=by
 unfold eD;refine dx.body (args:=[.agg #[tv.1,xv.1],kC e g,rm x]) 46 func47 rfl ntmps47 rfl (λc=> ?_);refine St.cast (H':=[aB (sl ml tv.1 ts),aB (sl gY xv.1 b),aB (sl bF e.1 (de (ts.map dG))),aB (sl bF g.1 (db (ts.map dG))),aB (bx x)]) rfl ?_;refine go ?_
 refine St.jP (bx x) (λ_:Unit=>PM x) (λρ h=>⟨(),h⟩) λ_=> ?_
 refine St.cast (H':=[aB (aG x.graph),aB (cm x.er),aB (sl ml tv.1 ts),aB (sl gY xv.1 b),aB (sl bF e.1 (de (ts.map dG))),aB (sl bF g.1 (db (ts.map dG))),aB (bx x)]) rfl ?_
 have d:=PK (ts.map dG) (b.map gy) x
 obtain⟨u,q,r,j⟩:=hw;refine go ?_;refine St.dK (.mk rfl) rfl (λv=> ?_);refine St.dK (.mk rfl) rfl (λw=> ?_);refine St.dK (.mk rfl) rfl (λy=> ?_);refine g10 ?_;refine St.gf _ rfl rfl (λa=>Ev.dV (.mk rfl) xS) rfl ?_;refine St.gf _ rfl rfl (λa=>Ev.kP (ai.gv rfl a) gG trivial (by rfl)) rfl ?_;refine St.gf _ rfl rfl (λa=>Ev.gtr (ai.gv rfl a) (.mk rfl)) rfl ?_;refine g2 ?_;refine St.gf _ rfl rfl (λa=>Ev.dV (.mk rfl) xT) rfl ?_;refine St.gf _ rfl rfl (λa=>Ev.kP (ai.gv rfl a) gG trivial (by rfl)) rfl ?_;refine St.gf _ rfl rfl (λa=>Ev.lss (ai.gv rfl a) (.mk rfl)) rfl ?_;refine g2 ?_;refine St.gf _ rfl rfl (λa=>Ev.dV (.mk rfl) xT) rfl ?_;refine St.gf _ rfl rfl (λa=>Ev.kP (ai.gv rfl a) gG trivial (by rfl)) rfl ?_;refine St.gf _ rfl rfl (λa=>Ev.gtr (ai.gv rfl a) (.mk rfl)) rfl ?_;refine g3 ?_;refine St.cq (λs=> ?_) (λs=> ?_)
 ·rw[aC (by omega)]at d
  refine g7 ?_;refine St.rV [_] [] ?_;exact ie d.symm
 ·rw[aA (by omega)]at d
  refine g8 ?_;refine St.ee (Ev.iV 1 (.mk rfl) mf trivial jT rfl rfl) ?_;refine St.slot 29 (bA x.graph) rfl rfl ?_;refine St.ee (Ev.call (pz tv xv e g ts b x.graph n o) Vt (.eh rfl rfl rfl)) ?_;refine St.al (λz=> ?_);refine g10 ?_;refine St.cond _ rfl (λk=> ?_) (λk=> ?_)
  ·skip
   have i:(dP (ts.map dG) (b.map gy) (ay x.graph)).1≠0:=by simpa using k
   rw[aC i]at d;refine g9 ?_;refine St.rV [_] [] ?_;exact ie d.symm
  ·skip
   have i:¬(dP (ts.map dG) (b.map gy) (ay x.graph)).1≠0:=by simpa using k
   rw[aA i]at d;obtain⟨t,l⟩:=Au (by rw[aN];exact p) (iG.1 i);refine g6 ?_;refine St.ee (Ev.iV 1 (.mk rfl) mf trivial jT rfl rfl) ?_;refine St.slot 37 (bA x.graph) rfl rfl ?_;refine g2 ?_;refine St.ee (Ev.call (Dp x.graph x.kids t l) ahL (.aY rfl rfl)) ?_;refine g3 ?_;refine St.cond _ rfl (λm=> ?_) (λm=> ?_)
   ·skip
    rw[aC (by simpa using m)]at d;refine g7 ?_;refine St.rV [_] [] ?_;exact ie d.symm
   ·skip
    rw[aA (by simpa using m)]at d;refine g5 ?_;refine St.ee (Ev.iV 6 (.mk rfl) lX trivial fc rfl rfl) ?_;refine St.slot 43 (cM x.er) rfl rfl ?_;refine St.ee (Ev.call (uL x.er j) Zt (.ar rfl)) ?_;refine St.ee (Ev.Cj (.mk rfl) Li rfl (by first|rw[gG]|(dsimp only;rw[gG])|kernel_rfl) rfl) ?_;refine g4 ?_;refine St.rV [_] [] ?_;exact ie d.symm
theorem FQ {T:List ej}{Fs:List od}{l:List sg}{k:Nat}{t:sg}(ht:l[k]?=some t)(known:List bB):jb T Fs known k (l.drop k)=if isName t.name=false then(10,(k:Int))else if t.name∈known then(7,(k:Int))else if pV T Fs t≠0 then(pV T Fs t,(k:Int))else jb T Fs (known++ [t.name]) (k+1) (l.drop (k+1)):=by rw[bP ht,jb]
theorem Hk {T:List ej}{Fs:List od}{l:List sg}{k:Nat}(h:l.length≤k)(known:List bB):jb T Fs known k (l.drop k)=(0,0):=by rw[j6 h,jb]
theorem Eh {T:List ej}{Fs:List od}{l:List Dn}{k:Nat}{t:Dn}(ht:l[k]?=some t):ja T Fs k (l.drop k)=if xD T Fs t≠0 then(xD T Fs t,(k:Int))else ja T Fs (k+1) (l.drop (k+1)):=by rw[bP ht,ja]
theorem HL {T:List ej}{Fs:List od}{l:List Dn}{k:Nat}(h:l.length≤k):ja T Fs k (l.drop k)=(0,0):=by rw[j6 h,ja]
theorem S2 (g:gb):jN (ca g)=if(jO (g.types.map dG) (g.cB.map gy)).1≠0 then jO (g.types.map dG) (g.cB.map gy)else if(g.cB.map gy).length≤3 then(9,-1)else if 40<(g.rules.map lI).length∨100<(g.aL.map og).length then(2,-1)
 else if(jb (g.types.map dG) (g.cB.map gy) [] 0 (g.rules.map lI)).1≠0 then jb (g.types.map dG) (g.cB.map gy) [] 0 (g.rules.map lI)else if(ja (g.types.map dG) (g.cB.map gy) 0 (g.aL.map og)).1≠0 then ja (g.types.map dG) (g.cB.map gy) 0 (g.aL.map og)
 else if(dP (g.types.map dG) (g.cB.map gy) (ay g.start)).1≠0 then((dP (g.types.map dG) (g.cB.map gy) (ay g.start)).1,-1)else(0,0):=rfl
theorem xW {r x E:Int×Int}{c i:Int}(h:x=if r.1≠0 then r else E)(e:r=(c,i))(a:c≠0):x=(c,i):=by rw[h,aC (by rw[e];exact a),e]
theorem J4 {r x E:Int×Int}(h:x=if r.1≠0 then r else E)(e:r=(0,0)):x=E:=by rw[h,aA (by rw[e];simp)]
theorem qJ (g:gb):kX prog 24 #[fV g] [fB g,tz,u8] (fv (jN (ca g))):=by
 refine kX.body (args:=[fV g]) (ds:=[fB g,tz,u8]) 112 func24 rfl ntmps24 rfl (λc P=> ?_);refine St.cast (H':=[aB (fB g),aB (tz),aB (u8)]) rfl ?_;refine go ?_
 refine St.jP (fB g) (λ_:Unit=>Gv g) (λρ h=>⟨(),h⟩) λ_=> ?_
 refine St.cast (H':=[aB (sl ml g.tv.1 g.types),aB (aF ry g.types),aB (sl gY g.fv.1 g.cB),aB (sl cS g.rv.1 g.rules),aB (aF bx g.rules),aB (sl dy g.xv.1 g.aL),aB (aF eO g.aL),aB (aG g.start),aB (fB g),aB (tz),aB (u8)]) rfl ?_
 have a:=S2 g
 have Q:(g.types.map dG).length=g.types.length:=aN ..
 have hFl:(g.cB.map gy).length=g.cB.length:=aN ..
 have R:(g.rules.map lI).length=g.rules.length:=aN ..
 have S:(g.aL.map og).length=g.aL.length:=aN ..
 refine St.wf g.rv.1 (λs Wc=> ?_);refine St.wf g.xv.1 (λU Um=> ?_);refine go ?_;refine St.dK (.mk rfl) rfl (λJ=> ?_);refine St.al (λK=> ?_);refine g5 ?_;refine St.ee (Ev.iV 2 (.mk rfl) underlying25 trivial Ph rfl rfl) ?_;refine St.slot 17 (.agg #[g.tv.1,g.fv.1]) rfl rfl ?_;refine St.al (λL=> ?_);refine g7 ?_;refine St.ee (Ev.call (Cw g.tv g.fv g.types g.cB) ahA (.ar rfl)) ?_;refine St.al (λb4=> ?_);refine g10 ?_;refine St.cond _ rfl (λz=> ?_) (λz=> ?_)
 ·skip
  have u:(jO (g.types.map dG) (g.cB.map gy)).1≠0:=by simpa using z
  rw[aC u]at a;refine g8 ?_;refine St.rV [_] [] ?_;exact congrArg fv a.symm
 ·skip
  have u:¬(jO (g.types.map dG) (g.cB.map gy)).1≠0:=by simpa using z
  rw[aA u]at a;obtain⟨_,v,V,A⟩:=SG (iG.1 u)
  have B:∀f∈g.cB,0≤f.BR∧f.BR<g.types.length∧0≤f.value∧f.value<g.types.length:=λf W=>by have:=A (gy f) (eN W);rw[Q]at this;exact this
  refine g11 ?_;refine St.cq (λX=> ?_) (λX=> ?_)
  ·rw[aC (by omega)]at a
   refine g2 ?_;refine St.ee (Ev.call (ef 9 (-1)) Gg (.aY rfl rfl)) ?_;refine g5 ?_;refine St.rV [_] [] ?_;exact congrArg fv a.symm
  ·rw[aA (by omega)]at a
   refine g10 ?_;refine St.gf _ rfl rfl (λp=>Ev.dV (.mk rfl) Gq) rfl ?_;refine St.gf _ rfl rfl (λp=>Ev.kP (ai.gv rfl p) I9 trivial (by rfl)) rfl ?_;refine St.gf _ rfl rfl (λp=>Ev.fj (ai.gv rfl p) I9) rfl ?_;refine St.gf _ rfl rfl (λp=>Ev.gtr (ai.gv rfl p) (.mk rfl)) rfl ?_;refine g3 ?_;refine St.cq (λY=> ?_) (λY=> ?_)
   ·rw[aC (by omega)]at a
    refine g2 ?_;refine St.ee (Ev.call (ef 2 (-1)) Gg (.aY rfl rfl)) ?_;refine g5 ?_;refine St.rV [_] [] ?_;exact congrArg fv a.symm
   ·rw[aA (by omega)]at a
    refine g6 ?_;refine St.ag (py g.tv.1 g.types v) Vs (.ar rfl) rfl ?_;rintro v42 _ ⟨e,i,rfl,rfl⟩;refine St.dQ ?_;refine St.al (λM=> ?_);refine g5 ?_;refine St.makeMap mkStr rfl (λC=> ?_);refine g13 ?_;refine St.te (ι:=Nat) (κ:=List (bB×Value)) (λk m T=>(47,iv k)::T) (λk m=>[aW C (eU mkStr m),aW J (.cells [g.tv.1,g.fv.1,g.rv.1,g.xv.1,g.start.nv.1].toArray 32 (0,0)),aW K (.cells [iv 0,iv 0].toArray 35 (0,0)),aW L (.cells [g.tv.1,g.fv.1].toArray 25 (0,0)),aW M (.cells [e.1,i.1].toArray 100 (0,0)),aB (sl ml g.tv.1 g.types),aB (aF ry g.types),aB (sl gY g.fv.1 g.cB),aB (sl cS g.rv.1 g.rules),aB (aF bx g.rules),aB (sl dy g.xv.1 g.aL),aB (aF eO g.aL),aB (aG g.start),aB (sl bF e.1 (de (g.types.map dG))),aB (sl bF i.1 (db (g.types.map dG))),aB (u8)]) (λk m=>k≤g.rules.length∧jb (g.types.map dG) (g.cB.map gy) [] 0 (g.rules.map lI)=jb (g.types.map dG) (g.cB.map gy) ((g.rules.take k).map cZ.name) k ((g.rules.map lI).drop k)∧KD m ((g.rules.take k).map cZ.name)) (λk m=>g.rules.length-k) 0 [] (aD.cons 1 rfl (aD.cons 2 rfl (aD.cons 3 rfl (aD.cons 5 rfl (aD.cons 6 rfl (aD.cons 45 rfl (aD.cons 46 rfl aD.nil))))))) ⟨aO _,rfl,KD.nil⟩ ?_;rintro k m ⟨hk,r,N⟩;refine g6 ?_;refine St.cq (λD=> ?_) (λD=> ?_)
    ·obtain⟨t,ht⟩:=aE (show k<g.rules.length by omega)
     have E:=ae ht
     have b:=FQ (T:=(g.types.map dG)) (Fs:=(g.cB.map gy)) (l:=g.rules.map lI) (k:=k) (t:=lI t) (by rw[bQ,ht];rfl) ((g.rules.take k).map cZ.name)
     have Z:t.name.length≤9223372036854775807:=by have:=(s t E).1;simp only[mr]at this;omega
     refine St.cI bx g.rules (x:=t) E ?_;refine g8 ?_;refine St.ee (Ev.jr (.mk rfl) ht uO trivial kV j7.eq) ?_;refine St.al (λb8=> ?_);refine g9 ?_;refine St.ee (Ev.call (qo t.name Z) RI (.ar rfl)) ?_;refine g3 ?_;refine St.cq (λF=> ?_) (λF=> ?_)
     ·rw[aC (show isName (lI t).name=false from(by simpa using F:isName t.name=false))]at b
      refine g3 ?_;refine St.ee (Ev.call (ef 10 k) Gg (.aY rfl rfl)) ?_;refine g10 ?_;refine St.rV [_] [] ?_;exact congrArg fv (xW a (r.trans b) (by decide)).symm
     ·rw[aA (show ¬isName (lI t).name=false from(by simpa using F:¬isName t.name=false))]at b
      refine g8 ?_;refine St.ee (Ev.th mkStr (k:=t.name) (.mk rfl) (.mk rfl) pY (by exact wW) eQ) ?_;refine g3 ?_;refine St.slot 64 (.bool (decide (t.name∈(g.rules.take k).map cZ.name))) rfl (congrArg Value.bool (N t.name)) ?_;refine g9 ?_;refine St.cq (λj=> ?_) (λj=> ?_)
      ·rw[aC (show(lI t).name∈(g.rules.take k).map cZ.name from j)]at b
       refine g3 ?_;refine St.ee (Ev.call (ef 7 k) Gg (.aY rfl rfl)) ?_;refine g10 ?_;refine St.rV [_] [] ?_;exact congrArg fv (xW a (r.trans b) (by decide)).symm
      ·rw[aA (show ¬(lI t).name∈(g.rules.take k).map cZ.name from j)]at b
       refine g8 ?_;refine St.mapUpdate mkStr (k:=t.name) (.mk rfl) (.mk rfl) (.mk rfl) pY (by exact wW) ?_;refine g7 ?_;refine St.ee (Ev.call (KJ g.tv g.fv e i g.types g.cB t v B (by omega) (s t E)) ahB (.eh rfl rfl rfl)) ?_;refine g9 ?_;refine St.cond _ rfl (λG=> ?_) (λG=> ?_)
       ·skip
        have d:pV (g.types.map dG) (g.cB.map gy) (lI t)≠0:=by simpa using G
        rw[aC d]at b;refine g4 ?_;refine St.ee (Ev.call (ef (pV (g.types.map dG) (g.cB.map gy) (lI t)) k) Gg (.aY rfl rfl)) ?_;refine g9 ?_;refine St.rV [_] [] ?_;exact congrArg fv (xW a (r.trans b) d).symm
       ·skip
        have d:¬pV (g.types.map dG) (g.cB.map gy) (lI t)≠0:=by simpa using G
        rw[aA d]at b;refine g8 ?_;refine St.ue (k+1) (l6 m t.name (iv k)) ⟨by omega,by rw[r,b,gV cZ.name ht];rfl,by rw[gV cZ.name ht];exact N.snoc _ _⟩
    ·rw[Hk (by omega)]at r
     replace a:=J4 a r
     refine g15 ?_;refine St.lH (ι:=Nat) (λq T=>(85,iv q)::T) (λq=>[aW J (.cells [g.tv.1,g.fv.1,g.rv.1,g.xv.1,g.start.nv.1].toArray 32 (0,0)),aW K (.cells [iv 0,iv 0].toArray 35 (0,0)),aW L (.cells [g.tv.1,g.fv.1].toArray 25 (0,0)),aW M (.cells [e.1,i.1].toArray 100 (0,0)),aB (sl ml g.tv.1 g.types),aB (aF ry g.types),aB (sl gY g.fv.1 g.cB),aB (sl cS g.rv.1 g.rules),aB (aF bx g.rules),aB (sl dy g.xv.1 g.aL),aB (aF eO g.aL),aB (aG g.start),aB (sl bF e.1 (de (g.types.map dG))),aB (sl bF i.1 (db (g.types.map dG))),aB (u8)]) (λq=>q≤g.aL.length∧ja (g.types.map dG) (g.cB.map gy) 0 (g.aL.map og)=ja (g.types.map dG) (g.cB.map gy) q ((g.aL.map og).drop q)) (λq=>g.aL.length-q) 0 (aD.cons 1 rfl (aD.cons 2 rfl (aD.cons 3 rfl (aD.cons 5 rfl (aD.cons 83 rfl (aD.cons 84 rfl aD.nil)))))) ⟨aO _,rfl⟩ ?_;rintro q ⟨hq,y⟩;refine g6 ?_;refine St.cq (λH=> ?_) (λH=> ?_)
     ·obtain⟨x,hx⟩:=aE (show q<g.aL.length by omega)
      have O:=ae hx
      have b:=Eh (T:=(g.types.map dG)) (Fs:=(g.cB.map gy)) (l:=g.aL.map og) (k:=q) (t:=og x) (by rw[bQ,hx];rfl)
      refine St.cI eO g.aL (x:=x) O ?_;refine g8 ?_;refine St.ee (Ev.jr (.mk rfl) hx zt trivial nR j7.eq) ?_;refine St.al (λb13=> ?_);refine g9 ?_;refine St.ee (Ev.nF P (GI g.tv g.fv e i g.types g.cB x v B (U x O)) ahC (.eh rfl rfl rfl)) ?_;refine g9 ?_;refine St.cond _ rfl (λI=> ?_) (λI=> ?_)
      ·skip
       have d:xD (g.types.map dG) (g.cB.map gy) (og x)≠0:=by simpa using I
       rw[aC d]at b;refine g4 ?_;refine St.ee (Ev.call (ef (xD (g.types.map dG) (g.cB.map gy) (og x)) q) Gg (.aY rfl rfl)) ?_;refine g9 ?_;refine St.rV [_] [] ?_;exact congrArg fv (xW a (y.trans b) d).symm
      ·skip
       have d:¬xD (g.types.map dG) (g.cB.map gy) (og x)≠0:=by simpa using I
       rw[aA d]at b;refine g8 ?_;refine St.aH (q+1) ⟨by omega,y.trans b⟩
     ·rw[HL (by omega)]at y
      replace a:=J4 a y
      refine g11 ?_;refine St.ee (Ev.iV 1 (.mk rfl) mf trivial jT rfl rfl) ?_;refine St.slot 103 (bA g.start) rfl rfl ?_;refine St.ee (Ev.call (pz g.tv g.fv e i g.types g.cB g.start v B) Vt (.eh rfl rfl rfl)) ?_;refine St.al (λVc=> ?_);refine g10 ?_;refine St.cond _ rfl (λn=> ?_) (λn=> ?_)
      ·skip
       have o:(dP (g.types.map dG) (g.cB.map gy) (ay g.start)).1≠0:=by simpa using n
       rw[aC o]at a;refine g4 ?_;refine St.ee (Ev.call (ef (dP (g.types.map dG) (g.cB.map gy) (ay g.start)).1 (-1)) Gg (.aY rfl rfl)) ?_;refine g5 ?_;refine St.rV [_] [] ?_;exact congrArg fv a.symm
      ·skip
       have o:¬(dP (g.types.map dG) (g.cB.map gy) (ay g.start)).1≠0:=by simpa using n
       rw[aA o]at a;refine g4 ?_;refine St.ee (Ev.build (bH.nil) (λw=>jv w)) ?_;refine g4 ?_;refine St.rV [_] [] ?_;exact congrArg fv a.symm
end Go.Proofs.YtblifkgpebebmaaGreatDoor
namespace Go.J
open Go
def YV:Rp UInt8:=⟨1,by decide,λx=>[.int .u8 (x.toNat:Int)],λ_=>True,λ_=>rfl,λ_ u h=>by simp at h;subst h;rfl⟩
section
variable {P:Program}{n:Nat}{F:Fr}{c:Ctx}{H:List ak}{ty:TypeId}{x:Operand}{Q:Exit→Act→World→Prop}{ops:Array Oper}{rest:List Oper}{d:Nat}{pos:String}{after:Array Edge}{src dst e:TypeId}
theorem uF (s:bB):rows YV s=s.map λb=>Value.int .u8 (b.toNat:Int):=by
 induction s with
 |nil=>rfl
 |cons x xs a=>simp only[rows,List.flatMap_cons,List.map_cons]at a⊢;rw[a];rfl
end
end Go.J
namespace Go.J
open Go.RowKit
open Go
end Go.J
namespace Go.J
open Go
section
variable {P:Program}{n:Nat}{F:Fr}{c:Ctx}{H R:List ak}{ty:TypeId}{x:Operand}{v:Value}
theorem Ev.Xj (l:bB){m:Nat}{cs:List Value}{src dst e:TypeId}[f:wj v H e 1 m cs](hx:ai F x v)(hm:m=l.length)(d:cs=l.map λb=>Value.int .u8 (b.toNat:Int))(h:l≠ [])
 (i:P.underlying src=some (.slice e)) (he:P.underlying e=some (.int .u8)) (hd:P.underlying dst=some .string):Ev P n F (Mm c H) (.convert src dst x) ty (sv l):= .of_run λa w k hw=>by
 obtain⟨ρ,o⟩:=hw.out;subst hm d
 have p:=o.row f
 rcases p.2 with⟨_,q⟩|⟨g,cap,cur,rfl,_,r,_,_,d,s⟩
 ·exact absurd (lD q) h
 ·have:=run_convert_bytes_back (P:=P) w src dst e ⟨g,0,none⟩ cap l i he hd (λj t=>by
   have h1:(cur.toList.take (l.length*1))[j]?=some (.int .u8 (l[j].toNat:Int)):=by
    rw[s,bQ,bU t];rfl
   rw[s8]at h1;rw[Addr.add_lit,jG,cU r]
   split at h1
   ·simpa using h1
   ·cases h1)
  simp[execOp,hx.eval k,this]
end
end Go.J
namespace Go.J
open Go Go.RowKit
section
variable {P:Program}{n:Nat}{F:Fr}{A:World→Prop}{c:Ctx}{H:List ak}{ty t e:TypeId}{x y:Operand}{v:Value}{T:Act→World→Prop}
theorem Ev.xV {b o' cap m size k off j N:Nat}{i:Int}{kd:IntKind}(d:v= .slice (some ⟨b,o',none⟩) m cap)(hx:ai F x (cY v size k off))(hy:ai F y (.int kd i))(ht:P.underlying t=some (.array N e))(f:(P.info? e).map (·.size)=some 1)
 (g:i=j) (h:j<N):Ev P n F A (.indexAddr t x y) ty (cY v size k (off+j)):= .of_run λa w c hw=>by
 obtain⟨inf,l,o⟩:=di.1 f;subst g d;rw[eE]at hx
 simp[execOp,hx.eval c,hy.eval c,Instr.indexAt,Instr.sureAddr,asIntOf,run_underlying ht,sizeOf,typeInfo,l,o,h,eE,Addr.add_lit,Nat.add_assoc]
theorem St.V6 {α:Type}{Rr:Rp α}{xs:List α}(v:Value)[hd:sG v H α Rr xs](h:v.oneCell'=true→St n F (Mm c H) T):St n F (Mm c H) T:=by
 intro a w b hw;obtain⟨ρ,hm⟩:=hw.out;obtain⟨ad,cap,rfl,_⟩:=hm.sl hd;exact h rfl a w b hw
end
def Lx:Rp (Int×Int):=⟨2,by decide,λx=>[iv x.1,iv x.2],λ_=>True,λ_=>rfl,λx u h=>by
 simp only[List.mem_cons,List.not_mem_nil,or_false]at h
 rcases h with rfl|rfl<;>rfl⟩
end Go.J
namespace Go.Proofs.YtblifkgpebebmaaGreatDoor
open Go Go.J Tryz
abbrev ko:=List (Int×Int)
def vN:Nat→ko→ko→ko
 |0,xs,a=>xs++a
 |_+1,[],a=>a
 |_+1,x::xs,[]=>x::xs
 |f+1,x::xs,y::a=>if x.1<y.1 then x::vN f xs (y::a)else if y.1<x.1 then y::vN f (x::xs) a else x::vN f xs a
def xF:Nat→ko→ko→List (Int×Int)
 |0,_,_=>[]
 |_+1,[],_=>[]
 |_+1,_::_,[]=>[]
 |f+1,x::xs,y::a=>if x.1<y.1 then xF f xs (y::a)else if y.1<x.1 then xF f (x::xs) a else(x.2,y.2)::xF f xs a
def Af (xs a:ko):ko:=vN (xs.length+a.length) xs a
def DC (xs a:ko):List (Int×Int):=xF (xs.length+a.length) xs a
theorem zA (f:Nat)(a:ko):vN f [] a=a:=by cases f<;>rfl
theorem vO (f:Nat)(xs:ko):vN f xs []=xs:=by cases f<;>cases xs<;>simp[vN]
theorem zI (f:Nat)(a:ko):xF f [] a=[]:=by cases f<;>rfl
theorem vS (f:Nat)(xs:ko):xF f xs []=[]:=by cases f<;>cases xs<;>rfl
theorem mC:∀(f g:Nat) (xs a:ko),xs.length+a.length≤f→xs.length+a.length≤g→vN f xs a=vN g xs a
 |f,g,[],a,_,_=>by rw[zA,zA]
 |f,g,x::xs,[],_,_=>by rw[vO,vO]
 |f+1,g+1,x::xs,y::a,b,c=>by
  simp only[List.length_cons]at b c
  rw[vN,vN,mC f g xs (y::a) (by simp only[List.length_cons];omega) (by simp only[List.length_cons];omega),mC f g (x::xs) a (by simp only[List.length_cons];omega) (by simp only[List.length_cons];omega),mC f g xs a (by omega) (by omega)]
 |0,_,_::_,_::_,h,_=>by simp only[List.length_cons]at h;omega
 |_+1,0,_::_,_::_,_,h=>by simp only[List.length_cons]at h;omega
theorem mD:∀(f g:Nat) (xs a:ko),xs.length+a.length≤f→xs.length+a.length≤g→xF f xs a=xF g xs a
 |f,g,[],a,_,_=>by rw[zI,zI]
 |f,g,x::xs,[],_,_=>by rw[vS,vS]
 |f+1,g+1,x::xs,y::a,b,c=>by
  simp only[List.length_cons]at b c
  rw[xF,xF,mD f g xs (y::a) (by simp only[List.length_cons];omega) (by simp only[List.length_cons];omega),mD f g (x::xs) a (by simp only[List.length_cons];omega) (by simp only[List.length_cons];omega),mD f g xs a (by omega) (by omega)]
 |0,_,_::_,_::_,h,_=>by simp only[List.length_cons]at h;omega
 |_+1,0,_::_,_::_,_,h=>by simp only[List.length_cons]at h;omega
theorem tu (a:ko):Af [] a=a:=zA _ _
theorem qO (xs:ko):Af xs []=xs:=vO _ _
theorem DD (a:ko):DC [] a=[]:=zI _ _
theorem zJ (xs:ko):DC xs []=[]:=vS _ _
theorem fb (x y:Int×Int)(xs a:ko):Af (x::xs) (y::a)=if x.1<y.1 then x::Af xs (y::a)else if y.1<x.1 then y::Af (x::xs) a else x::Af xs a:=by
 have e:(x::xs).length+(y::a).length=(xs.length+a.length+1)+1:=by simp only[List.length_cons];omega
 show vN _ _ _=_
 rw[e,vN,mC _ (xs.length+(y::a).length) xs (y::a) (by simp only[List.length_cons];omega) (aR _),mC _ ((x::xs).length+a.length) (x::xs) a (by simp only[List.length_cons];omega) (aR _),mC _ (xs.length+a.length) xs a (by omega) (aR _)];rfl
theorem jz (x y:Int×Int)(xs a:ko):DC (x::xs) (y::a)=if x.1<y.1 then DC xs (y::a)else if y.1<x.1 then DC (x::xs) a else(x.2,y.2)::DC xs a:=by
 have e:(x::xs).length+(y::a).length=(xs.length+a.length+1)+1:=by simp only[List.length_cons];omega
 show xF _ _ _=_
 rw[e,xF,mD _ (xs.length+(y::a).length) xs (y::a) (by simp only[List.length_cons];omega) (aR _),mD _ ((x::xs).length+a.length) (x::xs) a (by simp only[List.length_cons];omega) (aR _),mD _ (xs.length+a.length) xs a (by omega) (aR _)];rfl
theorem nK {C:ko→ko→Prop}(h1:∀a,C [] a)(b:∀x xs,C (x::xs) [])(d:∀x xs y a,x.1<y.1→C xs (y::a)→C (x::xs) (y::a))(e:∀x xs y a,y.1<x.1→C (x::xs) a→C (x::xs) (y::a))(f:∀x xs y a,x.1=y.1→C xs a→C (x::xs) (y::a)):∀(n:Nat) (xs a:ko),xs.length+a.length≤n→C xs a
 |_,[],a,_=>h1 a
 |_,x::xs,[],_=>b x xs
 |n+1,x::xs,y::a,h=>by
  simp only[List.length_cons]at h
  rcases Int.lt_trichotomy x.1 y.1 with c|c|c
  ·exact d _ _ _ _ c (nK h1 b d e f n xs (y::a) (by simp only[List.length_cons];omega))
  ·exact f _ _ _ _ c (nK h1 b d e f n xs a (by omega))
  ·exact e _ _ _ _ c (nK h1 b d e f n (x::xs) a (by simp only[List.length_cons];omega))
 |0,_::_,_::_,h=>by simp only[List.length_cons]at h;omega
theorem T0 (xs a:ko):(Af xs a).length+(DC xs a).length=xs.length+a.length:=by
 refine nK (C:=λxs a=>(Af xs a).length+(DC xs a).length=xs.length+a.length) ?_ ?_ ?_ ?_ ?_ _ xs a (aR _)
 ·intro a;rw[tu,DD];simp
 ·intro x xs;rw[qO,zJ]
 ·intro x xs y a h b;rw[fb,jz,aC h,aC h];simp only[List.length_cons]at b⊢;omega
 ·intro x xs y a h b
  have c:¬x.1<y.1:=by omega
  rw[fb,jz,aA c,aA c,aC h,aC h];simp only[List.length_cons]at b⊢;omega
 ·intro x xs y a h b
  have c:¬x.1<y.1:=by omega
  have d:¬y.1<x.1:=by omega
  rw[fb,jz,aA c,aA c,aA d,aA d];simp only[List.length_cons]at b⊢;omega
theorem xZ {z:Int×Int}(xs a:ko):z∈Af xs a→z∈xs∨z∈a:=by
 refine nK (C:=λxs a=>z∈Af xs a→z∈xs∨z∈a) ?_ ?_ ?_ ?_ ?_ _ xs a (aR _)
 ·intro a h;rw[tu]at h;exact .inr h
 ·intro x xs h;rw[qO]at h;exact .inl h
 ·intro x xs y a h b hz;rw[fb,aC h]at hz
  rcases cH.1 hz with rfl|hz
  ·exact .inl (by simp)
  ·rcases b hz with h|h
   ·exact .inl (by simp[h])
   ·exact .inr h
 ·intro x xs y a h b hz;rw[fb,aA (by omega),aC h]at hz
  rcases cH.1 hz with rfl|hz
  ·exact .inr (by simp)
  ·rcases b hz with h|h
   ·exact .inl h
   ·exact .inr (by simp[h])
 ·intro x xs y a h b hz;rw[fb,aA (by omega),aA (by omega)]at hz
  rcases cH.1 hz with rfl|hz
  ·exact .inl (by simp)
  ·rcases b hz with h|h
   ·exact .inl (by simp[h])
   ·exact .inr (by simp[h])
theorem Sy {z:Int×Int}(xs a:ko):z∈DC xs a→(∃x∈xs,z.1=x.2)∧∃y∈a,z.2=y.2:=by
 refine nK (C:=λxs a=>z∈DC xs a→(∃x∈xs,z.1=x.2)∧∃y∈a,z.2=y.2) ?_ ?_ ?_ ?_ ?_ _ xs a (aR _)
 ·intro a h;rw[DD]at h;cases h
 ·intro x xs h;rw[zJ]at h;cases h
 ·intro x xs y a h b hz;rw[jz,aC h]at hz
  obtain⟨⟨u,hu,e⟩,c⟩:=b hz;exact⟨⟨u,by simp[hu],e⟩,c⟩
 ·intro x xs y a h b hz;rw[jz,aA (by omega),aC h]at hz
  obtain⟨c,⟨u,hu,e⟩⟩:=b hz;exact⟨c,⟨u,by simp[hu],e⟩⟩
 ·intro x xs y a h b hz;rw[jz,aA (by omega),aA (by omega)]at hz
  rcases cH.1 hz with rfl|hz
  ·exact⟨⟨x,by simp,rfl⟩,⟨y,by simp,rfl⟩⟩
  ·obtain⟨⟨u,hu,e⟩,⟨v,d,e2⟩⟩:=b hz
   exact⟨⟨u,by simp[hu],e⟩,⟨v,by simp[d],e2⟩⟩
def lp (l:ko):List Int:=l.map (·.1)
theorem Iw {k:Int}(xs b:ko):k∈lp xs∨k∈lp b→k∈lp (Af xs b):=by
 refine nK (C:=λxs b=>k∈lp xs∨k∈lp b→k∈lp (Af xs b)) ?_ ?_ ?_ ?_ ?_ _ xs b (aR _)
 ·intro b h;rw[tu];rcases h with h|h
  ·cases h
  ·exact h
 ·intro x xs h;rw[qO];rcases h with h|h
  ·exact h
  ·cases h
 ·intro x xs y b h a hk;rw[fb,aC h]
  simp only[lp,List.map_cons,List.mem_cons]at hk a⊢
  rcases hk with(hk|hk)|hk
  ·exact .inl hk
  ·exact .inr (a (.inl hk))
  ·exact .inr (a (.inr hk))
 ·intro x xs y b h a hk;rw[fb,aA (by omega),aC h]
  simp only[lp,List.map_cons,List.mem_cons]at hk a⊢
  rcases hk with hk|hk|hk
  ·exact .inr (a (.inl hk))
  ·exact .inl hk
  ·exact .inr (a (.inr hk))
 ·intro x xs y b h a hk;rw[fb,aA (by omega),aA (by omega)]
  simp only[lp,List.map_cons,List.mem_cons]at hk a⊢
  rcases hk with(hk|hk)|hk|hk
  ·exact .inl hk
  ·exact .inr (a (.inl hk))
  ·exact .inl (by omega)
  ·exact .inr (a (.inr hk))
def sF (l:ko):Prop:=l.Pairwise λx y=>x.1<y.1
theorem R5 (xs a:ko):sF xs→sF a→sF (Af xs a):=by
 refine nK (C:=λxs a=>sF xs→sF a→sF (Af xs a)) ?_ ?_ ?_ ?_ ?_ _ xs a (aR _)
 ·intro a _ h;rw[tu];exact h
 ·intro x xs h _;rw[qO];exact h
 ·intro x xs y a h b hx hy;rw[fb,aC h]
  obtain⟨h1,d⟩:=jW.1 hx;obtain⟨c,e⟩:=jW.1 hy;refine jW.2 ⟨λz hz=> ?_,b d hy⟩
  rcases xZ _ _ hz with hz|hz
  ·exact h1 z hz
  ·rcases cH.1 hz with rfl|hz
   ·exact h
   ·have:=c z hz;omega
 ·intro x xs y a h b hx hy;rw[fb,aA (by omega),aC h]
  obtain⟨h1,d⟩:=jW.1 hx;obtain⟨c,e⟩:=jW.1 hy;refine jW.2 ⟨λz hz=> ?_,b hx e⟩
  rcases xZ _ _ hz with hz|hz
  ·rcases cH.1 hz with rfl|hz
   ·exact h
   ·have:=h1 z hz;omega
  ·exact c z hz
 ·intro x xs y a h b hx hy;rw[fb,aA (by omega),aA (by omega)]
  obtain⟨h1,d⟩:=jW.1 hx;obtain⟨c,e⟩:=jW.1 hy;refine jW.2 ⟨λz hz=> ?_,b d e⟩
  rcases xZ _ _ hz with hz|hz
  ·exact h1 z hz
  ·have:=c z hz;omega
def fx (f:Nat→Nat):Nat→Nat
 |0=>0
 |n+1=>fx f n+f n
theorem zf {f g:Nat→Nat}:∀{n:Nat},(∀i,i<n→f i=g i)→fx f n=fx g n
 |0,_=>rfl
 |n+1,h=>by rw[fx,fx,zf λi a=>h i (by omega),h n (by omega)]
theorem zg {f g:Nat→Nat}{a:Nat}:∀{n:Nat},(∀i,i<n→i≠a→f i=g i)→a<n→fx f n+g a=fx g n+f a
 |0,_,h=>by omega
 |n+1,h,d=>by
  rw[fx,fx]
  by_cases e:a=n
  ·subst e
   rw[zf λi b=>h i (by omega) (by omega)];omega
  ·have:=zg (n:=n) (λi b c=>h i (by omega) c) (by omega)
   rw[h n (by omega) (λx=>e x.symm)];omega
structure Pl where
 ro:List Nat
 ty:List Int
 lk:List ko
def Pl.rt (p:Pl)(i:Nat):Nat:=p.ro.getD i 0
def Pl.tt (p:Pl)(i:Nat):Int:=p.ty.getD i 0
def Pl.ll (p:Pl)(i:Nat):ko:=p.lk.getD i []
def Pl.put (p:Pl)(a b m:Nat):Pl:=⟨p.ro.map λx=>if x=b then a else x,p.ty.set a m,p.lk.set a (Af (p.ll a) (p.ll b))⟩
def jB (mt:Nat→Nat→Option Nat):Nat→Pl→List (Int×Int)→Option Pl
 |0,_,_=>none
 |_+1,p,[]=>some p
 |f+1,p,x::w=>
  if p.rt x.1.toNat=p.rt x.2.toNat then jB mt f p w
  else match mt (p.tt (p.rt x.1.toNat)).toNat (p.tt (p.rt x.2.toNat)).toNat with
   |none=>none
   |some m=>jB mt f (p.put (p.rt x.1.toNat) (p.rt x.2.toNat) m) ((DC (p.ll (p.rt x.1.toNat)) (p.ll (p.rt x.2.toNat))).reverse++w)
def Pl.left (p:Pl):Nat:=fx (λi=>if p.rt i=i then(p.ll i).length else 0) p.ro.length
def Pl.mu (p:Pl)(w:List (Int×Int)):Nat:=p.left+w.length+1
structure mJ (nt nf n:Nat)(p:Pl):Prop where
 lr:p.ro.length=n
 lt:p.ty.length=n
 ll:p.lk.length=n
 AB:∀i,i<n→p.rt i<n
 V5:∀i,i<n→p.rt (p.rt i)=p.rt i
 tys:∀t∈p.ty,0≤t∧t<nt
 Qi:∀l∈p.lk,∀x∈l,(0≤x.1∧x.1<nf)∧0≤x.2∧x.2<n
 Y9:∀l∈p.lk,sF l
theorem mJ.tt {nt nf n:Nat}{p:Pl}(h:mJ nt nf n p){i:Nat}(a:i<n):0≤p.tt i∧p.tt i<nt:=by
 unfold Pl.tt;rw[aw,bU (by rw[h.lt];exact a)];exact h.tys _ (gz _)
theorem mJ.lm {nt nf n:Nat}{p:Pl}(h:mJ nt nf n p){i:Nat}(a:i<n):p.ll i∈p.lk:=by
 unfold Pl.ll;rw[aw,bU (by rw[h.ll];exact a)];exact gz _
theorem Pl.HZ {p:Pl}{a b m i:Nat}(c:i<p.ro.length):(p.put a b m).rt i=if p.rt i=b then a else p.rt i:=by
 unfold Pl.rt Pl.put
 simp only[List.getD_eq_getElem?_getD,List.getElem?_map,List.getElem?_eq_getElem c,Option.map_some,Option.getD_some]
theorem Pl.Ox {p:Pl}{a b m i:Nat}(c:a<p.lk.length):(p.put a b m).ll i=if i=a then Af (p.ll a) (p.ll b)else p.ll i:=by
 unfold Pl.ll Pl.put
 simp only[List.getD_eq_getElem?_getD]
 by_cases e:i=a
 ·subst e;rw[fU c,aC rfl];rfl
 ·rw[ig (λh=>e h.symm),aA e]
theorem mJ.put {nt nf n:Nat}{p:Pl}(h:mJ nt nf n p){a b m:Nat}(f:a<n)(j:b<n)(k:p.rt a=a)(hm:m<nt)(o:a≠b):mJ nt nf n (p.put a b m):=by
 have g:∀i,i<n→(p.put a b m).rt i=if p.rt i=b then a else p.rt i:=λi d=>Pl.HZ (by rw[h.lr];exact d)
 refine⟨by simp[Pl.put,h.lr],by simp[Pl.put,h.lt],by simp[Pl.put,h.ll],λi d=> ?_,λi d=> ?_,λt ht=> ?_,λl c=> ?_,λl c=> ?_⟩
 ·rw[g i d];split
  ·exact f
  ·exact h.AB i d
 ·rw[g i d];split
  ·rw[g a f,k,aA o]
  ·rename_i e
   rw[g _ (h.AB i d),h.V5 i d,aA e]
 ·rcases lF ht with ht|ht
  ·exact h.tys t ht
  ·subst ht;exact⟨by omega,by omega⟩
 ·rcases lF c with c|c
  ·exact h.Qi l c
  ·subst c
   intro x hx
   rcases xZ _ _ hx with hx|hx
   ·exact h.Qi _ (h.lm f) x hx
   ·exact h.Qi _ (h.lm j) x hx
 ·rcases lF c with c|c
  ·exact h.Y9 l c
  ·subst c
   exact R5 _ _ (h.Y9 _ (h.lm f)) (h.Y9 _ (h.lm j))
theorem mJ.left {nt nf n:Nat}{p:Pl}(h:mJ nt nf n p){a b m:Nat}(d:a<n)(r:b<n)(s:p.rt a=a)(j:p.rt b=b)(k:a≠b):(p.put a b m).left+(DC (p.ll a) (p.ll b)).length=p.left:=by
 have l:∀i,i<n→(p.put a b m).rt i=if p.rt i=b then a else p.rt i:=λi c=>Pl.HZ (by rw[h.lr];exact c)
 have o:∀i,(p.put a b m).ll i=if i=a then Af (p.ll a) (p.ll b)else p.ll i:=λi=>Pl.Ox (by rw[h.ll];exact d)
 have hlen:=T0 (p.ll a) (p.ll b)
 unfold Pl.left
 have t:(p.put a b m).ro.length=n:=by simp[Pl.put,h.lr]
 rw[t,h.lr]
 -- in u:b is no root any more
 have s1:=zg (n:=n) (a:=b) (f:=λi=>if i=b then 0 else if p.rt i=i then(p.ll i).length else 0) (g:=λi=>if p.rt i=i then(p.ll i).length else 0) (λi _ c=>aA c) r
 have s2:=zg (n:=n) (a:=a) (f:=λi=>if(p.put a b m).rt i=i then((p.put a b m).ll i).length else 0) (g:=λi=>if i=b then 0 else if p.rt i=i then(p.ll i).length else 0) (λi c q=>by
  rw[l i c,o i,aA q]
  by_cases e:p.rt i=b
  ·rw[aC e,aA (λh=>q h.symm)]
   by_cases e2:i=b
   ·rw[aC e2]
   ·rw[aA e2,aA (λh=>e2 (by rw[←e,h]))]
  ·rw[aA e,aA (show i≠b from λv=>e (by rw[v,j]))]) d
 rw[aC rfl,aC j]at s1;rw[l a d,s,aA k,aC rfl,o a,aC rfl,aA k,aC rfl]at s2;omega
def Pl.of (x y:dz):Pl:=⟨List.range (x.length+y.length),x.map (·.1)++y.map (·.1),x.map (·.2)++y.map λn=>n.2.map λl=>(l.1,(x.length:Int)+l.2)⟩
def pg (p:Pl):dz:=(List.range p.ro.length).map λi=>(p.tt i,if p.rt i=i then(p.ll i).map (λl=>(l.1,(p.rt l.2.toNat:Int)))else [])
def lC (g:dz):Nat→List Nat→Nat→List Nat
 |0,o,_=>o
 |f+1,o,i=>if i∈o then o else(g.getD i iK).2.foldl (λo x=>lC g f o x.2.toNat) (o++ [i])
def gl (g:dz)(r:Nat):dz:=let o:=lC g (g.length+1) [] r;o.map λi=>((g.getD i iK).1,(g.getD i iK).2.map λx=>(x.1,(o.idxOf x.2.toNat:Int)))
def dT (mt:Nat→Nat→Option Nat)(x:dz)(node:Nat)(y:dz):Option dz:=
 (jB mt ((Pl.of x y).mu [((node:Int),(x.length:Int))]) (Pl.of x y) [((node:Int),(x.length:Int))]).map λp=>gl (pg p) (p.rt 0)
end Go.Proofs.YtblifkgpebebmaaGreatDoor
