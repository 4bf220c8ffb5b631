/-
  Laws of walks through programs, and facts on grammars, trees and queries.
  Conditions: none.
-/
import Derived.Test.YtblifkgpebebmaaGreatDoorGC3
import Derived.Laws.Small
import Derived.Shelf.Strings.IndexAnyAll
import Derived.Lib.OthersKept
import Derived.Shelf.Small.Utf8
import Derived.Laws.RangeAny
import Derived.Laws.Cover4
import Derived.Scope
import Derived.Handy
import Derived.Shelf.RegionOpen
import Derived.Shelf.RegionOpenPlain
import Derived.Shelf.Utf8.RuneCount
import Derived.Shelf.Unicode.ValidAny
import Derived.Lib.Join
set_option maxHeartbeats 16000000
set_option maxRecDepth 20000
set_option linter.unusedVariables false
set_option linter.unusedSimpArgs false
namespace Go.Proofs.YtblifkgpebebmaaGreatDoor
open Go Go.J Tryz
theorem Px {T:List ek}{q k:Nat}(hk:k<T.length)(c:q<k)(h:kD T q k=true)(d:∀b,b<k→(List.range b).any (λa=>kD T a b)=false):wh T=some k:=by
 unfold wh;rw[List.find?_range_eq_some];refine⟨nb.2 ⟨q,dt.2 c,h⟩,dt.2 hk,λj e=>by rw[d j e];rfl⟩
theorem Py {T:List ek}(c:∀b,b<T.length→(List.range b).any (λa=>kD T a b)=false):wh T=none:=by
 unfold wh;rw[List.find?_eq_none]
 intro b h;rw[c b (dt.1 h)];decide
theorem CZ {p:Nat→Bool}{n:Nat}(h:∀a,a<n→p a=false):(List.range n).any p=false:=by
 rw[List.any_eq_false];intro a b;rw[h a (dt.1 b)];decide
theorem EY {n:Int}{l:List oe}{k:Nat}{t:oe}(ht:l[k]?=some t)(known:List ax):mW n known k (l.drop k)=if isName t.1=false then(10,(k:Int))else if t.1∈known then(7,(k:Int))else if t.2.1<0∨n≤t.2.1∨t.2.2<0∨n≤t.2.2 then(3,(k:Int))
 else mW n (known++ [t.1]) (k+1) (l.drop (k+1)):=by rw[bN ht,mW]
theorem H4 {n:Int}{l:List oe}{k:Nat}(h:l.length≤k)(known:List ax):mW n known k (l.drop k)=(0,0):=by rw[j4 h,mW]
theorem Ks {T:List ek}{Fs:List oe}(h:T.length=0∨60<T.length∨40<Fs.length):jM T Fs=(2,-1):=by
 unfold jM
 by_cases h1:40<Fs.length
 ·rw[aC h1]
 ·have e:B4 T=(2,-1):=by unfold B4;rw[aC (by omega)]
  rw[aA h1,e];rfl
theorem Nc {T:List ek}{Fs:List oe}(h:¬40<Fs.length)(a:(B4 T).1≠0):jM T Fs=B4 T:=by unfold jM;rw[aA h,aC a]
theorem Nd {T:List ek}{Fs:List oe}{b:Nat}(h:¬40<Fs.length)(a:¬(B4 T).1≠0)(c:wh T=some b):jM T Fs=(16,(b:Int)):=by unfold jM;rw[aA h,aA a,c]
theorem Nb {T:List ek}{Fs:List oe}(h:¬40<Fs.length)(a:¬(B4 T).1≠0)(b:wh T=none):jM T Fs=mW T.length [] 0 Fs:=by unfold jM;rw[aA h,aA a,b]
theorem D7 (tv xv:aV)(ts:List re)(e:List jG):eC prog 43 #[.agg #[tv.1,xv.1]] [sl n5 tv.1 ts,aF ry ts,sl gY xv.1 e,tz] (fv (jM (ts.map dG) (e.map gw))):=by
 refine eC.Me (args:=[.agg #[tv.1,xv.1]]) 122 func43 rfl ntmps43 rfl (λc=> ?_);refine go ?_
 have E:(ts.map dG).length=ts.length:=aO ..
 have S:(e.map gw).length=e.length:=aO ..
 refine St.wf tv.1 (λU V=> ?_);refine St.wf xv.1 (λo W=> ?_);refine go ?_;refine St.dJ (.mk rfl) rfl (λI=> ?_);refine St.al (λJ=> ?_);refine g10 ?_;refine St.gf _ rfl rfl (λd=>Ev.da (.mk rfl) vE) rfl ?_;refine St.gf _ rfl rfl (λd=>Ev.ke (ai.gv rfl d) vy trivial (by rfl)) rfl ?_;refine St.gf _ rfl rfl (λd=>Ev.fk (ai.gv rfl d) vy) rfl ?_;refine St.gf _ rfl rfl (λd=>Ev.gtr (ai.gv rfl d) (.mk rfl)) rfl ?_;refine g2 ?_;refine St.gf _ rfl rfl (λd=>Ev.da (.mk rfl) D4) rfl ?_;refine St.gf _ rfl rfl (λd=>Ev.ke (ai.gv rfl d) G7 trivial (by rfl)) rfl ?_;refine St.gf _ rfl rfl (λd=>Ev.fk (ai.gv rfl d) G7) rfl ?_;refine St.gf _ rfl rfl (λd=>Ev.gtr (ai.gv rfl d) (.mk rfl)) rfl ?_;refine g3 ?_;refine St.cq (λK=> ?_) (λK=> ?_)
 ·have p:jM (ts.map dG) (e.map gw)=(2,-1):=Ks (by omega)
  refine g2 ?_;refine St.ee (Ev.call (cR 2 (-1)) yb (.aX rfl rfl)) ?_;refine g5 ?_;refine St.rV [_] [] ?_;exact congrArg fv p.symm
 ·have r:¬40<(e.map gw).length:=by omega
  refine g7 ?_;refine St.ee (Ev.call (Gc tv.1 ts) ahW (.au rfl)) ?_;refine St.al (λX=> ?_);refine g10 ?_;refine St.cond _ rfl (λs=> ?_) (λs=> ?_)
  ·skip
   have g:(B4 (ts.map dG)).1≠0:=by simpa using s
   refine g8 ?_;refine St.rV [_] [] ?_;exact congrArg fv (Nc r g).symm
  ·skip
   have g:¬(B4 (ts.map dG)).1≠0:=by simpa using s
   have u:=(IH (ez.1 g)).2.2
   have Y:=u.len
   refine g6 ?_;refine St.ag (pz tv.1 ts u) W1 (.au rfl) rfl ?_;rintro v41 _ ⟨L,M,rfl,rfl⟩;refine St.dQ ?_;refine St.al (λZ=> ?_);refine g13 ?_;refine St.lS (ι:=Nat) (λk T=>(45,iv k)::T) (λk=>k≤ts.length∧∀b,b<k→(List.range b).any (λa=>kD (ts.map dG) a b)=false) (λk=>ts.length-k) 0 (aD.cons 1 rfl (aD.cons 2 rfl (aD.cons 4 rfl (aD.cons 44 rfl aD.nil)))) ⟨aP _,λb g=>absurd g (by omega)⟩ ?_;intro k v;obtain⟨hk,x⟩:=v;refine g6 ?_;refine St.cq (λy=> ?_) (λy=> ?_)
   ·refine g17 ?_
    refine St.lS (ι:=Nat) (λq T=>(49,iv q)::T) (λq=>q≤k∧∀a,a<q→kD (ts.map dG) a k=false) (λq=>k-q) 0 (aD.cons 1 rfl (aD.cons 2 rfl (aD.cons 4 rfl (aD.cons 5 rfl (aD.cons 44 rfl (aD.cons 45 rfl (aD.cons 48 rfl aD.nil))))))) ⟨aP _,λa F=>absurd F (by omega)⟩ ?_;intro q v;obtain⟨hq,z⟩:=v;refine g6 ?_;refine St.cq (λN=> ?_) (λN=> ?_)
    ·refine g15 ?_
     refine St.ag (KK L M (ts.map dG) u q k (by omega) (by omega)) W6 (.ej rfl rfl rfl) rfl ?_;rintro v56 _ ⟨mt,ok,rfl,rfl⟩;refine St.aK ?_;refine g14 ?_;refine St.cond _ rfl (λi=> ?_) (λi=> ?_)
     ·skip
      have p:=Nd (Fs:=e.map gw) r g (Px (by omega) (by omega) i x)
      refine g3 ?_;refine St.ee (Ev.call (cR 16 k) yb (.aX rfl rfl)) ?_;refine g13 ?_;refine St.rV [_] [] ?_;exact congrArg fv p.symm
     ·skip
      refine g8 ?_;refine St.aS (q+1) ⟨by omega,λa F=>by rcases eO a q with h|h;exact z a h;rw[show a=q by omega];exact i⟩
    ·rw[show q=k by omega]at z
     refine g11 ?_;refine St.aS (k+1) ⟨by omega,λb g=>by rcases eO b k with h|h;exact x b h;rw[show b=k by omega];exact CZ z⟩
   ·have A:k=ts.length:=by omega
    have G:=Nb r g (Py (by rw[E,←A];exact x))
    rw[E]at G;refine g7 ?_;refine St.makeMap mkStr rfl (λB=> ?_);refine g13 ?_;refine St.tn (ι:=Nat) (κ:=List (ax×Value)) (λk m T=>(69,iv k)::T) (λk m=>[aW B (eU mkStr m),aW J (.cells [iv 0,iv 0].toArray 35 (0,0)),aW I (.cells [tv.1,xv.1].toArray 25 (0,0)),aB (sl n5 tv.1 ts),aB (aF ry ts),aB (sl gY xv.1 e)]) (λk m=>k≤e.length∧jM (ts.map dG) (e.map gw)=mW ts.length ((e.take k).map jG.name) k ((e.map gw).drop k)∧KJ m ((e.take k).map jG.name)) (λk m=>e.length-k) 0 [] (aD.cons 1 rfl (aD.cons 2 rfl (aD.cons 10 rfl (aD.cons 67 rfl (aD.cons 68 rfl aD.nil))))) ⟨aP _,G,KJ.nil⟩ ?_;rintro k m ⟨hk,C,H⟩;refine g6 ?_;refine St.cq (λO=> ?_) (λO=> ?_)
    ·obtain⟨t,ht⟩:=aE (show k<e.length by omega)
     have P:=ae ht
     have f:=EY (n:=ts.length) (l:=e.map gw) (k:=k) (t:=gw t) (by rw[bP,ht];rfl) ((e.take k).map jG.name)
     rw[←C]at f
     have Q:t.name.length≤9223372036854775807:=by have:=(o t P).1;simp only[nD]at this;omega
     refine g8 ?_;refine St.ee (Ev.jq (.mk rfl) ht underlying135 trivial Bp j5.eq) ?_;refine St.al (λR4=> ?_);refine g9 ?_;refine St.ee (Ev.call (qn t.name Q) RG (.au rfl)) ?_;refine g3 ?_;refine St.cq (λD=> ?_) (λD=> ?_)
     ·rw[aC (show isName (gw t).1=false from(by simpa using D:isName t.name=false))]at f
      refine g3 ?_;refine St.ee (Ev.call (cR 10 k) yb (.aX rfl rfl)) ?_;refine g10 ?_;refine St.rV [_] [] ?_;exact congrArg fv f.symm
     ·rw[aA (show ¬isName (gw t).1=false from(by simpa using D:¬isName t.name=false))]at f
      refine g8 ?_;refine St.ee (Ev.tq mkStr (k:=t.name) (.mk rfl) (.mk rfl) pZ (by exact xQ) eS) ?_;refine g3 ?_;refine St.slot 86 (.bool (decide (t.name∈(e.take k).map jG.name))) rfl (congrArg Value.bool (H t.name)) ?_;refine g9 ?_;refine St.cq (λj=> ?_) (λj=> ?_)
      ·rw[aC (show(gw t).1∈(e.take k).map jG.name from j)]at f
       refine g3 ?_;refine St.ee (Ev.call (cR 7 k) yb (.aX rfl rfl)) ?_;refine g10 ?_;refine St.rV [_] [] ?_;exact congrArg fv f.symm
      ·rw[aA (show ¬(gw t).1∈(e.take k).map jG.name from j)]at f
       refine g8 ?_;refine St.mapUpdate mkStr (k:=t.name) (.mk rfl) (.mk rfl) (.mk rfl) pZ (by exact xQ) ?_;refine g8 ?_;refine St.gf _ rfl rfl (λd=>Ev.da (.mk rfl) Cz) rfl ?_;refine St.gf _ rfl rfl (λd=>Ev.ke (ai.gv rfl d) gV trivial (by rfl)) rfl ?_;refine St.gf _ rfl rfl (λd=>Ev.da (.mk rfl) vE) rfl ?_;refine St.gf _ rfl rfl (λd=>Ev.ke (ai.gv rfl d) vy trivial (by rfl)) rfl ?_;refine St.gf _ rfl rfl (λd=>Ev.fk (ai.gv rfl d) vy) rfl ?_;refine St.gf _ rfl rfl (λd=>Ev.geq (ai.gv rfl d) (ai.gv rfl d)) rfl ?_;refine g2 ?_;refine St.gf _ rfl rfl (λd=>Ev.da (.mk rfl) D0) rfl ?_;refine St.gf _ rfl rfl (λd=>Ev.ke (ai.gv rfl d) gV trivial (by rfl)) rfl ?_;refine St.gf _ rfl rfl (λd=>Ev.lss (ai.gv rfl d) (.mk rfl)) rfl ?_;refine g2 ?_;refine St.gf _ rfl rfl (λd=>Ev.da (.mk rfl) D0) rfl ?_;refine St.gf _ rfl rfl (λd=>Ev.ke (ai.gv rfl d) gV trivial (by rfl)) rfl ?_;refine St.gf _ rfl rfl (λd=>Ev.da (.mk rfl) vE) rfl ?_;refine St.gf _ rfl rfl (λd=>Ev.ke (ai.gv rfl d) vy trivial (by rfl)) rfl ?_;refine St.gf _ rfl rfl (λd=>Ev.fk (ai.gv rfl d) vy) rfl ?_;refine St.gf _ rfl rfl (λd=>Ev.geq (ai.gv rfl d) (ai.gv rfl d)) rfl ?_;refine g3 ?_;refine St.cq (λR=> ?_) (λR=> ?_)
       ·rw[aC (show(gw t).2.1<0∨(ts.length:Int)≤(gw t).2.1∨(gw t).2.2<0∨(ts.length:Int)≤(gw t).2.2 from(by omega:t.Bc<0∨(ts.length:Int)≤t.Bc∨t.value<0∨(ts.length:Int)≤t.value))]at f
        refine g3 ?_;refine St.ee (Ev.call (cR 3 k) yb (.aX rfl rfl)) ?_;refine g9 ?_;refine St.rV [_] [] ?_;exact congrArg fv f.symm
       ·rw[aA (show ¬((gw t).2.1<0∨(ts.length:Int)≤(gw t).2.1∨(gw t).2.2<0∨(ts.length:Int)≤(gw t).2.2)from(by omega:¬(t.Bc<0∨(ts.length:Int)≤t.Bc∨t.value<0∨(ts.length:Int)≤t.value)))]at f
        refine g8 ?_;refine St.uk (k+1) (l9 m t.name (iv k)) ⟨by omega,by rw[f,gT jG.name ht];rfl,by rw[gT jG.name ht];exact H.snoc _ _⟩
    ·rw[H4 (by rw[aO];omega)]at C
     refine g7 ?_;refine St.ee (Ev.build (bF.nil) (λw=>jX w)) ?_;refine g4 ?_;refine St.rV [_] [] ?_;exact congrArg fv C.symm
inductive Reach (g:e8):Nat→Prop where
 |root:Reach g 0
 |step {i:Nat} {x:Int×Int}:Reach g i→x∈(g.getD i iJ).2→Reach g x.2.toNat
def og (M N:List Bool):Prop:=M.length=N.length∧∀x:Nat,M[x]?=some true→N[x]?=some true
theorem og.refl (M:List Bool):og M M:=⟨rfl,λ_ h=>h⟩
theorem og.trans {A B C:List Bool}(h:og A B)(k:og B C):og A C:=⟨h.1.trans k.1,λx hx=>k.2 x (h.2 x hx)⟩
theorem og.Yw {A B:List Bool}(h:og A B)(k:og B A):A=B:=by
 refine pa λi=> ?_
 rcases eO i A.length with a|a
 ·have b:i<B.length:=by rw[←h.1];exact a
  rw[bU a,bU b]
  have h1:=h.2 i
  have c:=k.2 i
  rw[bU a,bU b]at h1 c
  cases d:A[i]<;>cases e2:B[i]<;>simp_all
 ·rw[ib a,ib (by rw[←h.1];exact a)]
theorem og.set (M:List Bool)(i:Nat):og M (M.set i true):=⟨by rw[cn],λx hx=>by
 by_cases e:i=x
 ·subst e;rw[fV (ah hx)]
 ·rw[ic e];exact hx⟩
theorem og.mark (i:Nat)(M:List Bool)(x:Int×Int):og M (Ew i M x):=by
 unfold Ew;split
 ·exact og.set _ _
 ·exact og.refl _
theorem og.fold {γ:Type}{f:List Bool→γ→List Bool}(h:∀M c,og M (f M c)):∀(l:List γ) (M:List Bool),og M (l.foldl f M)
 | [],M=>og.refl M
 |c::l,M=>(h M c).trans (og.fold h l (f M c))
theorem yu {γ:Type}{f:List Bool→γ→List Bool}(h:∀M c,og M (f M c)):∀(l:List γ) (M:List Bool),l.foldl f M=M→∀c∈l,f M c=M
 | [],_,_,c,a=>by cases a
 |c::l,M,he,d,hd=>by
  rw[s6]at he
  have h1:f M c=M:=og.Yw (by have:=og.fold h l (f M c);rw[he]at this;exact this) (h M c)
  rcases cJ.1 hd with rfl|hd
  ·exact h1
  ·rw[h1]at he;exact yu h l M he d hd
theorem og.node (g:e8)(M:List Bool)(i:Nat):og M (V2 g M i):=og.fold (λM x=>og.mark i M x) _ M
theorem og.pass (g:e8)(M:List Bool):og M (pass g M):=og.fold (λM i=>og.node g M i) _ M
def pg (M:List Bool):Nat:=M.countP λb=>b
theorem N3:∀{A B:List Bool},og A B→pg A≤pg B∧(pg B≤pg A→A=B)
 | [],[],_=>⟨aR _,λ_=>rfl⟩
 | [],_::_,h=>absurd h.1 (by simp)
 |_::_,[],h=>absurd h.1 (by simp)
 |a::A,b::B,h=>by
  have ht:og A B:=⟨by simpa using h.1,λx hx=>by have:=h.2 (x+1) (by simpa using hx);simpa using this⟩
  have c:=h.2 0
  obtain⟨i1,i2⟩:=N3 ht;unfold pg at*
  cases a<;>cases b<;>simp_all<;>omega
theorem Ct (M:List Bool):pg M≤M.length:=List.countP_le_length
theorem mc (g:e8):∀k,(ea g k).length=g.length
 |0=>by simp[ea]
 |k+1=>by rw[ea,←(og.pass g _).1,mc g k]
theorem zN {g:e8}(b:0<g.length):∀k,pass g (ea g k)=ea g k∨k+1≤pg (ea g k)
 |0=>by
  refine .inr ?_
  obtain⟨n,c⟩:∃n,g.length=n+1:=⟨g.length-1,by omega⟩
  simp[ea,pg,c,List.replicate_succ]
 |k+1=>by
  rcases zN b k with h|h
  ·left;rw[ea,h,h]
  ·by_cases e:pass g (ea g (k+1))=ea g (k+1)
   ·exact .inl e
   ·right
    have h1:=N3 (og.pass g (ea g k))
    rw[ea]
    rcases eO (pg (ea g k)) (pg (pass g (ea g k)))with a|a
    ·omega
    ·have:=h1.2 a
     exact absurd (by rw[ea,←this,←this]) e
theorem Hg {g:e8}(a:0<g.length):pass g (ea g g.length)=ea g g.length:=by
 rcases zN a g.length with h|h
 ·exact h
 ·have:=Ct (ea g g.length)
  rw[mc]at this;omega
theorem Gz {g:e8}{M:List Bool}(b:M.length=g.length)(h:pass g M=M){i:Nat}(c:M[i]?=some true){x:Int×Int}(hx:x∈(g.getD i iJ).2)(d:x.2.toNat<g.length):M[x.2.toNat]?=some true:=by
 have h1:=yu (λM i=>og.node g M i) _ M h i (dt.2 (by rw[←b];exact ah c))
 have a:=yu (λM x=>og.mark i M x) _ M h1 x hx
 unfold Ew at a;rw[aC (by rw[ar,c];rfl)]at a;rw[←a,fV (by rw[b];exact d)]
def AW (g:e8)(M:List Bool):Prop:=∀x:Nat,M[x]?=some true→Reach g x
theorem AW.set {g:e8}{M:List Bool}(h:AW g M){i:Nat}(a:Reach g i):AW g (M.set i true):=λx hx=>by
 by_cases e:i=x
 ·subst e;exact a
 ·rw[ic e]at hx;exact h x hx
theorem AW.fold {γ:Type}{g:e8}{f:List Bool→γ→List Bool}:∀(l:List γ) (M:List Bool),(∀M,∀c∈l,AW g M→AW g (f M c))→AW g M→AW g (l.foldl f M)
 | [],_,_,h=>h
 |c::l,M,a,h=>AW.fold l _ (λM d hd=>a M d (cO _ hd)) (a M c (aQ ..) h)
theorem AW.pass {g:e8}{M:List Bool}(h:AW g M):AW g (pass g M):=
 AW.fold _ _ (λM i _ c=>AW.fold _ _ (λM x hx c=>by
  unfold Ew
  split
  ·rename_i a
   refine c.set (Reach.step (c i ?_) hx);rw[ar]at a
   cases e:M[i]? with
   |none=>rw[e]at a;cases a
   |some b=>rw[e]at a;simp at a;rw[a]
  ·exact c) c) h
theorem AW.ea (g:e8):∀k,AW g (ea g k)
 |0=>λx hx=>by
  by_cases e:0=x
  ·subst e;exact Reach.root
  ·rw[Proofs.YtblifkgpebebmaaGreatDoor.ea,ic e,s8]at hx
   split at hx<;>simp at hx
 |k+1=>(AW.ea g k).pass
def sy (g:e8):Prop:=0<g.length∧∀n∈g,∀x∈n.2,0≤x.1∧0≤x.2∧x.2.toNat<g.length
theorem sy.at_ {g:e8}(h:sy g){i:Nat}{x:Int×Int}(hx:x∈(g.getD i iJ).2):0≤x.1∧0≤x.2∧x.2.toNat<g.length:=by
 rcases eO i g.length with a|a
 ·refine h.2 _ (gy a) x ?_
  rw[ar,bU a]at hx;exact hx
 ·rw[ar,ib a]at hx;cases hx
theorem nR {g:e8}(h:0<g.length):∀k,(ea g k)[0]?=some true
 |0=>by rw[ea,fV (by simp;exact h)]
 |k+1=>(og.pass g _).2 0 (nR h k)
theorem uF {g:e8}(h:sy g){x:Nat}:Reach g x↔(ea g g.length)[x]?=some true:=by
 refine⟨λa=> ?_,AW.ea g _ x⟩
 induction a with
 |root=>exact nR h.1 _
 |step _ hx b=>exact Gz (mc g _) (Hg h.1) b hx (h.at_ hx).2.2
structure Ql (g:e8)(M:List Bool)(st:List Nat):Prop where
 len:M.length=g.length
 snd:AW g M
 root:M[0]?=some true
 Xq:∀i∈st,M[i]?=some true
 cls:∀i,M[i]?=some true→i∉st→∀x∈(g.getD i iJ).2,M[x.2.toNat]?=some true
theorem Ql.start {g:e8}(h:0<g.length):Ql g ((List.replicate g.length false).set 0 true) [0]:=by
 refine⟨by simp,AW.ea g 0,nR h 0,λi a=>by rw[List.mem_singleton.1 a];exact nR h 0,λi hm a=> ?_⟩;rw[ic (λe=>a (bO.2 e.symm)),s8]at hm
 split at hm<;>simp at hm
theorem Ql.fin {g:e8}(a:sy g){M:List Bool}(h:Ql g M []):M=ea g g.length:=by
 refine og.Yw ⟨by rw[h.len,mc],λx hx=>(uF a).1 (h.snd x hx)⟩ ⟨by rw[h.len,mc],λx hx=> ?_⟩
 have:=(uF a).2 hx
 clear hx
 induction this with
 |root=>exact h.root
 |step _ hx b=>exact h.cls _ b (by simp) _ hx
structure rX (g:e8)(i k:Nat)(M:List Bool)(st:List Nat):Prop where
 len:M.length=g.length
 snd:AW g M
 root:M[0]?=some true
 me:M[i]?=some true
 Xq:∀j∈st,M[j]?=some true
 cls:∀j,M[j]?=some true→j≠i→j∉st→∀x∈(g.getD j iJ).2,M[x.2.toNat]?=some true
 upto:∀x∈(g.getD i iJ).2.take k,M[x.2.toNat]?=some true
theorem Ql.pop {g:e8}{M:List Bool}{st:List Nat}{i:Nat}(h:Ql g M (st++ [i])):rX g i 0 M st:=
 ⟨h.len,h.snd,h.root,h.Xq i (by simp),λj a=>h.Xq j (by simp[a]),λj hm b a=>h.cls j hm (by simp[a,b]),λx hx=>by simp at hx⟩
theorem rX.done {g:e8}{M:List Bool}{st:List Nat}{i:Nat}(h:rX g i (g.getD i iJ).2.length M st):Ql g M st:=
 ⟨h.len,h.snd,h.root,h.Xq,λj hm a=>by
  by_cases e:j=i
  ·subst e;intro x hx;exact h.upto x (by rw[kH];exact hx)
  ·exact h.cls j hm e a⟩
theorem rX.AJ {g:e8}{M:List Bool}{st:List Nat}{i k:Nat}{x:Int×Int}(h:rX g i k M st)(hx:(g.getD i iJ).2[k]?=some x)(hm:M[x.2.toNat]?=some true):rX g i (k+1) M st:=
 ⟨h.len,h.snd,h.root,h.me,h.Xq,h.cls,λy hy=>by
  rw[aa hx]at hy
  rcases cD.1 hy with hy|hy
  ·exact h.upto y hy
  ·rw[bO.1 hy];exact hm⟩
theorem rX.new {g:e8}(d:sy g){M:List Bool}{st:List Nat}{i k:Nat}{x:Int×Int}(h:rX g i k M st)(hx:(g.getD i iJ).2[k]?=some x):rX g i (k+1) (M.set x.2.toNat true) (st++ [x.2.toNat]):=by
 have c:=ae hx
 have f:=(d.at_ c).2.2
 have mono:=(og.set M x.2.toNat).2
 have new:(M.set x.2.toNat true)[x.2.toNat]?=some true:=fV (by rw[h.len];exact f)
 refine⟨by rw[cn];exact h.len,h.snd.set (Reach.step (h.snd i h.me) c),mono _ h.root,mono _ h.me,λj a=> ?_,λj hm l a y hy=> ?_,λy hy=> ?_⟩
 ·rcases cD.1 a with a|a
  ·exact mono _ (h.Xq j a)
  ·rw[bO.1 a];exact new
 ·have b:j∉st∧j≠x.2.toNat:=by simpa using a
  rw[ic (λe=>b.2 e.symm)]at hm;exact mono _ (h.cls j hm l b.1 y hy)
 ·rw[aa hx]at hy
  rcases cD.1 hy with hy|hy
  ·exact mono _ (h.upto y hy)
  ·rw[bO.1 hy];exact new
theorem Ra {M:List Bool}{i:Nat}(h:M[i]?=some false):pg (M.set i true)=pg M+1:=by
 induction M generalizing i with
 |nil=>cases h
 |cons b M a=>
  cases i with
  |zero=>simp at h;subst h;simp[pg]
  |succ i=>
   have:=a (i:=i) (by simpa using h)
   unfold pg at*
   cases b<;>simp_all<;>omega
theorem HW {nt nf nn:Int}{l:e8}{k:Nat}{t:KM}(ht:l[k]?=some t):fD nt nf nn k (l.drop k)=if t.1<0∨nt≤t.1 then(3,(k:Int))else if(Am nf nn k (-1) t.2).1≠0 then Am nf nn k (-1) t.2 else fD nt nf nn (k+1) (l.drop (k+1)):=by rw[bN ht,fD]
theorem LG {nt nf nn:Int}{l:e8}{k:Nat}(h:l.length≤k):fD nt nf nn k (l.drop k)=(0,0):=by rw[j4 h,fD]
theorem OA {nf nn i z:Int}{l:List (Int×Int)}{q:Nat}{x:Int×Int}(hx:l[q]?=some x):Am nf nn i z (l.drop q)=if x.1<0∨nf≤x.1∨x.2<0∨nn≤x.2 then(3,i)else if x.1≤z then(13,i)else Am nf nn i x.1 (l.drop (q+1)):=by rw[bN hx,Am]
theorem Sy {nf nn i z:Int}{l:List (Int×Int)}{q:Nat}(h:l.length≤q):Am nf nn i z (l.drop q)=(0,0):=by rw[j4 h,Am]
theorem dA (g:dD):(ay g).length=g.nodes.length:=aO ..
theorem ka {g:dD}{k:Nat}{t:dh}(h:g.nodes[k]?=some t):(ay g)[k]?=some (mD t):=by unfold ay;rw[bP,h];rfl
theorem GV (tv xv:aV)(ts:List re)(b:List jG)(g:dD):eC prog 83 #[.agg #[tv.1,xv.1],bA g] [sl n5 tv.1 ts,sl gY xv.1 b,aG g] (fv (fX ts.length b.length (ay g))):=by
 refine eC.UA (args:=[.agg #[tv.1,xv.1],bA g]) 86 func83 rfl ntmps83 rfl (λc=> ?_);refine go ?_
 refine St.jN (aG g) (λ_:Unit=>kb g) (λρ h=>⟨(),h⟩) λ_=> ?_
 refine St.cast (H':=[aB (sl bh g.nv.1 g.nodes),aB (aF cA g.nodes),aB (sl n5 tv.1 ts),aB (sl gY xv.1 b),aB (aG g)]) rfl ?_;refine St.wf tv.1 (λH I=> ?_);refine St.wf xv.1 (λr J=> ?_);refine St.wf g.nv.1 (λs K=> ?_)
 have u:=dA g
 refine go ?_;refine St.dJ (.mk rfl) rfl (λv=> ?_);refine St.dJ (.mk rfl) rfl (λy=> ?_);refine St.al (λA=> ?_);refine g10 ?_;refine St.gf _ rfl rfl (λa=>Ev.da (.mk rfl) vF) rfl ?_;refine St.gf _ rfl rfl (λa=>Ev.ke (ai.gv rfl a) oa trivial (by rfl)) rfl ?_;refine St.gf _ rfl rfl (λa=>Ev.fk (ai.gv rfl a) oa) rfl ?_;refine St.gf _ rfl rfl (λa=>Ev.gtr (ai.gv rfl a) (.mk rfl)) rfl ?_;refine g3 ?_;refine St.cq (λB=> ?_) (λB=> ?_)
 ·have j:fX ts.length b.length (ay g)=(2,-2):=by unfold fX;rw[aC (by omega)]
  refine g2 ?_;refine St.ee (Ev.call (fz 2 (-2)) Kg (.aX rfl rfl)) ?_;refine g5 ?_;refine St.rV [_] [] ?_;exact congrArg fv j.symm
 ·have j:fX ts.length b.length (ay g)=fD ts.length b.length g.nodes.length 0 (ay g):=by unfold fX;rw[aA (by omega),u]
  refine g12 ?_;refine St.lS (ι:=Nat) (λk T=>(24,iv k)::T) (λk=>k≤g.nodes.length∧fX ts.length b.length (ay g)=fD ts.length b.length g.nodes.length k ((ay g).drop k)) (λk=>g.nodes.length-k) 0 (aD.cons 2 rfl (aD.cons 3 rfl (aD.cons 4 rfl (aD.cons 22 rfl (aD.cons 23 rfl aD.nil))))) ⟨aP _,j⟩ ?_;intro k C;obtain⟨hk,m⟩:=C;refine g6 ?_;refine St.cq (λD=> ?_) (λD=> ?_)
  ·obtain⟨t,ht⟩:=aE (show k<g.nodes.length by omega)
   have E:=ae ht
   refine St.cK cA g.nodes (x:=t) E ?_;refine St.eZ (sl aw t.lv.1 t.aq) [cA t] (λρ h=>h _ (aQ ..)) ?_;refine St.wf t.lv.1 (λL M=> ?_)
   have d:=HW (nt:=ts.length) (nf:=b.length) (nn:=g.nodes.length) (ka ht)
   rw[←m]at d;refine g8 ?_;refine St.ee (Ev.jq (.mk rfl) ht we trivial jQ j5.eq) ?_;refine St.al (λN=> ?_);refine g11 ?_;refine St.gf _ rfl rfl (λa=>Ev.da (.mk rfl) tU) rfl ?_;refine St.gf _ rfl rfl (λa=>Ev.ke (ai.gv rfl a) gV trivial (by rfl)) rfl ?_;refine St.gf _ rfl rfl (λa=>Ev.da (.mk rfl) vE) rfl ?_;refine St.gf _ rfl rfl (λa=>Ev.ke (ai.gv rfl a) vy trivial (by rfl)) rfl ?_;refine St.gf _ rfl rfl (λa=>Ev.fk (ai.gv rfl a) vy) rfl ?_;refine St.gf _ rfl rfl (λa=>Ev.geq (ai.gv rfl a) (ai.gv rfl a)) rfl ?_;refine g3 ?_;refine St.cq (λF=> ?_) (λF=> ?_)
   ·rw[aC (show(mD t).1<0∨(ts.length:Int)≤(mD t).1 from(by omega:t.type<0∨(ts.length:Int)≤t.type))]at d
    refine g3 ?_;refine St.ee (Ev.call (fz 3 k) Kg (.aX rfl rfl)) ?_;refine g10 ?_;refine St.rV [_] [] ?_;exact congrArg fv d.symm
   ·rw[aA (show ¬((mD t).1<0∨(ts.length:Int)≤(mD t).1)from(by omega:¬(t.type<0∨(ts.length:Int)≤t.type)))]at d
    refine g16 ?_;refine St.tn (ι:=Nat) (κ:=Int) (λq z T=>(45,iv q)::(7,iv z)::T) (λq z=>[aB (sl aw t.lv.1 t.aq),aW A (.cells [iv 0,iv 0].toArray 35 (0,0)),aW v (.cells [tv.1,xv.1].toArray 25 (0,0)),aW y (.cells [g.nv.1].toArray 30 (0,0)),aB (sl bh g.nv.1 g.nodes),aB (aF cA g.nodes),aB (sl n5 tv.1 ts),aB (sl gY xv.1 b),aB (aG g)]) (λq z=>q≤t.aq.length∧Am b.length g.nodes.length k (-1) (mD t).2=Am b.length g.nodes.length k z ((t.aq.map fS).drop q)) (λq z=>t.aq.length-q) 0 (-1) (aD.cons 2 rfl (aD.cons 3 rfl (aD.cons 4 rfl (aD.cons 5 rfl (aD.cons 22 rfl (aD.cons 23 rfl (aD.cons 24 rfl (aD.cons 43 rfl (aD.cons 44 rfl aD.nil))))))))) ⟨aP _,rfl⟩ ?_;rintro q z ⟨O,f⟩;refine g6 ?_;refine St.cq (λn=> ?_) (λn=> ?_)
    ·obtain⟨p,hp⟩:=aE (show q<t.aq.length by omega)
     have e:=OA (nf:=b.length) (nn:=g.nodes.length) (i:=k) (z:=z) (l:=t.aq.map fS) (q:=q) (x:=fS p) (by rw[bP,hp];rfl)
     refine g7 ?_;refine St.ee (Ev.jq (.mk rfl) hp lE trivial dm j5.eq) ?_;refine St.al (λP=> ?_);refine g10 ?_;refine St.gf _ rfl rfl (λa=>Ev.da (.mk rfl) D1) rfl ?_;refine St.gf _ rfl rfl (λa=>Ev.ke (ai.gv rfl a) gV trivial (by rfl)) rfl ?_;refine St.gf _ rfl rfl (λa=>Ev.da (.mk rfl) D4) rfl ?_;refine St.gf _ rfl rfl (λa=>Ev.ke (ai.gv rfl a) G7 trivial (by rfl)) rfl ?_;refine St.gf _ rfl rfl (λa=>Ev.fk (ai.gv rfl a) G7) rfl ?_;refine St.gf _ rfl rfl (λa=>Ev.geq (ai.gv rfl a) (ai.gv rfl a)) rfl ?_;refine g2 ?_;refine St.gf _ rfl rfl (λa=>Ev.da (.mk rfl) tX) rfl ?_;refine St.gf _ rfl rfl (λa=>Ev.ke (ai.gv rfl a) gV trivial (by rfl)) rfl ?_;refine St.gf _ rfl rfl (λa=>Ev.lss (ai.gv rfl a) (.mk rfl)) rfl ?_;refine g2 ?_;refine St.gf _ rfl rfl (λa=>Ev.da (.mk rfl) tX) rfl ?_;refine St.gf _ rfl rfl (λa=>Ev.ke (ai.gv rfl a) gV trivial (by rfl)) rfl ?_;refine St.gf _ rfl rfl (λa=>Ev.da (.mk rfl) vF) rfl ?_;refine St.gf _ rfl rfl (λa=>Ev.ke (ai.gv rfl a) oa trivial (by rfl)) rfl ?_;refine St.gf _ rfl rfl (λa=>Ev.fk (ai.gv rfl a) oa) rfl ?_;refine St.gf _ rfl rfl (λa=>Ev.geq (ai.gv rfl a) (ai.gv rfl a)) rfl ?_;refine g3 ?_;refine St.cq (λG=> ?_) (λG=> ?_)
     ·rw[aC (show(fS p).1<0∨(b.length:Int)≤(fS p).1∨(fS p).2<0∨(g.nodes.length:Int)≤(fS p).2 from(by omega:p.dF<0∨(b.length:Int)≤p.dF∨p.tqo<0∨(g.nodes.length:Int)≤p.tqo))]at e
      rw[f,e,aC (by show(3:Int)≠0;decide)]at d;refine g3 ?_;refine St.ee (Ev.call (fz 3 k) Kg (.aX rfl rfl)) ?_;refine g14 ?_;refine St.rV [_] [] ?_;exact congrArg fv d.symm
     ·rw[aA (show ¬((fS p).1<0∨(b.length:Int)≤(fS p).1∨(fS p).2<0∨(g.nodes.length:Int)≤(fS p).2)from(by omega:¬(p.dF<0∨(b.length:Int)≤p.dF∨p.tqo<0∨(g.nodes.length:Int)≤p.tqo)))]at e
      refine g11 ?_;refine St.cq (λo=> ?_) (λo=> ?_)
      ·rw[aC (show(fS p).1≤z from(by omega:p.dF≤z))]at e
       rw[f,e,aC (by show(13:Int)≠0;decide)]at d;refine g3 ?_;refine St.ee (Ev.call (fz 13 k) Kg (.aX rfl rfl)) ?_;refine g14 ?_;refine St.rV [_] [] ?_;exact congrArg fv d.symm
      ·rw[aA (show ¬(fS p).1≤z from(by omega:¬p.dF≤z))]at e
       refine g14 ?_;refine St.uk (q+1) p.dF ⟨by omega,by rw[f,e];rfl⟩
    ·rw[Sy (by rw[aO];omega)]at f
     rw[aA (by rw[f];decide)]at d;refine g11 ?_;refine St.aS (k+1) ⟨by omega,by rw[d]⟩
  ·rw[LG (by omega)]at m
   refine g7 ?_;refine St.ee (Ev.build (bF.nil) (λw=>jX w)) ?_;refine g4 ?_;refine St.rV [_] [] ?_;exact congrArg fv m.symm
theorem BV {M:List Bool}{k:Nat}{b:Bool}(h:M[k]?=some b):p5 (M.drop k)=if b=false then 0 else if p5 (M.drop (k+1))<0 then-1 else p5 (M.drop (k+1))+1:=by rw[bN h,p5]
theorem Nt {M:List Bool}{k:Nat}(h:M.length≤k):p5 (M.drop k)= -1:=by rw[j4 h,p5]
def mX (M:List Bool)(k:Nat):Prop:=p5 M=if p5 (M.drop k)<0 then-1 else p5 (M.drop k)+k
theorem mX.nil (M:List Bool):mX M 0:=by
 unfold mX;rw[List.drop_zero]
 have:∀M:List Bool,p5 M= -1∨0≤p5 M:=by
  intro M
  induction M with
  |nil=>left;rfl
  |cons b M a=>
   rw[p5]
   split
   ·right;decide
   ·split
    ·left;rfl
    ·right;omega
 rcases this M with h|h
 ·rw[h];rfl
 ·rw[aA (by omega)];omega
theorem mX.step {M:List Bool}{k:Nat}(h:mX M k)(b:M[k]?=some true):mX M (k+1):=by
 unfold mX at h⊢
 have a:=BV b
 rw[aA (show ¬(true=false) by decide)]at a
 by_cases e:p5 (M.drop (k+1))<0
 ·rw[aC e]at a⊢
  rw[h,a];rfl
 ·rw[aA e]at a⊢
  rw[h,a,aA (by omega)];omega
theorem mX.hit {M:List Bool}{k:Nat}(h:mX M k)(b:M[k]?=some false):p5 M=k:=by
 unfold mX at h
 have a:=BV b
 rw[aC rfl]at a
 rw[h,a,aA (by decide)];omega
theorem mX.fin {M:List Bool}{k:Nat}(h:mX M k)(a:M.length≤k):p5 M= -1:=by
 unfold mX at h
 rw[h,Nt a];rfl
def eK:Rp Bool:=⟨1,by decide,λa=>[.bool a],λ_=>True,λ_=>rfl,λx u h=>by rw[bO.1 h];rfl⟩
theorem pG (U:List Bool):rows eK U=U.map λa=>Value.bool a:=by
 show U.flatMap (λa=>[Value.bool a])=_
 induction U with
 |nil=>rfl
 |cons a U b=>rw[jS,b];rfl
theorem P5 {U:List Bool}{k:Nat}{a:Bool}(h:U[k]?=some a):(rows eK U)[k*1+0]?=some (.bool a):=by
 rw[pG,gW,j3,bP,h];rfl
theorem FY {U:List Bool}{k:Nat}{a:Bool}:(rows eK U).set (k*1+0) (.bool a)=rows eK (U.set k a):=by
 rw[pG,pG,gW,j3,jk]
theorem P6 (n:Nat):List.replicate n (Value.bool false)=rows eK (List.replicate n false):=by rw[pG,sB]
theorem GS (u:Value)(M:List Bool):eC prog 117 #[u,.bool false] [sl eK u M] (iv (p5 M)):=by
 refine eC.nJ (args:=[u,.bool false]) 19 func117 rfl ntmps117 rfl (λc=> ?_);refine go ?_;refine St.wf u (λg l=> ?_);refine g13 ?_;refine St.lS (ι:=Nat) (λk T=>(8,iv k)::T) (λk=>k≤M.length∧mX M k) (λk=>M.length-k) 0 (aD.cons 0 rfl (aD.cons 1 rfl (aD.cons 7 rfl aD.nil))) ⟨aP _,mX.nil M⟩ ?_;intro k h;obtain⟨hk,a⟩:=h;refine g6 ?_;refine St.cq (λi=> ?_) (λi=> ?_)
 ·obtain⟨b,f⟩:=aE (show k<M.length by omega)
  refine g17 ?_;refine St.ee (Ev.RB (.mk rfl) (.mk rfl) IL) ?_;refine g2 ?_;refine St.cond _ rfl (λd=> ?_) (λd=> ?_)
  ·skip
   have e:M[k]?=some false:=by rw[f];cases b;rfl;cases d
   refine g12 ?_;refine St.rV [_] [] ?_;exact congrArg iv (a.hit e).symm
  ·skip
   have j:M[k]?=some true:=by rw[f];cases b;cases d;rfl
   refine g8 ?_;refine St.aS (k+1) ⟨by omega,a.step j⟩
 ·refine g11 ?_
  refine St.rV [_] [] ?_;exact congrArg iv (a.fin (by omega)).symm
abbrev cX (l:List Nat):List Int:=l.map λi:Nat=>(i:Int)
theorem jO (U:List Int):rows aJ U=U.map λa=>iv a:=by
 show U.flatMap (λa=>[iv a])=_
 induction U with
 |nil=>rfl
 |cons a U b=>rw[jS,b];rfl
theorem LV {l:List Nat}{i:Nat}:(rows aJ (cX (l++ [i])))[l.length*1+0]?=some (iv (i:Nat)):=by
 rw[jO,gW,j3,cX,kG,bP,lp (aR _),ff];rfl
theorem P9 {l:List Nat}{i:Nat}:(rows aJ (cX (l++ [i]))).take (l.length*1)=rows aJ (cX l):=by
 rw[jO,jO,gW,cX,cX,cP,cP];exact List.take_left' (by simp)
theorem vd {l:List Nat}{p:Int}(h:0≤p):rows aJ (cX l)++ [iv p]=rows aJ (cX (l++ [p.toNat])):=by
 rw[jO,jO,cX,cX,cP,cP,fN,lI,fN,lI,ua h]
theorem TY {α:Type}{l:List α}(h:0<l.length):∃m x,l=m++ [x]:=by
 rcases List.eq_nil_or_concat l with rfl|⟨m,x,rfl⟩
 ·simp at h
 ·exact⟨m,x,by rw[List.concat_eq_append]⟩
theorem yN (g:dD)(e:sy (ay g))(X:g.nodes.length≤60):eC prog 86 #[bA g] [aG g] (iv (Yg (ay g))):=by
 refine eC.nJ (args:=[bA g]) 58 func86 rfl ntmps86 rfl (λc=> ?_);refine go ?_
 refine St.jN (aG g) (λ_:Unit=>kb g) (λρ h=>⟨(),h⟩) λ_=> ?_
 refine St.cast (H':=[aB (sl bh g.nv.1 g.nodes),aB (aF cA g.nodes),aB (aG g)]) rfl ?_
 have F:=dA g
 have Y:0<g.nodes.length:=by have:=e.1;omega
 refine go ?_;refine St.dJ (.mk rfl) rfl (λy=> ?_);refine g8 ?_;refine St.sS (m:=g.nodes.length) (.mk rfl) (.mk rfl) jj Bt Qk YL rfl rfl (by omega) rfl rfl (λa=> ?_);refine St.aM (.slice (some ⟨a,0,none⟩) g.nodes.length g.nodes.length) rfl (P6 _) ?_;refine g6 ?_;refine St.ee (Ev.dZ (k:=0) (.mk rfl) (.mk rfl) jj Bt (by omega) (by omega)) ?_;refine St.cI (.mk rfl) (.mk rfl) Bt rfl (by omega) (by decide) ?_;refine St.aM (.slice (some ⟨a,0,none⟩) g.nodes.length g.nodes.length) rfl FY ?_;refine g5 ?_;refine St.gX rfl (.au rfl) bJ dK eS rfl rfl (by simp[Value.cells]) rfl rfl (λA=> ?_);refine St.aM (.slice (some ⟨A,0,none⟩) 1 1) (show _=([0]:List Nat).length from rfl) (show _=rows aJ (cX [0])from rfl) ?_;refine g4 ?_;refine St.tn (ι:=Unit) (κ:=Value×List Nat×List Bool) (λu z T=>(4,z.1)::T) (λu z=>[row (.slice (some ⟨a,0,none⟩) g.nodes.length g.nodes.length) 4 1 g.nodes.length (rows eK z.2.2),row z.1 3 1 (z.2.1).length (rows aJ (cX (z.2.1))),aW y (.cells [g.nv.1].toArray 30 (0,0)),aB (sl bh g.nv.1 g.nodes),aB (aF cA g.nodes)]) (λu z=>Ql (ay g) z.2.2 z.2.1∧g.nodes.length-pg z.2.2+z.2.1.length≤g.nodes.length+1) (λu z=>g.nodes.length-pg z.2.2+z.2.1.length) () ((.slice (some ⟨A,0,none⟩) 1 1),[0],(List.replicate g.nodes.length false).set 0 true) (aD.cons 1 rfl (aD.cons 2 rfl (aD.cons 3 rfl aD.nil))) ⟨by have:=Ql.start e.1;rw[F]at this;exact this,by show _-_+1≤_;omega⟩ ?_;rintro u ⟨j,st,M⟩ ⟨hd,l⟩
 dsimp only at hd l⊢
 have G:=hd.len
 refine g8 ?_;refine St.cq (λH=> ?_) (λH=> ?_)
 ·obtain⟨s0,i,rfl⟩:=TY (show 0<st.length by omega)
  have Z:(s0++ [i]).length=s0.length+1:=by rw[bQ];rfl
  have I:=ah (hd.Xq i (by simp))
  obtain⟨t,ht⟩:=aE (show i<g.nodes.length by omega)
  have J:=ae ht
  have B:(ay g).getD i iJ=mD t:=by rw[ar,ka ht];rfl
  have K:=hd.pop
  refine St.cK cA g.nodes (x:=t) J ?_;refine St.eZ (sl aw t.lv.1 t.aq) [cA t] (λρ h=>h _ (aQ ..)) ?_;refine St.wf t.lv.1 (λSO SN=> ?_);refine g9 ?_;refine St.ee (Ev.dZ (k:=s0.length) (.mk rfl) (.mk rfl) bJ dK (by omega) (by omega)) ?_;refine St.ee (Ev.cu (.mk rfl) gV trivial (by omega) LV) ?_;refine g9 ?_;refine St.ee (Ev.pI (h:=s0.length) (.mk rfl) (.mk rfl) bJ dK (by omega) (by omega)) ?_;refine St.DS j s0.length (by omega) ?_;refine St.aM (pJ j 1 0 s0.length) rfl P9 ?_;refine g16 ?_;refine St.tn (ι:=Nat) (κ:=Value×List Nat×List Bool) (λq z T=>(36,iv q)::(4,z.1)::T) (λq z=>[row (.slice (some ⟨a,0,none⟩) g.nodes.length g.nodes.length) 4 1 g.nodes.length (rows eK z.2.2),row z.1 3 1 (z.2.1).length (rows aJ (cX (z.2.1))),aW y (.cells [g.nv.1].toArray 30 (0,0)),aB (sl aw t.lv.1 t.aq),aB (sl bh g.nv.1 g.nodes),aB (aF cA g.nodes)]) (λq z=>q≤t.aq.length∧rX (ay g) i q z.2.2 z.2.1∧g.nodes.length-pg z.2.2+z.2.1.length=g.nodes.length-pg M+s0.length) (λq z=>t.aq.length-q) 0 (pJ j 1 0 s0.length,s0,M) (aD.cons 1 rfl (aD.cons 2 rfl (aD.cons 3 rfl (aD.cons 34 rfl (aD.cons 35 rfl aD.nil))))) ⟨aP _,K,rfl⟩ ?_;rintro q ⟨C,f,W⟩ ⟨hq,d,D⟩
  dsimp only at d D⊢
  have L:=d.len
  have N:=Ct W
  refine g6 ?_;refine St.cq (λO=> ?_) (λO=> ?_)
  ·obtain⟨p,hp⟩:=aE (show q<t.aq.length by omega)
   have n:((ay g).getD i iJ).2[q]?=some (fS p):=by rw[B];show(t.aq.map fS)[q]?=_;rw[bP,hp];rfl
   obtain⟨_,o,E⟩:=e.at_ (ae n)
   replace o:0≤p.tqo:=o
   replace E:p.tqo.toNat<(ay g).length:=E
   obtain⟨b,r⟩:=aE (show p.tqo.toNat<W.length by omega);refine g7 ?_;refine St.ee (Ev.jq (.mk rfl) hp lE trivial dm j5.eq) ?_;refine St.al (λb7=> ?_);refine g8 ?_;refine St.ee (Ev.dZ (k:=p.tqo.toNat) (.mk rfl) (.mk rfl) jj Bt (by omega) (by omega)) ?_;refine St.ee (Ev.cu (.mk rfl) IL trivial (by omega) (P5 r)) ?_;refine g3 ?_;refine St.cond _ rfl (λs=> ?_) (λs=> ?_)
   ·skip
    have v:W[p.tqo.toNat]?=some false:=by rw[r];cases b;rfl;cases s
    have w:=Ra v
    have P:=Ct (W.set p.tqo.toNat true)
    rw[cn]at P
    have Q:=d.new e n
    refine g5 ?_;refine St.ee (Ev.dZ (k:=p.tqo.toNat) (.mk rfl) (.mk rfl) jj Bt (by omega) (by omega)) ?_;refine St.cI (.mk rfl) (.mk rfl) Bt rfl (by omega) (by decide) ?_;refine St.aM (.slice (some ⟨a,0,none⟩) g.nodes.length g.nodes.length) rfl FY ?_;refine g6 ?_;refine St.gX rfl (.au rfl) bJ dK eS rfl rfl (by simp[Value.cells]) rfl rfl (λR=> ?_);refine St.aj (.mk rfl) (.mk rfl) bJ dK eS xW (by simp[Value.oneCell',Value.cells]) (by omega) (by omega) rfl rfl rfl rfl (λv54 S=> ?_);refine St.aM v54 (show _=(f++ [p.tqo.toNat]).length from cS) (show _=rows aJ (cX (f++ [p.tqo.toNat]))from vd o) ?_;refine g9 ?_;refine St.uk (q+1) (v54,f++ [p.tqo.toNat],W.set p.tqo.toNat true) ⟨by omega,Q,by rw[w,bQ];simp only[List.length_cons,List.length_nil];omega⟩
   ·skip
    have U:W[p.tqo.toNat]?=some true:=by rw[r];cases b;cases s;rfl
    have hold:=d.AJ n U
    refine g8 ?_;refine St.uk (q+1) (C,f,W) ⟨by omega,hold,D⟩
  ·obtain rfl:q=t.aq.length:=by omega
   refine g6 ?_;rw[show t.aq.length=((ay g).getD i iJ).2.length by rw[B];exact(aO _).symm]at d;refine St.nI () (C,f,W) ⟨d.done,by dsimp only;omega⟩ (by dsimp only;rw[bQ];simp only[List.length_cons,List.length_nil];omega) (by repeat(first|exact Sub.nil|refine Sub.cons (by first|rfl|exact congrArg (λz=>some (iv z)) (by first|omega|(dsimp only;omega))|exact congrArg (λz=>some (Value.bool z)) (by first|assumption|exact iZ (by assumption))) ?_)) (λ_ hw=>hw.sub)
 ·obtain rfl:st=[]:=lG (by omega)
  have V:=hd.fin e
  refine St.bS (.slice (some ⟨a,0,none⟩) g.nodes.length g.nodes.length) eK M rfl (by omega) (λ_ _=>trivial) ?_;refine g8 ?_;refine St.ee (Ev.call (GS (.slice (some ⟨a,0,none⟩) g.nodes.length g.nodes.length) M) ZS (.aX rfl rfl)) ?_;refine g4 ?_;refine St.rV [_] [] ?_;exact congrArg iv (by rw[V];rfl)
theorem OC {nf nn i:Int}:∀{l:List (Int×Int)} {z:Int},(Am nf nn i z l).1=0→∀x∈l,0≤x.1∧x.1<nf∧0≤x.2∧x.2<nn
 | [],_,_=>λx hx=>by cases hx
 |y::l,z,h=>by
  rw[Am]at h
  by_cases h1:y.1<0∨nf≤y.1∨y.2<0∨nn≤y.2
  ·rw[aC h1]at h;exact absurd h (by simp)
  rw[aA h1]at h
  by_cases a:y.1≤z
  ·rw[aC a]at h;exact absurd h (by simp)
  rw[aA a]at h;intro x hx
  rcases cJ.1 hx with rfl|hx
  ·omega
  ·exact OC h x hx
theorem tx {nt nf nn:Int}:∀{l:e8} {i:Nat},(fD nt nf nn i l).1=0→∀n∈l,(0≤n.1∧n.1<nt)∧∀x∈n.2,0≤x.1∧x.1<nf∧0≤x.2∧x.2<nn
 | [],_,_=>λx hx=>by cases hx
 |y::l,i,h=>by
  rw[fD]at h
  by_cases h1:y.1<0∨nt≤y.1
  ·rw[aC h1]at h;exact absurd h (by simp)
  rw[aA h1]at h
  by_cases a:(Am nf nn i (-1) y.2).1≠0
  ·rw[aC a]at h;exact absurd h a
  rw[aA a]at h;intro x hx
  rcases cJ.1 hx with rfl|hx
  ·exact⟨by omega,OC (ez.1 a)⟩
  ·exact tx h x hx
theorem zF {nt nf:Int}{g:e8}(h:(fX nt nf g).1=0):0<g.length∧g.length≤60∧∀n∈g,(0≤n.1∧n.1<nt)∧∀x∈n.2,0≤x.1∧x.1<nf∧0≤x.2∧x.2<g.length:=by
 unfold fX at h
 by_cases h1:g.length=0∨60<g.length
 ·rw[aC h1]at h;exact absurd h (by simp)
 rw[aA h1]at h;exact⟨by omega,by omega,tx h⟩
theorem OG {nt nf:Int}{g:e8}(h:(fX nt nf g).1=0):sy g:=by
 obtain⟨h1,_,a⟩:=zF h;exact⟨h1,λn b x hx=>by have:=(a n b).2 x hx;omega⟩
theorem BB (a b:aV)(T:List ek)(e:im T)(i j:Int)(c:0≤i∧i.toNat<T.length)(d:0≤j∧j.toNat<T.length):eC prog 84 #[kB a b,iv i,iv j] [sl bH a.1 (dg T),sl bH b.1 (de T)] (.bool (iD T i.toNat j.toNat)):=by
 have:=ME a b T e i.toNat j.toNat c.2 d.2
 rw[ua c.1,ua d.1]at this;exact this
theorem NF {T:List ek}{Fs:List oe}{G:e8}{k:Nat}(hk:k<G.length)(h:tK T Fs G k=true)(a:∀i,i<k→tK T Fs G i=false):mV T Fs G=some k:=by
 unfold mV;rw[List.find?_range_eq_some]
 exact⟨h,dt.2 hk,λj b=>by rw[a j b];rfl⟩
theorem NG {T:List ek}{Fs:List oe}{G:e8}(a:∀i,i<G.length→tK T Fs G i=false):mV T Fs G=none:=by
 unfold mV;rw[List.find?_eq_none]
 intro b h;rw[a b (dt.1 h)];decide
theorem C7 {T:List ek}{Fs:List oe}{G:e8}(h:(fX T.length Fs.length G).1≠0):dP T Fs G=fX T.length Fs.length G:=by unfold dP;rw[aC h]
theorem Lr {T:List ek}{Fs:List oe}{G:e8}{i:Nat}(h:¬(fX T.length Fs.length G).1≠0)(a:mV T Fs G=some i):dP T Fs G=(12,(i:Int)):=by unfold dP;rw[aA h,a]
theorem Ls {T:List ek}{Fs:List oe}{G:e8}(h:¬(fX T.length Fs.length G).1≠0)(a:mV T Fs G=none):dP T Fs G=if 0≤Yg G then(5,Yg G)else(0,0):=by unfold dP;rw[aA h,a]
theorem q7 (tv xv o r:aV)(ts:List re)(b:List jG)(g:dD)(G:im (ts.map dG))(M:∀f∈b,0≤f.Bc∧f.Bc<ts.length∧0≤f.value∧f.value<ts.length):eC prog 49 #[.agg #[tv.1,xv.1],kB o r,bA g] [sl n5 tv.1 ts,sl gY xv.1 b,sl bH o.1 (dg (ts.map dG)),sl bH r.1 (de (ts.map dG)),aG g] (fv (dP (ts.map dG) (b.map gw) (ay g))):=by
 refine eC.Z8 (args:=[.agg #[tv.1,xv.1],kB o r,bA g]) 74 func49 rfl ntmps49 rfl (λc=> ?_);refine go ?_
 refine St.jN (aG g) (λ_:Unit=>kb g) (λρ h=>⟨(),h⟩) λ_=> ?_
 refine St.cast (H':=[aB (sl bh g.nv.1 g.nodes),aB (aF cA g.nodes),aB (sl n5 tv.1 ts),aB (sl gY xv.1 b),aB (sl bH o.1 (dg (ts.map dG))),aB (sl bH r.1 (de (ts.map dG))),aB (aG g)]) rfl ?_
 have N:=dA g
 have B:(ts.map dG).length=ts.length:=aO ..
 have C:(b.map gw).length=b.length:=aO ..
 refine St.wf g.nv.1 (λO Y=> ?_);refine go ?_;refine St.dJ (.mk rfl) rfl (λZ=> ?_);refine St.dJ (.mk rfl) rfl (λb4=> ?_);refine St.dJ (.mk rfl) rfl (λb5=> ?_);refine St.al (λb6=> ?_);refine g7 ?_;refine St.ee (Ev.call (GV tv xv ts b g) ahY (.aX rfl rfl)) ?_;refine St.al (λb7=> ?_);refine g10 ?_;refine St.cond _ rfl (λD=> ?_) (λD=> ?_)
 ·skip
  have s:(fX (ts.map dG).length (b.map gw).length (ay g)).1≠0:=by rw[B,C];simpa using D
  have d:=C7 s
  rw[B,C]at d;refine g8 ?_;refine St.rV [_] [] ?_;exact congrArg fv d.symm
 ·skip
  have s:¬(fX (ts.map dG).length (b.map gw).length (ay g)).1≠0:=by rw[B,C];simpa using D
  have P:=OG (ez.1 s)
  obtain⟨hg0,Q,H⟩:=zF (ez.1 s);refine g12 ?_;refine St.lS (ι:=Nat) (λk T=>(24,iv k)::T) (λk=>k≤g.nodes.length∧∀i,i<k→tK (ts.map dG) (b.map gw) (ay g) i=false) (λk=>g.nodes.length-k) 0 (aD.cons 3 rfl (aD.cons 4 rfl (aD.cons 5 rfl (aD.cons 6 rfl (aD.cons 22 rfl (aD.cons 23 rfl aD.nil)))))) ⟨aP _,λi E=>absurd E (by omega)⟩ ?_;intro k F;obtain⟨hk,e⟩:=F;refine g6 ?_;refine St.cq (λR=> ?_) (λR=> ?_)
  ·obtain⟨t,ht⟩:=aE (show k<g.nodes.length by omega)
   have S:=ae ht
   refine St.cK cA g.nodes (x:=t) S ?_;refine St.eZ (sl aw t.lv.1 t.aq) [cA t] (λρ h=>h _ (aQ ..)) ?_;refine St.wf t.lv.1 (λSO SN=> ?_)
   have I:(ay g).getD k iJ=mD t:=by rw[ar,ka ht];rfl
   obtain⟨J,U⟩:=H (mD t) (ae (ka ht))
   replace J:0≤t.type∧t.type<((ts.map dG).length:Int):=J
   refine g8 ?_;refine St.ee (Ev.jq (.mk rfl) ht we trivial jQ j5.eq) ?_;refine St.al (λb9=> ?_);refine g13 ?_;refine St.lS (ι:=Nat) (λq T=>(32,iv q)::T) (λq=>q≤t.aq.length∧∀j,j<q→∀x,(mD t).2[j]?=some x→Ih (ts.map dG) (b.map gw) (ay g) t.type x=false) (λq=>t.aq.length-q) 0 (aD.cons 3 rfl (aD.cons 4 rfl (aD.cons 5 rfl (aD.cons 6 rfl (aD.cons 8 rfl (aD.cons 9 rfl (aD.cons 22 rfl (aD.cons 23 rfl (aD.cons 24 rfl (aD.cons 30 rfl (aD.cons 31 rfl aD.nil))))))))))) ⟨aP _,λj v=>absurd v (by omega)⟩ ?_;intro q F;obtain⟨hq,K⟩:=F;refine g6 ?_;refine St.cq (λV=> ?_) (λV=> ?_)
   ·obtain⟨p,hp⟩:=aE (show q<t.aq.length by omega)
    have l:(mD t).2[q]?=some (fS p):=by show(t.aq.map fS)[q]?=_;rw[bP,hp];rfl
    have y:=U (fS p) (ae l)
    replace y:0≤p.dF∧p.dF<((b.map gw).length:Int)∧0≤p.tqo∧p.tqo<((ay g).length:Int):=y
    obtain⟨fe,m⟩:=aE (show p.dF.toNat<b.length by omega);obtain⟨u,hu⟩:=aE (show p.tqo.toNat<g.nodes.length by omega)
    have W:=M fe (ae m)
    have z:=(H (mD u) (ae (ka hu))).1
    replace z:0≤u.type∧u.type<((ts.map dG).length:Int):=z
    have L:(!iD (ts.map dG) t.type.toNat fe.Bc.toNat|| !iD (ts.map dG) u.type.toNat fe.value.toNat)=Ih (ts.map dG) (b.map gw) (ay g) t.type (fS p):=by
     unfold Ih
     rw[show(fS p).1=p.dF from rfl,show(fS p).2=p.tqo from rfl,ar,bP,m,ar,ka hu];rfl
    refine g7 ?_;refine St.ee (Ev.jq (.mk rfl) hp lE trivial dm j5.eq) ?_;refine St.al (λYJ=> ?_);refine g9 ?_;refine St.ee (Ev.cM (k:=p.dF.toNat) (.mk rfl) (.mk rfl) G7 Bp (by omega) (by omega)) ?_;refine St.ee (Ev.jq (.mk rfl) m underlying135 trivial Bp j5.eq) ?_;refine St.al (λR4=> ?_);refine g4 ?_;refine St.rq mixed (by kernel_rfl) (Mm.drawn _ _) ?_;refine g5 ?_;refine Sq.ee (Ev.call (BB o r (ts.map dG) G t.type fe.Bc ⟨by omega,by omega⟩ ⟨by omega,by omega⟩) aaA (.ej rfl rfl rfl)) ?_;refine g2 ?_;refine Sq.gf _ rfl rfl (λa=>Ev.XC (.mk rfl) wc trivial (by exact wY)) rfl ?_;refine Sq.gf _ rfl rfl (λa=>Ev.da (.mk rfl) vF) rfl ?_;refine Sq.gf _ rfl rfl (λa=>Ev.ke (ai.gv rfl a) oa trivial (by rfl)) rfl ?_;refine Sq.gf _ rfl rfl (λa=>Ev.da (.mk rfl) tX) rfl ?_;refine Sq.gf _ rfl rfl (λa=>Ev.ke (ai.gv rfl a) gV trivial (by rfl)) rfl ?_;refine Sq.gf _ rfl rfl (λa=>Ev.cM (k:=p.tqo.toNat) (ai.gv rfl a) (ai.gv rfl a) oa jQ (by first|omega|(simp only[fJ]at a;omega)) (by first|omega|(simp only[fJ]at a;omega))) rfl ?_;refine Sq.gf _ rfl rfl (λa=>Ev.UY (ai.gv rfl a) (by first|omega|(simp only[fJ]at a;omega)) tU) rfl ?_;refine Sq.gf _ rfl rfl (λa=>Ev.ld1 (ai.gv rfl a) hu gV trivial rfl) rfl ?_;refine Sq.gf _ rfl rfl (λa=>Ev.da (.mk rfl) D0) rfl ?_;refine Sq.gf _ rfl rfl (λa=>Ev.ke (ai.gv rfl a) gV trivial (by rfl)) rfl ?_;refine Sq.gf _ rfl rfl (λa=>Ev.call (BB o r (ts.map dG) G u.type fe.value ⟨by omega,by omega⟩ ⟨by omega,by omega⟩) aaA (.cons (ai.gv rfl a) (.cons (ai.gv rfl a) (.cons (ai.gv rfl a) .nil)))) rfl ?_;refine Sq.gf _ rfl rfl (λa=>Ev.not (ai.gv rfl a)) rfl ?_;refine g3 ?_;refine St.cond _ rfl (λA=> ?_) (λA=> ?_)
    ·skip
     rw[L]at A
     have n:tK (ts.map dG) (b.map gw) (ay g) k=true:=by unfold tK;rw[I,nb];exact⟨fS p,ae l,A⟩
     have d:=Lr s (NF (by omega) n e)
     refine g3 ?_;refine St.ee (Ev.call (fz 12 k) Kg (.aX rfl rfl)) ?_;refine g13 ?_;refine St.rV [_] [] ?_;exact congrArg fv d.symm
    ·skip
     rw[L]at A;refine g8 ?_;refine St.aS (q+1) ⟨by omega,λj v x hx=>by rcases eO j q with h|h;exact K j h x hx;rw[show j=q by omega,l]at hx;cases hx;exact A⟩
   ·refine g11 ?_
    have n:tK (ts.map dG) (b.map gw) (ay g) k=false:=by
     unfold tK;rw[I,List.any_eq_false]
     intro x hx;obtain⟨j,v⟩:=CC hx
     rw[show(mD t).1=t.type from rfl,K j (by have:=ah v;rw[show(mD t).2.length=t.aq.length from aO _]at this;omega) x v];decide
    refine St.aS (k+1) ⟨by omega,λi E=>by rcases eO i k with h|h;exact e i h;rw[show i=k by omega];exact n⟩
  ·have d:=Ls s (NG (by rw[N];intro i E;exact e i (by omega)))
   refine g9 ?_;refine St.ee (Ev.call (yN g P (by omega)) ahZ (.au rfl)) ?_;refine g9 ?_;refine St.cq (λX=> ?_) (λX=> ?_)
   ·rw[aC (by omega)]at d
    refine g3 ?_;refine St.ee (Ev.call (fz 5 (Yg (ay g))) Kg (.aX rfl rfl)) ?_;refine g5 ?_;refine St.rV [_] [] ?_;exact congrArg fv d.symm
   ·rw[aA (by omega)]at d
    refine g4 ?_;refine St.ee (Ev.build (bF.nil) (λw=>jX w)) ?_;refine g4 ?_;refine St.rV [_] [] ?_;exact congrArg fv d.symm
def oG (a b:Int):Int:=if a<b then-1 else if b<a then 1 else 0
def Asc (l:List dx):Prop:=∀(i j:Nat) (x y:dx),i<j→l[i]?=some x→l[j]?=some y→x.dF<y.dF
def ae8 (l:List dx)(k:Int)(v:Value):Prop:=∃(i:Nat) (b:Bool),v= .tuple #[iv i,.bool b]∧(b=true→∃x,l[i]?=some x∧x.dF=k)∧(b=false→∀x∈l,x.dF≠k)
theorem z7 (x:Int):eC prog 133 #[iv x] [] (.bool false):=by
 refine eC.qC (args:=[iv x]) 6 func133 rfl ntmps133 rfl (λc=> ?_);refine g14 ?_;refine St.rV [_] [] ?_;exact be (by simp)
theorem ec (x y:Int):eC prog 100 #[iv x,iv y] [] (iv (oG x y)):=by
 refine eC.qC (args:=[iv x,iv y]) 20 func100 rfl ntmps100 rfl (λc=> ?_);refine g8 ?_;refine St.ee (Ev.call (z7 x) UP (.au rfl)) ?_;refine g6 ?_;refine St.ee (Ev.call (z7 y) UP (.au rfl)) ?_;refine g9 ?_;refine St.ri _ rfl rfl ?_;refine g8 ?_;refine St.ri _ rfl rfl ?_;refine g10 ?_;refine St.cq (λa=> ?_) (λa=> ?_)
 ·refine g7 ?_
  refine St.rV [_] [] ?_;exact ie (by unfold oG;rw[aC a])
 ·refine g10 ?_
  refine St.cq (λb=> ?_) (λb=> ?_)
  ·refine g7 ?_
   refine St.rV [_] [] ?_;exact ie (by unfold oG;rw[aA (by omega),aC (by omega)])
  ·refine g8 ?_
   refine St.rV [_] [] ?_;exact ie (by unfold oG;rw[aA (by omega),aA (by omega)])
theorem tE (x:dx)(k:Int):eC prog 138 ([Value.agg #[iv x.dF,iv x.tqo],iv k]++ []).toArray [] (iv (oG x.dF k)):=by
 refine eC.qC (args:=[Value.agg #[iv x.dF,iv x.tqo],iv k]++ []) 9 func138 rfl ntmps138 rfl (λc=> ?_);refine g2 ?_;refine St.dJ (.mk rfl) rfl (λa=> ?_);refine g8 ?_;refine St.ee (Ev.call (ec x.dF k) qF (.aX rfl rfl)) ?_;refine g4 ?_;refine St.rV [_] [] ?_;rfl
theorem M5 (u:Value)(l:List dx)(k:Int)(r:Asc l)(F:l.length≤1000000):dz prog 137 #[u,iv k,.func (.func 138) #[] #[]] ([sl aw u l].map aB) (λv H'=>ae8 l k v∧H'=[]):=by
 refine dz.body (args:=[u,iv k,.func (.func 138) #[] #[]]) 49 func137 rfl ntmps137 rfl (λc=> ?_);refine St.cast (H':=[aB (sl aw u l)]) rfl ?_;refine g22 ?_;refine St.lS (ι:=Nat×Nat) (λx T=>(9,iv x.1)::(10,iv x.2)::T) (λx=>x.1≤x.2∧x.2≤l.length∧(∀j y,j<x.1→l[j]?=some y→y.dF<k)∧(∀j y,x.2≤j→l[j]?=some y→k≤y.dF)) (λx=>x.2-x.1) (0,l.length) (aD.cons 0 rfl (aD.cons 1 rfl (aD.cons 2 rfl (aD.cons 6 rfl (aD.cons 7 rfl (aD.cons 8 rfl aD.nil)))))) ⟨aP _,aR _,λj y w=>absurd w (Nat.not_lt_zero j),λj y w h=>by have:=ah h;omega⟩ ?_;rintro ⟨i,j⟩ ⟨B,A,b,s⟩
 dsimp only at B A b s⊢
 refine g8 ?_;refine St.cq (λC=> ?_) (λC=> ?_)
 ·have D:i≤(i+j)/2:=by omega
  have G:(i+j)/2<j:=by omega
  obtain⟨y,hy⟩:=aE (show(i+j)/2<l.length by omega);refine g8 ?_;refine St.ee (Ev.W9 ((i+j)) (.mk rfl) (by rw[gV];rfl) Bx (by omega)) ?_;refine St.ee (Ev.Xg 1 2 (by decide) (.mk rfl) (.mk rfl) (by decide)) ?_;refine St.ee (Ev.WA (.mk rfl) (by rw[Bx];rfl) gV (by omega)) ?_;refine g8 ?_;refine St.ee (Ev.cM (k:=((i+j)/2)) (.mk rfl) (.mk rfl) eV dm (by omega) (by omega)) ?_;refine St.ee (Ev.jq (.mk rfl) hy lE trivial dm j5.eq) ?_;refine go ?_;refine St.ee (Ev.eh (tE y k) UQ (.mk rfl) (.aX rfl rfl)) ?_;refine g3 ?_;refine St.cq (λo=> ?_) (λo=> ?_)
  ·have d:y.dF<k:=by unfold oG at o;split at o<;>first|assumption|(split at o<;>omega)
   refine g7 ?_;refine St.aS ((i+j)/2+1,j) ⟨by show(i+j)/2+1≤j;omega,A,λq z a hz=>by rcases eO q ((i+j)/2)with g|g;exact Int.lt_trans (r _ _ _ _ g hz hy) d;rw[show q=(i+j)/2 from Nat.le_antisymm (Nat.le_of_lt_succ a) g,hy]at hz;cases hz;exact d,s⟩
  ·have d:k≤y.dF:=by unfold oG at o;split at o<;>omega
   refine g6 ?_;refine St.aS (i,(i+j)/2) ⟨D,by show(i+j)/2≤l.length;omega,b,λq z a hz=>by rcases eO ((i+j)/2) q with g|g;exact Int.le_trans d (Int.le_of_lt (r _ _ _ _ g hy hz));rw[show q=(i+j)/2 from Nat.le_antisymm g a,hy]at hz;cases hz;exact d⟩
 ·have t:i=j:=by omega
  subst t;refine g11 ?_;refine St.split 38 _ rfl (λf=> ?_) (λf=> ?_)
  ·have p:i<l.length:=by simpa using f
   obtain⟨y,hy⟩:=aE p;refine go ?_;refine St.cG rfl rfl ?_;refine go ?_;refine St.cG rfl rfl ?_;refine go ?_;refine St.cG rfl rfl ?_;refine go ?_;refine St.cG rfl rfl ?_;refine go ?_;refine St.cG rfl rfl ?_;refine St.ee (Ev.jq (.mk rfl) hy lE trivial dm j5.eq) ?_;refine St.cG rfl rfl ?_;refine go ?_;refine St.cG rfl rfl ?_;refine St.ee (Ev.eh (tE y k) UQ (.mk rfl) (.aX rfl rfl)) ?_;refine St.cG rfl rfl ?_;refine go ?_;refine St.split 47 _ rfl (λm=> ?_) (λm=> ?_)
   ·refine St.ee (Ev.gZ (.mk rfl) rfl (.mk rfl)) ?_
    refine g5 ?_;refine St.rV [_,_] [] ?_
    have n:oG y.dF k=0:=by simpa using m
    have d:y.dF=k:=by unfold oG at n;split at n;cases n;split at n;cases n;omega
    exact⟨⟨i,true,rfl,λ_=>⟨y,hy,d⟩,λh=>(by cases h)⟩,rfl⟩
   ·refine St.ee (Ev.gZ (.mk rfl) rfl (.mk rfl)) ?_
    refine g5 ?_;refine St.rV [_,_] [] ?_
    have n:oG y.dF k≠0:=by simpa using m
    have d:y.dF≠k:=λe=>n (by unfold oG;rw[aA (by omega),aA (by omega)])
    have E:=s i y (aR _) hy
    exact⟨⟨i,false,rfl,λh=>(by cases h),λ_ z hz=>by obtain⟨q,a⟩:=CC hz;rcases Nat.lt_trichotomy q i with g|g|g;have:=b q z g a;omega;rw[g,hy]at a;cases a;exact d;have:=r _ _ _ _ g hy a;omega⟩,rfl⟩
  ·have p:l.length≤i:=by simpa using f
   refine go ?_;refine St.bq rfl rfl rfl ?_;refine St.bq rfl rfl rfl ?_;refine St.bq rfl rfl rfl ?_;refine St.bq rfl rfl rfl ?_;refine St.bq rfl rfl rfl ?_;refine St.bq rfl rfl rfl ?_;refine St.bq rfl rfl rfl ?_;refine St.bq rfl rfl rfl ?_;refine St.ee (Ev.kQ (.mk rfl) rfl (.mk rfl)) ?_;refine g5 ?_;refine St.rV [_,_] [] ?_;exact⟨⟨i,false,rfl,λh=>(by cases h),λ_ z hz=>by obtain⟨q,a⟩:=CC hz;have h1:=ah a;have H:=b q z (by omega) a;omega⟩,rfl⟩
def Fz (G:e8)(i:Nat)(k:Int):Int:=match(G.getD i iJ).2.find? λx=>x.1==k with
 |some x=>x.2
 |none=> -1
theorem Ph (G:e8)(k:Int):Fz G 0 k=rS G k:=rfl
theorem Tj {l:List dx}(b:Asc l){j:Nat}{x:dx}{k:Int}(hx:l[j]?=some x)(hk:x.dF=k):(l.map fS).find? (λy=>y.1==k)=some (fS x):=by
 cases h:(l.map fS).find? (λy=>y.1==k)with
 |none=>
  rw[List.find?_eq_none]at h;exact absurd (show((fS x).1==k)=true by rw[beq_iff_eq];exact hk) (h (fS x) (eP (ae hx)))
 |some y=>
  have h1:=List.find?_some h
  obtain⟨z,hz,rfl⟩:=cz.1 (List.mem_of_find?_eq_some h)
  have c:z.dF=k:=by simpa[fS]using h1
  obtain⟨q,a⟩:=CC hz
  rcases Nat.lt_trichotomy q j with g|g|g
  ·have:=b _ _ _ _ g a hx;omega
  ·rw[g,hx]at a;cases a;rfl
  ·have:=b _ _ _ _ g hx a;omega
theorem Pj {l:List dx}{k:Int}(h:∀x∈l,x.dF≠k):(l.map fS).find? (λy=>y.1==k)=none:=by
 rw[List.find?_eq_none];intro y hy;obtain⟨z,hz,rfl⟩:=cz.1 hy
 rw[beq_iff_eq];exact h z hz
theorem JH {nf nn i:Int}:∀{l:List dx} {z:Int},(Am nf nn i z (l.map fS)).1=0→(∀x∈l,z<x.dF)∧Asc l
 | [],_,_=>⟨λx hx=>(by cases hx),λi j x y _ g=>(by simp at g)⟩
 |y::l,z,h=>by
  rw[fN,Am]at h
  by_cases h1:(fS y).1<0∨nf≤(fS y).1∨(fS y).2<0∨nn≤(fS y).2
  ·rw[aC h1]at h;exact absurd h (by simp)
  rw[aA h1]at h
  by_cases c:(fS y).1≤z
  ·rw[aC c]at h;exact absurd h (by simp)
  rw[aA c]at h;obtain⟨d,k⟩:=JH h
  replace d:∀x∈l,y.dF<x.dF:=d
  replace c:¬y.dF≤z:=c
  refine⟨λx hx=> ?_,λi j a b m e f=> ?_⟩
  ·rcases cJ.1 hx with rfl|hx
   ·omega
   ·have:=d x hx;omega
  ·obtain⟨j,rfl⟩:∃n,j=n+1:=⟨j-1,by omega⟩
   rw[s7]at f
   cases i with
   |zero=>rw[List.getElem?_cons_zero]at e;cases e;exact d b (ae f)
   |succ i=>rw[s7]at e;exact k i j a b (by omega) e f
theorem rj {nt nf nn:Int}:∀{l:List dh} {i:Nat},(fD nt nf nn i (l.map mD)).1=0→∀n∈l,Asc n.aq
 | [],_,_=>λx hx=>by cases hx
 |y::l,i,h=>by
  rw[fN,fD]at h
  by_cases h1:(mD y).1<0∨nt≤(mD y).1
  ·rw[aC h1]at h;exact absurd h (by simp)
  rw[aA h1]at h
  by_cases a:(Am nf nn i (-1) (mD y).2).1≠0
  ·rw[aC a]at h;exact absurd h a
  rw[aA a]at h;intro x hx
  rcases cJ.1 hx with rfl|hx
  ·exact(JH (ez.1 a)).2
  ·exact rj h x hx
theorem BW {nt nf:Int}{g:dD}(h:(fX nt nf (ay g)).1=0):∀n∈g.nodes,Asc n.aq:=by
 unfold fX at h
 by_cases h1:(ay g).length=0∨60<(ay g).length
 ·rw[aC h1]at h;exact absurd h (by simp)
 rw[aA h1]at h;exact rj h
theorem nH (g:dD)(i:Nat)(k:Int)(o:i<g.nodes.length)(p:∀n∈g.nodes,Asc n.aq∧n.aq.length≤1000000):eC prog 111 #[bA g,iv i,iv k] [aG g] (iv (Fz (ay g) i k)):=by
 refine eC.nJ (args:=[bA g,iv i,iv k]) 32 func111 rfl ntmps111 rfl (λc=> ?_);refine go ?_
 refine St.jN (aG g) (λ_:Unit=>kb g) (λρ h=>⟨(),h⟩) λ_=> ?_
 refine St.cast (H':=[aB (sl bh g.nv.1 g.nodes),aB (aF cA g.nodes),aB (aG g)]) rfl ?_;obtain⟨t,ht⟩:=aE o
 have m:=ae ht
 refine St.cK cA g.nodes (x:=t) m ?_;refine St.eZ (sl aw t.lv.1 t.aq) [cA t] (λρ h=>h _ (aQ ..)) ?_
 have q:(ay g).getD i iJ=mD t:=by rw[ar,ka ht];rfl
 have d:Fz (ay g) i k=match(t.aq.map fS).find? (λx=>x.1==k)with|some x=>x.2|none=> -1:=by unfold Fz;rw[q];rfl
 obtain⟨a,r⟩:=p t m;refine go ?_;refine St.dJ (.mk rfl) rfl (λw=> ?_);refine g12 ?_;refine St.ag (M5 t.lv.1 t.aq k a r) ZZ (.ej rfl rfl rfl) rfl ?_;rintro v17 _ ⟨⟨j,b,rfl,s,e⟩,rfl⟩;refine St.aK ?_;refine g14 ?_;refine St.cond _ rfl (λf=> ?_) (λf=> ?_)
 ·skip
  have u:b=false:=by simpa using f
  rw[Pj (e u)]at d;refine g7 ?_;refine St.rV [_] [] ?_;exact ie d.symm
 ·skip
  have v:b=true:=by simpa using f
  obtain⟨x,hx,l⟩:=s v
  have y:=ah hx
  rw[Tj a hx l]at d;refine g18 ?_;refine St.rV [_] [] ?_;exact ie d.symm
theorem E0 (g:dD)(kids:Int)(f:0<g.nodes.length)(i:∀n∈g.nodes,Asc n.aq∧n.aq.length≤1000000):eC prog 81 #[bA g,iv kids] [aG g] (.bool (nS (ay g) kids)):=by
 refine eC.nJ (args:=[bA g,iv kids]) 18 func81 rfl ntmps81 rfl (λc=> ?_);refine g2 ?_;refine St.dJ (.mk rfl) rfl (λo=> ?_);refine g10 ?_;refine St.lS (ι:=Nat) (λk T=>(6,iv k)::T) (λk=>k≤4∧∀j,j<k→(decide (0≤rS (ay g) (j:Nat))==decide (((j:Nat):Int)≤kids))=true) (λk=>4-k) 0 (aD.cons 1 rfl (aD.cons 2 rfl aD.nil)) ⟨aP _,λj b=>absurd b (by omega)⟩ ?_;intro k l;obtain⟨hk,e⟩:=l;refine g6 ?_;refine St.cq (λm=> ?_) (λm=> ?_)
 ·refine g14 ?_
  refine St.ee (Ev.call (nH g 0 k f i) Il (.ej rfl rfl rfl)) ?_;refine g4 ?_;refine St.ee (Ev.Ij (.mk rfl) (.mk rfl) IL) ?_;refine g2 ?_;refine St.cond _ rfl (λa=> ?_) (λa=> ?_)
  ·skip
   have d:(decide (0≤rS (ay g) (k:Nat))==decide (((k:Nat):Int)≤kids))=false:=by rw[sj];simp[Ph]at a;exact a
   refine g11 ?_;refine St.rV [_] [] ?_;exact be (by unfold nS;symm;rw[List.all_eq_false];exact⟨k,dt.2 (by omega),by rw[d];decide⟩)
  ·skip
   have d:(decide (0≤rS (ay g) (k:Nat))==decide (((k:Nat):Int)≤kids))=true:=by rw[beq_iff_eq];simp[Ph]at a;exact a
   refine g8 ?_;refine St.aS (k+1) ⟨by omega,λj b=>by rcases eO j k with h|h;exact e j h;rw[show j=k by omega];exact d⟩
 ·refine g11 ?_
  refine St.rV [_] [] ?_;exact be (by unfold nS;symm;rw[eW];intro j b;exact e j (by have:=dt.1 b;omega))
theorem MP {l:List dx}(a:Asc l)(b:∀x∈l,0≤x.dF):∀(i:Nat) (x:dx),l[i]?=some x→(i:Int)≤x.dF
 |0,x,hx=>b x (ae hx)
 |i+1,x,hx=>by
  obtain⟨y,hy⟩:=aE (show i<l.length by have:=ah hx;omega)
  have h1:=MP a b i y hy
  have c:=a i (i+1) y x (pP i) hy hx
  omega
theorem R2 {l:List dx}(b:Asc l){nf:Nat}(a:∀x∈l,0≤x.dF∧x.dF<nf):l.length≤nf:=by
 rcases Nat.eq_zero_or_pos l.length with h|h
 ·omega
 ·obtain⟨y,hy⟩:=aE (show l.length-1<l.length by omega)
  have h1:=MP b (λx hx=>(a x hx).1) _ y hy
  have c:=(a y (ae hy)).2
  omega
theorem BR {n:Int}:∀{l:List oe} {known:List ax} {i:Nat},(mW n known i l).1=0→∀f∈l,0≤f.2.1∧f.2.1<n∧0≤f.2.2∧f.2.2<n
 | [],_,_,_=>λf a=>by cases a
 |t::l,known,i,h=>by
  rw[mW]at h
  by_cases h1:isName t.1=false
  ·rw[aC h1]at h;exact absurd h (by simp)
  rw[aA h1]at h
  by_cases b:t.1∈known
  ·rw[aC b]at h;exact absurd h (by simp)
  rw[aA b]at h
  by_cases c:t.2.1<0∨n≤t.2.1∨t.2.2<0∨n≤t.2.2
  ·rw[aC c]at h;exact absurd h (by simp)
  rw[aA c]at h;intro f a
  rcases cJ.1 a with rfl|a
  ·omega
  ·exact BR h f a
theorem SI {T:List ek}{Fs:List oe}(h:(jM T Fs).1=0):0<T.length∧im T∧Fs.length≤40∧∀f∈Fs,0≤f.2.1∧f.2.1<T.length∧0≤f.2.2∧f.2.2<T.length:=by
 unfold jM at h
 by_cases h1:40<Fs.length
 ·rw[aC h1]at h;exact absurd h (by simp)
 rw[aA h1]at h
 by_cases a:(B4 T).1≠0
 ·rw[aC a]at h;exact absurd h a
 rw[aA a]at h;obtain⟨_,c,d⟩:=IH (ez.1 a)
 cases e:wh T with
 |some b=>rw[e]at h;exact absurd h (by simp)
 |none=>rw[e]at h;exact⟨c,d,by omega,BR h⟩
structure Nq where
 no:Nat
 leaf:Bool
 label:ax
 up:Int
 fin:Nat
 frm:Nat
 tqo:Nat
def XS:Nq:=⟨0,false,[],0,0,0,0⟩
def tm0:jI:= .mk 0 [] 0 (.mk [] []) []
def Qh:Dz:=⟨[],[],0,tm0⟩
def oS:sq:=⟨[],[],0,0,tm0⟩
mutual
def Uy:jW→Nat
 | .mk _ _ l=>1+Ux l
def Ux:List jW→Nat
 | []=>0
 |x::l=>Uy x+Ux l
end
mutual
def XP:jW→Nat
 | .mk r _ l=>(if r<0 then 1 else 0)+XO l
def XO:List jW→Nat
 | []=>0
 |x::l=>XP x+XO l
end
def alK (g:fj)(r x:Int):ax:=if r<0 then(g.aL.getD x.toNat Qh).word else(g.rules.getD r.toNat oS).name
mutual
def TA (g:fj):jW→Nat→Int→Nat→List Nq
 | .mk r x l,k,up,w=>⟨k,decide (r<0),alK g r x,up,k+(1+Ux l),w,w+((if r<0 then 1 else 0)+XO l)⟩::M1 g l (k+1) k (w+(if r<0 then 1 else 0))
def M1 (g:fj):List jW→Nat→Int→Nat→List Nq
 | [],_,_,_=>[]
 |x::l,k,up,w=>TA g x k up w++M1 g l (k+Uy x) up (w+XP x)
end
mutual
def BU (nr nl:Nat):jW→Prop
 | .mk r x l=>(-1≤r∧r<nr)∧(r<0→l=[]∧0≤x∧x<nl)∧(0≤r→l≠ [])∧BT nr nl l
def BT (nr nl:Nat):List jW→Prop
 | []=>True
 |x::l=>BU nr nl x∧BT nr nl l
end
mutual
theorem y5 (g:fj):∀(t:jW) (k:Nat) (up:Int) (w:Nat),(TA g t k up w).length=Uy t
 | .mk r x l,k,up,w=>by rw[TA,fB,JL g l,Uy];omega
theorem JL (g:fj):∀(l:List jW) (k:Nat) (up:Int) (w:Nat),(M1 g l k up w).length=Ux l
 | [],_,_,_=>by rw[M1,Ux];rfl
 |x::l,k,up,w=>by rw[M1,bQ,y5 g x,JL g l,Ux]
end
mutual
theorem JI {nr nl:Nat}:∀t:jW,BU nr nl t→0<XP t
 | .mk r x l,h=>by
  rw[BU]at h;rw[XP]
  by_cases a:r<0
  ·rw[aC a];omega
  ·have:=Sz l h.2.2.2 (h.2.2.1 (by omega));omega
theorem Sz {nr nl:Nat}:∀l:List jW,BT nr nl l→l≠ []→0<XO l
 | [],_,h=>absurd rfl h
 |x::l,h,_=>by
  rw[BT]at h
  have:=JI x h.1
  rw[XO];omega
end
def IZ (x y:Nq):Prop:=x.no<y.no∧((y.no<x.fin∧x.frm≤y.frm∧y.tqo≤x.tqo)∨(x.fin≤y.no∧x.tqo≤y.frm))
def Yr (k m w n:Nat)(x:Nq):Prop:=k≤x.no∧x.no<x.fin∧x.fin≤k+m∧w≤x.frm∧x.frm<x.tqo∧x.tqo≤w+n
mutual
theorem OQ {nr nl:Nat}(g:fj):∀(t:jW) (k:Nat) (up:Int) (w:Nat),BU nr nl t→(TA g t k up w).Pairwise IZ∧∀x∈TA g t k up w,Yr k (Uy t) w (XP t) x
 | .mk r x l,k,up,w,h=>by
  have hp:=JI _ h
  rw[BU]at h;obtain⟨h1,a⟩:=OO g l (k+1) k (w+(if r<0 then 1 else 0)) h.2.2.2;rw[TA,Uy];rw[XP]at hp⊢;refine⟨jU.2 ⟨λy hy=> ?_,h1⟩,λy hy=> ?_⟩
  ·obtain⟨b,a2,a3,a4,a5,c⟩:=a y hy
   refine⟨?_,Or.inl ⟨?_,?_,?_⟩⟩<;>dsimp only<;>omega
  ·rcases cJ.1 hy with rfl|hy
   ·refine⟨?_,?_,?_,?_,?_,?_⟩<;>dsimp only<;>omega
   ·obtain⟨b,a2,a3,a4,a5,c⟩:=a y hy
    refine⟨?_,?_,?_,?_,?_,?_⟩<;>omega
theorem OO {nr nl:Nat}(g:fj):∀(l:List jW) (k:Nat) (up:Int) (w:Nat),BT nr nl l→(M1 g l k up w).Pairwise IZ∧∀x∈M1 g l k up w,Yr k (Ux l) w (XO l) x
 | [],_,_,_,_=>by rw[M1];exact⟨List.Pairwise.nil,λx hx=>by cases hx⟩
 |t::l,k,up,w,h=>by
  rw[BT]at h;obtain⟨h1,a⟩:=OQ g t k up w h.1;obtain⟨c,b⟩:=OO g l (k+Uy t) up (w+XP t) h.2;rw[M1,Ux,XO];refine⟨sC.2 ⟨h1,c,λx hx y hy=> ?_⟩,λy hy=> ?_⟩
  ·obtain⟨d,a2,a3,a4,a5,e⟩:=a x hx
   obtain⟨f,i,j,m,n,o⟩:=b y hy;exact⟨by omega,Or.inr ⟨by omega,by omega⟩⟩
  ·rcases cD.1 hy with hy|hy
   ·obtain⟨d,a2,a3,a4,a5,e⟩:=a y hy
    refine⟨?_,?_,?_,?_,?_,?_⟩<;>omega
   ·obtain⟨f,i,j,m,n,o⟩:=b y hy
    refine⟨?_,?_,?_,?_,?_,?_⟩<;>omega
end
mutual
theorem OP (g:fj):∀(t:jW) (k:Nat) (up:Int) (w i:Nat) (x:Nq),(TA g t k up w)[i]?=some x→x.no=k+i
 | .mk r y l,k,up,w,i,x,h=>by
  rw[TA]at h
  cases i with
  |zero=>rw[List.getElem?_cons_zero]at h;cases h;rfl
  |succ i=>rw[s7]at h;have:=OM g l _ _ _ i x h;omega
theorem OM (g:fj):∀(l:List jW) (k:Nat) (up:Int) (w i:Nat) (x:Nq),(M1 g l k up w)[i]?=some x→x.no=k+i
 | [],_,_,_,_,_,h=>by rw[M1]at h;simp at h
 |t::l,k,up,w,i,x,h=>by
  rw[M1]at h
  rcases eO i (Uy t)with a|a
  ·rw[oc (by rw[y5];exact a)]at h
   exact OP g t k up w i x h
  ·rw[lp (by rw[y5];exact a),y5]at h
   have:=OM g l _ _ _ _ x h
   omega
end
structure BA (L:List Nq):Prop where
 ahead:L.Pairwise IZ
 no:∀(i:Nat) (x:Nq),L[i]?=some x→x.no=i
 words:∀x∈L,x.frm<x.tqo∧x.no<x.fin
theorem BA.of {nr nl:Nat}(g:fj){t:jW}(h:BU nr nl t):BA (TA g t 0 (-1) 0):=by
 obtain⟨h1,a⟩:=OQ g t 0 (-1) 0 h;exact⟨h1,λi x hx=>by have:=OP g t 0 (-1) 0 i x hx;omega,λx hx=>by obtain⟨b,a2,a3,a4,a5,c⟩:=a x hx;exact⟨a5,a2⟩⟩
theorem getD_some {L:List Nq}{i:Nat}(h:i<L.length):L[i]?=some (L.getD i XS):=by
 rw[ar,bU h];rfl
theorem BA.lt {L:List Nq}(h:BA L){i j:Nat}(b:i<j)(c:j<L.length):IZ (L.getD i XS) (L.getD j XS)∧(L.getD i XS).no=i∧(L.getD j XS).no=j:=by
 have h1:=getD_some (show i<L.length by omega)
 have a:=getD_some c
 refine⟨?_,h.no _ _ h1,h.no _ _ a⟩
 have:=List.pairwise_iff_getElem.1 h.ahead i j (by omega) c b
 rw[bU (show i<L.length by omega)]at h1;rw[bU c]at a
 injection h1 with h1;injection a with a
 rw[←h1,←a];exact this
theorem BA.one {L:List Nq}(h:BA L){i:Nat}(a:i<L.length):(L.getD i XS).frm<(L.getD i XS).tqo:=(h.words _ (ae (getD_some a))).1
end Go.Proofs.YtblifkgpebebmaaGreatDoor
namespace Go.Proofs.YtblifkgpebebmaaGreatDoor
open Go Go.J Tryz
instance:gp prog 115 0 0:=⟨by kernel_rfl⟩
theorem W5:aI prog 67:=⟨_,func67,rfl,by kernel_rfl⟩
theorem Cy:bf prog 115 2=some 2:=by kernel_rfl
instance:type_of%(gp.mk Cy):=⟨Cy⟩
instance:gp prog 115 1 1:=⟨by kernel_rfl⟩
theorem W3:aI prog 49:=⟨_,func49,rfl,by kernel_rfl⟩
instance:gp prog 115 3 3:=⟨by kernel_rfl⟩
theorem Zz:aI prog 82:=⟨_,func82,rfl,by kernel_rfl⟩
theorem xh:bf prog 110 2=some 2:=by kernel_rfl
instance:type_of%(gp.mk xh):=⟨xh⟩
theorem xi:bf prog 110 3=some 3:=by kernel_rfl
instance:type_of%(gp.mk xi):=⟨xi⟩
instance:gp prog 110 1 1:=⟨by kernel_rfl⟩
theorem ahX:aI prog 81:=⟨_,func81,rfl,by kernel_rfl⟩
instance:gp prog 110 4 4:=⟨by kernel_rfl⟩
theorem ahL:aI prog 43:=⟨_,func43,rfl,by kernel_rfl⟩
theorem Gs:aI prog 44:=⟨_,func44,rfl,by kernel_rfl⟩
instance:gp prog 110 0 0:=⟨by kernel_rfl⟩
theorem ahM:aI prog 47:=⟨_,func47,rfl,by kernel_rfl⟩
theorem ahN:aI prog 48:=⟨_,func48,rfl,by kernel_rfl⟩
end Go.Proofs.YtblifkgpebebmaaGreatDoor
namespace Go.J
open Go
abbrev ints (l:List Nat):List Int:=l.map (λi:Nat=>(i:Int))
section
variable {P:Program}{n:Nat}{F:Fr}{A:World→Prop}{x y:Operand}{ty:TypeId}
end
end Go.J
namespace Go.J
open Go Go.Proofs Go.Proofs.YtblifkgpebebmaaGreatDoor
section
variable {P:Program}{n:Nat}{F:Fr}{A:World→Prop}{c:Ctx}{H R:List ak}{ty:TypeId}{x y:Operand}{v:Value}{Q:Exit→Act→World→Prop}{ops:Array Oper}{rest:List Oper}{d size:Nat}
 {pos:String} {after:Array Edge} {t e:TypeId} {m k:Nat} {cs:List Value}
theorem Ev.jY {off o i b o' cap:Nat}{s:TypeId}(c:v= .slice (some ⟨b,o',none⟩) m cap)(hx:ai F x (cZ v size k off))(d:bf P s i=some o):Ev P n F A (.fieldAddr s x i) ty (cZ v size k (off+o)):= .of_run λa w e _=>by
 subst c;rw[eG]at hx
 simp[execOp,hx.eval e,nT d,eG,Addr.add_lit,Nat.add_assoc]
end
section
variable {n:Nat}{F:Fr}{c:Ctx}{R:List ak}{T:Act→World→Prop}
theorem St.afU {a b d e f g h i:ak}(k:St n F (Mm c (a::b::d::e::f::g::h::i::R)) T):St n F (Mm c ([a,b,d,e,f,g,h,i]++R)) T:=k
end
end Go.J
namespace Go.Proofs.YtblifkgpebebmaaGreatDoor
open Go Go.J Tryz
theorem take_set {A:List Int}{p:List Nat}{i:Nat}(h:A.take p.length=ints p)(a:p.length<A.length):(A.set p.length (i:Int)).take (p.length+1)=ints (p++ [i]):=by
 have b:(A.set p.length (i:Int))[p.length]?=some (i:Int):=by rw[fV a]
 rw[aa b,List.take_set,h,ints,ints,cP,List.set_eq_of_length_le (by rw[aO];exact aR _)];rfl
end Go.Proofs.YtblifkgpebebmaaGreatDoor
namespace Go.Proofs
open Go.Shelf Go.RowKit Go.Lib
variable {P:Program}{ρ:Ren}
theorem N9 {r:Int}(h:128≤r):∃(n:Nat) (x:UInt8),(Utf8.encode r).size=n∧2≤n∧n≤4∧(Utf8.encode r).data.toList[n-1]?=some x∧128≤x.toNat:=by
 have key:∀c:Nat,128≤c→c<1114112→∃(n:Nat) (x:UInt8),(if c<0x80 then(⟨#[UInt8.ofNat c]⟩:ByteArray)else if c<0x800 then⟨#[UInt8.ofNat (0xC0+c/64),UInt8.ofNat (0x80+c%64)]⟩
  else if c<0x10000 then⟨#[UInt8.ofNat (0xE0+c/4096),UInt8.ofNat (0x80+c/64%64),UInt8.ofNat (0x80+c%64)]⟩
  else⟨#[UInt8.ofNat (0xF0+c/262144),UInt8.ofNat (0x80+c/4096%64),UInt8.ofNat (0x80+c/64%64),UInt8.ofNat (0x80+c%64)]⟩).size=n∧2≤n∧n≤4∧
  (if c<0x80 then(⟨#[UInt8.ofNat c]⟩:ByteArray)else if c<0x800 then⟨#[UInt8.ofNat (0xC0+c/64),UInt8.ofNat (0x80+c%64)]⟩
  else if c<0x10000 then⟨#[UInt8.ofNat (0xE0+c/4096),UInt8.ofNat (0x80+c/64%64),UInt8.ofNat (0x80+c%64)]⟩
  else⟨#[UInt8.ofNat (0xF0+c/262144),UInt8.ofNat (0x80+c/4096%64),UInt8.ofNat (0x80+c/64%64),UInt8.ofNat (0x80+c%64)]⟩).data.toList[n-1]?=some x∧128≤x.toNat:=by
  intro c h1 d
  have hx:128≤(UInt8.ofNat (0x80+c%64)).toNat:=by simp[UInt8.toNat_ofNat'];omega
  rw[aA (by omega)]
  by_cases k:c<0x800
  ·rw[aC k];exact⟨2,_,rfl,by omega,by omega,rfl,hx⟩
  ·rw[aA k]
   by_cases b:c<0x10000
   ·rw[aC b];exact⟨3,_,rfl,by omega,by omega,rfl,hx⟩
   ·rw[aA b];exact⟨4,_,rfl,by omega,by omega,rfl,hx⟩
 unfold Utf8.encode
 by_cases a:Utf8.valid r=true
 ·simp only[a,if_true]
  refine key r.toNat (by omega) ?_
  simp[Utf8.valid]at a
  omega
 ·simp only[a]
  exact key Utf8.runeError (by decide) (by decide)
theorem vh {w:World}{s d:TypeId}{k:IntKind}{r:Int}(a:P.underlying s=some (.int k))(hd:P.underlying d=some .string):(convert s d (.int k r)).run P w= .ok (.string (Utf8.encode r)) w:=by
 simp[convert,run_underlying a,run_underlying hd,Conv.intToString]
theorem D9 {w:World}{t:TypeId}{s:ByteArray}{i:Int}{k:Nat}{b:UInt8}(ht:P.underlying t=some .string)(c:i=k)(a:s.data.toList[k]?=some b):(Instr.index t (.string s) (.int .i64 i)).run P w= .ok (.int .u8 (b.toNat:Int)) w:=by
 subst c
 have d:k<s.size:=by have:=(fA.1 a).1;rwa[←Lib.size_eq]at this
 have h1:s[k]?=some b:=by
  rw[ByteArray.getElem?_lt' _ _ d]
  have:=(fA.1 a).2
  simpa[ByteArray.getElem_eq_getElem_data]using this
 simp[Instr.index,asIntOf,run_underlying ht,h1]
theorem Ah {l:List UInt8}{c:UInt8}(h:∀x∈l,x≠c):Lib.indexByte l c<0:=by
 have h1:=Lib.contains_iff_indexByte l c
 have a:l.contains c=false:=by
  rw[Bool.eq_false_iff];intro b;exact h c (List.contains_iff_mem.1 b) rfl
 rw[a]at h1
 have:=iV h1.symm
 omega
set_option maxRecDepth 1000000 in
theorem Any.z6 (L:Lays.n152 P ρ)(s:ByteArray)(r:Int)(w:World)(h0:128≤r)(h1:r≠65533)(hv:Lib.validRune r=true)(hs:∀(j:Nat) b,s.data.toList[j]?=some b→b.toNat<128)(SS:s.size≤100):
 Calls P (ρ.f 152) #[.string s,.int .i32 r] w λe w'=>e= .returned (.int .i64 (-1))∧∃k,w'=w.drewN k:=by
 have t3:=L.t3;have a3:=L.a3;have z3:=L.z3;have v3:=L.v3
 have t4:=L.t4;have a4:=L.a4;have z4:=L.z4;have v4:=L.v4
 have t5:=L.t5;have a5:=L.a5;have z5:=L.z5;have v5:=L.v5
 have t9:=L.t9;have a9:=L.a9;have z9:=L.z9;have v9:=L.v9
 have t21:=L.t21;have a21:=L.a21;have z21:=L.z21;have v21:=L.v21
 have aiA:∀args w,(callFunc (ρ.f 137) args).run P w= .ok (.enter (ρ.f 137) args) w:=enters_of L.f137 (by kernel_rfl) rfl
 have ah9:∀args w,(callFunc (ρ.f 119) args).run P w= .ok (.enter (ρ.f 119) args) w:=enters_of L.f119 (by kernel_rfl) rfl
 have mixed:=L.mixed
 have d1:decide ((0:Int)≤r)=true:=eB (by omega)
 have d2:decide (r<128)=false:=fL (by omega)
 have d3:(r==(65533:Int))=false:=sj.2 h1
 obtain⟨n,x,hn,hn2,hn4,hx,Ur⟩:=N9 h0
 have hc:=λ(w:World)=>vh (P:=P) (w:=w) (r:=r) t21 t9
 generalize Utf8.encode r=rs at hn hx hc
 subst hn
 go_enter L.f152,Body.n152_ntmps ρ
 go_wp2_with (go_at_fn (ρ.f 119);refine(Any.utf8_ValidRune {L with} _ _).mono ?_;rintro e w' ⟨rfl,hw⟩;rw[hw,hv])
 subst hw;refine wp_scope_straight ?_
 go_wp2
 by_cases hl:rs.size-1<s.size
 ·have hi0:(0:Int)≤(rs.size:Int)-1:=by omega
  have hi1:(rs.size:Int)-1<(s.size:Int):=by omega
  obtain⟨y,hy⟩:∃y:UInt8,s.data.toList[rs.size-1]?=some y:=⟨_,bU (by rw[←Lib.size_eq];exact hl)⟩
  have am2:=hs _ _ hy
  refine wp_loop_rounds 1 ?_;rw[rounds_succ]
  go_wp2
  refine wp_scope_straight ?_
  have kx:∀w,(Instr.index (ρ.t 9) (.string rs) (.int .i64 ((rs.size:Int)-1))).run P w= .ok (.int .u8 (x.toNat:Int)) w:=λw=>D9 t9 (by omega) hx
  have ky:∀w,(Instr.index (ρ.t 9) (.string s) (.int .i64 ((rs.size:Int)-1))).run P w= .ok (.int .u8 (y.toNat:Int)) w:=λw=>D9 t9 (by omega) hy
  have hne:((y.toNat:Int)==(x.toNat:Int))=false:=sj.2 (by omega)
  go_wp2
  go_region_o
  have aiA:∀args w,(callFunc (ρ.f 137) args).run P w= .ok (.enter (ρ.f 137) args) w:=enters_of L.f137 (by kernel_rfl) rfl
  have hw1:IntKind.i64.wrap (rs.size:Int)=(rs.size:Int):=by
   simp only[IntKind.wrap,IntKind.bits,IntKind.signed]
   simp
   omega
  have s1:(0:Int)≤(rs.size:Int)-1+1:=by omega
  have s2:(rs.size:Int)-1+1≤(s.size:Int):=by omega
  have s3:(0:Int)≤(rs.size:Int):=by omega
  have s4:(rs.size:Int)≤(s.size:Int):=by omega
  obtain⟨z,hz⟩:∃z,Lib.indexByte (s.extract rs.size s.size).data.toList ((x.toNat:Int).toNat.toUInt8)=z:=⟨_,rfl⟩
  have hz0:z<0:=by
   rw[←hz]
   refine Ah λb hb=> ?_
   have Dr:b∈s.data.toList:=by
    have:(s.extract rs.size s.size).data.toList=(s.data.toList.drop rs.size).take (s.size-rs.size):=by simp
    rw[this]at hb;exact GJ (CG hb)
   obtain⟨k,hk⟩:=CC Dr
   have h5:=hs k b hk
   intro e
   have h6:((x.toNat:Int)).toNat.toUInt8=x:=by simp
   rw[h6]at e;rw[e]at h5;omega
  go_wp2
  go_region_with_o (
   go_at_fn (ρ.f 137)
   refine(Any.strings_IndexByte {L with} _ _ _).mono ?_;rintro e w' ⟨rfl,hw⟩
   rw[hw,hz])
  go_wp2
  simp only[Exit.noGoto,Exit.inBlock,Exit.then]
  go_ret
  exact⟨rfl,2,rfl⟩
 ·have hi1:decide ((rs.size:Int)-1<(s.size:Int))=false:=fL (by omega)
  refine wp_loop_rounds 1 ?_;rw[rounds_succ]
  go_wp2
  show Exit.inBlock 0 _ Exit.ret _ _
  go_ret
  exact⟨rfl,0,rfl⟩
set_option maxRecDepth 1000000 in
theorem Any.Aj (L:Lays.n152 P ρ)(s:ByteArray)(r:Int)(w:World)(h0:128≤r)(h1:r≠65533)(hv:Lib.validRune r=false):
 Calls P (ρ.f 152) #[.string s,.int .i32 r] w λe w'=>e= .returned (.int .i64 (-1))∧∃k,w'=w.drewN k:=by
 have t3:=L.t3;have a3:=L.a3;have z3:=L.z3;have v3:=L.v3
 have t4:=L.t4;have a4:=L.a4;have z4:=L.z4;have v4:=L.v4
 have t5:=L.t5;have a5:=L.a5;have z5:=L.z5;have v5:=L.v5
 have t9:=L.t9;have a9:=L.a9;have z9:=L.z9;have v9:=L.v9
 have t21:=L.t21;have a21:=L.a21;have z21:=L.z21;have v21:=L.v21
 have ah9:∀args w,(callFunc (ρ.f 119) args).run P w= .ok (.enter (ρ.f 119) args) w:=enters_of L.f119 (by kernel_rfl) rfl
 have d1:decide ((0:Int)≤r)=true:=eB (by omega)
 have d2:decide (r<128)=false:=fL (by omega)
 have d3:(r==(65533:Int))=false:=sj.2 h1
 go_enter L.f152,Body.n152_ntmps ρ
 go_wp2_with (go_at_fn (ρ.f 119);refine(Any.utf8_ValidRune {L with} _ _).mono ?_;rintro e w' ⟨rfl,hw⟩;rw[hw,hv])
 subst hw
 go_ret
 exact⟨rfl,0,rfl⟩
set_option maxRecDepth 1000000 in
theorem Any.xI (L:Lays.n152 P ρ)(s:ByteArray)(w:World)(hs:∀(j:Nat) b,s.data.toList[j]?=some b→b.toNat<128):
 Calls P (ρ.f 152) #[.string s,.int .i32 65533] w λe w'=>e= .returned (.int .i64 (-1))∧∃pos,w'=w.iter s pos:=by
 have HA:Aside (∀(j:Nat) b,s.data.toList[j]?=some b→b.toNat<128):=hs
 clear hs
 have t3:=L.t3;have a3:=L.a3;have z3:=L.z3;have v3:=L.v3
 have t4:=L.t4;have a4:=L.a4;have z4:=L.z4;have v4:=L.v4
 have t5:=L.t5;have a5:=L.a5;have z5:=L.z5;have v5:=L.v5
 have t9:=L.t9;have a9:=L.a9;have z9:=L.z9;have v9:=L.v9
 have t21:=L.t21;have a21:=L.a21;have z21:=L.z21;have v21:=L.v21
 go_enter L.f152,Body.n152_ntmps ρ
 go_wp2
 go_loopg [5,6] s.size (λg _ _ wx=>∃i:Nat,i+g=s.size∧wx=w.iter s i)
 case atStart=>exact⟨0,by omega,rfl⟩
 case round=>
  obtain⟨i,hig,rfl⟩:=hrel
  cases gk with
  |zero=>
   obtain rfl:i=s.size:=by omega
   have Wg:=run_next_end (P:=P) w s s.size
   go_wp2
   go_ret
   exact⟨rfl,_,rfl⟩
  |succ g=>
   have hi:i<s.size:=by omega
   obtain⟨x,hx⟩:∃x:UInt8,s[i]'hi=x:=⟨_,rfl⟩
   have Us:s.data.toList[i]?=some x:=by rw[←hx];exact Lib.data_getElem? s i hi
   have Ur:x.toNat<128:=HA.out i x Us
   have Wg:=λty=>run_next_ascii (P:=P) w s i ty hi (by rw[hx];exact Ur)
   rw[hx]at Wg
   have hne:((x.toNat:Int)==(65533:Int))=false:=sj.2 (by omega)
   go_wp2
   go_roundg g
   case measure=>omega
   case rel=>exact⟨i+1,by omega,rfl⟩
theorem Any.vJ (L:Lays.n152 P ρ)(s:ByteArray)(r:Int)(w:World)(a:128≤r)(c:∀(j:Nat) b,s.data.toList[j]?=some b→b.toNat<128)(g:s.size≤100):
 Calls P (ρ.f 152) #[.string s,.int .i32 r] w λe w'=>e= .returned (.int .i64 (-1))∧Below w.heap.size w w':=by
 by_cases h1:r=65533
 ·subst h1
  refine(Any.xI L s w c).mono ?_;rintro e w' ⟨rfl,pos,rfl⟩;exact⟨rfl,(Below.refl _ w).alloc (aR _) _⟩
 ·cases d:Lib.validRune r with
  |true=>
   refine(Any.z6 L s r w a h1 d c g).mono ?_;rintro e w' ⟨rfl,k,rfl⟩;exact⟨rfl,rfl,rfl,rfl,aR _,λ_ _=>rfl⟩
  |false=>
   refine(Any.Aj L s r w a h1 d).mono ?_;rintro e w' ⟨rfl,k,rfl⟩;exact⟨rfl,rfl,rfl,rfl,aR _,λ_ _=>rfl⟩
theorem Eh {w:World}{k:Nat}{s:ByteArray}{p:Nat}{o:Obj}(h:w.heap[k]?=some o):(w.iterAt k s p).heap[k]?=some (.stringIter s p):=by
 have hk:=(wG.1 h).1
 show(w.heap.setIfInBounds k _)[k]?=_
 simp[hk]
theorem iterAt_size {w:World}{k:Nat}{s:ByteArray}{p:Nat}:(w.iterAt k s p).heap.size=w.heap.size:=by
 show(w.heap.setIfInBounds k _).size=_
 simp
theorem DC {w wx:World}{k:Nat}{s:ByteArray}{p:Nat}(h:Below k w wx):Below k w (wx.iterAt k s p):=
 ⟨h.os,h.tape,h.output,by rw[iterAt_size];exact h.size,λj a=>by
  show(wx.heap.setIfInBounds k _)[j]?=_
  rw[Array.getElem?_setIfInBounds_ne (by omega)]
  exact h.block j a⟩
theorem He {s chars:List UInt8}{i n:Nat}(h:NoAny s chars i)(c:∀(j:Nat) b,chars[j]?=some b→b.toNat<128)(d:∀j,j<n→128≤J.bt s (i+j)):NoAny s chars (i+n):=by
 intro j b l a
 by_cases k:j<i
 ·exact h j b k a
 ·have h1:=d (j-i) (by omega)
  rw[show i+(j-i)=j by omega]at h1
  have e:J.bt s j=b.toNat:=by unfold J.bt;rw[ar,a];rfl
  rw[e]at h1;rw[Bool.eq_false_iff];intro f;obtain⟨q,g⟩:=CC (List.contains_iff_mem.1 f)
  have:=c q b g
  omega
theorem MV {B:Nat}{w a b:World}(h:Below B w a)(d:B≤a.heap.size)(k:Below a.heap.size a b):Below B w b:=
 ⟨k.os.trans h.os,k.tape.trans h.tape,k.output.trans h.output,dS h.size k.size,λj c=>(k.block j (by omega)).trans (h.block j c)⟩
end Go.Proofs
namespace Go.Proofs
open Go.Shelf Go.RowKit Go.Lib
variable {P:Program}{ρ:Ren}
set_option maxRecDepth 1000000 in
theorem Any.sQ (L:Lays.n153 P ρ)(s chars:ByteArray)(w:World)(h2:2≤chars.size)(NU:chars.size≤100)(h8:s.size≤8)(NT:∀(j:Nat) b,chars.data.toList[j]?=some b→b.toNat<128):
 Calls P (ρ.f 153) #[.string s,.string chars] w λe w'=>e= .returned (.int .i64 (Lib.indexAny s.data.toList chars.data.toList))∧Below w.heap.size w w':=by
 have HA:Aside (∀(j:Nat) b,chars.data.toList[j]?=some b→b.toNat<128):=NT
 clear NT
 have anJ:chars.toList.isEmpty=false:=by
  rw[Lib.toList_data]
  cases h:chars.data.toList with
  |nil=>have:=Lib.size_eq chars;rw[h,List.length_nil]at this;omega
  |cons _ _=>rfl
 have hn1:((chars.size:Int)==1)=false:=sj.2 (by omega)
 have h8z:decide ((8:Int)<(s.size:Int))=false:=fL (by omega)
 have t3:=L.t3;have a3:=L.a3;have z3:=L.z3;have v3:=L.v3
 have t4:=L.t4;have a4:=L.a4;have z4:=L.z4;have v4:=L.v4
 have t5:=L.t5;have a5:=L.a5;have z5:=L.z5;have v5:=L.v5
 have t9:=L.t9;have a9:=L.a9;have z9:=L.z9;have v9:=L.v9
 have t21:=L.t21;have a21:=L.a21;have z21:=L.z21;have v21:=L.v21
 have anB:∀args w,(callFunc (ρ.f 152) args).run P w= .ok (.enter (ρ.f 152) args) w:=enters_of L.f152 (by kernel_rfl) rfl
 have anD:∀args w,(callFunc (ρ.f 226) args).run P w= .ok (.enter (ρ.f 226) args) w:=enters_of L.f226 (by kernel_rfl) rfl
 go_enter L.f153,Body.n153_ntmps ρ
 go_wp2_with (go_at_fn (ρ.f 226);refine(Any.strings_shouldUseASCIISet {L with} _ _).mono ?_;rintro e w' ⟨rfl,hw⟩;rw[hw,h8z])
 go_loopg [9,10] s.size (λg _ _ wx=>∃i:Nat,i+g=s.size∧wx.heap[w.heap.size]?=some (.stringIter s i)∧Below w.heap.size w wx∧Lib.NoAny s.data.toList chars.data.toList i)
 case atStart=>exact⟨0,by omega,World.iter_heap w s 0,(Below.refl _ w).alloc (aR _) _,Lib.NoAny.zero _ _⟩
 case round=>
  obtain⟨i,hig,hk,abX,Wf⟩:=hrel
  have HN:Aside (Lib.NoAny s.data.toList chars.data.toList i):=Wf
  clear Wf
  have HB:Aside (Below w.heap.size w wr):=abX
  clear abX
  cases gk with
  |zero=>
   obtain rfl:i=s.size:=by omega
   have Wg:=λty=>run_next_end_at (P:=P) wr w.heap.size s s.size ty hk (by omega)
   go_wp2
   go_ret
   exact⟨by rw[Lib.indexAny_none (by rw[←Lib.size_eq];exact HN.out)];rfl,HB.out⟩
  |succ g=>
   have hi:i<s.size:=by omega
   have SJ:i<s.data.toList.length:=by rw[←Lib.size_eq];exact hi
   have Wg:=λty=>run_next_any_at (P:=P) wr w.heap.size s i ty hk hi
   obtain⟨b1,b2,b3⟩:=J.qs SJ
   have ab3:=decodeL_drop s i
   have SS:=Lib.size_eq s
   rw[ab3]at b1 b2 b3
   obtain⟨r,wd,hd⟩:∃r wd,Utf8.decode s i=(r,wd):=⟨_,_,rfl⟩
   rw[hd]at Wg b1 b2 b3
   simp only at Wg b1 b2 b3
   obtain⟨w2,hw2⟩:∃w2,wr.iterAt w.heap.size s (i+wd)=w2:=⟨_,rfl⟩
   have hk2:w2.heap[w.heap.size]?=some (.stringIter s (i+wd)):=hw2▸Eh hk
   have Dr:Below w.heap.size w w2:=hw2▸DC HB.out
   rw[hw2]at Wg
   clear hw2 ab3 hd
   have HK2:Aside (w2.heap[w.heap.size]?=some (.stringIter s (i+wd))):=hk2
   have HB2:Aside (Below w.heap.size w w2):=Dr
   clear hk2 Dr
   rcases b3 with⟨c1,c2⟩|⟨c1,c2⟩
   ·obtain⟨x,Us⟩:∃x,s.data.toList[i]?=some x:=⟨_,bU SJ⟩
    have hbx:J.bt s.data.toList i=x.toNat:=by unfold J.bt;rw[ar,Us];rfl
    rw[hbx]at c1 c2;obtain⟨rfl,rfl⟩:=Prod.mk.inj c2
    have Hx:Aside (s.data.toList[i]?=some x):=Us
    clear Us hbx c2
    have Kq:=Lib.contains_iff_indexByte chars.data.toList x
    have Uk:((x.toNat:Int)).toNat.toUInt8=x:=by simp
    cases SK:chars.data.toList.contains x
    ·rw[SK]at Kq
     have YR:¬((0:Int)≤Lib.indexByte chars.data.toList x):=iV Kq.symm
     clear Kq
     go_wp2_with (go_at_fn (ρ.f 152);refine(Any.strings_IndexRune_ascii {L with} _ _ _ (by omega) (by omega)).mono ?_;rintro e w' ⟨rfl,rfl⟩;rw[Uk];dsimp only)
     go_wp2
     go_roundg g
     case measure=>omega
     case rel=>exact⟨i+1,by omega,HK2.out,HB2.out,HN.out.succ Hx.out SK⟩
    ·rw[SK]at Kq
     have hge:(0:Int)≤Lib.indexByte chars.data.toList x:=fM Kq.symm
     clear Kq
     go_wp2_with (go_at_fn (ρ.f 152);refine(Any.strings_IndexRune_ascii {L with} _ _ _ (by omega) (by omega)).mono ?_;rintro e w' ⟨rfl,rfl⟩;rw[Uk];dsimp only)
     go_wp2
     go_ret
     exact⟨by rw[Lib.indexAny_hit HN.out Hx.out SK];rfl,HB2.out⟩
   ·have HC:Aside (∀j,j<wd→128≤J.bt s.data.toList (i+j)):=c2
    clear c2
    go_wp2_with (go_at_fn (ρ.f 152);refine(Any.vJ {L with} _ _ _ (by omega) HA.out NU).mono ?_;rintro e w3 ⟨rfl,hb3⟩;dsimp only)
    go_wp2
    go_roundg (s.size-(i+wd))
    case measure=>omega
    case rel=>exact⟨i+wd,by omega,by rw[hb3.block _ (wG.1 HK2.out).1];exact HK2.out,MV HB2.out HB2.out.size hb3,He HN.out HA.out HC.out⟩
theorem Any.DB (L:Lays.n153 P ρ)(a:(P.info? (ρ.t 116)).map (λi=>(i.zero,i.size))=some (some (.agg (Array.replicate 256 (.bool false))),256))(s chars:ByteArray)(w:World)(d:2≤chars.size)(g:chars.size≤100)(h:s.size<4294967281)
 (c:∀(j:Nat) b,chars.data.toList[j]?=some b→b.toNat<128):
 Calls P (ρ.f 153) #[.string s,.string chars] w λe w'=>e= .returned (.int .i64 (Lib.indexAny s.data.toList chars.data.toList))∧Below w.heap.size w w':=by
 by_cases k:s.size≤8
 ·exact Any.sQ L s chars w d g k c
 ·refine(Any.strings_IndexAny_long L (zero_of_info a).1 (zero_of_info a).2 s chars w (by omega) (by omega) h (by omega) c).mono ?_
  rintro e w' ⟨l,m⟩;refine⟨l,?_⟩;rw[m];exact((Below.refl _ _).alloc (aR _) _).alloc (by simp) _
theorem Any.xF (L:Lays.n150 P ρ)(S7:(P.info? (ρ.t 116)).map (λi=>(i.zero,i.size))=some (some (.agg (Array.replicate 256 (.bool false))),256))(s chars:ByteArray)(w:World)(h2:2≤chars.size)(NU:chars.size≤100)(hs:s.size<4294967281)
 (hac:∀(j:Nat) b,chars.data.toList[j]?=some b→b.toNat<128):
 Calls P (ρ.f 150) #[.string s,.string chars] w λe w'=>e= .returned (.bool (Lib.containsAny s.data.toList chars.data.toList))∧Below w.heap.size w w':=by
 have c:=Any.DB {L with} S7 s chars w h2 NU hs hac
 have t3:=L.t3;have a3:=L.a3;have z3:=L.z3;have v3:=L.v3
 have t4:=L.t4;have a4:=L.a4;have z4:=L.z4;have v4:=L.v4
 have t9:=L.t9;have a9:=L.a9;have z9:=L.z9;have v9:=L.v9
 have anC:∀args w,(callFunc (ρ.f 153) args).run P w= .ok (.enter (ρ.f 153) args) w:=enters_of L.f153 (by kernel_rfl) rfl
 go_enter L.f150,Body.n150_ntmps ρ
 go_wp2_with (go_at_fn (ρ.f 153);refine c.mono ?_;rintro e w' ⟨rfl,hw⟩)
 go_ret
 exact⟨rfl,hw⟩
theorem uz (s:List UInt8):Lib.containsAny s J.xN=s.any J.iw:=by
 rw[B7];unfold Lib.containsAny;rw[decide_eq_true_iff,nb]
 constructor
 ·have g:∀l:List UInt8,0≤Lib.indexAny l J.xN→∃b,b∈l∧J.iw b=true:=by
   intro l
   induction l with
   |nil=>intro h;exact absurd h (by decide)
   |cons c l i=>
    intro h;unfold Lib.indexAny at h
    have j:=Lib.indexAny_ge J.xN l
    split at h
    ·rename_i d
     exact⟨c,aQ ..,by unfold J.iw;exact d⟩
    ·split at h
     ·omega
     ·rename_i he
      have k:Lib.indexAny l J.xN≠ -1:=λe=>he (by rw[e];rfl)
      obtain⟨b,a,f⟩:=i (by omega);exact⟨b,cO _ a,f⟩
  exact g s
 ·rintro ⟨b,a,f⟩
  rcases Int.lt_or_le (Lib.indexAny s J.xN) 0 with h|h
  ·exfalso
   have key:∀l:List UInt8,Lib.indexAny l J.xN<0→∀b∈l,J.iw b=false:=by
    intro l
    induction l with
    |nil=>intro _ b a;cases a
    |cons c l i=>
     intro h b a;unfold Lib.indexAny at h
     have j:=Lib.indexAny_ge J.xN l
     split at h
     ·omega
     ·rename_i d
      rcases cJ.1 a with rfl|a
      ·unfold J.iw;simpa using d
      ·refine i ?_ b a
       split at h
       ·rename_i he;rw[beq_iff_eq]at he;omega
       ·rename_i he;omega
   rw[key s h b a]at f;cases f
  ·exact h
end Go.Proofs
namespace Go.Proofs
open Go.Shelf
def Tryz.Ek:Go.Shelf.Ren:=⟨λ|195=>102|n=>n,λ|0=>0|3=>3|4=>4|9=>9|n=>n,λ|n=>n⟩
theorem Tryz.Sm:Go.Proofs.Lays.n195 Tryz.prog Tryz.Ek:={
 mixed:=by kernel_rfl
 f195:=Tryz.func102.trans (congrArg some (by kernel_rfl))
 t0:=Yf
 a0:=Tryz.isAgg0
 z0:=Tryz.sizeOf0
 v0:=Tryz.zeroValue0
 t3:=gV
 a3:=Tryz.isAgg3
 z3:=Tryz.sizeOf3
 v3:=Tryz.zeroValue3
 t4:=IL
 a4:=Tryz.isAgg4
 z4:=Tryz.sizeOf4
 v4:=Tryz.zeroValue4
 t9:=xQ
 a9:=Tryz.isAgg9
 z9:=Tryz.sizeOf9
 v9:=Tryz.zeroValue9}
def Tryz.qK:Go.Shelf.Ren:=⟨λ|196=>103|259=>134|n=>n,λ|0=>0|3=>3|4=>4|5=>5|9=>9|12=>12|46=>218|53=>157|119=>217|138=>220|139=>221|n=>n,λ|3=>0|4=>1|n=>n⟩
theorem Tryz.Sn:Go.Proofs.Lays.n196 Tryz.prog Tryz.qK:={
 mixed:=by kernel_rfl
 f196:=Tryz.func103.trans (congrArg some (by kernel_rfl))
 f259:=Tryz.func134.trans (congrArg some (by kernel_rfl))
 t0:=Yf
 a0:=Tryz.isAgg0
 z0:=Tryz.sizeOf0
 v0:=Tryz.zeroValue0
 t3:=gV
 a3:=Tryz.isAgg3
 z3:=Tryz.sizeOf3
 v3:=Tryz.zeroValue3
 t4:=IL
 a4:=Tryz.isAgg4
 z4:=Tryz.sizeOf4
 v4:=Tryz.zeroValue4
 t5:=GP
 a5:=Tryz.isAgg5
 z5:=Tryz.sizeOf5
 v5:=Tryz.zeroValue5
 t9:=xQ
 a9:=Tryz.isAgg9
 z9:=Tryz.sizeOf9
 v9:=Tryz.zeroValue9
 t12:=Tryz.underlying12
 a12:=Tryz.isAgg12
 z12:=Tryz.sizeOf12
 v12:=Tryz.zeroValue12
 t46:=Bx
 a46:=Tryz.isAgg218
 z46:=Tryz.sizeOf218
 v46:=Tryz.zeroValue218
 t53:=lj
 a53:=Tryz.isAgg157
 z53:=Tryz.sizeOf157
 v53:=Tryz.zeroValue157
 t119:=Tryz.underlying217
 a119:=Tryz.isAgg217
 z119:=Tryz.sizeOf217
 t138:=Tryz.underlying220
 a138:=Tryz.isAgg220
 z138:=Tryz.sizeOf220
 v138:=Tryz.zeroValue220
 t139:=Tryz.underlying221
 a139:=Tryz.isAgg221
 z139:=Tryz.sizeOf221
 v139:=Tryz.zeroValue221
 g3:=by kernel_rfl
 g4:=by kernel_rfl}
def Tryz.wT:Go.Shelf.Ren:=⟨λ|119=>176|137=>175|150=>104|152=>152|153=>135|217=>184|224=>177|225=>178|226=>153|227=>154|228=>155|266=>186|n=>n,λ|0=>0|3=>3|4=>4|5=>5|9=>9|21=>21|46=>218|116=>275|117=>276|124=>297|n=>n,λ|n=>n⟩
theorem Tryz.Sl:Go.Proofs.Lays.n150 Tryz.prog Tryz.wT:={
 mixed:=by kernel_rfl
 f119:=Tryz.func176.trans (congrArg some (by kernel_rfl))
 f137:=Tryz.func175.trans (congrArg some (by kernel_rfl))
 f150:=Tryz.func104.trans (congrArg some (by kernel_rfl))
 f152:=Tryz.func152.trans (congrArg some (by kernel_rfl))
 f153:=Tryz.func135.trans (congrArg some (by kernel_rfl))
 f217:=Tryz.func184.trans (congrArg some (by kernel_rfl))
 f224:=Tryz.func177.trans (congrArg some (by kernel_rfl))
 f225:=Tryz.func178.trans (congrArg some (by kernel_rfl))
 f226:=Tryz.func153.trans (congrArg some (by kernel_rfl))
 f227:=Tryz.func154.trans (congrArg some (by kernel_rfl))
 f228:=Tryz.func155.trans (congrArg some (by kernel_rfl))
 f266:=Tryz.func186.trans (congrArg some (by kernel_rfl))
 t0:=Yf
 a0:=Tryz.isAgg0
 z0:=Tryz.sizeOf0
 v0:=Tryz.zeroValue0
 t3:=gV
 a3:=Tryz.isAgg3
 z3:=Tryz.sizeOf3
 v3:=Tryz.zeroValue3
 t4:=IL
 a4:=Tryz.isAgg4
 z4:=Tryz.sizeOf4
 v4:=Tryz.zeroValue4
 t5:=GP
 a5:=Tryz.isAgg5
 z5:=Tryz.sizeOf5
 v5:=Tryz.zeroValue5
 t9:=xQ
 a9:=Tryz.isAgg9
 z9:=Tryz.sizeOf9
 v9:=Tryz.zeroValue9
 t21:=Tryz.underlying21
 a21:=Tryz.isAgg21
 z21:=Tryz.sizeOf21
 v21:=Tryz.zeroValue21
 t46:=Bx
 a46:=Tryz.isAgg218
 z46:=Tryz.sizeOf218
 v46:=Tryz.zeroValue218
 t116:=Tryz.underlying275
 a116:=Tryz.isAgg275
 z116:=Tryz.sizeOf275
 t117:=Tryz.underlying276
 a117:=Tryz.isAgg276
 z117:=Tryz.sizeOf276
 v117:=Tryz.zeroValue276
 t124:=Tryz.underlying297
 a124:=Tryz.isAgg297
 z124:=Tryz.sizeOf297
 v124:=Tryz.zeroValue297}
end Go.Proofs
namespace Go.Proofs.YtblifkgpebebmaaGreatDoor
open Go Go.J Tryz
theorem ZO:aI prog 102:=⟨_,func102,rfl,by kernel_rfl⟩
theorem ZP:aI prog 103:=⟨_,func103,rfl,by kernel_rfl⟩
theorem ZQ:aI prog 104:=⟨_,func104,rfl,by kernel_rfl⟩
def Vc (w:World):Prop:=Lib.Utf8Tabs (Tryz.qK.g 3) (Tryz.qK.g 4) w
abbrev u8:du:=du.of Vc
theorem Xu:(prog.info? (Tryz.wT.t 116)).map (λi=>(i.zero,i.size))=some (some (.agg (Array.replicate 256 (.bool false))),256):=by kernel_rfl
theorem Jd (s:ax):(⟨s.toArray⟩:ByteArray).size=s.length:=by simp[ByteArray.size]
theorem TL (s:ax)(a:s.length<9223372036854775807):kW prog 102 #[sv s] [u8] (iv (Lib.runeCountL s)):=
 kW.qQ λw _=>by
  refine(Any.utf8_RuneCountInString Tryz.Sm ⟨s.toArray⟩ w (by rw[Jd];exact a)).mono ?_;rintro e w' ⟨rfl,pos,rfl⟩;exact⟨rfl,(RowKit.Below.refl _ w).alloc (aR _) _⟩
theorem IQ (s:ax)(a:s.length<9223372036854775807):kW prog 103 #[sv s] [u8] (.bool (Lib.validD s)):=
 kW.qQ λw hw=>Any.utf8_ValidString Tryz.Sn ⟨s.toArray⟩ w (by rw[Jd];omega) hw
theorem MN (s:ax)(a:s.length<4294967281):kW prog 104 #[sv s,sv xN] [u8] (.bool (s.any iw)):=
 kW.qQ λw _=>by
  have:=Any.xF Tryz.Sl Xu ⟨s.toArray⟩ ⟨xN.toArray⟩ w (by decide) (by decide) (by rw[Jd];exact a) (λj b h=>by
   have:∀b∈xN,b.toNat<128:=by decide
   exact this b (ae h))
  rw[←uz];exact this
theorem Xd (s:ax):s.length≤4*Lib.runeCountL s:=by
 have key:∀(f p:Nat),s.length-p≤f→s.length-p≤4*Lib.runeCountFrom ⟨s.toArray⟩ f p:=by
  intro f
  induction f with
  |zero=>intro p h;omega
  |succ f b=>
   intro p h
   by_cases hp:p<s.length
   ·have c:p<(⟨s.toArray⟩:ByteArray).size:=by rw[Jd];exact hp
    obtain⟨d1,d2,_⟩:=qs hp
    have a:=Lib.decodeL_drop ⟨s.toArray⟩ p
    simp only at a
    have hw:(Lib.decodeL (s.drop p)).2≤4:=by
     rw[vB]
     rcases vA (n:=s.length-p) (pR s p) (pR s (p+1)) (pR s (p+2)) (pR s (p+3))with⟨_,e⟩|⟨_,_,_,_,e⟩|⟨_,r,_,e⟩|⟨_,r,_,e⟩|⟨_,r,_,e⟩<;>rw[e]<;>simp
    have:=b (p+(Lib.decodeL (s.drop p)).2) (by omega)
    rw[Lib.runeCountFrom,aC c,←a];omega
   ·omega
 have:=key s.length 0 (by omega)
 have e:Lib.runeCountFrom ⟨s.toArray⟩ s.length 0=Lib.runeCountL s:=by unfold Lib.runeCountL Lib.runeCount;congr 1
 rw[e]at this;omega
theorem GC (s:ax):(((decide ((1:Int)≤(Lib.runeCountL s:Int))&&decide ((Lib.runeCountL s:Int)≤30))&&Lib.validD s)&& !(s.any iw))=isWord s:=by
 rw[L7]
 have h1:decide ((1:Int)≤(Lib.runeCountL s:Int))=decide (1≤Lib.runeCountL s):=decide_eq_decide.2 (by omega)
 have a:decide ((Lib.runeCountL s:Int)≤30)=decide (Lib.runeCountL s≤30):=decide_eq_decide.2 (by omega)
 rw[h1,a]
theorem ui (s:ax)(d:s.length<9223372036854775807):kW prog 67 #[sv s] [u8] (.bool (isWord s)):=by
 refine kW.body (args:=[sv s]) (ds:=[u8]) 21 func67 rfl ntmps67 rfl (λc b=> ?_)
 change St _ _ (Mm c [aB u8]) _
 refine g8 ?_;refine St.ee (Ev.mQ b (TL s d) ZO (.au rfl)) ?_;refine g8 ?_;refine St.gt _ rfl rfl (λa=>Ev.move (.mk rfl)) rfl ?_;refine St.gt _ rfl rfl (λa=>Ev.leq (ai.gv rfl a) (.mk rfl)) rfl ?_;refine g2 ?_;refine St.gt _ rfl rfl (λa=>Ev.move (.mk rfl)) rfl ?_;refine St.gt _ rfl rfl (λa=>Ev.mQ b (IQ s d) ZP (.cons (ai.gv rfl a) .nil)) rfl ?_;refine g2 ?_;refine St.gt _ rfl rfl (λa=>Ev.move (.mk rfl)) rfl ?_;refine St.gt _ rfl rfl (λa=>Ev.mQ b (MN s (by have e:=Xd s;first|omega|(simp only[Bool.and_eq_true,decide_eq_true_eq]at a;omega)|(simp at a;omega)|(trace_state;omega))) ZQ (.cons (ai.gv rfl a) (.au rfl))) rfl ?_;refine St.gt _ rfl rfl (λa=>Ev.not (ai.gv rfl a)) rfl ?_;refine g5 ?_;refine St.rV [_] [] ?_;exact be (by first|exact GC s|(simp[GC]))
theorem Ss (T:List ek)(Fs:List oe)(x:eY):xK T Fs (oh x)=if isWord x.word=false then 10 else if x.weight<0∨1000000<x.weight then 3 else if(dP T Fs (ay x.graph)).1≠0 then(dP T Fs (ay x.graph)).1 else(qY (dH x.eu)).1:=rfl
theorem PI (T:List ek)(Fs:List oe)(x:ca):pW T Fs (lL x)=if x.kids<1∨3<x.kids∨x.weight<0∨1000000<x.weight then 3 else if(dP T Fs (ay x.graph)).1≠0 then(dP T Fs (ay x.graph)).1 else if nS (ay x.graph) x.kids=false then 5 else(qY (dH x.eu)).1:=rfl
theorem Dk {T:List ek}{Fs:List oe}{G:e8}(h:(dP T Fs G).1=0):(fX T.length Fs.length G).1=0:=by
 rcases Decidable.em ((fX T.length Fs.length G).1=0)with h1|h1
 ·exact h1
 ·rw[C7 h1]at h;exact h
theorem B6 {T:List ek}{Fs:List oe}(c:Fs.length≤40){g:dD}(h:(dP T Fs (ay g)).1=0):0<g.nodes.length∧∀n∈g.nodes,Asc n.aq∧n.aq.length≤1000000:=by
 have h1:=Dk h
 obtain⟨b,_,d⟩:=zF h1;refine⟨by rw[dA]at b;exact b,λn a=>⟨BW h1 n a,?_⟩⟩
 have e:=(d (mD n) (eP a)).2
 have:=R2 (BW h1 n a) (nf:=Fs.length) (λx hx=>by
  have:=e (fS x) (eP hx)
  exact⟨this.1,this.2.1⟩)
 omega
theorem GR (tv xv d e:aV)(ts:List re)(a:List jG)(x:eY)(n:im (ts.map dG))(o:∀f∈a,0≤f.Bc∧f.Bc<ts.length∧0≤f.value∧f.value<ts.length)(hw:e7.wf x):kW prog 48 #[.agg #[tv.1,xv.1],kB d e,aeF x] [sl n5 tv.1 ts,sl gY xv.1 a,sl bH d.1 (dg (ts.map dG)),sl bH e.1 (de (ts.map dG)),eQ x,u8] (iv (xK (ts.map dG) (a.map gw) (oh x))):=by
 refine kW.body (args:=[.agg #[tv.1,xv.1],kB d e,aeF x]) (ds:=[sl n5 tv.1 ts,sl gY xv.1 a,sl bH d.1 (dg (ts.map dG)),sl bH e.1 (de (ts.map dG)),eQ x,u8]) 34 func48 rfl ntmps48 rfl (λc p=> ?_);refine St.cast (H':=[aB (sl n5 tv.1 ts),aB (sl gY xv.1 a),aB (sl bH d.1 (dg (ts.map dG))),aB (sl bH e.1 (de (ts.map dG))),aB (eQ x),aB (u8)]) rfl ?_;refine go ?_
 refine St.jN (eQ x) (λ_:Unit=>XK x) (λρ h=>⟨(),h⟩) λ_=> ?_
 refine St.cast (H':=[aB (aG x.graph),aB (cm x.eu),aB (sl n5 tv.1 ts),aB (sl gY xv.1 a),aB (sl bH d.1 (dg (ts.map dG))),aB (sl bH e.1 (de (ts.map dG))),aB (eQ x),aB (u8)]) rfl ?_
 have b:=Ss (ts.map dG) (a.map gw) x
 obtain⟨m,r,i⟩:=hw
 replace m:x.word.length≤140737488351232:=m
 refine go ?_;refine St.dJ (.mk rfl) rfl (λs=> ?_);refine St.dJ (.mk rfl) rfl (λt=> ?_);refine St.dJ (.mk rfl) rfl (λu=> ?_);refine g8 ?_;refine St.ee (Ev.mQ p (ui x.word (by omega)) W5 (.au rfl)) ?_;refine g3 ?_;refine St.cond _ rfl (λj=> ?_) (λj=> ?_)
 ·skip
  rw[aC (by simpa using j)]at b;refine g7 ?_;refine St.rV [_] [] ?_;exact ie b.symm
 ·skip
  rw[aA (by simpa using j)]at b;refine g9 ?_;refine St.gf _ rfl rfl (λg=>Ev.da (.mk rfl) Cy) rfl ?_;refine St.gf _ rfl rfl (λg=>Ev.ke (ai.gv rfl g) gV trivial (by rfl)) rfl ?_;refine St.gf _ rfl rfl (λg=>Ev.gtr (ai.gv rfl g) (.mk rfl)) rfl ?_;refine g3 ?_;refine St.cq (λq=> ?_) (λq=> ?_)
  ·rw[aC (by omega)]at b
   refine g7 ?_;refine St.rV [_] [] ?_;exact ie b.symm
  ·rw[aA (by omega)]at b
   refine g8 ?_;refine St.ee (Ev.iT 1 (.mk rfl) mo trivial jR rfl rfl) ?_;refine St.slot 23 (bA x.graph) rfl rfl ?_;refine St.ee (Ev.call (q7 tv xv d e ts a x.graph n o) W3 (.ej rfl rfl rfl)) ?_;refine St.al (λv=> ?_);refine g10 ?_;refine St.cond _ rfl (λk=> ?_) (λk=> ?_)
   ·skip
    have l:(dP (ts.map dG) (a.map gw) (ay x.graph)).1≠0:=by simpa using k
    rw[aC l]at b;refine g9 ?_;refine St.rV [_] [] ?_;exact ie b.symm
   ·skip
    have l:¬(dP (ts.map dG) (a.map gw) (ay x.graph)).1≠0:=by simpa using k
    rw[aA l]at b;refine g5 ?_;refine St.ee (Ev.iT 6 (.mk rfl) lh trivial fc rfl rfl) ?_;refine St.slot 31 (cN x.eu) rfl rfl ?_;refine St.ee (Ev.call (uP x.eu i) Zz (.au rfl)) ?_;refine St.ee (Ev.Cw (.mk rfl) Lm rfl (by first|rw[gV]|(dsimp only;rw[gV])|kernel_rfl) rfl) ?_;refine g4 ?_;refine St.rV [_] [] ?_;exact ie b.symm
theorem KQ (tv xv e g:aV)(ts:List re)(b:List jG)(x:ca)(n:im (ts.map dG))(o:∀f∈b,0≤f.Bc∧f.Bc<ts.length∧0≤f.value∧f.value<ts.length)(p:b.length≤40)(hw:cT.wf x):eC prog 47 #[.agg #[tv.1,xv.1],kB e g,rm x] [sl n5 tv.1 ts,sl gY xv.1 b,sl bH e.1 (dg (ts.map dG)),sl bH g.1 (de (ts.map dG)),bx x] (iv (pW (ts.map dG) (b.map gw) (lL x))):=by
 unfold eC;refine dz.body (args:=[.agg #[tv.1,xv.1],kB e g,rm x]) 46 func47 rfl ntmps47 rfl (λc=> ?_);refine St.cast (H':=[aB (sl n5 tv.1 ts),aB (sl gY xv.1 b),aB (sl bH e.1 (dg (ts.map dG))),aB (sl bH g.1 (de (ts.map dG))),aB (bx x)]) rfl ?_;refine go ?_
 refine St.jN (bx x) (λ_:Unit=>PK x) (λρ h=>⟨(),h⟩) λ_=> ?_
 refine St.cast (H':=[aB (aG x.graph),aB (cm x.eu),aB (sl n5 tv.1 ts),aB (sl gY xv.1 b),aB (sl bH e.1 (dg (ts.map dG))),aB (sl bH g.1 (de (ts.map dG))),aB (bx x)]) rfl ?_
 have d:=PI (ts.map dG) (b.map gw) x
 obtain⟨u,q,r,j⟩:=hw;refine go ?_;refine St.dJ (.mk rfl) rfl (λv=> ?_);refine St.dJ (.mk rfl) rfl (λw=> ?_);refine St.dJ (.mk rfl) rfl (λy=> ?_);refine g10 ?_;refine St.gf _ rfl rfl (λa=>Ev.da (.mk rfl) xh) rfl ?_;refine St.gf _ rfl rfl (λa=>Ev.ke (ai.gv rfl a) gV trivial (by rfl)) rfl ?_;refine St.gf _ rfl rfl (λa=>Ev.gtr (ai.gv rfl a) (.mk rfl)) rfl ?_;refine g2 ?_;refine St.gf _ rfl rfl (λa=>Ev.da (.mk rfl) xi) rfl ?_;refine St.gf _ rfl rfl (λa=>Ev.ke (ai.gv rfl a) gV trivial (by rfl)) rfl ?_;refine St.gf _ rfl rfl (λa=>Ev.lss (ai.gv rfl a) (.mk rfl)) rfl ?_;refine g2 ?_;refine St.gf _ rfl rfl (λa=>Ev.da (.mk rfl) xi) rfl ?_;refine St.gf _ rfl rfl (λa=>Ev.ke (ai.gv rfl a) gV trivial (by rfl)) rfl ?_;refine St.gf _ rfl rfl (λa=>Ev.gtr (ai.gv rfl a) (.mk rfl)) rfl ?_;refine g3 ?_;refine St.cq (λs=> ?_) (λs=> ?_)
 ·rw[aC (by omega)]at d
  refine g7 ?_;refine St.rV [_] [] ?_;exact ie d.symm
 ·rw[aA (by omega)]at d
  refine g8 ?_;refine St.ee (Ev.iT 1 (.mk rfl) mo trivial jR rfl rfl) ?_;refine St.slot 29 (bA x.graph) rfl rfl ?_;refine St.ee (Ev.call (q7 tv xv e g ts b x.graph n o) W3 (.ej rfl rfl rfl)) ?_;refine St.al (λz=> ?_);refine g10 ?_;refine St.cond _ rfl (λk=> ?_) (λk=> ?_)
  ·skip
   have i:(dP (ts.map dG) (b.map gw) (ay x.graph)).1≠0:=by simpa using k
   rw[aC i]at d;refine g9 ?_;refine St.rV [_] [] ?_;exact ie d.symm
  ·skip
   have i:¬(dP (ts.map dG) (b.map gw) (ay x.graph)).1≠0:=by simpa using k
   rw[aA i]at d;obtain⟨t,l⟩:=B6 (by rw[aO];exact p) (ez.1 i);refine g6 ?_;refine St.ee (Ev.iT 1 (.mk rfl) mo trivial jR rfl rfl) ?_;refine St.slot 37 (bA x.graph) rfl rfl ?_;refine g2 ?_;refine St.ee (Ev.call (E0 x.graph x.kids t l) ahX (.aX rfl rfl)) ?_;refine g3 ?_;refine St.cond _ rfl (λm=> ?_) (λm=> ?_)
   ·skip
    rw[aC (by simpa using m)]at d;refine g7 ?_;refine St.rV [_] [] ?_;exact ie d.symm
   ·skip
    rw[aA (by simpa using m)]at d;refine g5 ?_;refine St.ee (Ev.iT 6 (.mk rfl) lh trivial fc rfl rfl) ?_;refine St.slot 43 (cN x.eu) rfl rfl ?_;refine St.ee (Ev.call (uP x.eu j) Zz (.au rfl)) ?_;refine St.ee (Ev.Cw (.mk rfl) Lm rfl (by first|rw[gV]|(dsimp only;rw[gV])|kernel_rfl) rfl) ?_;refine g4 ?_;refine St.rV [_] [] ?_;exact ie d.symm
theorem Fe {T:List ek}{Fs:List oe}{l:List sq}{k:Nat}{t:sq}(ht:l[k]?=some t)(known:List ax):ja T Fs known k (l.drop k)=if isName t.name=false then(10,(k:Int))else if t.name∈known then(7,(k:Int))else if pW T Fs t≠0 then(pW T Fs t,(k:Int))else ja T Fs (known++ [t.name]) (k+1) (l.drop (k+1)):=by rw[bN ht,ja]
theorem Hv {T:List ek}{Fs:List oe}{l:List sq}{k:Nat}(h:l.length≤k)(known:List ax):ja T Fs known k (l.drop k)=(0,0):=by rw[j4 h,ja]
theorem Eu {T:List ek}{Fs:List oe}{l:List Dz}{k:Nat}{t:Dz}(ht:l[k]?=some t):jZ T Fs k (l.drop k)=if xK T Fs t≠0 then(xK T Fs t,(k:Int))else jZ T Fs (k+1) (l.drop (k+1)):=by rw[bN ht,jZ]
theorem HX {T:List ek}{Fs:List oe}{l:List Dz}{k:Nat}(h:l.length≤k):jZ T Fs k (l.drop k)=(0,0):=by rw[j4 h,jZ]
theorem S3 (g:gQ):jL (cE g)=if(jM (g.types.map dG) (g.cB.map gw)).1≠0 then jM (g.types.map dG) (g.cB.map gw)else if(g.cB.map gw).length≤3 then(9,-1)else if 40<(g.rules.map lL).length∨100<(g.aL.map oh).length then(2,-1)
 else if(ja (g.types.map dG) (g.cB.map gw) [] 0 (g.rules.map lL)).1≠0 then ja (g.types.map dG) (g.cB.map gw) [] 0 (g.rules.map lL)else if(jZ (g.types.map dG) (g.cB.map gw) 0 (g.aL.map oh)).1≠0 then jZ (g.types.map dG) (g.cB.map gw) 0 (g.aL.map oh)
 else if(dP (g.types.map dG) (g.cB.map gw) (ay g.start)).1≠0 then((dP (g.types.map dG) (g.cB.map gw) (ay g.start)).1,-1)else(0,0):=rfl
theorem xo {r x E:Int×Int}{c i:Int}(h:x=if r.1≠0 then r else E)(e:r=(c,i))(a:c≠0):x=(c,i):=by rw[h,aC (by rw[e];exact a),e]
theorem JD {r x E:Int×Int}(h:x=if r.1≠0 then r else E)(e:r=(0,0)):x=E:=by rw[h,aA (by rw[e];simp)]
theorem qJ (g:gQ):kW prog 24 #[fG g] [er g,tz,u8] (fv (jL (cE g))):=by
 refine kW.body (args:=[fG g]) (ds:=[er g,tz,u8]) 112 func24 rfl ntmps24 rfl (λc P=> ?_);refine St.cast (H':=[aB (er g),aB (tz),aB (u8)]) rfl ?_;refine go ?_
 refine St.jN (er g) (λ_:Unit=>H8 g) (λρ h=>⟨(),h⟩) λ_=> ?_
 refine St.cast (H':=[aB (sl n5 g.tv.1 g.types),aB (aF ry g.types),aB (sl gY g.fv.1 g.cB),aB (sl cT g.rv.1 g.rules),aB (aF bx g.rules),aB (sl e7 g.xv.1 g.aL),aB (aF eQ g.aL),aB (aG g.start),aB (er g),aB (tz),aB (u8)]) rfl ?_
 have a:=S3 g
 have Q:(g.types.map dG).length=g.types.length:=aO ..
 have hFl:(g.cB.map gw).length=g.cB.length:=aO ..
 have R:(g.rules.map lL).length=g.rules.length:=aO ..
 have S:(g.aL.map oh).length=g.aL.length:=aO ..
 refine St.wf g.rv.1 (λu Wl=> ?_);refine St.wf g.xv.1 (λU Us=> ?_);refine go ?_;refine St.dJ (.mk rfl) rfl (λJ=> ?_);refine St.al (λK=> ?_);refine g5 ?_;refine St.ee (Ev.iT 2 (.mk rfl) underlying25 trivial Pe rfl rfl) ?_;refine St.slot 17 (.agg #[g.tv.1,g.fv.1]) rfl rfl ?_;refine St.al (λL=> ?_);refine g7 ?_;refine St.ee (Ev.call (D7 g.tv g.fv g.types g.cB) ahL (.au rfl)) ?_;refine St.al (λb4=> ?_);refine g10 ?_;refine St.cond _ rfl (λA=> ?_) (λA=> ?_)
 ·skip
  have v:(jM (g.types.map dG) (g.cB.map gw)).1≠0:=by simpa using A
  rw[aC v]at a;refine g8 ?_;refine St.rV [_] [] ?_;exact congrArg fv a.symm
 ·skip
  have v:¬(jM (g.types.map dG) (g.cB.map gw)).1≠0:=by simpa using A
  rw[aA v]at a;obtain⟨_,y,V,B⟩:=SI (ez.1 v)
  have C:∀f∈g.cB,0≤f.Bc∧f.Bc<g.types.length∧0≤f.value∧f.value<g.types.length:=λf W=>by have:=B (gw f) (eP W);rw[Q]at this;exact this
  refine g11 ?_;refine St.cq (λX=> ?_) (λX=> ?_)
  ·rw[aC (by omega)]at a
   refine g2 ?_;refine St.ee (Ev.call (ei 9 (-1)) Gs (.aX rfl rfl)) ?_;refine g5 ?_;refine St.rV [_] [] ?_;exact congrArg fv a.symm
  ·rw[aA (by omega)]at a
   refine g10 ?_;refine St.gf _ rfl rfl (λr=>Ev.da (.mk rfl) H0) rfl ?_;refine St.gf _ rfl rfl (λr=>Ev.ke (ai.gv rfl r) IK trivial (by rfl)) rfl ?_;refine St.gf _ rfl rfl (λr=>Ev.fk (ai.gv rfl r) IK) rfl ?_;refine St.gf _ rfl rfl (λr=>Ev.gtr (ai.gv rfl r) (.mk rfl)) rfl ?_;refine g3 ?_;refine St.cq (λY=> ?_) (λY=> ?_)
   ·rw[aC (by omega)]at a
    refine g2 ?_;refine St.ee (Ev.call (ei 2 (-1)) Gs (.aX rfl rfl)) ?_;refine g5 ?_;refine St.rV [_] [] ?_;exact congrArg fv a.symm
   ·rw[aA (by omega)]at a
    refine g6 ?_;refine St.ag (pz g.tv.1 g.types y) W1 (.au rfl) rfl ?_;rintro v42 _ ⟨e,i,rfl,rfl⟩;refine St.dQ ?_;refine St.al (λM=> ?_);refine g5 ?_;refine St.makeMap mkStr rfl (λD=> ?_);refine g13 ?_;refine St.tn (ι:=Nat) (κ:=List (ax×Value)) (λk m T=>(47,iv k)::T) (λk m=>[aW D (eU mkStr m),aW J (.cells [g.tv.1,g.fv.1,g.rv.1,g.xv.1,g.start.nv.1].toArray 32 (0,0)),aW K (.cells [iv 0,iv 0].toArray 35 (0,0)),aW L (.cells [g.tv.1,g.fv.1].toArray 25 (0,0)),aW M (.cells [e.1,i.1].toArray 100 (0,0)),aB (sl n5 g.tv.1 g.types),aB (aF ry g.types),aB (sl gY g.fv.1 g.cB),aB (sl cT g.rv.1 g.rules),aB (aF bx g.rules),aB (sl e7 g.xv.1 g.aL),aB (aF eQ g.aL),aB (aG g.start),aB (sl bH e.1 (dg (g.types.map dG))),aB (sl bH i.1 (de (g.types.map dG))),aB (u8)]) (λk m=>k≤g.rules.length∧ja (g.types.map dG) (g.cB.map gw) [] 0 (g.rules.map lL)=ja (g.types.map dG) (g.cB.map gw) ((g.rules.take k).map ca.name) k ((g.rules.map lL).drop k)∧KJ m ((g.rules.take k).map ca.name)) (λk m=>g.rules.length-k) 0 [] (aD.cons 1 rfl (aD.cons 2 rfl (aD.cons 3 rfl (aD.cons 5 rfl (aD.cons 6 rfl (aD.cons 45 rfl (aD.cons 46 rfl aD.nil))))))) ⟨aP _,rfl,KJ.nil⟩ ?_;rintro k m ⟨hk,s,N⟩;refine g6 ?_;refine St.cq (λE=> ?_) (λE=> ?_)
    ·obtain⟨t,ht⟩:=aE (show k<g.rules.length by omega)
     have F:=ae ht
     have b:=Fe (T:=(g.types.map dG)) (Fs:=(g.cB.map gw)) (l:=g.rules.map lL) (k:=k) (t:=lL t) (by rw[bP,ht];rfl) ((g.rules.take k).map ca.name)
     have Z:t.name.length≤9223372036854775807:=by have:=(u t F).1;simp only[nD]at this;omega
     refine St.cK bx g.rules (x:=t) F ?_;refine g8 ?_;refine St.ee (Ev.jq (.mk rfl) ht uS trivial kU j5.eq) ?_;refine St.al (λb8=> ?_);refine g9 ?_;refine St.ee (Ev.call (qn t.name Z) RG (.au rfl)) ?_;refine g3 ?_;refine St.cq (λj=> ?_) (λj=> ?_)
     ·rw[aC (show isName (lL t).name=false from(by simpa using j:isName t.name=false))]at b
      refine g3 ?_;refine St.ee (Ev.call (ei 10 k) Gs (.aX rfl rfl)) ?_;refine g10 ?_;refine St.rV [_] [] ?_;exact congrArg fv (xo a (s.trans b) (by decide)).symm
     ·rw[aA (show ¬isName (lL t).name=false from(by simpa using j:¬isName t.name=false))]at b
      refine g8 ?_;refine St.ee (Ev.tq mkStr (k:=t.name) (.mk rfl) (.mk rfl) pZ (by exact xQ) eS) ?_;refine g3 ?_;refine St.slot 64 (.bool (decide (t.name∈(g.rules.take k).map ca.name))) rfl (congrArg Value.bool (N t.name)) ?_;refine g9 ?_;refine St.cq (λn=> ?_) (λn=> ?_)
      ·rw[aC (show(lL t).name∈(g.rules.take k).map ca.name from n)]at b
       refine g3 ?_;refine St.ee (Ev.call (ei 7 k) Gs (.aX rfl rfl)) ?_;refine g10 ?_;refine St.rV [_] [] ?_;exact congrArg fv (xo a (s.trans b) (by decide)).symm
      ·rw[aA (show ¬(lL t).name∈(g.rules.take k).map ca.name from n)]at b
       refine g8 ?_;refine St.mapUpdate mkStr (k:=t.name) (.mk rfl) (.mk rfl) (.mk rfl) pZ (by exact xQ) ?_;refine g7 ?_;refine St.ee (Ev.call (KQ g.tv g.fv e i g.types g.cB t y C (by omega) (u t F)) ahM (.ej rfl rfl rfl)) ?_;refine g9 ?_;refine St.cond _ rfl (λG=> ?_) (λG=> ?_)
       ·skip
        have d:pW (g.types.map dG) (g.cB.map gw) (lL t)≠0:=by simpa using G
        rw[aC d]at b;refine g4 ?_;refine St.ee (Ev.call (ei (pW (g.types.map dG) (g.cB.map gw) (lL t)) k) Gs (.aX rfl rfl)) ?_;refine g9 ?_;refine St.rV [_] [] ?_;exact congrArg fv (xo a (s.trans b) d).symm
       ·skip
        have d:¬pW (g.types.map dG) (g.cB.map gw) (lL t)≠0:=by simpa using G
        rw[aA d]at b;refine g8 ?_;refine St.uk (k+1) (l9 m t.name (iv k)) ⟨by omega,by rw[s,b,gT ca.name ht];rfl,by rw[gT ca.name ht];exact N.snoc _ _⟩
    ·rw[Hv (by omega)]at s
     replace a:=JD a s
     refine g15 ?_;refine St.lH (ι:=Nat) (λq T=>(85,iv q)::T) (λq=>[aW J (.cells [g.tv.1,g.fv.1,g.rv.1,g.xv.1,g.start.nv.1].toArray 32 (0,0)),aW K (.cells [iv 0,iv 0].toArray 35 (0,0)),aW L (.cells [g.tv.1,g.fv.1].toArray 25 (0,0)),aW M (.cells [e.1,i.1].toArray 100 (0,0)),aB (sl n5 g.tv.1 g.types),aB (aF ry g.types),aB (sl gY g.fv.1 g.cB),aB (sl cT g.rv.1 g.rules),aB (aF bx g.rules),aB (sl e7 g.xv.1 g.aL),aB (aF eQ g.aL),aB (aG g.start),aB (sl bH e.1 (dg (g.types.map dG))),aB (sl bH i.1 (de (g.types.map dG))),aB (u8)]) (λq=>q≤g.aL.length∧jZ (g.types.map dG) (g.cB.map gw) 0 (g.aL.map oh)=jZ (g.types.map dG) (g.cB.map gw) q ((g.aL.map oh).drop q)) (λq=>g.aL.length-q) 0 (aD.cons 1 rfl (aD.cons 2 rfl (aD.cons 3 rfl (aD.cons 5 rfl (aD.cons 83 rfl (aD.cons 84 rfl aD.nil)))))) ⟨aP _,rfl⟩ ?_;rintro q ⟨hq,z⟩;refine g6 ?_;refine St.cq (λH=> ?_) (λH=> ?_)
     ·obtain⟨x,hx⟩:=aE (show q<g.aL.length by omega)
      have O:=ae hx
      have b:=Eu (T:=(g.types.map dG)) (Fs:=(g.cB.map gw)) (l:=g.aL.map oh) (k:=q) (t:=oh x) (by rw[bP,hx];rfl)
      refine St.cK eQ g.aL (x:=x) O ?_;refine g8 ?_;refine St.ee (Ev.jq (.mk rfl) hx A2 trivial nW j5.eq) ?_;refine St.al (λb13=> ?_);refine g9 ?_;refine St.ee (Ev.mQ P (GR g.tv g.fv e i g.types g.cB x y C (U x O)) ahN (.ej rfl rfl rfl)) ?_;refine g9 ?_;refine St.cond _ rfl (λI=> ?_) (λI=> ?_)
      ·skip
       have d:xK (g.types.map dG) (g.cB.map gw) (oh x)≠0:=by simpa using I
       rw[aC d]at b;refine g4 ?_;refine St.ee (Ev.call (ei (xK (g.types.map dG) (g.cB.map gw) (oh x)) q) Gs (.aX rfl rfl)) ?_;refine g9 ?_;refine St.rV [_] [] ?_;exact congrArg fv (xo a (z.trans b) d).symm
      ·skip
       have d:¬xK (g.types.map dG) (g.cB.map gw) (oh x)≠0:=by simpa using I
       rw[aA d]at b;refine g8 ?_;refine St.aH (q+1) ⟨by omega,z.trans b⟩
     ·rw[HX (by omega)]at z
      replace a:=JD a z
      refine g11 ?_;refine St.ee (Ev.iT 1 (.mk rfl) mo trivial jR rfl rfl) ?_;refine St.slot 103 (bA g.start) rfl rfl ?_;refine St.ee (Ev.call (q7 g.tv g.fv e i g.types g.cB g.start y C) W3 (.ej rfl rfl rfl)) ?_;refine St.al (λVk=> ?_);refine g10 ?_;refine St.cond _ rfl (λo=> ?_) (λo=> ?_)
      ·skip
       have p:(dP (g.types.map dG) (g.cB.map gw) (ay g.start)).1≠0:=by simpa using o
       rw[aC p]at a;refine g4 ?_;refine St.ee (Ev.call (ei (dP (g.types.map dG) (g.cB.map gw) (ay g.start)).1 (-1)) Gs (.aX rfl rfl)) ?_;refine g5 ?_;refine St.rV [_] [] ?_;exact congrArg fv a.symm
      ·skip
       have p:¬(dP (g.types.map dG) (g.cB.map gw) (ay g.start)).1≠0:=by simpa using o
       rw[aA p]at a;refine g4 ?_;refine St.ee (Ev.build (bF.nil) (λw=>jX w)) ?_;refine g4 ?_;refine St.rV [_] [] ?_;exact congrArg fv a.symm
end Go.Proofs.YtblifkgpebebmaaGreatDoor
namespace Go.J
open Go
def Ye:Rp UInt8:=⟨1,by decide,λx=>[.int .u8 (x.toNat:Int)],λ_=>True,λ_=>rfl,λ_ u h=>by simp at h;subst h;rfl⟩
section
variable {P:Program}{n:Nat}{F:Fr}{c:Ctx}{H:List ak}{ty:TypeId}{x:Operand}{Q:Exit→Act→World→Prop}{ops:Array Oper}{rest:List Oper}{d:Nat}{pos:String}{after:Array Edge}{src dst e:TypeId}
theorem uK (s:ax):rows Ye s=s.map λb=>Value.int .u8 (b.toNat:Int):=by
 induction s with
 |nil=>rfl
 |cons x xs a=>simp only[rows,List.flatMap_cons,List.map_cons]at a⊢;rw[a];rfl
end
end Go.J
namespace Go.J
open Go.RowKit
open Go
end Go.J
namespace Go.J
open Go
section
variable {P:Program}{n:Nat}{F:Fr}{c:Ctx}{H R:List ak}{ty:TypeId}{x:Operand}{v:Value}
theorem Ev.Xs (l:ax){m:Nat}{cs:List Value}{src dst e:TypeId}[f:xB v H e 1 m cs](hx:ai F x v)(hm:m=l.length)(d:cs=l.map λb=>Value.int .u8 (b.toNat:Int))(h:l≠ [])
 (i:P.underlying src=some (.slice e)) (he:P.underlying e=some (.int .u8)) (hd:P.underlying dst=some .string):Ev P n F (Mm c H) (.convert src dst x) ty (sv l):= .of_run λa w k hw=>by
 obtain⟨ρ,o⟩:=hw.out;subst hm d
 have p:=o.row f
 rcases p.2 with⟨_,q⟩|⟨g,cap,cur,rfl,_,r,_,_,d,s⟩
 ·exact absurd (lG q) h
 ·have:=run_convert_bytes_back (P:=P) w src dst e ⟨g,0,none⟩ cap l i he hd (λj t=>by
   have h1:(cur.toList.take (l.length*1))[j]?=some (.int .u8 (l[j].toNat:Int)):=by
    rw[s,bP,bU t];rfl
   rw[s9]at h1;rw[Addr.add_lit,hP,cV r]
   split at h1
   ·simpa using h1
   ·cases h1)
  simp[execOp,hx.eval k,this]
end
end Go.J
namespace Go.J
open Go Go.RowKit
section
variable {P:Program}{n:Nat}{F:Fr}{A:World→Prop}{c:Ctx}{H:List ak}{ty t e:TypeId}{x y:Operand}{v:Value}{T:Act→World→Prop}
theorem Ev.xk {b o' cap m size k off j N:Nat}{i:Int}{kd:IntKind}(d:v= .slice (some ⟨b,o',none⟩) m cap)(hx:ai F x (cZ v size k off))(hy:ai F y (.int kd i))(ht:P.underlying t=some (.array N e))(f:(P.info? e).map (·.size)=some 1)
 (g:i=j) (h:j<N):Ev P n F A (.indexAddr t x y) ty (cZ v size k (off+j)):= .of_run λa w c hw=>by
 obtain⟨inf,l,o⟩:=dp.1 f;subst g d;rw[eG]at hx
 simp[execOp,hx.eval c,hy.eval c,Instr.indexAt,Instr.sureAddr,asIntOf,run_underlying ht,sizeOf,typeInfo,l,o,h,eG,Addr.add_lit,Nat.add_assoc]
theorem St.VC {α:Type}{Rr:Rp α}{xs:List α}(v:Value)[hd:sH v H α Rr xs](h:v.oneCell'=true→St n F (Mm c H) T):St n F (Mm c H) T:=by
 intro a w b hw;obtain⟨ρ,hm⟩:=hw.out;obtain⟨ad,cap,rfl,_⟩:=hm.sl hd;exact h rfl a w b hw
end
def M4:Rp (Int×Int):=⟨2,by decide,λx=>[iv x.1,iv x.2],λ_=>True,λ_=>rfl,λx u h=>by
 simp only[List.mem_cons,List.not_mem_nil,or_false]at h
 rcases h with rfl|rfl<;>rfl⟩
end Go.J
namespace Go.Proofs.YtblifkgpebebmaaGreatDoor
open Go Go.J Tryz
abbrev kq:=List (Int×Int)
def vT:Nat→kq→kq→kq
 |0,xs,a=>xs++a
 |_+1,[],a=>a
 |_+1,x::xs,[]=>x::xs
 |f+1,x::xs,y::a=>if x.1<y.1 then x::vT f xs (y::a)else if y.1<x.1 then y::vT f (x::xs) a else x::vT f xs a
def xM:Nat→kq→kq→List (Int×Int)
 |0,_,_=>[]
 |_+1,[],_=>[]
 |_+1,_::_,[]=>[]
 |f+1,x::xs,y::a=>if x.1<y.1 then xM f xs (y::a)else if y.1<x.1 then xM f (x::xs) a else(x.2,y.2)::xM f xs a
def Ap (xs a:kq):kq:=vT (xs.length+a.length) xs a
def DM (xs a:kq):List (Int×Int):=xM (xs.length+a.length) xs a
theorem zI (f:Nat)(a:kq):vT f [] a=a:=by cases f<;>rfl
theorem vU (f:Nat)(xs:kq):vT f xs []=xs:=by cases f<;>cases xs<;>simp[vT]
theorem zQ (f:Nat)(a:kq):xM f [] a=[]:=by cases f<;>rfl
theorem vY (f:Nat)(xs:kq):xM f xs []=[]:=by cases f<;>cases xs<;>rfl
theorem mI:∀(f g:Nat) (xs a:kq),xs.length+a.length≤f→xs.length+a.length≤g→vT f xs a=vT g xs a
 |f,g,[],a,_,_=>by rw[zI,zI]
 |f,g,x::xs,[],_,_=>by rw[vU,vU]
 |f+1,g+1,x::xs,y::a,b,c=>by
  simp only[List.length_cons]at b c
  rw[vT,vT,mI f g xs (y::a) (by simp only[List.length_cons];omega) (by simp only[List.length_cons];omega),mI f g (x::xs) a (by simp only[List.length_cons];omega) (by simp only[List.length_cons];omega),mI f g xs a (by omega) (by omega)]
 |0,_,_::_,_::_,h,_=>by simp only[List.length_cons]at h;omega
 |_+1,0,_::_,_::_,_,h=>by simp only[List.length_cons]at h;omega
theorem mJ:∀(f g:Nat) (xs a:kq),xs.length+a.length≤f→xs.length+a.length≤g→xM f xs a=xM g xs a
 |f,g,[],a,_,_=>by rw[zQ,zQ]
 |f,g,x::xs,[],_,_=>by rw[vY,vY]
 |f+1,g+1,x::xs,y::a,b,c=>by
  simp only[List.length_cons]at b c
  rw[xM,xM,mJ f g xs (y::a) (by simp only[List.length_cons];omega) (by simp only[List.length_cons];omega),mJ f g (x::xs) a (by simp only[List.length_cons];omega) (by simp only[List.length_cons];omega),mJ f g xs a (by omega) (by omega)]
 |0,_,_::_,_::_,h,_=>by simp only[List.length_cons]at h;omega
 |_+1,0,_::_,_::_,_,h=>by simp only[List.length_cons]at h;omega
theorem uA (a:kq):Ap [] a=a:=zI _ _
theorem qO (xs:kq):Ap xs []=xs:=vU _ _
theorem DN (a:kq):DM [] a=[]:=zQ _ _
theorem zR (xs:kq):DM xs []=[]:=vY _ _
theorem fb (x y:Int×Int)(xs a:kq):Ap (x::xs) (y::a)=if x.1<y.1 then x::Ap xs (y::a)else if y.1<x.1 then y::Ap (x::xs) a else x::Ap xs a:=by
 have e:(x::xs).length+(y::a).length=(xs.length+a.length+1)+1:=by simp only[List.length_cons];omega
 show vT _ _ _=_
 rw[e,vT,mI _ (xs.length+(y::a).length) xs (y::a) (by simp only[List.length_cons];omega) (aR _),mI _ ((x::xs).length+a.length) (x::xs) a (by simp only[List.length_cons];omega) (aR _),mI _ (xs.length+a.length) xs a (by omega) (aR _)];rfl
theorem jy (x y:Int×Int)(xs a:kq):DM (x::xs) (y::a)=if x.1<y.1 then DM xs (y::a)else if y.1<x.1 then DM (x::xs) a else(x.2,y.2)::DM xs a:=by
 have e:(x::xs).length+(y::a).length=(xs.length+a.length+1)+1:=by simp only[List.length_cons];omega
 show xM _ _ _=_
 rw[e,xM,mJ _ (xs.length+(y::a).length) xs (y::a) (by simp only[List.length_cons];omega) (aR _),mJ _ ((x::xs).length+a.length) (x::xs) a (by simp only[List.length_cons];omega) (aR _),mJ _ (xs.length+a.length) xs a (by omega) (aR _)];rfl
theorem nP {C:kq→kq→Prop}(h1:∀a,C [] a)(b:∀x xs,C (x::xs) [])(d:∀x xs y a,x.1<y.1→C xs (y::a)→C (x::xs) (y::a))(e:∀x xs y a,y.1<x.1→C (x::xs) a→C (x::xs) (y::a))(f:∀x xs y a,x.1=y.1→C xs a→C (x::xs) (y::a)):∀(n:Nat) (xs a:kq),xs.length+a.length≤n→C xs a
 |_,[],a,_=>h1 a
 |_,x::xs,[],_=>b x xs
 |n+1,x::xs,y::a,h=>by
  simp only[List.length_cons]at h
  rcases Int.lt_trichotomy x.1 y.1 with c|c|c
  ·exact d _ _ _ _ c (nP h1 b d e f n xs (y::a) (by simp only[List.length_cons];omega))
  ·exact f _ _ _ _ c (nP h1 b d e f n xs a (by omega))
  ·exact e _ _ _ _ c (nP h1 b d e f n (x::xs) a (by simp only[List.length_cons];omega))
 |0,_::_,_::_,h=>by simp only[List.length_cons]at h;omega
theorem T7 (xs a:kq):(Ap xs a).length+(DM xs a).length=xs.length+a.length:=by
 refine nP (C:=λxs a=>(Ap xs a).length+(DM xs a).length=xs.length+a.length) ?_ ?_ ?_ ?_ ?_ _ xs a (aR _)
 ·intro a;rw[uA,DN];simp
 ·intro x xs;rw[qO,zR]
 ·intro x xs y a h b;rw[fb,jy,aC h,aC h];simp only[List.length_cons]at b⊢;omega
 ·intro x xs y a h b
  have c:¬x.1<y.1:=by omega
  rw[fb,jy,aA c,aA c,aC h,aC h];simp only[List.length_cons]at b⊢;omega
 ·intro x xs y a h b
  have c:¬x.1<y.1:=by omega
  have d:¬y.1<x.1:=by omega
  rw[fb,jy,aA c,aA c,aA d,aA d];simp only[List.length_cons]at b⊢;omega
theorem xz {z:Int×Int}(xs a:kq):z∈Ap xs a→z∈xs∨z∈a:=by
 refine nP (C:=λxs a=>z∈Ap xs a→z∈xs∨z∈a) ?_ ?_ ?_ ?_ ?_ _ xs a (aR _)
 ·intro a h;rw[uA]at h;exact .inr h
 ·intro x xs h;rw[qO]at h;exact .inl h
 ·intro x xs y a h b hz;rw[fb,aC h]at hz
  rcases cJ.1 hz with rfl|hz
  ·exact .inl (by simp)
  ·rcases b hz with h|h
   ·exact .inl (by simp[h])
   ·exact .inr h
 ·intro x xs y a h b hz;rw[fb,aA (by omega),aC h]at hz
  rcases cJ.1 hz with rfl|hz
  ·exact .inr (by simp)
  ·rcases b hz with h|h
   ·exact .inl h
   ·exact .inr (by simp[h])
 ·intro x xs y a h b hz;rw[fb,aA (by omega),aA (by omega)]at hz
  rcases cJ.1 hz with rfl|hz
  ·exact .inl (by simp)
  ·rcases b hz with h|h
   ·exact .inl (by simp[h])
   ·exact .inr (by simp[h])
theorem T1 {z:Int×Int}(xs a:kq):z∈DM xs a→(∃x∈xs,z.1=x.2)∧∃y∈a,z.2=y.2:=by
 refine nP (C:=λxs a=>z∈DM xs a→(∃x∈xs,z.1=x.2)∧∃y∈a,z.2=y.2) ?_ ?_ ?_ ?_ ?_ _ xs a (aR _)
 ·intro a h;rw[DN]at h;cases h
 ·intro x xs h;rw[zR]at h;cases h
 ·intro x xs y a h b hz;rw[jy,aC h]at hz
  obtain⟨⟨u,hu,e⟩,c⟩:=b hz;exact⟨⟨u,by simp[hu],e⟩,c⟩
 ·intro x xs y a h b hz;rw[jy,aA (by omega),aC h]at hz
  obtain⟨c,⟨u,hu,e⟩⟩:=b hz;exact⟨c,⟨u,by simp[hu],e⟩⟩
 ·intro x xs y a h b hz;rw[jy,aA (by omega),aA (by omega)]at hz
  rcases cJ.1 hz with rfl|hz
  ·exact⟨⟨x,by simp,rfl⟩,⟨y,by simp,rfl⟩⟩
  ·obtain⟨⟨u,hu,e⟩,⟨v,d,e2⟩⟩:=b hz
   exact⟨⟨u,by simp[hu],e⟩,⟨v,by simp[d],e2⟩⟩
def mA (l:kq):List Int:=l.map (·.1)
theorem J5 {k:Int}(xs b:kq):k∈mA xs∨k∈mA b→k∈mA (Ap xs b):=by
 refine nP (C:=λxs b=>k∈mA xs∨k∈mA b→k∈mA (Ap xs b)) ?_ ?_ ?_ ?_ ?_ _ xs b (aR _)
 ·intro b h;rw[uA];rcases h with h|h
  ·cases h
  ·exact h
 ·intro x xs h;rw[qO];rcases h with h|h
  ·exact h
  ·cases h
 ·intro x xs y b h a hk;rw[fb,aC h]
  simp only[mA,List.map_cons,List.mem_cons]at hk a⊢
  rcases hk with(hk|hk)|hk
  ·exact .inl hk
  ·exact .inr (a (.inl hk))
  ·exact .inr (a (.inr hk))
 ·intro x xs y b h a hk;rw[fb,aA (by omega),aC h]
  simp only[mA,List.map_cons,List.mem_cons]at hk a⊢
  rcases hk with hk|hk|hk
  ·exact .inr (a (.inl hk))
  ·exact .inl hk
  ·exact .inr (a (.inr hk))
 ·intro x xs y b h a hk;rw[fb,aA (by omega),aA (by omega)]
  simp only[mA,List.map_cons,List.mem_cons]at hk a⊢
  rcases hk with(hk|hk)|hk|hk
  ·exact .inl hk
  ·exact .inr (a (.inl hk))
  ·exact .inl (by omega)
  ·exact .inr (a (.inr hk))
def sG (l:kq):Prop:=l.Pairwise λx y=>x.1<y.1
theorem R3 (xs a:kq):sG xs→sG a→sG (Ap xs a):=by
 refine nP (C:=λxs a=>sG xs→sG a→sG (Ap xs a)) ?_ ?_ ?_ ?_ ?_ _ xs a (aR _)
 ·intro a _ h;rw[uA];exact h
 ·intro x xs h _;rw[qO];exact h
 ·intro x xs y a h b hx hy;rw[fb,aC h]
  obtain⟨h1,d⟩:=jU.1 hx;obtain⟨c,e⟩:=jU.1 hy;refine jU.2 ⟨λz hz=> ?_,b d hy⟩
  rcases xz _ _ hz with hz|hz
  ·exact h1 z hz
  ·rcases cJ.1 hz with rfl|hz
   ·exact h
   ·have:=c z hz;omega
 ·intro x xs y a h b hx hy;rw[fb,aA (by omega),aC h]
  obtain⟨h1,d⟩:=jU.1 hx;obtain⟨c,e⟩:=jU.1 hy;refine jU.2 ⟨λz hz=> ?_,b hx e⟩
  rcases xz _ _ hz with hz|hz
  ·rcases cJ.1 hz with rfl|hz
   ·exact h
   ·have:=h1 z hz;omega
  ·exact c z hz
 ·intro x xs y a h b hx hy;rw[fb,aA (by omega),aA (by omega)]
  obtain⟨h1,d⟩:=jU.1 hx;obtain⟨c,e⟩:=jU.1 hy;refine jU.2 ⟨λz hz=> ?_,b d e⟩
  rcases xz _ _ hz with hz|hz
  ·exact h1 z hz
  ·have:=c z hz;omega
def fw (f:Nat→Nat):Nat→Nat
 |0=>0
 |n+1=>fw f n+f n
theorem zo {f g:Nat→Nat}:∀{n:Nat},(∀i,i<n→f i=g i)→fw f n=fw g n
 |0,_=>rfl
 |n+1,h=>by rw[fw,fw,zo λi a=>h i (by omega),h n (by omega)]
theorem zp {f g:Nat→Nat}{a:Nat}:∀{n:Nat},(∀i,i<n→i≠a→f i=g i)→a<n→fw f n+g a=fw g n+f a
 |0,_,h=>by omega
 |n+1,h,d=>by
  rw[fw,fw]
  by_cases e:a=n
  ·subst e
   rw[zo λi b=>h i (by omega) (by omega)];omega
  ·have:=zp (n:=n) (λi b c=>h i (by omega) c) (by omega)
   rw[h n (by omega) (λx=>e x.symm)];omega
structure Pl where
 ro:List Nat
 ty:List Int
 lk:List kq
def Pl.rt (p:Pl)(i:Nat):Nat:=p.ro.getD i 0
def Pl.tt (p:Pl)(i:Nat):Int:=p.ty.getD i 0
def Pl.ll (p:Pl)(i:Nat):kq:=p.lk.getD i []
def Pl.put (p:Pl)(a b m:Nat):Pl:=⟨p.ro.map λx=>if x=b then a else x,p.ty.set a m,p.lk.set a (Ap (p.ll a) (p.ll b))⟩
def j9 (mt:Nat→Nat→Option Nat):Nat→Pl→List (Int×Int)→Option Pl
 |0,_,_=>none
 |_+1,p,[]=>some p
 |f+1,p,x::w=>
  if p.rt x.1.toNat=p.rt x.2.toNat then j9 mt f p w
  else match mt (p.tt (p.rt x.1.toNat)).toNat (p.tt (p.rt x.2.toNat)).toNat with
   |none=>none
   |some m=>j9 mt f (p.put (p.rt x.1.toNat) (p.rt x.2.toNat) m) ((DM (p.ll (p.rt x.1.toNat)) (p.ll (p.rt x.2.toNat))).reverse++w)
def Pl.left (p:Pl):Nat:=fw (λi=>if p.rt i=i then(p.ll i).length else 0) p.ro.length
def Pl.mu (p:Pl)(w:List (Int×Int)):Nat:=p.left+w.length+1
structure mO (nt nf n:Nat)(p:Pl):Prop where
 lr:p.ro.length=n
 lt:p.ty.length=n
 ll:p.lk.length=n
 AK:∀i,i<n→p.rt i<n
 VB:∀i,i<n→p.rt (p.rt i)=p.rt i
 tys:∀t∈p.ty,0≤t∧t<nt
 Qg:∀l∈p.lk,∀x∈l,(0≤x.1∧x.1<nf)∧0≤x.2∧x.2<n
 YI:∀l∈p.lk,sG l
theorem mO.tt {nt nf n:Nat}{p:Pl}(h:mO nt nf n p){i:Nat}(a:i<n):0≤p.tt i∧p.tt i<nt:=by
 unfold Pl.tt;rw[ar,bU (by rw[h.lt];exact a)];exact h.tys _ (gy _)
theorem mO.lm {nt nf n:Nat}{p:Pl}(h:mO nt nf n p){i:Nat}(a:i<n):p.ll i∈p.lk:=by
 unfold Pl.ll;rw[ar,bU (by rw[h.ll];exact a)];exact gy _
theorem Pl.Hk {p:Pl}{a b m i:Nat}(c:i<p.ro.length):(p.put a b m).rt i=if p.rt i=b then a else p.rt i:=by
 unfold Pl.rt Pl.put
 simp only[List.getD_eq_getElem?_getD,List.getElem?_map,List.getElem?_eq_getElem c,Option.map_some,Option.getD_some]
theorem Pl.Ov {p:Pl}{a b m i:Nat}(c:a<p.lk.length):(p.put a b m).ll i=if i=a then Ap (p.ll a) (p.ll b)else p.ll i:=by
 unfold Pl.ll Pl.put
 simp only[List.getD_eq_getElem?_getD]
 by_cases e:i=a
 ·subst e;rw[fV c,aC rfl];rfl
 ·rw[ic (λh=>e h.symm),aA e]
theorem mO.put {nt nf n:Nat}{p:Pl}(h:mO nt nf n p){a b m:Nat}(f:a<n)(j:b<n)(k:p.rt a=a)(hm:m<nt)(o:a≠b):mO nt nf n (p.put a b m):=by
 have g:∀i,i<n→(p.put a b m).rt i=if p.rt i=b then a else p.rt i:=λi d=>Pl.Hk (by rw[h.lr];exact d)
 refine⟨by simp[Pl.put,h.lr],by simp[Pl.put,h.lt],by simp[Pl.put,h.ll],λi d=> ?_,λi d=> ?_,λt ht=> ?_,λl c=> ?_,λl c=> ?_⟩
 ·rw[g i d];split
  ·exact f
  ·exact h.AK i d
 ·rw[g i d];split
  ·rw[g a f,k,aA o]
  ·rename_i e
   rw[g _ (h.AK i d),h.VB i d,aA e]
 ·rcases lJ ht with ht|ht
  ·exact h.tys t ht
  ·subst ht;exact⟨by omega,by omega⟩
 ·rcases lJ c with c|c
  ·exact h.Qg l c
  ·subst c
   intro x hx
   rcases xz _ _ hx with hx|hx
   ·exact h.Qg _ (h.lm f) x hx
   ·exact h.Qg _ (h.lm j) x hx
 ·rcases lJ c with c|c
  ·exact h.YI l c
  ·subst c
   exact R3 _ _ (h.YI _ (h.lm f)) (h.YI _ (h.lm j))
theorem mO.left {nt nf n:Nat}{p:Pl}(h:mO nt nf n p){a b m:Nat}(j:a<n)(r:b<n)(s:p.rt a=a)(k:p.rt b=b)(l:a≠b):(p.put a b m).left+(DM (p.ll a) (p.ll b)).length=p.left:=by
 have o:∀i,i<n→(p.put a b m).rt i=if p.rt i=b then a else p.rt i:=λi c=>Pl.Hk (by rw[h.lr];exact c)
 have q:∀i,(p.put a b m).ll i=if i=a then Ap (p.ll a) (p.ll b)else p.ll i:=λi=>Pl.Ov (by rw[h.ll];exact j)
 have hlen:=T7 (p.ll a) (p.ll b)
 unfold Pl.left
 have t:(p.put a b m).ro.length=n:=by simp[Pl.put,h.lr]
 rw[t,h.lr]
 -- in u:b is no root any more
 have s1:=zp (n:=n) (a:=b) (f:=λi=>if i=b then 0 else if p.rt i=i then(p.ll i).length else 0) (g:=λi=>if p.rt i=i then(p.ll i).length else 0) (λi _ c=>aA c) r
 have s2:=zp (n:=n) (a:=a) (f:=λi=>if(p.put a b m).rt i=i then((p.put a b m).ll i).length else 0) (g:=λi=>if i=b then 0 else if p.rt i=i then(p.ll i).length else 0) (λi c d=>by
  rw[o i c,q i,aA d]
  by_cases e:p.rt i=b
  ·rw[aC e,aA (λh=>d h.symm)]
   by_cases e2:i=b
   ·rw[aC e2]
   ·rw[aA e2,aA (λh=>e2 (by rw[←e,h]))]
  ·rw[aA e,aA (show i≠b from λv=>e (by rw[v,k]))]) j
 rw[aC rfl,aC k]at s1;rw[o a j,s,aA l,aC rfl,q a,aC rfl,aA l,aC rfl]at s2;omega
def Pl.of (x y:e8):Pl:=⟨List.range (x.length+y.length),x.map (·.1)++y.map (·.1),x.map (·.2)++y.map λn=>n.2.map λl=>(l.1,(x.length:Int)+l.2)⟩
def ph (p:Pl):e8:=(List.range p.ro.length).map λi=>(p.tt i,if p.rt i=i then(p.ll i).map (λl=>(l.1,(p.rt l.2.toNat:Int)))else [])
def lF (g:e8):Nat→List Nat→Nat→List Nat
 |0,o,_=>o
 |f+1,o,i=>if i∈o then o else(g.getD i iJ).2.foldl (λo x=>lF g f o x.2.toNat) (o++ [i])
def gj (g:e8)(r:Nat):e8:=let o:=lF g (g.length+1) [] r;o.map λi=>((g.getD i iJ).1,(g.getD i iJ).2.map λx=>(x.1,(o.idxOf x.2.toNat:Int)))
def dU (mt:Nat→Nat→Option Nat)(x:e8)(node:Nat)(y:e8):Option e8:=
 (j9 mt ((Pl.of x y).mu [((node:Int),(x.length:Int))]) (Pl.of x y) [((node:Int),(x.length:Int))]).map λp=>gj (ph p) (p.rt 0)
end Go.Proofs.YtblifkgpebebmaaGreatDoor
