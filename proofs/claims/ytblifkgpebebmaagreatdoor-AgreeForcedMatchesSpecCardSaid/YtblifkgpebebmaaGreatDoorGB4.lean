/-
  Laws of walks through programs, and facts on grammars, trees and queries.
  Conditions: none.
-/
import Derived.Test.YtblifkgpebebmaaGreatDoorGB3
import Derived.Laws.Small
import Derived.Shelf.Strings.IndexAnyAll
import Derived.Lib.OthersKept
import Derived.Shelf.Small.Utf8
import Derived.Laws.RangeAny
import Derived.Laws.Cover4
import Derived.Scope
import Derived.Handy
import Derived.Shelf.RegionOpen
import Derived.Shelf.RegionOpenPlain
import Derived.Shelf.Utf8.RuneCount
import Derived.Shelf.Unicode.ValidAny
import Derived.Lib.Join
set_option maxHeartbeats 16000000
set_option maxRecDepth 20000
set_option linter.unusedVariables false
set_option linter.unusedSimpArgs false
namespace Go.Proofs.YtblifkgpebebmaaGreatDoor
open Go Go.J Tryz
theorem EF {x:Nat}(a:x≠0)(h:x<18446744073709551616):x.testBit (Lib.ctz 64 x)=true∧∀i,i<Lib.ctz 64 x→x.testBit i=false:=by
 obtain⟨m,hm,_⟩:=Lib.ctzFrom_spec 64 x (by omega) h
 have e:Lib.ctz 64 x=Lib.ctzFrom 64 x:=by unfold Lib.ctz;rw[aA a]
 rw[e]
 generalize Lib.ctzFrom 64 x=k at hm
 subst hm;refine⟨?_,λi b=> ?_⟩
 ·rw[Nat.testBit_two_pow_mul,fh,eB (aR k),Bool.true_and,Nat.testBit_zero]
  exact eB (by omega)
 ·rw[Nat.testBit_two_pow_mul,fI (by omega),Bool.false_and]
abbrev kB (a b:aV):Value:= .agg #[a.1,b.1]
theorem M7 (a d:aV)(T:List eo)(e:ir T)(i j:Nat)(f:i<T.length)(g:j<T.length):eE prog 84 #[kB a d,iv i,iv j] [sl bI a.1 (dg T),sl bI d.1 (de T)] (.bool (iD T i j)):=by
 refine eE.pO (args:=[kB a d,iv i,iv j]) 16 func84 rfl ntmps84 rfl (λc=> ?_);refine go ?_
 have h:=e.len
 have k:=Py T
 refine go ?_;refine St.dJ (.mk rfl) rfl (λl=> ?_);refine g9 ?_;refine St.ee (Ev.ld1 (.mk rfl) (Px f) lf trivial rfl) ?_;refine go ?_;refine St.ee (Ev.XY (j) _ rfl (.mk rfl) (.mk rfl) (by omega)) ?_;refine St.ee (Ev.Yn (b:=1) 1 2 (by decide) (.mk rfl) (.mk rfl) (⟨(wB (Nat.div_le_self _ _) (vw e (by omega))),by decide,by decide⟩)) ?_;refine go ?_;refine St.slot 15 (.bool (iD T i j)) rfl (congrArg Value.bool (IY _ _)) ?_;refine g4 ?_;refine St.rV [_] [] ?_;rfl
theorem KD (d e:aV)(T:List eo)(j:ir T)(a b:Nat)(n:a<T.length)(o:b<T.length):dz prog 80 #[kB d e,iv a,iv b] ([sl bI d.1 (dg T),sl bI e.1 (de T),tz].map aB) (λv H'=>∃(m:Int) (ok:Bool),v= .tuple #[iv m,.bool ok,.bool (kD T a b)]∧H'=[]):=by
 refine dz.body (args:=[kB d e,iv a,iv b]) 33 func80 rfl ntmps80 rfl (λc=> ?_);refine St.cast (H':=[aB (sl bI d.1 (dg T)),aB (sl bI e.1 (de T)),aB (tz)]) rfl ?_;refine go ?_
 have g:=j.len
 have t:=EH T
 refine go ?_;refine St.dJ (.mk rfl) rfl (λu=> ?_);refine g6 ?_;refine St.rq mixed (by kernel_rfl) (Mm.drawn _ _) ?_;refine g4 ?_;refine Sq.ee (Ev.ld1 (.mk rfl) (oD n) lf trivial rfl) ?_;refine g4 ?_;refine Sq.ee (Ev.ld1 (.mk rfl) (oD o) lf trivial rfl) ?_;refine Sq.ee (Ev.Ym (.mk rfl) (.mk rfl) ⟨nI _ _ g,nI _ _ g⟩) ?_;refine g5 ?_;refine St.slot 9 (uv (both T a b)) rfl rfl ?_
 have l:both T a b<18446744073709551616:=wB Nat.and_le_left (nI _ _ g)
 refine g5 ?_;refine St.cq (λp=> ?_) (λp=> ?_)
 ·have h:both T a b=0:=by omega
  refine g9 ?_;refine St.rV [_,_,_] [] ?_;exact⟨0,false,by rw[A2 h];rfl,rfl⟩
 ·have h:both T a b≠0:=by omega
  obtain⟨i,q⟩:=EF h l
  have r:Lib.ctz 64 (both T a b)<T.length:=by rw[o9,rY,gq]at i;exact i.1
  have f:=G5 j i q
  refine g5 ?_;refine St.ee (Ev.call (Jn (both T a b) l) U8 (.ar rfl)) ?_;refine g9 ?_;refine St.ee (Ev.cE (k:=(Lib.ctz 64 (both T a b))) (.mk rfl) (.mk rfl) vu lB (by omega) (by omega)) ?_;refine St.ee (Ev.ld1 (.mk rfl) (oD r) lf trivial rfl) ?_;refine g4 ?_;refine St.cq (λs=> ?_) (λs=> ?_)
  ·rw[eB (by omega)]at f
   refine g9 ?_;refine St.rV [_,_,_] [] ?_;exact⟨0,false,by rw[f];rfl,rfl⟩
  ·rw[fI (by omega)]at f
   refine g11 ?_;refine St.rV [_,_,_] [] ?_;exact⟨(Lib.ctz 64 (both T a b):Nat),true,by rw[f];rfl,rfl⟩
theorem Po {T:List eo}{q k:Nat}(hk:k<T.length)(c:q<k)(h:kD T q k=true)(d:∀b,b<k→(List.range b).any (λa=>kD T a b)=false):wa T=some k:=by
 unfold wa;rw[List.find?_range_eq_some];refine⟨pY.2 ⟨q,dt.2 c,h⟩,dt.2 hk,λj e=>by rw[d j e];rfl⟩
theorem Pp {T:List eo}(c:∀b,b<T.length→(List.range b).any (λa=>kD T a b)=false):wa T=none:=by
 unfold wa;rw[List.find?_eq_none]
 intro b h;rw[c b (dt.1 h)];decide
theorem CO {p:Nat→Bool}{n:Nat}(h:∀a,a<n→p a=false):(List.range n).any p=false:=by
 rw[List.any_eq_false];intro a b;rw[h a (dt.1 b)];decide
theorem EN {n:Int}{l:List oc}{k:Nat}{t:oc}(ht:l[k]?=some t)(known:List bC):mV n known k (l.drop k)=if isName t.1=false then(10,(k:Int))else if t.1∈known then(7,(k:Int))else if t.2.1<0∨n≤t.2.1∨t.2.2<0∨n≤t.2.2 then(3,(k:Int))
 else mV n (known++ [t.1]) (k+1) (l.drop (k+1)):=by rw[bO ht,mV]
theorem Gv {n:Int}{l:List oc}{k:Nat}(h:l.length≤k)(known:List bC):mV n known k (l.drop k)=(0,0):=by rw[j6 h,mV]
theorem Kl {T:List eo}{Fs:List oc}(h:T.length=0∨60<T.length∨40<Fs.length):jP T Fs=(2,-1):=by
 unfold jP
 by_cases h1:40<Fs.length
 ·rw[aC h1]
 ·have e:Au T=(2,-1):=by unfold Au;rw[aC (by omega)]
  rw[aA h1,e];rfl
theorem NW {T:List eo}{Fs:List oc}(h:¬40<Fs.length)(a:(Au T).1≠0):jP T Fs=Au T:=by unfold jP;rw[aA h,aC a]
theorem NX {T:List eo}{Fs:List oc}{b:Nat}(h:¬40<Fs.length)(a:¬(Au T).1≠0)(c:wa T=some b):jP T Fs=(16,(b:Int)):=by unfold jP;rw[aA h,aA a,c]
theorem NV {T:List eo}{Fs:List oc}(h:¬40<Fs.length)(a:¬(Au T).1≠0)(b:wa T=none):jP T Fs=mV T.length [] 0 Fs:=by unfold jP;rw[aA h,aA a,b]
theorem Cy (tv xv:aV)(ts:List rh)(e:List jJ):eE prog 43 #[.agg #[tv.1,xv.1]] [sl mw tv.1 ts,aF s6 ts,sl ga xv.1 e,tz] (fv (jP (ts.map dG) (e.map gz))):=by
 refine eE.MX (args:=[.agg #[tv.1,xv.1]]) 122 func43 rfl ntmps43 rfl (λc=> ?_);refine go ?_
 have E:(ts.map dG).length=ts.length:=aO ..
 have S:(e.map gz).length=e.length:=aO ..
 refine St.wf tv.1 (λU V=> ?_);refine St.wf xv.1 (λo W=> ?_);refine go ?_;refine St.dJ (.mk rfl) rfl (λI=> ?_);refine St.al (λJ=> ?_);refine g10 ?_;refine St.gf _ rfl rfl (λd=>Ev.da (.mk rfl) vB) rfl ?_;refine St.gf _ rfl rfl (λd=>Ev.ke (ah.gv rfl d) vr trivial (by rfl)) rfl ?_;refine St.gf _ rfl rfl (λd=>Ev.fc (ah.gv rfl d) vr) rfl ?_;refine St.gf _ rfl rfl (λd=>Ev.gtr (ah.gv rfl d) (.mk rfl)) rfl ?_;refine g2 ?_;refine St.gf _ rfl rfl (λd=>Ev.da (.mk rfl) Cv) rfl ?_;refine St.gf _ rfl rfl (λd=>Ev.ke (ah.gv rfl d) Fy trivial (by rfl)) rfl ?_;refine St.gf _ rfl rfl (λd=>Ev.fc (ah.gv rfl d) Fy) rfl ?_;refine St.gf _ rfl rfl (λd=>Ev.gtr (ah.gv rfl d) (.mk rfl)) rfl ?_;refine g3 ?_;refine St.cq (λK=> ?_) (λK=> ?_)
 ·have p:jP (ts.map dG) (e.map gz)=(2,-1):=Kl (by omega)
  refine g2 ?_;refine St.ee (Ev.call (cR 2 (-1)) yW (.aX rfl rfl)) ?_;refine g5 ?_;refine St.rV [_] [] ?_;exact congrArg fv p.symm
 ·have r:¬40<(e.map gz).length:=by omega
  refine g7 ?_;refine St.ee (Ev.call (GV tv.1 ts) ahN (.ar rfl)) ?_;refine St.al (λX=> ?_);refine g10 ?_;refine St.cond _ rfl (λs=> ?_) (λs=> ?_)
  ·skip
   have g:(Au (ts.map dG)).1≠0:=by simpa using s
   refine g8 ?_;refine St.rV [_] [] ?_;exact congrArg fv (NW r g).symm
  ·skip
   have g:¬(Au (ts.map dG)).1≠0:=by simpa using s
   have u:=(I9 (iY.1 g)).2.2
   have Y:=u.len
   refine g6 ?_;refine St.ae (q7 tv.1 ts u) Vr (.ar rfl) rfl ?_;rintro v41 _ ⟨L,M,rfl,rfl⟩;refine St.dQ ?_;refine St.al (λZ=> ?_);refine g13 ?_;refine St.lS (ι:=Nat) (λk T=>(45,iv k)::T) (λk=>k≤ts.length∧∀b,b<k→(List.range b).any (λa=>kD (ts.map dG) a b)=false) (λk=>ts.length-k) 0 (aD.cons 1 rfl (aD.cons 2 rfl (aD.cons 4 rfl (aD.cons 44 rfl aD.nil)))) ⟨aP _,λb g=>absurd g (by omega)⟩ ?_;intro k v;obtain⟨hk,x⟩:=v;refine g6 ?_;refine St.cq (λy=> ?_) (λy=> ?_)
   ·refine g17 ?_
    refine St.lS (ι:=Nat) (λq T=>(49,iv q)::T) (λq=>q≤k∧∀a,a<q→kD (ts.map dG) a k=false) (λq=>k-q) 0 (aD.cons 1 rfl (aD.cons 2 rfl (aD.cons 4 rfl (aD.cons 5 rfl (aD.cons 44 rfl (aD.cons 45 rfl (aD.cons 48 rfl aD.nil))))))) ⟨aP _,λa F=>absurd F (by omega)⟩ ?_;intro q v;obtain⟨hq,z⟩:=v;refine g6 ?_;refine St.cq (λN=> ?_) (λN=> ?_)
    ·refine g15 ?_
     refine St.ae (KD L M (ts.map dG) u q k (by omega) (by omega)) Vv (.ek rfl rfl rfl) rfl ?_;rintro v56 _ ⟨mt,ok,rfl,rfl⟩;refine St.aK ?_;refine g14 ?_;refine St.cond _ rfl (λi=> ?_) (λi=> ?_)
     ·skip
      have p:=NX (Fs:=e.map gz) r g (Po (by omega) (by omega) i x)
      refine g3 ?_;refine St.ee (Ev.call (cR 16 k) yW (.aX rfl rfl)) ?_;refine g13 ?_;refine St.rV [_] [] ?_;exact congrArg fv p.symm
     ·skip
      refine g8 ?_;refine St.aS (q+1) ⟨by omega,λa F=>by rcases eP a q with h|h;exact z a h;rw[show a=q by omega];exact i⟩
    ·rw[show q=k by omega]at z
     refine g11 ?_;refine St.aS (k+1) ⟨by omega,λb g=>by rcases eP b k with h|h;exact x b h;rw[show b=k by omega];exact CO z⟩
   ·have A:k=ts.length:=by omega
    have G:=NV r g (Pp (by rw[E,←A];exact x))
    rw[E]at G;refine g7 ?_;refine St.makeMap mkStr rfl (λB=> ?_);refine g13 ?_;refine St.tm (ι:=Nat) (κ:=List (bC×Value)) (λk m T=>(69,iv k)::T) (λk m=>[aW B (eW mkStr m),aW J (.cells [iv 0,iv 0].toArray 35 (0,0)),aW I (.cells [tv.1,xv.1].toArray 25 (0,0)),aB (sl mw tv.1 ts),aB (aF s6 ts),aB (sl ga xv.1 e)]) (λk m=>k≤e.length∧jP (ts.map dG) (e.map gz)=mV ts.length ((e.take k).map jJ.name) k ((e.map gz).drop k)∧KC m ((e.take k).map jJ.name)) (λk m=>e.length-k) 0 [] (aD.cons 1 rfl (aD.cons 2 rfl (aD.cons 10 rfl (aD.cons 67 rfl (aD.cons 68 rfl aD.nil))))) ⟨aP _,G,KC.nil⟩ ?_;rintro k m ⟨hk,C,H⟩;refine g6 ?_;refine St.cq (λO=> ?_) (λO=> ?_)
    ·obtain⟨t,ht⟩:=aE (show k<e.length by omega)
     have P:=aZ ht
     have f:=EN (n:=ts.length) (l:=e.map gz) (k:=k) (t:=gz t) (by rw[bQ,ht];rfl) ((e.take k).map jJ.name)
     rw[←C]at f
     have Q:t.name.length≤9223372036854775807:=by have:=(o t P).1;simp only[nB]at this;omega
     refine g8 ?_;refine St.ee (Ev.js (.mk rfl) ht underlying135 trivial Bg j7.eq) ?_;refine St.al (λQv=> ?_);refine g9 ?_;refine St.ee (Ev.call (qm t.name Q) R8 (.ar rfl)) ?_;refine g3 ?_;refine St.cq (λD=> ?_) (λD=> ?_)
     ·rw[aC (show isName (gz t).1=false from(by simpa using D:isName t.name=false))]at f
      refine g3 ?_;refine St.ee (Ev.call (cR 10 k) yW (.aX rfl rfl)) ?_;refine g10 ?_;refine St.rV [_] [] ?_;exact congrArg fv f.symm
     ·rw[aA (show ¬isName (gz t).1=false from(by simpa using D:¬isName t.name=false))]at f
      refine g8 ?_;refine St.ee (Ev.tn mkStr (k:=t.name) (.mk rfl) (.mk rfl) pX (by exact vt) eT) ?_;refine g3 ?_;refine St.slot 86 (.bool (decide (t.name∈(e.take k).map jJ.name))) rfl (congrArg Value.bool (H t.name)) ?_;refine g9 ?_;refine St.cq (λj=> ?_) (λj=> ?_)
      ·rw[aC (show(gz t).1∈(e.take k).map jJ.name from j)]at f
       refine g3 ?_;refine St.ee (Ev.call (cR 7 k) yW (.aX rfl rfl)) ?_;refine g10 ?_;refine St.rV [_] [] ?_;exact congrArg fv f.symm
      ·rw[aA (show ¬(gz t).1∈(e.take k).map jJ.name from j)]at f
       refine g8 ?_;refine St.mapUpdate mkStr (k:=t.name) (.mk rfl) (.mk rfl) (.mk rfl) pX (by exact vt) ?_;refine g8 ?_;refine St.gf _ rfl rfl (λd=>Ev.da (.mk rfl) Cp) rfl ?_;refine St.gf _ rfl rfl (λd=>Ev.ke (ah.gv rfl d) gD trivial (by rfl)) rfl ?_;refine St.gf _ rfl rfl (λd=>Ev.da (.mk rfl) vB) rfl ?_;refine St.gf _ rfl rfl (λd=>Ev.ke (ah.gv rfl d) vr trivial (by rfl)) rfl ?_;refine St.gf _ rfl rfl (λd=>Ev.fc (ah.gv rfl d) vr) rfl ?_;refine St.gf _ rfl rfl (λd=>Ev.geq (ah.gv rfl d) (ah.gv rfl d)) rfl ?_;refine g2 ?_;refine St.gf _ rfl rfl (λd=>Ev.da (.mk rfl) Cq) rfl ?_;refine St.gf _ rfl rfl (λd=>Ev.ke (ah.gv rfl d) gD trivial (by rfl)) rfl ?_;refine St.gf _ rfl rfl (λd=>Ev.lss (ah.gv rfl d) (.mk rfl)) rfl ?_;refine g2 ?_;refine St.gf _ rfl rfl (λd=>Ev.da (.mk rfl) Cq) rfl ?_;refine St.gf _ rfl rfl (λd=>Ev.ke (ah.gv rfl d) gD trivial (by rfl)) rfl ?_;refine St.gf _ rfl rfl (λd=>Ev.da (.mk rfl) vB) rfl ?_;refine St.gf _ rfl rfl (λd=>Ev.ke (ah.gv rfl d) vr trivial (by rfl)) rfl ?_;refine St.gf _ rfl rfl (λd=>Ev.fc (ah.gv rfl d) vr) rfl ?_;refine St.gf _ rfl rfl (λd=>Ev.geq (ah.gv rfl d) (ah.gv rfl d)) rfl ?_;refine g3 ?_;refine St.cq (λR=> ?_) (λR=> ?_)
       ·rw[aC (show(gz t).2.1<0∨(ts.length:Int)≤(gz t).2.1∨(gz t).2.2<0∨(ts.length:Int)≤(gz t).2.2 from(by omega:t.BS<0∨(ts.length:Int)≤t.BS∨t.value<0∨(ts.length:Int)≤t.value))]at f
        refine g3 ?_;refine St.ee (Ev.call (cR 3 k) yW (.aX rfl rfl)) ?_;refine g9 ?_;refine St.rV [_] [] ?_;exact congrArg fv f.symm
       ·rw[aA (show ¬((gz t).2.1<0∨(ts.length:Int)≤(gz t).2.1∨(gz t).2.2<0∨(ts.length:Int)≤(gz t).2.2)from(by omega:¬(t.BS<0∨(ts.length:Int)≤t.BS∨t.value<0∨(ts.length:Int)≤t.value)))]at f
        refine g8 ?_;refine St.ui (k+1) (l8 m t.name (iv k)) ⟨by omega,by rw[f,gX jJ.name ht];rfl,by rw[gX jJ.name ht];exact H.snoc _ _⟩
    ·rw[Gv (by rw[aO];omega)]at C
     refine g7 ?_;refine St.ee (Ev.build (bH.nil) (λw=>ja w)) ?_;refine g4 ?_;refine St.rV [_] [] ?_;exact congrArg fv C.symm
inductive Reach (g:e8):Nat→Prop where
 |root:Reach g 0
 |step {i:Nat} {x:Int×Int}:Reach g i→x∈(g.getD i iK).2→Reach g x.2.toNat
def od (M N:List Bool):Prop:=M.length=N.length∧∀x:Nat,M[x]?=some true→N[x]?=some true
theorem od.refl (M:List Bool):od M M:=⟨rfl,λ_ h=>h⟩
theorem od.trans {A B C:List Bool}(h:od A B)(k:od B C):od A C:=⟨h.1.trans k.1,λx hx=>k.2 x (h.2 x hx)⟩
theorem od.Yo {A B:List Bool}(h:od A B)(k:od B A):A=B:=by
 refine pZ λi=> ?_
 rcases eP i A.length with a|a
 ·have b:i<B.length:=by rw[←h.1];exact a
  rw[bU a,bU b]
  have h1:=h.2 i
  have c:=k.2 i
  rw[bU a,bU b]at h1 c
  cases d:A[i]<;>cases e2:B[i]<;>simp_all
 ·rw[ij a,ij (by rw[←h.1];exact a)]
theorem od.set (M:List Bool)(i:Nat):od M (M.set i true):=⟨by rw[cn],λx hx=>by
 by_cases e:i=x
 ·subst e;rw[fT (ai hx)]
 ·rw[ik e];exact hx⟩
theorem od.mark (i:Nat)(M:List Bool)(x:Int×Int):od M (Ei i M x):=by
 unfold Ei;split
 ·exact od.set _ _
 ·exact od.refl _
theorem od.fold {γ:Type}{f:List Bool→γ→List Bool}(h:∀M c,od M (f M c)):∀(l:List γ) (M:List Bool),od M (l.foldl f M)
 | [],M=>od.refl M
 |c::l,M=>(h M c).trans (od.fold h l (f M c))
theorem ym {γ:Type}{f:List Bool→γ→List Bool}(h:∀M c,od M (f M c)):∀(l:List γ) (M:List Bool),l.foldl f M=M→∀c∈l,f M c=M
 | [],_,_,c,a=>by cases a
 |c::l,M,he,d,hd=>by
  rw[wi]at he
  have h1:f M c=M:=od.Yo (by have:=od.fold h l (f M c);rw[he]at this;exact this) (h M c)
  rcases cK.1 hd with rfl|hd
  ·exact h1
  ·rw[h1]at he;exact ym h l M he d hd
theorem od.node (g:e8)(M:List Bool)(i:Nat):od M (Uu g M i):=od.fold (λM x=>od.mark i M x) _ M
theorem od.pass (g:e8)(M:List Bool):od M (pass g M):=od.fold (λM i=>od.node g M i) _ M
def pf (M:List Bool):Nat:=M.countP λb=>b
theorem Mw:∀{A B:List Bool},od A B→pf A≤pf B∧(pf B≤pf A→A=B)
 | [],[],_=>⟨aR _,λ_=>rfl⟩
 | [],_::_,h=>absurd h.1 (by simp)
 |_::_,[],h=>absurd h.1 (by simp)
 |a::A,b::B,h=>by
  have ht:od A B:=⟨by simpa using h.1,λx hx=>by have:=h.2 (x+1) (by simpa using hx);simpa using this⟩
  have c:=h.2 0
  obtain⟨i1,i2⟩:=Mw ht;unfold pf at*
  cases a<;>cases b<;>simp_all<;>omega
theorem Ci (M:List Bool):pf M≤M.length:=List.countP_le_length
theorem mY (g:e8):∀k,(ec g k).length=g.length
 |0=>by simp[ec]
 |k+1=>by rw[ec,←(od.pass g _).1,mY g k]
theorem zH {g:e8}(b:0<g.length):∀k,pass g (ec g k)=ec g k∨k+1≤pf (ec g k)
 |0=>by
  refine .inr ?_
  obtain⟨n,c⟩:∃n,g.length=n+1:=⟨g.length-1,by omega⟩
  simp[ec,pf,c,List.replicate_succ]
 |k+1=>by
  rcases zH b k with h|h
  ·left;rw[ec,h,h]
  ·by_cases e:pass g (ec g (k+1))=ec g (k+1)
   ·exact .inl e
   ·right
    have h1:=Mw (od.pass g (ec g k))
    rw[ec]
    rcases eP (pf (ec g k)) (pf (pass g (ec g k)))with a|a
    ·omega
    ·have:=h1.2 a
     exact absurd (by rw[ec,←this,←this]) e
theorem HY {g:e8}(a:0<g.length):pass g (ec g g.length)=ec g g.length:=by
 rcases zH a g.length with h|h
 ·exact h
 ·have:=Ci (ec g g.length)
  rw[mY]at this;omega
theorem Gs {g:e8}{M:List Bool}(b:M.length=g.length)(h:pass g M=M){i:Nat}(c:M[i]?=some true){x:Int×Int}(hx:x∈(g.getD i iK).2)(d:x.2.toNat<g.length):M[x.2.toNat]?=some true:=by
 have h1:=ym (λM i=>od.node g M i) _ M h i (dt.2 (by rw[←b];exact ai c))
 have a:=ym (λM x=>od.mark i M x) _ M h1 x hx
 unfold Ei at a;rw[aC (by rw[aw,c];rfl)]at a;rw[←a,fT (by rw[b];exact d)]
def AP (g:e8)(M:List Bool):Prop:=∀x:Nat,M[x]?=some true→Reach g x
theorem AP.set {g:e8}{M:List Bool}(h:AP g M){i:Nat}(a:Reach g i):AP g (M.set i true):=λx hx=>by
 by_cases e:i=x
 ·subst e;exact a
 ·rw[ik e]at hx;exact h x hx
theorem AP.fold {γ:Type}{g:e8}{f:List Bool→γ→List Bool}:∀(l:List γ) (M:List Bool),(∀M,∀c∈l,AP g M→AP g (f M c))→AP g M→AP g (l.foldl f M)
 | [],_,_,h=>h
 |c::l,M,a,h=>AP.fold l _ (λM d hd=>a M d (cO _ hd)) (a M c (aQ ..) h)
theorem AP.pass {g:e8}{M:List Bool}(h:AP g M):AP g (pass g M):=
 AP.fold _ _ (λM i _ c=>AP.fold _ _ (λM x hx c=>by
  unfold Ei
  split
  ·rename_i a
   refine c.set (Reach.step (c i ?_) hx);rw[aw]at a
   cases e:M[i]? with
   |none=>rw[e]at a;cases a
   |some b=>rw[e]at a;simp at a;rw[a]
  ·exact c) c) h
theorem AP.ec (g:e8):∀k,AP g (ec g k)
 |0=>λx hx=>by
  by_cases e:0=x
  ·subst e;exact Reach.root
  ·rw[Proofs.YtblifkgpebebmaaGreatDoor.ec,ik e,s9]at hx
   split at hx<;>simp at hx
 |k+1=>(AP.ec g k).pass
def sx (g:e8):Prop:=0<g.length∧∀n∈g,∀x∈n.2,0≤x.1∧0≤x.2∧x.2.toNat<g.length
theorem sx.at_ {g:e8}(h:sx g){i:Nat}{x:Int×Int}(hx:x∈(g.getD i iK).2):0≤x.1∧0≤x.2∧x.2.toNat<g.length:=by
 rcases eP i g.length with a|a
 ·refine h.2 _ (iG a) x ?_
  rw[aw,bU a]at hx;exact hx
 ·rw[aw,ij a]at hx;cases hx
theorem nO {g:e8}(h:0<g.length):∀k,(ec g k)[0]?=some true
 |0=>by rw[ec,fT (by simp;exact h)]
 |k+1=>(od.pass g _).2 0 (nO h k)
theorem uE {g:e8}(h:sx g){x:Nat}:Reach g x↔(ec g g.length)[x]?=some true:=by
 refine⟨λa=> ?_,AP.ec g _ x⟩
 induction a with
 |root=>exact nO h.1 _
 |step _ hx b=>exact Gs (mY g _) (HY h.1) b hx (h.at_ hx).2.2
structure Qd (g:e8)(M:List Bool)(st:List Nat):Prop where
 len:M.length=g.length
 snd:AP g M
 root:M[0]?=some true
 Xi:∀i∈st,M[i]?=some true
 cls:∀i,M[i]?=some true→i∉st→∀x∈(g.getD i iK).2,M[x.2.toNat]?=some true
theorem Qd.start {g:e8}(h:0<g.length):Qd g ((List.replicate g.length false).set 0 true) [0]:=by
 refine⟨by simp,AP.ec g 0,nO h 0,λi a=>by rw[List.mem_singleton.1 a];exact nO h 0,λi hm a=> ?_⟩;rw[ik (λe=>a (bP.2 e.symm)),s9]at hm
 split at hm<;>simp at hm
theorem Qd.fin {g:e8}(a:sx g){M:List Bool}(h:Qd g M []):M=ec g g.length:=by
 refine od.Yo ⟨by rw[h.len,mY],λx hx=>(uE a).1 (h.snd x hx)⟩ ⟨by rw[h.len,mY],λx hx=> ?_⟩
 have:=(uE a).2 hx
 clear hx
 induction this with
 |root=>exact h.root
 |step _ hx b=>exact h.cls _ b (by simp) _ hx
structure rZ (g:e8)(i k:Nat)(M:List Bool)(st:List Nat):Prop where
 len:M.length=g.length
 snd:AP g M
 root:M[0]?=some true
 me:M[i]?=some true
 Xi:∀j∈st,M[j]?=some true
 cls:∀j,M[j]?=some true→j≠i→j∉st→∀x∈(g.getD j iK).2,M[x.2.toNat]?=some true
 upto:∀x∈(g.getD i iK).2.take k,M[x.2.toNat]?=some true
theorem Qd.pop {g:e8}{M:List Bool}{st:List Nat}{i:Nat}(h:Qd g M (st++ [i])):rZ g i 0 M st:=
 ⟨h.len,h.snd,h.root,h.Xi i (by simp),λj a=>h.Xi j (by simp[a]),λj hm b a=>h.cls j hm (by simp[a,b]),λx hx=>by simp at hx⟩
theorem rZ.done {g:e8}{M:List Bool}{st:List Nat}{i:Nat}(h:rZ g i (g.getD i iK).2.length M st):Qd g M st:=
 ⟨h.len,h.snd,h.root,h.Xi,λj hm a=>by
  by_cases e:j=i
  ·subst e;intro x hx;exact h.upto x (by rw[jY];exact hx)
  ·exact h.cls j hm e a⟩
theorem rZ.AD {g:e8}{M:List Bool}{st:List Nat}{i k:Nat}{x:Int×Int}(h:rZ g i k M st)(hx:(g.getD i iK).2[k]?=some x)(hm:M[x.2.toNat]?=some true):rZ g i (k+1) M st:=
 ⟨h.len,h.snd,h.root,h.me,h.Xi,h.cls,λy hy=>by
  rw[ag hx]at hy
  rcases cG.1 hy with hy|hy
  ·exact h.upto y hy
  ·rw[bP.1 hy];exact hm⟩
theorem rZ.new {g:e8}(d:sx g){M:List Bool}{st:List Nat}{i k:Nat}{x:Int×Int}(h:rZ g i k M st)(hx:(g.getD i iK).2[k]?=some x):rZ g i (k+1) (M.set x.2.toNat true) (st++ [x.2.toNat]):=by
 have c:=aZ hx
 have f:=(d.at_ c).2.2
 have mono:=(od.set M x.2.toNat).2
 have new:(M.set x.2.toNat true)[x.2.toNat]?=some true:=fT (by rw[h.len];exact f)
 refine⟨by rw[cn];exact h.len,h.snd.set (Reach.step (h.snd i h.me) c),mono _ h.root,mono _ h.me,λj a=> ?_,λj hm l a y hy=> ?_,λy hy=> ?_⟩
 ·rcases cG.1 a with a|a
  ·exact mono _ (h.Xi j a)
  ·rw[bP.1 a];exact new
 ·have b:j∉st∧j≠x.2.toNat:=by simpa using a
  rw[ik (λe=>b.2 e.symm)]at hm;exact mono _ (h.cls j hm l b.1 y hy)
 ·rw[ag hx]at hy
  rcases cG.1 hy with hy|hy
  ·exact mono _ (h.upto y hy)
  ·rw[bP.1 hy];exact new
theorem RQ {M:List Bool}{i:Nat}(h:M[i]?=some false):pf (M.set i true)=pf M+1:=by
 induction M generalizing i with
 |nil=>cases h
 |cons b M a=>
  cases i with
  |zero=>simp at h;subst h;simp[pf]
  |succ i=>
   have:=a (i:=i) (by simpa using h)
   unfold pf at*
   cases b<;>simp_all<;>omega
theorem HP {nt nf nn:Int}{l:e8}{k:Nat}{t:KE}(ht:l[k]?=some t):fC nt nf nn k (l.drop k)=if t.1<0∨nt≤t.1 then(3,(k:Int))else if(Ae nf nn k (-1) t.2).1≠0 then Ae nf nn k (-1) t.2 else fC nt nf nn (k+1) (l.drop (k+1)):=by rw[bO ht,fC]
theorem L8 {nt nf nn:Int}{l:e8}{k:Nat}(h:l.length≤k):fC nt nf nn k (l.drop k)=(0,0):=by rw[j6 h,fC]
theorem O3 {nf nn i z:Int}{l:List (Int×Int)}{q:Nat}{x:Int×Int}(hx:l[q]?=some x):Ae nf nn i z (l.drop q)=if x.1<0∨nf≤x.1∨x.2<0∨nn≤x.2 then(3,i)else if x.1≤z then(13,i)else Ae nf nn i x.1 (l.drop (q+1)):=by rw[bO hx,Ae]
theorem Sn {nf nn i z:Int}{l:List (Int×Int)}{q:Nat}(h:l.length≤q):Ae nf nn i z (l.drop q)=(0,0):=by rw[j6 h,Ae]
theorem cy (g:dD):(ax g).length=g.nodes.length:=aO ..
theorem ka {g:dD}{k:Nat}{t:dh}(h:g.nodes[k]?=some t):(ax g)[k]?=some (mB t):=by unfold ax;rw[bQ,h];rfl
theorem GN (tv xv:aV)(ts:List rh)(b:List jJ)(g:dD):eE prog 83 #[.agg #[tv.1,xv.1],bA g] [sl mw tv.1 ts,sl ga xv.1 b,aG g] (fv (fX ts.length b.length (ax g))):=by
 refine eE.U2 (args:=[.agg #[tv.1,xv.1],bA g]) 86 func83 rfl ntmps83 rfl (λc=> ?_);refine go ?_
 refine St.jQ (aG g) (λ_:Unit=>kb g) (λρ h=>⟨(),h⟩) λ_=> ?_
 refine St.cast (H':=[aB (sl bq g.nv.1 g.nodes),aB (aF cB g.nodes),aB (sl mw tv.1 ts),aB (sl ga xv.1 b),aB (aG g)]) rfl ?_;refine St.wf tv.1 (λH I=> ?_);refine St.wf xv.1 (λr J=> ?_);refine St.wf g.nv.1 (λs K=> ?_)
 have u:=cy g
 refine go ?_;refine St.dJ (.mk rfl) rfl (λv=> ?_);refine St.dJ (.mk rfl) rfl (λy=> ?_);refine St.al (λA=> ?_);refine g10 ?_;refine St.gf _ rfl rfl (λa=>Ev.da (.mk rfl) vC) rfl ?_;refine St.gf _ rfl rfl (λa=>Ev.ke (ah.gv rfl a) oY trivial (by rfl)) rfl ?_;refine St.gf _ rfl rfl (λa=>Ev.fc (ah.gv rfl a) oY) rfl ?_;refine St.gf _ rfl rfl (λa=>Ev.gtr (ah.gv rfl a) (.mk rfl)) rfl ?_;refine g3 ?_;refine St.cq (λB=> ?_) (λB=> ?_)
 ·have j:fX ts.length b.length (ax g)=(2,-2):=by unfold fX;rw[aC (by omega)]
  refine g2 ?_;refine St.ee (Ev.call (gB 2 (-2)) KZ (.aX rfl rfl)) ?_;refine g5 ?_;refine St.rV [_] [] ?_;exact congrArg fv j.symm
 ·have j:fX ts.length b.length (ax g)=fC ts.length b.length g.nodes.length 0 (ax g):=by unfold fX;rw[aA (by omega),u]
  refine g12 ?_;refine St.lS (ι:=Nat) (λk T=>(24,iv k)::T) (λk=>k≤g.nodes.length∧fX ts.length b.length (ax g)=fC ts.length b.length g.nodes.length k ((ax g).drop k)) (λk=>g.nodes.length-k) 0 (aD.cons 2 rfl (aD.cons 3 rfl (aD.cons 4 rfl (aD.cons 22 rfl (aD.cons 23 rfl aD.nil))))) ⟨aP _,j⟩ ?_;intro k C;obtain⟨hk,m⟩:=C;refine g6 ?_;refine St.cq (λD=> ?_) (λD=> ?_)
  ·obtain⟨t,ht⟩:=aE (show k<g.nodes.length by omega)
   have E:=aZ ht
   refine St.cL cB g.nodes (x:=t) E ?_;refine St.ea (sl au t.lv.1 t.aq) [cB t] (λρ h=>h _ (aQ ..)) ?_;refine St.wf t.lv.1 (λL M=> ?_)
   have d:=HP (nt:=ts.length) (nf:=b.length) (nn:=g.nodes.length) (ka ht)
   rw[←m]at d;refine g8 ?_;refine St.ee (Ev.js (.mk rfl) ht wY trivial jT j7.eq) ?_;refine St.al (λN=> ?_);refine g11 ?_;refine St.gf _ rfl rfl (λa=>Ev.da (.mk rfl) tT) rfl ?_;refine St.gf _ rfl rfl (λa=>Ev.ke (ah.gv rfl a) gD trivial (by rfl)) rfl ?_;refine St.gf _ rfl rfl (λa=>Ev.da (.mk rfl) vB) rfl ?_;refine St.gf _ rfl rfl (λa=>Ev.ke (ah.gv rfl a) vr trivial (by rfl)) rfl ?_;refine St.gf _ rfl rfl (λa=>Ev.fc (ah.gv rfl a) vr) rfl ?_;refine St.gf _ rfl rfl (λa=>Ev.geq (ah.gv rfl a) (ah.gv rfl a)) rfl ?_;refine g3 ?_;refine St.cq (λF=> ?_) (λF=> ?_)
   ·rw[aC (show(mB t).1<0∨(ts.length:Int)≤(mB t).1 from(by omega:t.type<0∨(ts.length:Int)≤t.type))]at d
    refine g3 ?_;refine St.ee (Ev.call (gB 3 k) KZ (.aX rfl rfl)) ?_;refine g10 ?_;refine St.rV [_] [] ?_;exact congrArg fv d.symm
   ·rw[aA (show ¬((mB t).1<0∨(ts.length:Int)≤(mB t).1)from(by omega:¬(t.type<0∨(ts.length:Int)≤t.type)))]at d
    refine g16 ?_;refine St.tm (ι:=Nat) (κ:=Int) (λq z T=>(45,iv q)::(7,iv z)::T) (λq z=>[aB (sl au t.lv.1 t.aq),aW A (.cells [iv 0,iv 0].toArray 35 (0,0)),aW v (.cells [tv.1,xv.1].toArray 25 (0,0)),aW y (.cells [g.nv.1].toArray 30 (0,0)),aB (sl bq g.nv.1 g.nodes),aB (aF cB g.nodes),aB (sl mw tv.1 ts),aB (sl ga xv.1 b),aB (aG g)]) (λq z=>q≤t.aq.length∧Ae b.length g.nodes.length k (-1) (mB t).2=Ae b.length g.nodes.length k z ((t.aq.map fP).drop q)) (λq z=>t.aq.length-q) 0 (-1) (aD.cons 2 rfl (aD.cons 3 rfl (aD.cons 4 rfl (aD.cons 5 rfl (aD.cons 22 rfl (aD.cons 23 rfl (aD.cons 24 rfl (aD.cons 43 rfl (aD.cons 44 rfl aD.nil))))))))) ⟨aP _,rfl⟩ ?_;rintro q z ⟨O,f⟩;refine g6 ?_;refine St.cq (λn=> ?_) (λn=> ?_)
    ·obtain⟨p,hp⟩:=aE (show q<t.aq.length by omega)
     have e:=O3 (nf:=b.length) (nn:=g.nodes.length) (i:=k) (z:=z) (l:=t.aq.map fP) (q:=q) (x:=fP p) (by rw[bQ,hp];rfl)
     refine g7 ?_;refine St.ee (Ev.js (.mk rfl) hp lD trivial dm j7.eq) ?_;refine St.al (λP=> ?_);refine g10 ?_;refine St.gf _ rfl rfl (λa=>Ev.da (.mk rfl) Cr) rfl ?_;refine St.gf _ rfl rfl (λa=>Ev.ke (ah.gv rfl a) gD trivial (by rfl)) rfl ?_;refine St.gf _ rfl rfl (λa=>Ev.da (.mk rfl) Cv) rfl ?_;refine St.gf _ rfl rfl (λa=>Ev.ke (ah.gv rfl a) Fy trivial (by rfl)) rfl ?_;refine St.gf _ rfl rfl (λa=>Ev.fc (ah.gv rfl a) Fy) rfl ?_;refine St.gf _ rfl rfl (λa=>Ev.geq (ah.gv rfl a) (ah.gv rfl a)) rfl ?_;refine g2 ?_;refine St.gf _ rfl rfl (λa=>Ev.da (.mk rfl) tV) rfl ?_;refine St.gf _ rfl rfl (λa=>Ev.ke (ah.gv rfl a) gD trivial (by rfl)) rfl ?_;refine St.gf _ rfl rfl (λa=>Ev.lss (ah.gv rfl a) (.mk rfl)) rfl ?_;refine g2 ?_;refine St.gf _ rfl rfl (λa=>Ev.da (.mk rfl) tV) rfl ?_;refine St.gf _ rfl rfl (λa=>Ev.ke (ah.gv rfl a) gD trivial (by rfl)) rfl ?_;refine St.gf _ rfl rfl (λa=>Ev.da (.mk rfl) vC) rfl ?_;refine St.gf _ rfl rfl (λa=>Ev.ke (ah.gv rfl a) oY trivial (by rfl)) rfl ?_;refine St.gf _ rfl rfl (λa=>Ev.fc (ah.gv rfl a) oY) rfl ?_;refine St.gf _ rfl rfl (λa=>Ev.geq (ah.gv rfl a) (ah.gv rfl a)) rfl ?_;refine g3 ?_;refine St.cq (λG=> ?_) (λG=> ?_)
     ·rw[aC (show(fP p).1<0∨(b.length:Int)≤(fP p).1∨(fP p).2<0∨(g.nodes.length:Int)≤(fP p).2 from(by omega:p.dF<0∨(b.length:Int)≤p.dF∨p.tqo<0∨(g.nodes.length:Int)≤p.tqo))]at e
      rw[f,e,aC (by show(3:Int)≠0;decide)]at d;refine g3 ?_;refine St.ee (Ev.call (gB 3 k) KZ (.aX rfl rfl)) ?_;refine g14 ?_;refine St.rV [_] [] ?_;exact congrArg fv d.symm
     ·rw[aA (show ¬((fP p).1<0∨(b.length:Int)≤(fP p).1∨(fP p).2<0∨(g.nodes.length:Int)≤(fP p).2)from(by omega:¬(p.dF<0∨(b.length:Int)≤p.dF∨p.tqo<0∨(g.nodes.length:Int)≤p.tqo)))]at e
      refine g11 ?_;refine St.cq (λo=> ?_) (λo=> ?_)
      ·rw[aC (show(fP p).1≤z from(by omega:p.dF≤z))]at e
       rw[f,e,aC (by show(13:Int)≠0;decide)]at d;refine g3 ?_;refine St.ee (Ev.call (gB 13 k) KZ (.aX rfl rfl)) ?_;refine g14 ?_;refine St.rV [_] [] ?_;exact congrArg fv d.symm
      ·rw[aA (show ¬(fP p).1≤z from(by omega:¬p.dF≤z))]at e
       refine g14 ?_;refine St.ui (q+1) p.dF ⟨by omega,by rw[f,e];rfl⟩
    ·rw[Sn (by rw[aO];omega)]at f
     rw[aA (by rw[f];decide)]at d;refine g11 ?_;refine St.aS (k+1) ⟨by omega,by rw[d]⟩
  ·rw[L8 (by omega)]at m
   refine g7 ?_;refine St.ee (Ev.build (bH.nil) (λw=>ja w)) ?_;refine g4 ?_;refine St.rV [_] [] ?_;exact congrArg fv m.symm
theorem BM {M:List Bool}{k:Nat}{b:Bool}(h:M[k]?=some b):oy (M.drop k)=if b=false then 0 else if oy (M.drop (k+1))<0 then-1 else oy (M.drop (k+1))+1:=by rw[bO h,oy]
theorem Nj {M:List Bool}{k:Nat}(h:M.length≤k):oy (M.drop k)= -1:=by rw[j6 h,oy]
def mW (M:List Bool)(k:Nat):Prop:=oy M=if oy (M.drop k)<0 then-1 else oy (M.drop k)+k
theorem mW.nil (M:List Bool):mW M 0:=by
 unfold mW;rw[List.drop_zero]
 have:∀M:List Bool,oy M= -1∨0≤oy M:=by
  intro M
  induction M with
  |nil=>left;rfl
  |cons b M a=>
   rw[oy]
   split
   ·right;decide
   ·split
    ·left;rfl
    ·right;omega
 rcases this M with h|h
 ·rw[h];rfl
 ·rw[aA (by omega)];omega
theorem mW.step {M:List Bool}{k:Nat}(h:mW M k)(b:M[k]?=some true):mW M (k+1):=by
 unfold mW at h⊢
 have a:=BM b
 rw[aA (show ¬(true=false) by decide)]at a
 by_cases e:oy (M.drop (k+1))<0
 ·rw[aC e]at a⊢
  rw[h,a];rfl
 ·rw[aA e]at a⊢
  rw[h,a,aA (by omega)];omega
theorem mW.hit {M:List Bool}{k:Nat}(h:mW M k)(b:M[k]?=some false):oy M=k:=by
 unfold mW at h
 have a:=BM b
 rw[aC rfl]at a
 rw[h,a,aA (by decide)];omega
theorem mW.fin {M:List Bool}{k:Nat}(h:mW M k)(a:M.length≤k):oy M= -1:=by
 unfold mW at h
 rw[h,Nj a];rfl
def eK:Rp Bool:=⟨1,by decide,λa=>[.bool a],λ_=>True,λ_=>rfl,λx u h=>by rw[bP.1 h];rfl⟩
theorem pE (U:List Bool):rows eK U=U.map λa=>Value.bool a:=by
 show U.flatMap (λa=>[Value.bool a])=_
 induction U with
 |nil=>rfl
 |cons a U b=>rw[kF,b];rfl
theorem Oq {U:List Bool}{k:Nat}{a:Bool}(h:U[k]?=some a):(rows eK U)[k*1+0]?=some (.bool a):=by
 rw[pE,gZ,j5,bQ,h];rfl
theorem FN {U:List Bool}{k:Nat}{a:Bool}:(rows eK U).set (k*1+0) (.bool a)=rows eK (U.set k a):=by
 rw[pE,pE,gZ,j5,jm]
theorem Ot (n:Nat):List.replicate n (Value.bool false)=rows eK (List.replicate n false):=by rw[pE,sC]
theorem GL (u:Value)(M:List Bool):eE prog 117 #[u,.bool false] [sl eK u M] (iv (oy M)):=by
 refine eE.nH (args:=[u,.bool false]) 19 func117 rfl ntmps117 rfl (λc=> ?_);refine go ?_;refine St.wf u (λg l=> ?_);refine g13 ?_;refine St.lS (ι:=Nat) (λk T=>(8,iv k)::T) (λk=>k≤M.length∧mW M k) (λk=>M.length-k) 0 (aD.cons 0 rfl (aD.cons 1 rfl (aD.cons 7 rfl aD.nil))) ⟨aP _,mW.nil M⟩ ?_;intro k h;obtain⟨hk,a⟩:=h;refine g6 ?_;refine St.cq (λi=> ?_) (λi=> ?_)
 ·obtain⟨b,f⟩:=aE (show k<M.length by omega)
  refine g17 ?_;refine St.ee (Ev.R3 (.mk rfl) (.mk rfl) ID) ?_;refine g2 ?_;refine St.cond _ rfl (λd=> ?_) (λd=> ?_)
  ·skip
   have e:M[k]?=some false:=by rw[f];cases b;rfl;cases d
   refine g12 ?_;refine St.rV [_] [] ?_;exact congrArg iv (a.hit e).symm
  ·skip
   have j:M[k]?=some true:=by rw[f];cases b;cases d;rfl
   refine g8 ?_;refine St.aS (k+1) ⟨by omega,a.step j⟩
 ·refine g11 ?_
  refine St.rV [_] [] ?_;exact congrArg iv (a.fin (by omega)).symm
abbrev cX (l:List Nat):List Int:=l.map λi:Nat=>(i:Int)
theorem jR (U:List Int):rows aJ U=U.map λa=>iv a:=by
 show U.flatMap (λa=>[iv a])=_
 induction U with
 |nil=>rfl
 |cons a U b=>rw[kF,b];rfl
theorem LN {l:List Nat}{i:Nat}:(rows aJ (cX (l++ [i])))[l.length*1+0]?=some (iv (i:Nat)):=by
 rw[jR,gZ,j5,cX,kH,bQ,lg (aR _),fh];rfl
theorem Ow {l:List Nat}{i:Nat}:(rows aJ (cX (l++ [i]))).take (l.length*1)=rows aJ (cX l):=by
 rw[jR,jR,gZ,cX,cX,cP,cP];exact List.take_left' (by simp)
theorem vY {l:List Nat}{p:Int}(h:0≤p):rows aJ (cX l)++ [iv p]=rows aJ (cX (l++ [p.toNat])):=by
 rw[jR,jR,cX,cX,cP,cP,fK,lh,fK,lh,uZ h]
theorem TP {α:Type}{l:List α}(h:0<l.length):∃m x,l=m++ [x]:=by
 rcases List.eq_nil_or_concat l with rfl|⟨m,x,rfl⟩
 ·simp at h
 ·exact⟨m,x,by rw[List.concat_eq_append]⟩
theorem yJ (g:dD)(e:sx (ax g))(X:g.nodes.length≤60):eE prog 86 #[bA g] [aG g] (iv (YY (ax g))):=by
 refine eE.nH (args:=[bA g]) 58 func86 rfl ntmps86 rfl (λc=> ?_);refine go ?_
 refine St.jQ (aG g) (λ_:Unit=>kb g) (λρ h=>⟨(),h⟩) λ_=> ?_
 refine St.cast (H':=[aB (sl bq g.nv.1 g.nodes),aB (aF cB g.nodes),aB (aG g)]) rfl ?_
 have G:=cy g
 have Y:0<g.nodes.length:=by have:=e.1;omega
 refine go ?_;refine St.dJ (.mk rfl) rfl (λA=> ?_);refine g8 ?_;refine St.sV (m:=g.nodes.length) (.mk rfl) (.mk rfl) jl Bk Qc YD rfl rfl (by omega) rfl rfl (λa=> ?_);refine St.aM (.slice (some ⟨a,0,none⟩) g.nodes.length g.nodes.length) rfl (Ot _) ?_;refine g6 ?_;refine St.ee (Ev.dZ (k:=0) (.mk rfl) (.mk rfl) jl Bk (by omega) (by omega)) ?_;refine St.cJ (.mk rfl) (.mk rfl) Bk rfl (by omega) (by decide) ?_;refine St.aM (.slice (some ⟨a,0,none⟩) g.nodes.length g.nodes.length) rfl FN ?_;refine g5 ?_;refine St.gV rfl (.ar rfl) bJ dK eT rfl rfl (by simp[Value.cells]) rfl rfl (λB=> ?_);refine St.aM (.slice (some ⟨B,0,none⟩) 1 1) (show _=([0]:List Nat).length from rfl) (show _=rows aJ (cX [0])from rfl) ?_;refine g4 ?_;refine St.tm (ι:=Unit) (κ:=Value×List Nat×List Bool) (λu z T=>(4,z.1)::T) (λu z=>[row (.slice (some ⟨a,0,none⟩) g.nodes.length g.nodes.length) 4 1 g.nodes.length (rows eK z.2.2),row z.1 3 1 (z.2.1).length (rows aJ (cX (z.2.1))),aW A (.cells [g.nv.1].toArray 30 (0,0)),aB (sl bq g.nv.1 g.nodes),aB (aF cB g.nodes)]) (λu z=>Qd (ax g) z.2.2 z.2.1∧g.nodes.length-pf z.2.2+z.2.1.length≤g.nodes.length+1) (λu z=>g.nodes.length-pf z.2.2+z.2.1.length) () ((.slice (some ⟨B,0,none⟩) 1 1),[0],(List.replicate g.nodes.length false).set 0 true) (aD.cons 1 rfl (aD.cons 2 rfl (aD.cons 3 rfl aD.nil))) ⟨by have:=Qd.start e.1;rw[G]at this;exact this,by show _-_+1≤_;omega⟩ ?_;rintro u ⟨j,st,M⟩ ⟨hd,l⟩
 dsimp only at hd l⊢
 have H:=hd.len
 refine g8 ?_;refine St.cq (λI=> ?_) (λI=> ?_)
 ·obtain⟨s0,i,rfl⟩:=TP (show 0<st.length by omega)
  have Z:(s0++ [i]).length=s0.length+1:=by rw[bR];rfl
  have J:=ai (hd.Xi i (by simp))
  obtain⟨t,ht⟩:=aE (show i<g.nodes.length by omega)
  have K:=aZ ht
  have C:(ax g).getD i iK=mB t:=by rw[aw,ka ht];rfl
  have L:=hd.pop
  refine St.cL cB g.nodes (x:=t) K ?_;refine St.ea (sl au t.lv.1 t.aq) [cB t] (λρ h=>h _ (aQ ..)) ?_;refine St.wf t.lv.1 (λSG SF=> ?_);refine g9 ?_;refine St.ee (Ev.dZ (k:=s0.length) (.mk rfl) (.mk rfl) bJ dK (by omega) (by omega)) ?_;refine St.ee (Ev.ct (.mk rfl) gD trivial (by omega) LN) ?_;refine g9 ?_;refine St.ee (Ev.pG (h:=s0.length) (.mk rfl) (.mk rfl) bJ dK (by omega) (by omega)) ?_;refine St.DI j s0.length (by omega) ?_;refine St.aM (pH j 1 0 s0.length) rfl Ow ?_;refine g16 ?_;refine St.tm (ι:=Nat) (κ:=Value×List Nat×List Bool) (λq z T=>(36,iv q)::(4,z.1)::T) (λq z=>[row (.slice (some ⟨a,0,none⟩) g.nodes.length g.nodes.length) 4 1 g.nodes.length (rows eK z.2.2),row z.1 3 1 (z.2.1).length (rows aJ (cX (z.2.1))),aW A (.cells [g.nv.1].toArray 30 (0,0)),aB (sl au t.lv.1 t.aq),aB (sl bq g.nv.1 g.nodes),aB (aF cB g.nodes)]) (λq z=>q≤t.aq.length∧rZ (ax g) i q z.2.2 z.2.1∧g.nodes.length-pf z.2.2+z.2.1.length=g.nodes.length-pf M+s0.length) (λq z=>t.aq.length-q) 0 (pH j 1 0 s0.length,s0,M) (aD.cons 1 rfl (aD.cons 2 rfl (aD.cons 3 rfl (aD.cons 34 rfl (aD.cons 35 rfl aD.nil))))) ⟨aP _,L,rfl⟩ ?_;rintro q ⟨D,f,W⟩ ⟨hq,d,E⟩
  dsimp only at d E⊢
  have N:=d.len
  have O:=Ci W
  refine g6 ?_;refine St.cq (λP=> ?_) (λP=> ?_)
  ·obtain⟨p,hp⟩:=aE (show q<t.aq.length by omega)
   have n:((ax g).getD i iK).2[q]?=some (fP p):=by rw[C];show(t.aq.map fP)[q]?=_;rw[bQ,hp];rfl
   obtain⟨_,o,F⟩:=e.at_ (aZ n)
   replace o:0≤p.tqo:=o
   replace F:p.tqo.toNat<(ax g).length:=F
   obtain⟨b,r⟩:=aE (show p.tqo.toNat<W.length by omega);refine g7 ?_;refine St.ee (Ev.js (.mk rfl) hp lD trivial dm j7.eq) ?_;refine St.al (λb7=> ?_);refine g8 ?_;refine St.ee (Ev.dZ (k:=p.tqo.toNat) (.mk rfl) (.mk rfl) jl Bk (by omega) (by omega)) ?_;refine St.ee (Ev.ct (.mk rfl) ID trivial (by omega) (Oq r)) ?_;refine g3 ?_;refine St.cond _ rfl (λs=> ?_) (λs=> ?_)
   ·skip
    have v:W[p.tqo.toNat]?=some false:=by rw[r];cases b;rfl;cases s
    have w:=RQ v
    have y:=Ci (W.set p.tqo.toNat true)
    rw[cn]at y
    have Q:=d.new e n
    refine g5 ?_;refine St.ee (Ev.dZ (k:=p.tqo.toNat) (.mk rfl) (.mk rfl) jl Bk (by omega) (by omega)) ?_;refine St.cJ (.mk rfl) (.mk rfl) Bk rfl (by omega) (by decide) ?_;refine St.aM (.slice (some ⟨a,0,none⟩) g.nodes.length g.nodes.length) rfl FN ?_;refine g6 ?_;refine St.gV rfl (.ar rfl) bJ dK eT rfl rfl (by simp[Value.cells]) rfl rfl (λR=> ?_);refine St.aj (.mk rfl) (.mk rfl) bJ dK eT xT (by simp[Value.oneCell',Value.cells]) (by omega) (by omega) rfl rfl rfl rfl (λv54 S=> ?_);refine St.aM v54 (show _=(f++ [p.tqo.toNat]).length from cS) (show _=rows aJ (cX (f++ [p.tqo.toNat]))from vY o) ?_;refine g9 ?_;refine St.ui (q+1) (v54,f++ [p.tqo.toNat],W.set p.tqo.toNat true) ⟨by omega,Q,by rw[w,bR];simp only[List.length_cons,List.length_nil];omega⟩
   ·skip
    have U:W[p.tqo.toNat]?=some true:=by rw[r];cases b;cases s;rfl
    have hold:=d.AD n U
    refine g8 ?_;refine St.ui (q+1) (D,f,W) ⟨by omega,hold,E⟩
  ·obtain rfl:q=t.aq.length:=by omega
   refine g6 ?_;rw[show t.aq.length=((ax g).getD i iK).2.length by rw[C];exact(aO _).symm]at d;refine St.nG () (D,f,W) ⟨d.done,by dsimp only;omega⟩ (by dsimp only;rw[bR];simp only[List.length_cons,List.length_nil];omega) (by repeat(first|exact Sub.nil|refine Sub.cons (by first|rfl|exact congrArg (λz=>some (iv z)) (by first|omega|(dsimp only;omega))|exact congrArg (λz=>some (Value.bool z)) (by first|assumption|exact ig (by assumption))) ?_)) (λ_ hw=>hw.sub)
 ·obtain rfl:st=[]:=lG (by omega)
  have V:=hd.fin e
  refine St.bS (.slice (some ⟨a,0,none⟩) g.nodes.length g.nodes.length) eK M rfl (by omega) (λ_ _=>trivial) ?_;refine g8 ?_;refine St.ee (Ev.call (GL (.slice (some ⟨a,0,none⟩) g.nodes.length g.nodes.length) M) ZK (.aX rfl rfl)) ?_;refine g4 ?_;refine St.rV [_] [] ?_;exact congrArg iv (by rw[V];rfl)
theorem O5 {nf nn i:Int}:∀{l:List (Int×Int)} {z:Int},(Ae nf nn i z l).1=0→∀x∈l,0≤x.1∧x.1<nf∧0≤x.2∧x.2<nn
 | [],_,_=>λx hx=>by cases hx
 |y::l,z,h=>by
  rw[Ae]at h
  by_cases h1:y.1<0∨nf≤y.1∨y.2<0∨nn≤y.2
  ·rw[aC h1]at h;exact absurd h (by simp)
  rw[aA h1]at h
  by_cases a:y.1≤z
  ·rw[aC a]at h;exact absurd h (by simp)
  rw[aA a]at h;intro x hx
  rcases cK.1 hx with rfl|hx
  ·omega
  ·exact O5 h x hx
theorem tu {nt nf nn:Int}:∀{l:e8} {i:Nat},(fC nt nf nn i l).1=0→∀n∈l,(0≤n.1∧n.1<nt)∧∀x∈n.2,0≤x.1∧x.1<nf∧0≤x.2∧x.2<nn
 | [],_,_=>λx hx=>by cases hx
 |y::l,i,h=>by
  rw[fC]at h
  by_cases h1:y.1<0∨nt≤y.1
  ·rw[aC h1]at h;exact absurd h (by simp)
  rw[aA h1]at h
  by_cases a:(Ae nf nn i (-1) y.2).1≠0
  ·rw[aC a]at h;exact absurd h a
  rw[aA a]at h;intro x hx
  rcases cK.1 hx with rfl|hx
  ·exact⟨by omega,O5 (iY.1 a)⟩
  ·exact tu h x hx
theorem z8 {nt nf:Int}{g:e8}(h:(fX nt nf g).1=0):0<g.length∧g.length≤60∧∀n∈g,(0≤n.1∧n.1<nt)∧∀x∈n.2,0≤x.1∧x.1<nf∧0≤x.2∧x.2<g.length:=by
 unfold fX at h
 by_cases h1:g.length=0∨60<g.length
 ·rw[aC h1]at h;exact absurd h (by simp)
 rw[aA h1]at h;exact⟨by omega,by omega,tu h⟩
theorem O8 {nt nf:Int}{g:e8}(h:(fX nt nf g).1=0):sx g:=by
 obtain⟨h1,_,a⟩:=z8 h;exact⟨h1,λn b x hx=>by have:=(a n b).2 x hx;omega⟩
theorem B3 (a b:aV)(T:List eo)(e:ir T)(i j:Int)(c:0≤i∧i.toNat<T.length)(d:0≤j∧j.toNat<T.length):eE prog 84 #[kB a b,iv i,iv j] [sl bI a.1 (dg T),sl bI b.1 (de T)] (.bool (iD T i.toNat j.toNat)):=by
 have:=M7 a b T e i.toNat j.toNat c.2 d.2
 rw[uZ c.1,uZ d.1]at this;exact this
theorem N8 {T:List eo}{Fs:List oc}{G:e8}{k:Nat}(hk:k<G.length)(h:tJ T Fs G k=true)(a:∀i,i<k→tJ T Fs G i=false):mU T Fs G=some k:=by
 unfold mU;rw[List.find?_range_eq_some]
 exact⟨h,dt.2 hk,λj b=>by rw[a j b];rfl⟩
theorem N9 {T:List eo}{Fs:List oc}{G:e8}(a:∀i,i<G.length→tJ T Fs G i=false):mU T Fs G=none:=by
 unfold mU;rw[List.find?_eq_none]
 intro b h;rw[a b (dt.1 h)];decide
theorem Bu {T:List eo}{Fs:List oc}{G:e8}(h:(fX T.length Fs.length G).1≠0):dP T Fs G=fX T.length Fs.length G:=by unfold dP;rw[aC h]
theorem Lk {T:List eo}{Fs:List oc}{G:e8}{i:Nat}(h:¬(fX T.length Fs.length G).1≠0)(a:mU T Fs G=some i):dP T Fs G=(12,(i:Int)):=by unfold dP;rw[aA h,a]
theorem Ll {T:List eo}{Fs:List oc}{G:e8}(h:¬(fX T.length Fs.length G).1≠0)(a:mU T Fs G=none):dP T Fs G=if 0≤YY G then(5,YY G)else(0,0):=by unfold dP;rw[aA h,a]
theorem q8 (tv xv o r:aV)(ts:List rh)(b:List jJ)(g:dD)(G:ir (ts.map dG))(M:∀f∈b,0≤f.BS∧f.BS<ts.length∧0≤f.value∧f.value<ts.length):eE prog 49 #[.agg #[tv.1,xv.1],kB o r,bA g] [sl mw tv.1 ts,sl ga xv.1 b,sl bI o.1 (dg (ts.map dG)),sl bI r.1 (de (ts.map dG)),aG g] (fv (dP (ts.map dG) (b.map gz) (ax g))):=by
 refine eE.Z0 (args:=[.agg #[tv.1,xv.1],kB o r,bA g]) 74 func49 rfl ntmps49 rfl (λc=> ?_);refine go ?_
 refine St.jQ (aG g) (λ_:Unit=>kb g) (λρ h=>⟨(),h⟩) λ_=> ?_
 refine St.cast (H':=[aB (sl bq g.nv.1 g.nodes),aB (aF cB g.nodes),aB (sl mw tv.1 ts),aB (sl ga xv.1 b),aB (sl bI o.1 (dg (ts.map dG))),aB (sl bI r.1 (de (ts.map dG))),aB (aG g)]) rfl ?_
 have N:=cy g
 have B:(ts.map dG).length=ts.length:=aO ..
 have C:(b.map gz).length=b.length:=aO ..
 refine St.wf g.nv.1 (λO Y=> ?_);refine go ?_;refine St.dJ (.mk rfl) rfl (λZ=> ?_);refine St.dJ (.mk rfl) rfl (λb4=> ?_);refine St.dJ (.mk rfl) rfl (λb5=> ?_);refine St.al (λb6=> ?_);refine g7 ?_;refine St.ee (Ev.call (GN tv xv ts b g) ahP (.aX rfl rfl)) ?_;refine St.al (λb7=> ?_);refine g10 ?_;refine St.cond _ rfl (λD=> ?_) (λD=> ?_)
 ·skip
  have s:(fX (ts.map dG).length (b.map gz).length (ax g)).1≠0:=by rw[B,C];simpa using D
  have d:=Bu s
  rw[B,C]at d;refine g8 ?_;refine St.rV [_] [] ?_;exact congrArg fv d.symm
 ·skip
  have s:¬(fX (ts.map dG).length (b.map gz).length (ax g)).1≠0:=by rw[B,C];simpa using D
  have P:=O8 (iY.1 s)
  obtain⟨hg0,Q,H⟩:=z8 (iY.1 s);refine g12 ?_;refine St.lS (ι:=Nat) (λk T=>(24,iv k)::T) (λk=>k≤g.nodes.length∧∀i,i<k→tJ (ts.map dG) (b.map gz) (ax g) i=false) (λk=>g.nodes.length-k) 0 (aD.cons 3 rfl (aD.cons 4 rfl (aD.cons 5 rfl (aD.cons 6 rfl (aD.cons 22 rfl (aD.cons 23 rfl aD.nil)))))) ⟨aP _,λi E=>absurd E (by omega)⟩ ?_;intro k F;obtain⟨hk,e⟩:=F;refine g6 ?_;refine St.cq (λR=> ?_) (λR=> ?_)
  ·obtain⟨t,ht⟩:=aE (show k<g.nodes.length by omega)
   have S:=aZ ht
   refine St.cL cB g.nodes (x:=t) S ?_;refine St.ea (sl au t.lv.1 t.aq) [cB t] (λρ h=>h _ (aQ ..)) ?_;refine St.wf t.lv.1 (λSG SF=> ?_)
   have I:(ax g).getD k iK=mB t:=by rw[aw,ka ht];rfl
   obtain⟨J,U⟩:=H (mB t) (aZ (ka ht))
   replace J:0≤t.type∧t.type<((ts.map dG).length:Int):=J
   refine g8 ?_;refine St.ee (Ev.js (.mk rfl) ht wY trivial jT j7.eq) ?_;refine St.al (λb9=> ?_);refine g13 ?_;refine St.lS (ι:=Nat) (λq T=>(32,iv q)::T) (λq=>q≤t.aq.length∧∀j,j<q→∀x,(mB t).2[j]?=some x→IX (ts.map dG) (b.map gz) (ax g) t.type x=false) (λq=>t.aq.length-q) 0 (aD.cons 3 rfl (aD.cons 4 rfl (aD.cons 5 rfl (aD.cons 6 rfl (aD.cons 8 rfl (aD.cons 9 rfl (aD.cons 22 rfl (aD.cons 23 rfl (aD.cons 24 rfl (aD.cons 30 rfl (aD.cons 31 rfl aD.nil))))))))))) ⟨aP _,λj v=>absurd v (by omega)⟩ ?_;intro q F;obtain⟨hq,K⟩:=F;refine g6 ?_;refine St.cq (λV=> ?_) (λV=> ?_)
   ·obtain⟨p,hp⟩:=aE (show q<t.aq.length by omega)
    have l:(mB t).2[q]?=some (fP p):=by show(t.aq.map fP)[q]?=_;rw[bQ,hp];rfl
    have y:=U (fP p) (aZ l)
    replace y:0≤p.dF∧p.dF<((b.map gz).length:Int)∧0≤p.tqo∧p.tqo<((ax g).length:Int):=y
    obtain⟨fe,m⟩:=aE (show p.dF.toNat<b.length by omega);obtain⟨u,hu⟩:=aE (show p.tqo.toNat<g.nodes.length by omega)
    have W:=M fe (aZ m)
    have z:=(H (mB u) (aZ (ka hu))).1
    replace z:0≤u.type∧u.type<((ts.map dG).length:Int):=z
    have L:(!iD (ts.map dG) t.type.toNat fe.BS.toNat|| !iD (ts.map dG) u.type.toNat fe.value.toNat)=IX (ts.map dG) (b.map gz) (ax g) t.type (fP p):=by
     unfold IX
     rw[show(fP p).1=p.dF from rfl,show(fP p).2=p.tqo from rfl,aw,bQ,m,aw,ka hu];rfl
    refine g7 ?_;refine St.ee (Ev.js (.mk rfl) hp lD trivial dm j7.eq) ?_;refine St.al (λYB=> ?_);refine g9 ?_;refine St.ee (Ev.cE (k:=p.dF.toNat) (.mk rfl) (.mk rfl) Fy Bg (by omega) (by omega)) ?_;refine St.ee (Ev.js (.mk rfl) m underlying135 trivial Bg j7.eq) ?_;refine St.al (λQv=> ?_);refine g4 ?_;refine St.rq mixed (by kernel_rfl) (Mm.drawn _ _) ?_;refine g5 ?_;refine Sq.ee (Ev.call (B3 o r (ts.map dG) G t.type fe.BS ⟨by omega,by omega⟩ ⟨by omega,by omega⟩) Zs (.ek rfl rfl rfl)) ?_;refine g2 ?_;refine Sq.gf _ rfl rfl (λa=>Ev.Wu (.mk rfl) wX trivial (by exact wU)) rfl ?_;refine Sq.gf _ rfl rfl (λa=>Ev.da (.mk rfl) vC) rfl ?_;refine Sq.gf _ rfl rfl (λa=>Ev.ke (ah.gv rfl a) oY trivial (by rfl)) rfl ?_;refine Sq.gf _ rfl rfl (λa=>Ev.da (.mk rfl) tV) rfl ?_;refine Sq.gf _ rfl rfl (λa=>Ev.ke (ah.gv rfl a) gD trivial (by rfl)) rfl ?_;refine Sq.gf _ rfl rfl (λa=>Ev.cE (k:=p.tqo.toNat) (ah.gv rfl a) (ah.gv rfl a) oY jT (by first|omega|(simp only[eM]at a;omega)) (by first|omega|(simp only[eM]at a;omega))) rfl ?_;refine Sq.gf _ rfl rfl (λa=>Ev.UO (ah.gv rfl a) (by first|omega|(simp only[eM]at a;omega)) tT) rfl ?_;refine Sq.gf _ rfl rfl (λa=>Ev.ld1 (ah.gv rfl a) hu gD trivial rfl) rfl ?_;refine Sq.gf _ rfl rfl (λa=>Ev.da (.mk rfl) Cq) rfl ?_;refine Sq.gf _ rfl rfl (λa=>Ev.ke (ah.gv rfl a) gD trivial (by rfl)) rfl ?_;refine Sq.gf _ rfl rfl (λa=>Ev.call (B3 o r (ts.map dG) G u.type fe.value ⟨by omega,by omega⟩ ⟨by omega,by omega⟩) Zs (.cons (ah.gv rfl a) (.cons (ah.gv rfl a) (.cons (ah.gv rfl a) .nil)))) rfl ?_;refine Sq.gf _ rfl rfl (λa=>Ev.not (ah.gv rfl a)) rfl ?_;refine g3 ?_;refine St.cond _ rfl (λA=> ?_) (λA=> ?_)
    ·skip
     rw[L]at A
     have n:tJ (ts.map dG) (b.map gz) (ax g) k=true:=by unfold tJ;rw[I,pY];exact⟨fP p,aZ l,A⟩
     have d:=Lk s (N8 (by omega) n e)
     refine g3 ?_;refine St.ee (Ev.call (gB 12 k) KZ (.aX rfl rfl)) ?_;refine g13 ?_;refine St.rV [_] [] ?_;exact congrArg fv d.symm
    ·skip
     rw[L]at A;refine g8 ?_;refine St.aS (q+1) ⟨by omega,λj v x hx=>by rcases eP j q with h|h;exact K j h x hx;rw[show j=q by omega,l]at hx;cases hx;exact A⟩
   ·refine g11 ?_
    have n:tJ (ts.map dG) (b.map gz) (ax g) k=false:=by
     unfold tJ;rw[I,List.any_eq_false]
     intro x hx;obtain⟨j,v⟩:=Bz hx
     rw[show(mB t).1=t.type from rfl,K j (by have:=ai v;rw[show(mB t).2.length=t.aq.length from aO _]at this;omega) x v];decide
    refine St.aS (k+1) ⟨by omega,λi E=>by rcases eP i k with h|h;exact e i h;rw[show i=k by omega];exact n⟩
  ·have d:=Ll s (N9 (by rw[N];intro i E;exact e i (by omega)))
   refine g9 ?_;refine St.ee (Ev.call (yJ g P (by omega)) ahQ (.ar rfl)) ?_;refine g9 ?_;refine St.cq (λX=> ?_) (λX=> ?_)
   ·rw[aC (by omega)]at d
    refine g3 ?_;refine St.ee (Ev.call (gB 5 (YY (ax g))) KZ (.aX rfl rfl)) ?_;refine g5 ?_;refine St.rV [_] [] ?_;exact congrArg fv d.symm
   ·rw[aA (by omega)]at d
    refine g4 ?_;refine St.ee (Ev.build (bH.nil) (λw=>ja w)) ?_;refine g4 ?_;refine St.rV [_] [] ?_;exact congrArg fv d.symm
def oC (a b:Int):Int:=if a<b then-1 else if b<a then 1 else 0
def Asc (l:List dx):Prop:=∀(i j:Nat) (x y:dx),i<j→l[i]?=some x→l[j]?=some y→x.dF<y.dF
def ae1 (l:List dx)(k:Int)(v:Value):Prop:=∃(i:Nat) (b:Bool),v= .tuple #[iv i,.bool b]∧(b=true→∃x,l[i]?=some x∧x.dF=k)∧(b=false→∀x∈l,x.dF≠k)
theorem yr (x:Int):eE prog 133 #[iv x] [] (.bool false):=by
 refine eE.qD (args:=[iv x]) 6 func133 rfl ntmps133 rfl (λc=> ?_);refine g14 ?_;refine St.rV [_] [] ?_;exact be (by simp)
theorem ef (x y:Int):eE prog 100 #[iv x,iv y] [] (iv (oC x y)):=by
 refine eE.qD (args:=[iv x,iv y]) 20 func100 rfl ntmps100 rfl (λc=> ?_);refine g8 ?_;refine St.ee (Ev.call (yr x) UH (.ar rfl)) ?_;refine g6 ?_;refine St.ee (Ev.call (yr y) UH (.ar rfl)) ?_;refine g9 ?_;refine St.rm _ rfl rfl ?_;refine g8 ?_;refine St.rm _ rfl rfl ?_;refine g10 ?_;refine St.cq (λa=> ?_) (λa=> ?_)
 ·refine g7 ?_
  refine St.rV [_] [] ?_;exact ie (by unfold oC;rw[aC a])
 ·refine g10 ?_
  refine St.cq (λb=> ?_) (λb=> ?_)
  ·refine g7 ?_
   refine St.rV [_] [] ?_;exact ie (by unfold oC;rw[aA (by omega),aC (by omega)])
  ·refine g8 ?_
   refine St.rV [_] [] ?_;exact ie (by unfold oC;rw[aA (by omega),aA (by omega)])
theorem tD (x:dx)(k:Int):eE prog 138 ([Value.agg #[iv x.dF,iv x.tqo],iv k]++ []).toArray [] (iv (oC x.dF k)):=by
 refine eE.qD (args:=[Value.agg #[iv x.dF,iv x.tqo],iv k]++ []) 9 func138 rfl ntmps138 rfl (λc=> ?_);refine g2 ?_;refine St.dJ (.mk rfl) rfl (λa=> ?_);refine g8 ?_;refine St.ee (Ev.call (ef x.dF k) qG (.aX rfl rfl)) ?_;refine g4 ?_;refine St.rV [_] [] ?_;rfl
theorem Lx (u:Value)(l:List dx)(k:Int)(r:Asc l)(F:l.length≤1000000):dz prog 137 #[u,iv k,.func (.func 138) #[] #[]] ([sl au u l].map aB) (λv H'=>ae1 l k v∧H'=[]):=by
 refine dz.body (args:=[u,iv k,.func (.func 138) #[] #[]]) 49 func137 rfl ntmps137 rfl (λc=> ?_);refine St.cast (H':=[aB (sl au u l)]) rfl ?_;refine g22 ?_;refine St.lS (ι:=Nat×Nat) (λx T=>(9,iv x.1)::(10,iv x.2)::T) (λx=>x.1≤x.2∧x.2≤l.length∧(∀j y,j<x.1→l[j]?=some y→y.dF<k)∧(∀j y,x.2≤j→l[j]?=some y→k≤y.dF)) (λx=>x.2-x.1) (0,l.length) (aD.cons 0 rfl (aD.cons 1 rfl (aD.cons 2 rfl (aD.cons 6 rfl (aD.cons 7 rfl (aD.cons 8 rfl aD.nil)))))) ⟨aP _,aR _,λj y w=>absurd w (Nat.not_lt_zero j),λj y w h=>by have:=ai h;omega⟩ ?_;rintro ⟨i,j⟩ ⟨B,A,b,s⟩
 dsimp only at B A b s⊢
 refine g8 ?_;refine St.cq (λC=> ?_) (λC=> ?_)
 ·have D:i≤(i+j)/2:=by omega
  have G:(i+j)/2<j:=by omega
  obtain⟨y,hy⟩:=aE (show(i+j)/2<l.length by omega);refine g8 ?_;refine St.ee (Ev.Vy ((i+j)) (.mk rfl) (by rw[gD];rfl) Bo (by omega)) ?_;refine St.ee (Ev.XY 1 2 (by decide) (.mk rfl) (.mk rfl) (by decide)) ?_;refine St.ee (Ev.Vz (.mk rfl) (by rw[Bo];rfl) gD (by omega)) ?_;refine g8 ?_;refine St.ee (Ev.cE (k:=((i+j)/2)) (.mk rfl) (.mk rfl) eX dm (by omega) (by omega)) ?_;refine St.ee (Ev.js (.mk rfl) hy lD trivial dm j7.eq) ?_;refine go ?_;refine St.ee (Ev.ei (tD y k) UI (.mk rfl) (.aX rfl rfl)) ?_;refine g3 ?_;refine St.cq (λo=> ?_) (λo=> ?_)
  ·have d:y.dF<k:=by unfold oC at o;split at o<;>first|assumption|(split at o<;>omega)
   refine g7 ?_;refine St.aS ((i+j)/2+1,j) ⟨by show(i+j)/2+1≤j;omega,A,λq z a hz=>by rcases eP q ((i+j)/2)with g|g;exact Int.lt_trans (r _ _ _ _ g hz hy) d;rw[show q=(i+j)/2 from Nat.le_antisymm (Nat.le_of_lt_succ a) g,hy]at hz;cases hz;exact d,s⟩
  ·have d:k≤y.dF:=by unfold oC at o;split at o<;>omega
   refine g6 ?_;refine St.aS (i,(i+j)/2) ⟨D,by show(i+j)/2≤l.length;omega,b,λq z a hz=>by rcases eP ((i+j)/2) q with g|g;exact Int.le_trans d (Int.le_of_lt (r _ _ _ _ g hy hz));rw[show q=(i+j)/2 from Nat.le_antisymm g a,hy]at hz;cases hz;exact d⟩
 ·have t:i=j:=by omega
  subst t;refine g11 ?_;refine St.split 38 _ rfl (λf=> ?_) (λf=> ?_)
  ·have p:i<l.length:=by simpa using f
   obtain⟨y,hy⟩:=aE p;refine go ?_;refine St.cD rfl rfl ?_;refine go ?_;refine St.cD rfl rfl ?_;refine go ?_;refine St.cD rfl rfl ?_;refine go ?_;refine St.cD rfl rfl ?_;refine go ?_;refine St.cD rfl rfl ?_;refine St.ee (Ev.js (.mk rfl) hy lD trivial dm j7.eq) ?_;refine St.cD rfl rfl ?_;refine go ?_;refine St.cD rfl rfl ?_;refine St.ee (Ev.ei (tD y k) UI (.mk rfl) (.aX rfl rfl)) ?_;refine St.cD rfl rfl ?_;refine go ?_;refine St.split 47 _ rfl (λm=> ?_) (λm=> ?_)
   ·refine St.ee (Ev.gT (.mk rfl) rfl (.mk rfl)) ?_
    refine g5 ?_;refine St.rV [_,_] [] ?_
    have n:oC y.dF k=0:=by simpa using m
    have d:y.dF=k:=by unfold oC at n;split at n;cases n;split at n;cases n;omega
    exact⟨⟨i,true,rfl,λ_=>⟨y,hy,d⟩,λh=>(by cases h)⟩,rfl⟩
   ·refine St.ee (Ev.gT (.mk rfl) rfl (.mk rfl)) ?_
    refine g5 ?_;refine St.rV [_,_] [] ?_
    have n:oC y.dF k≠0:=by simpa using m
    have d:y.dF≠k:=λe=>n (by unfold oC;rw[aA (by omega),aA (by omega)])
    have E:=s i y (aR _) hy
    exact⟨⟨i,false,rfl,λh=>(by cases h),λ_ z hz=>by obtain⟨q,a⟩:=Bz hz;rcases Nat.lt_trichotomy q i with g|g|g;have:=b q z g a;omega;rw[g,hy]at a;cases a;exact d;have:=r _ _ _ _ g hy a;omega⟩,rfl⟩
  ·have p:l.length≤i:=by simpa using f
   refine go ?_;refine St.br rfl rfl rfl ?_;refine St.br rfl rfl rfl ?_;refine St.br rfl rfl rfl ?_;refine St.br rfl rfl rfl ?_;refine St.br rfl rfl rfl ?_;refine St.br rfl rfl rfl ?_;refine St.br rfl rfl rfl ?_;refine St.br rfl rfl rfl ?_;refine St.ee (Ev.kR (.mk rfl) rfl (.mk rfl)) ?_;refine g5 ?_;refine St.rV [_,_] [] ?_;exact⟨⟨i,false,rfl,λh=>(by cases h),λ_ z hz=>by obtain⟨q,a⟩:=Bz hz;have h1:=ai a;have H:=b q z (by omega) a;omega⟩,rfl⟩
def Fl (G:e8)(i:Nat)(k:Int):Int:=match(G.getD i iK).2.find? λx=>x.1==k with
 |some x=>x.2
 |none=> -1
theorem PY (G:e8)(k:Int):Fl G 0 k=rX G k:=rfl
theorem Tb {l:List dx}(b:Asc l){j:Nat}{x:dx}{k:Int}(hx:l[j]?=some x)(hk:x.dF=k):(l.map fP).find? (λy=>y.1==k)=some (fP x):=by
 cases h:(l.map fP).find? (λy=>y.1==k)with
 |none=>
  rw[List.find?_eq_none]at h;exact absurd (show((fP x).1==k)=true by rw[beq_iff_eq];exact hk) (h (fP x) (eQ (aZ hx)))
 |some y=>
  have h1:=List.find?_some h
  obtain⟨z,hz,rfl⟩:=dC.1 (List.mem_of_find?_eq_some h)
  have c:z.dF=k:=by simpa[fP]using h1
  obtain⟨q,a⟩:=Bz hz
  rcases Nat.lt_trichotomy q j with g|g|g
  ·have:=b _ _ _ _ g a hx;omega
  ·rw[g,hx]at a;cases a;rfl
  ·have:=b _ _ _ _ g hx a;omega
theorem PZ {l:List dx}{k:Int}(h:∀x∈l,x.dF≠k):(l.map fP).find? (λy=>y.1==k)=none:=by
 rw[List.find?_eq_none];intro y hy;obtain⟨z,hz,rfl⟩:=dC.1 hy
 rw[beq_iff_eq];exact h z hz
theorem J8 {nf nn i:Int}:∀{l:List dx} {z:Int},(Ae nf nn i z (l.map fP)).1=0→(∀x∈l,z<x.dF)∧Asc l
 | [],_,_=>⟨λx hx=>(by cases hx),λi j x y _ g=>(by simp at g)⟩
 |y::l,z,h=>by
  rw[fK,Ae]at h
  by_cases h1:(fP y).1<0∨nf≤(fP y).1∨(fP y).2<0∨nn≤(fP y).2
  ·rw[aC h1]at h;exact absurd h (by simp)
  rw[aA h1]at h
  by_cases c:(fP y).1≤z
  ·rw[aC c]at h;exact absurd h (by simp)
  rw[aA c]at h;obtain⟨d,k⟩:=J8 h
  replace d:∀x∈l,y.dF<x.dF:=d
  replace c:¬y.dF≤z:=c
  refine⟨λx hx=> ?_,λi j a b m e f=> ?_⟩
  ·rcases cK.1 hx with rfl|hx
   ·omega
   ·have:=d x hx;omega
  ·obtain⟨j,rfl⟩:∃n,j=n+1:=⟨j-1,by omega⟩
   rw[s8]at f
   cases i with
   |zero=>rw[List.getElem?_cons_zero]at e;cases e;exact d b (aZ f)
   |succ i=>rw[s8]at e;exact k i j a b (by omega) e f
theorem rp {nt nf nn:Int}:∀{l:List dh} {i:Nat},(fC nt nf nn i (l.map mB)).1=0→∀n∈l,Asc n.aq
 | [],_,_=>λx hx=>by cases hx
 |y::l,i,h=>by
  rw[fK,fC]at h
  by_cases h1:(mB y).1<0∨nt≤(mB y).1
  ·rw[aC h1]at h;exact absurd h (by simp)
  rw[aA h1]at h
  by_cases a:(Ae nf nn i (-1) (mB y).2).1≠0
  ·rw[aC a]at h;exact absurd h a
  rw[aA a]at h;intro x hx
  rcases cK.1 hx with rfl|hx
  ·exact(J8 (iY.1 a)).2
  ·exact rp h x hx
theorem BN {nt nf:Int}{g:dD}(h:(fX nt nf (ax g)).1=0):∀n∈g.nodes,Asc n.aq:=by
 unfold fX at h
 by_cases h1:(ax g).length=0∨60<(ax g).length
 ·rw[aC h1]at h;exact absurd h (by simp)
 rw[aA h1]at h;exact rp h
theorem nF (g:dD)(i:Nat)(k:Int)(o:i<g.nodes.length)(p:∀n∈g.nodes,Asc n.aq∧n.aq.length≤1000000):eE prog 111 #[bA g,iv i,iv k] [aG g] (iv (Fl (ax g) i k)):=by
 refine eE.nH (args:=[bA g,iv i,iv k]) 32 func111 rfl ntmps111 rfl (λc=> ?_);refine go ?_
 refine St.jQ (aG g) (λ_:Unit=>kb g) (λρ h=>⟨(),h⟩) λ_=> ?_
 refine St.cast (H':=[aB (sl bq g.nv.1 g.nodes),aB (aF cB g.nodes),aB (aG g)]) rfl ?_;obtain⟨t,ht⟩:=aE o
 have m:=aZ ht
 refine St.cL cB g.nodes (x:=t) m ?_;refine St.ea (sl au t.lv.1 t.aq) [cB t] (λρ h=>h _ (aQ ..)) ?_
 have q:(ax g).getD i iK=mB t:=by rw[aw,ka ht];rfl
 have d:Fl (ax g) i k=match(t.aq.map fP).find? (λx=>x.1==k)with|some x=>x.2|none=> -1:=by unfold Fl;rw[q];rfl
 obtain⟨a,r⟩:=p t m;refine go ?_;refine St.dJ (.mk rfl) rfl (λw=> ?_);refine g12 ?_;refine St.ae (Lx t.lv.1 t.aq k a r) ZS (.ek rfl rfl rfl) rfl ?_;rintro v17 _ ⟨⟨j,b,rfl,s,e⟩,rfl⟩;refine St.aK ?_;refine g14 ?_;refine St.cond _ rfl (λf=> ?_) (λf=> ?_)
 ·skip
  have u:b=false:=by simpa using f
  rw[PZ (e u)]at d;refine g7 ?_;refine St.rV [_] [] ?_;exact ie d.symm
 ·skip
  have v:b=true:=by simpa using f
  obtain⟨x,hx,l⟩:=s v
  have y:=ai hx
  rw[Tb a hx l]at d;refine g18 ?_;refine St.rV [_] [] ?_;exact ie d.symm
theorem Dq (g:dD)(kids:Int)(f:0<g.nodes.length)(i:∀n∈g.nodes,Asc n.aq∧n.aq.length≤1000000):eE prog 81 #[bA g,iv kids] [aG g] (.bool (nP (ax g) kids)):=by
 refine eE.nH (args:=[bA g,iv kids]) 18 func81 rfl ntmps81 rfl (λc=> ?_);refine g2 ?_;refine St.dJ (.mk rfl) rfl (λo=> ?_);refine g10 ?_;refine St.lS (ι:=Nat) (λk T=>(6,iv k)::T) (λk=>k≤4∧∀j,j<k→(decide (0≤rX (ax g) (j:Nat))==decide (((j:Nat):Int)≤kids))=true) (λk=>4-k) 0 (aD.cons 1 rfl (aD.cons 2 rfl aD.nil)) ⟨aP _,λj b=>absurd b (by omega)⟩ ?_;intro k l;obtain⟨hk,e⟩:=l;refine g6 ?_;refine St.cq (λm=> ?_) (λm=> ?_)
 ·refine g14 ?_
  refine St.ee (Ev.call (nF g 0 k f i) Ib (.ek rfl rfl rfl)) ?_;refine g4 ?_;refine St.ee (Ev.IZ (.mk rfl) (.mk rfl) ID) ?_;refine g2 ?_;refine St.cond _ rfl (λa=> ?_) (λa=> ?_)
  ·skip
   have d:(decide (0≤rX (ax g) (k:Nat))==decide (((k:Nat):Int)≤kids))=false:=by rw[sj];simp[PY]at a;exact a
   refine g11 ?_;refine St.rV [_] [] ?_;exact be (by unfold nP;symm;rw[List.all_eq_false];exact⟨k,dt.2 (by omega),by rw[d];decide⟩)
  ·skip
   have d:(decide (0≤rX (ax g) (k:Nat))==decide (((k:Nat):Int)≤kids))=true:=by rw[beq_iff_eq];simp[PY]at a;exact a
   refine g8 ?_;refine St.aS (k+1) ⟨by omega,λj b=>by rcases eP j k with h|h;exact e j h;rw[show j=k by omega];exact d⟩
 ·refine g11 ?_
  refine St.rV [_] [] ?_;exact be (by unfold nP;symm;rw[eY];intro j b;exact e j (by have:=dt.1 b;omega))
theorem MH {l:List dx}(a:Asc l)(b:∀x∈l,0≤x.dF):∀(i:Nat) (x:dx),l[i]?=some x→(i:Int)≤x.dF
 |0,x,hx=>b x (aZ hx)
 |i+1,x,hx=>by
  obtain⟨y,hy⟩:=aE (show i<l.length by have:=ai hx;omega)
  have h1:=MH a b i y hy
  have c:=a i (i+1) y x (pM i) hy hx
  omega
theorem Qt {l:List dx}(b:Asc l){nf:Nat}(a:∀x∈l,0≤x.dF∧x.dF<nf):l.length≤nf:=by
 rcases Nat.eq_zero_or_pos l.length with h|h
 ·omega
 ·obtain⟨y,hy⟩:=aE (show l.length-1<l.length by omega)
  have h1:=MH b (λx hx=>(a x hx).1) _ y hy
  have c:=(a y (aZ hy)).2
  omega
theorem BI {n:Int}:∀{l:List oc} {known:List bC} {i:Nat},(mV n known i l).1=0→∀f∈l,0≤f.2.1∧f.2.1<n∧0≤f.2.2∧f.2.2<n
 | [],_,_,_=>λf a=>by cases a
 |t::l,known,i,h=>by
  rw[mV]at h
  by_cases h1:isName t.1=false
  ·rw[aC h1]at h;exact absurd h (by simp)
  rw[aA h1]at h
  by_cases b:t.1∈known
  ·rw[aC b]at h;exact absurd h (by simp)
  rw[aA b]at h
  by_cases c:t.2.1<0∨n≤t.2.1∨t.2.2<0∨n≤t.2.2
  ·rw[aC c]at h;exact absurd h (by simp)
  rw[aA c]at h;intro f a
  rcases cK.1 a with rfl|a
  ·omega
  ·exact BI h f a
theorem SB {T:List eo}{Fs:List oc}(h:(jP T Fs).1=0):0<T.length∧ir T∧Fs.length≤40∧∀f∈Fs,0≤f.2.1∧f.2.1<T.length∧0≤f.2.2∧f.2.2<T.length:=by
 unfold jP at h
 by_cases h1:40<Fs.length
 ·rw[aC h1]at h;exact absurd h (by simp)
 rw[aA h1]at h
 by_cases a:(Au T).1≠0
 ·rw[aC a]at h;exact absurd h a
 rw[aA a]at h;obtain⟨_,c,d⟩:=I9 (iY.1 a)
 cases e:wa T with
 |some b=>rw[e]at h;exact absurd h (by simp)
 |none=>rw[e]at h;exact⟨c,d,by omega,BI h⟩
structure Nq where
 no:Nat
 leaf:Bool
 label:bC
 up:Int
 fin:Nat
 frm:Nat
 tqo:Nat
def XK:Nq:=⟨0,false,[],0,0,0,0⟩
def tm0:jL:= .mk 0 [] 0 (.mk [] []) []
def QZ:Dp:=⟨[],[],0,tm0⟩
def oP:sm:=⟨[],[],0,0,tm0⟩
mutual
def Uq:jZ→Nat
 | .mk _ _ l=>1+Up l
def Up:List jZ→Nat
 | []=>0
 |x::l=>Uq x+Up l
end
mutual
def XH:jZ→Nat
 | .mk r _ l=>(if r<0 then 1 else 0)+XG l
def XG:List jZ→Nat
 | []=>0
 |x::l=>XH x+XG l
end
def alA (g:fj)(r x:Int):bC:=if r<0 then(g.aN.getD x.toNat QZ).word else(g.rules.getD r.toNat oP).name
mutual
def Sz (g:fj):jZ→Nat→Int→Nat→List Nq
 | .mk r x l,k,up,w=>⟨k,decide (r<0),alA g r x,up,k+(1+Up l),w,w+((if r<0 then 1 else 0)+XG l)⟩::Lv g l (k+1) k (w+(if r<0 then 1 else 0))
def Lv (g:fj):List jZ→Nat→Int→Nat→List Nq
 | [],_,_,_=>[]
 |x::l,k,up,w=>Sz g x k up w++Lv g l (k+Uq x) up (w+XH x)
end
mutual
def BL (nr nl:Nat):jZ→Prop
 | .mk r x l=>(-1≤r∧r<nr)∧(r<0→l=[]∧0≤x∧x<nl)∧(0≤r→l≠ [])∧BK nr nl l
def BK (nr nl:Nat):List jZ→Prop
 | []=>True
 |x::l=>BL nr nl x∧BK nr nl l
end
mutual
theorem xu (g:fj):∀(t:jZ) (k:Nat) (up:Int) (w:Nat),(Sz g t k up w).length=Uq t
 | .mk r x l,k,up,w=>by rw[Sz,fU,JC g l,Uq];omega
theorem JC (g:fj):∀(l:List jZ) (k:Nat) (up:Int) (w:Nat),(Lv g l k up w).length=Up l
 | [],_,_,_=>by rw[Lv,Up];rfl
 |x::l,k,up,w=>by rw[Lv,bR,xu g x,JC g l,Up]
end
mutual
theorem J9 {nr nl:Nat}:∀t:jZ,BL nr nl t→0<XH t
 | .mk r x l,h=>by
  rw[BL]at h;rw[XH]
  by_cases a:r<0
  ·rw[aC a];omega
  ·have:=Sp l h.2.2.2 (h.2.2.1 (by omega));omega
theorem Sp {nr nl:Nat}:∀l:List jZ,BK nr nl l→l≠ []→0<XG l
 | [],_,h=>absurd rfl h
 |x::l,h,_=>by
  rw[BK]at h
  have:=J9 x h.1
  rw[XG];omega
end
def IM (x y:Nq):Prop:=x.no<y.no∧((y.no<x.fin∧x.frm≤y.frm∧y.tqo≤x.tqo)∨(x.fin≤y.no∧x.tqo≤y.frm))
def Yj (k m w n:Nat)(x:Nq):Prop:=k≤x.no∧x.no<x.fin∧x.fin≤k+m∧w≤x.frm∧x.frm<x.tqo∧x.tqo≤w+n
mutual
theorem OH {nr nl:Nat}(g:fj):∀(t:jZ) (k:Nat) (up:Int) (w:Nat),BL nr nl t→(Sz g t k up w).Pairwise IM∧∀x∈Sz g t k up w,Yj k (Uq t) w (XH t) x
 | .mk r x l,k,up,w,h=>by
  have hp:=J9 _ h
  rw[BL]at h;obtain⟨h1,a⟩:=OE g l (k+1) k (w+(if r<0 then 1 else 0)) h.2.2.2;rw[Sz,Uq];rw[XH]at hp⊢;refine⟨jW.2 ⟨λy hy=> ?_,h1⟩,λy hy=> ?_⟩
  ·obtain⟨b,a2,a3,a4,a5,c⟩:=a y hy
   refine⟨?_,Or.inl ⟨?_,?_,?_⟩⟩<;>dsimp only<;>omega
  ·rcases cK.1 hy with rfl|hy
   ·refine⟨?_,?_,?_,?_,?_,?_⟩<;>dsimp only<;>omega
   ·obtain⟨b,a2,a3,a4,a5,c⟩:=a y hy
    refine⟨?_,?_,?_,?_,?_,?_⟩<;>omega
theorem OE {nr nl:Nat}(g:fj):∀(l:List jZ) (k:Nat) (up:Int) (w:Nat),BK nr nl l→(Lv g l k up w).Pairwise IM∧∀x∈Lv g l k up w,Yj k (Up l) w (XG l) x
 | [],_,_,_,_=>by rw[Lv];exact⟨List.Pairwise.nil,λx hx=>by cases hx⟩
 |t::l,k,up,w,h=>by
  rw[BK]at h;obtain⟨h1,a⟩:=OH g t k up w h.1;obtain⟨c,b⟩:=OE g l (k+Uq t) up (w+XH t) h.2;rw[Lv,Up,XG];refine⟨sD.2 ⟨h1,c,λx hx y hy=> ?_⟩,λy hy=> ?_⟩
  ·obtain⟨d,a2,a3,a4,a5,e⟩:=a x hx
   obtain⟨f,i,j,m,n,o⟩:=b y hy;exact⟨by omega,Or.inr ⟨by omega,by omega⟩⟩
  ·rcases cG.1 hy with hy|hy
   ·obtain⟨d,a2,a3,a4,a5,e⟩:=a y hy
    refine⟨?_,?_,?_,?_,?_,?_⟩<;>omega
   ·obtain⟨f,i,j,m,n,o⟩:=b y hy
    refine⟨?_,?_,?_,?_,?_,?_⟩<;>omega
end
mutual
theorem OG (g:fj):∀(t:jZ) (k:Nat) (up:Int) (w i:Nat) (x:Nq),(Sz g t k up w)[i]?=some x→x.no=k+i
 | .mk r y l,k,up,w,i,x,h=>by
  rw[Sz]at h
  cases i with
  |zero=>rw[List.getElem?_cons_zero]at h;cases h;rfl
  |succ i=>rw[s8]at h;have:=OD g l _ _ _ i x h;omega
theorem OD (g:fj):∀(l:List jZ) (k:Nat) (up:Int) (w i:Nat) (x:Nq),(Lv g l k up w)[i]?=some x→x.no=k+i
 | [],_,_,_,_,_,h=>by rw[Lv]at h;simp at h
 |t::l,k,up,w,i,x,h=>by
  rw[Lv]at h
  rcases eP i (Uq t)with a|a
  ·rw[oa (by rw[xu];exact a)]at h
   exact OG g t k up w i x h
  ·rw[lg (by rw[xu];exact a),xu]at h
   have:=OD g l _ _ _ _ x h
   omega
end
structure B1 (L:List Nq):Prop where
 ahead:L.Pairwise IM
 no:∀(i:Nat) (x:Nq),L[i]?=some x→x.no=i
 words:∀x∈L,x.frm<x.tqo∧x.no<x.fin
theorem B1.of {nr nl:Nat}(g:fj){t:jZ}(h:BL nr nl t):B1 (Sz g t 0 (-1) 0):=by
 obtain⟨h1,a⟩:=OH g t 0 (-1) 0 h;exact⟨h1,λi x hx=>by have:=OG g t 0 (-1) 0 i x hx;omega,λx hx=>by obtain⟨b,a2,a3,a4,a5,c⟩:=a x hx;exact⟨a5,a2⟩⟩
theorem getD_some {L:List Nq}{i:Nat}(h:i<L.length):L[i]?=some (L.getD i XK):=by
 rw[aw,bU h];rfl
theorem B1.lt {L:List Nq}(h:B1 L){i j:Nat}(b:i<j)(c:j<L.length):IM (L.getD i XK) (L.getD j XK)∧(L.getD i XK).no=i∧(L.getD j XK).no=j:=by
 have h1:=getD_some (show i<L.length by omega)
 have a:=getD_some c
 refine⟨?_,h.no _ _ h1,h.no _ _ a⟩
 have:=List.pairwise_iff_getElem.1 h.ahead i j (by omega) c b
 rw[bU (show i<L.length by omega)]at h1;rw[bU c]at a
 injection h1 with h1;injection a with a
 rw[←h1,←a];exact this
theorem B1.one {L:List Nq}(h:B1 L){i:Nat}(a:i<L.length):(L.getD i XK).frm<(L.getD i XK).tqo:=(h.words _ (aZ (getD_some a))).1
end Go.Proofs.YtblifkgpebebmaaGreatDoor
namespace Go.Proofs.YtblifkgpebebmaaGreatDoor
open Go Go.J Tryz
instance:gw prog 115 0 0:=⟨by kernel_rfl⟩
theorem Vu:aI prog 67:=⟨_,func67,rfl,by kernel_rfl⟩
theorem Co:bh prog 115 2=some 2:=by kernel_rfl
instance:type_of%(gw.mk Co):=⟨Co⟩
instance:gw prog 115 1 1:=⟨by kernel_rfl⟩
theorem Vs:aI prog 49:=⟨_,func49,rfl,by kernel_rfl⟩
instance:gw prog 115 3 3:=⟨by kernel_rfl⟩
theorem Zr:aI prog 82:=⟨_,func82,rfl,by kernel_rfl⟩
theorem xY:bh prog 110 2=some 2:=by kernel_rfl
instance:type_of%(gw.mk xY):=⟨xY⟩
theorem xZ:bh prog 110 3=some 3:=by kernel_rfl
instance:type_of%(gw.mk xZ):=⟨xZ⟩
instance:gw prog 110 1 1:=⟨by kernel_rfl⟩
theorem ahO:aI prog 81:=⟨_,func81,rfl,by kernel_rfl⟩
instance:gw prog 110 4 4:=⟨by kernel_rfl⟩
theorem ahC:aI prog 43:=⟨_,func43,rfl,by kernel_rfl⟩
theorem Gj:aI prog 44:=⟨_,func44,rfl,by kernel_rfl⟩
instance:gw prog 110 0 0:=⟨by kernel_rfl⟩
theorem ahD:aI prog 47:=⟨_,func47,rfl,by kernel_rfl⟩
theorem ahE:aI prog 48:=⟨_,func48,rfl,by kernel_rfl⟩
end Go.Proofs.YtblifkgpebebmaaGreatDoor
namespace Go.J
open Go
abbrev ints (l:List Nat):List Int:=l.map (λi:Nat=>(i:Int))
section
variable {P:Program}{n:Nat}{F:Fr}{A:World→Prop}{x y:Operand}{ty:TypeId}
end
end Go.J
namespace Go.J
open Go Go.Proofs Go.Proofs.YtblifkgpebebmaaGreatDoor
section
variable {P:Program}{n:Nat}{F:Fr}{A:World→Prop}{c:Ctx}{H R:List ak}{ty:TypeId}{x y:Operand}{v:Value}{Q:Exit→Act→World→Prop}{ops:Array Oper}{rest:List Oper}{d size:Nat}
 {pos:String} {after:Array Edge} {t e:TypeId} {m k:Nat} {cs:List Value}
theorem Ev.jb {off o i b o' cap:Nat}{s:TypeId}(c:v= .slice (some ⟨b,o',none⟩) m cap)(hx:ah F x (cZ v size k off))(d:bh P s i=some o):Ev P n F A (.fieldAddr s x i) ty (cZ v size k (off+o)):= .of_run λa w e _=>by
 subst c;rw[eG]at hx
 simp[execOp,hx.eval e,nQ d,eG,Addr.add_lit,Nat.add_assoc]
end
section
variable {n:Nat}{F:Fr}{c:Ctx}{R:List ak}{T:Act→World→Prop}
theorem St.afN {a b d e f g h i:ak}(k:St n F (Mm c (a::b::d::e::f::g::h::i::R)) T):St n F (Mm c ([a,b,d,e,f,g,h,i]++R)) T:=k
end
end Go.J
namespace Go.Proofs.YtblifkgpebebmaaGreatDoor
open Go Go.J Tryz
theorem take_set {A:List Int}{p:List Nat}{i:Nat}(h:A.take p.length=ints p)(a:p.length<A.length):(A.set p.length (i:Int)).take (p.length+1)=ints (p++ [i]):=by
 have b:(A.set p.length (i:Int))[p.length]?=some (i:Int):=by rw[fT a]
 rw[ag b,List.take_set,h,ints,ints,cP,List.set_eq_of_length_le (by rw[aO];exact aR _)];rfl
end Go.Proofs.YtblifkgpebebmaaGreatDoor
namespace Go.Proofs
open Go.Shelf Go.RowKit Go.Lib
variable {P:Program}{ρ:Ren}
theorem N2 {r:Int}(h:128≤r):∃(n:Nat) (x:UInt8),(Utf8.encode r).size=n∧2≤n∧n≤4∧(Utf8.encode r).data.toList[n-1]?=some x∧128≤x.toNat:=by
 have key:∀c:Nat,128≤c→c<1114112→∃(n:Nat) (x:UInt8),(if c<0x80 then(⟨#[UInt8.ofNat c]⟩:ByteArray)else if c<0x800 then⟨#[UInt8.ofNat (0xC0+c/64),UInt8.ofNat (0x80+c%64)]⟩
  else if c<0x10000 then⟨#[UInt8.ofNat (0xE0+c/4096),UInt8.ofNat (0x80+c/64%64),UInt8.ofNat (0x80+c%64)]⟩
  else⟨#[UInt8.ofNat (0xF0+c/262144),UInt8.ofNat (0x80+c/4096%64),UInt8.ofNat (0x80+c/64%64),UInt8.ofNat (0x80+c%64)]⟩).size=n∧2≤n∧n≤4∧
  (if c<0x80 then(⟨#[UInt8.ofNat c]⟩:ByteArray)else if c<0x800 then⟨#[UInt8.ofNat (0xC0+c/64),UInt8.ofNat (0x80+c%64)]⟩
  else if c<0x10000 then⟨#[UInt8.ofNat (0xE0+c/4096),UInt8.ofNat (0x80+c/64%64),UInt8.ofNat (0x80+c%64)]⟩
  else⟨#[UInt8.ofNat (0xF0+c/262144),UInt8.ofNat (0x80+c/4096%64),UInt8.ofNat (0x80+c/64%64),UInt8.ofNat (0x80+c%64)]⟩).data.toList[n-1]?=some x∧128≤x.toNat:=by
  intro c h1 d
  have hx:128≤(UInt8.ofNat (0x80+c%64)).toNat:=by simp[UInt8.toNat_ofNat'];omega
  rw[aA (by omega)]
  by_cases k:c<0x800
  ·rw[aC k];exact⟨2,_,rfl,by omega,by omega,rfl,hx⟩
  ·rw[aA k]
   by_cases b:c<0x10000
   ·rw[aC b];exact⟨3,_,rfl,by omega,by omega,rfl,hx⟩
   ·rw[aA b];exact⟨4,_,rfl,by omega,by omega,rfl,hx⟩
 unfold Utf8.encode
 by_cases a:Utf8.valid r=true
 ·simp only[a,if_true]
  refine key r.toNat (by omega) ?_
  simp[Utf8.valid]at a
  omega
 ·simp only[a]
  exact key Utf8.runeError (by decide) (by decide)
theorem vc {w:World}{s d:TypeId}{k:IntKind}{r:Int}(a:P.underlying s=some (.int k))(hd:P.underlying d=some .string):(convert s d (.int k r)).run P w= .ok (.string (Utf8.encode r)) w:=by
 simp[convert,run_underlying a,run_underlying hd,Conv.intToString]
theorem D0 {w:World}{t:TypeId}{s:ByteArray}{i:Int}{k:Nat}{b:UInt8}(ht:P.underlying t=some .string)(c:i=k)(a:s.data.toList[k]?=some b):(Instr.index t (.string s) (.int .i64 i)).run P w= .ok (.int .u8 (b.toNat:Int)) w:=by
 subst c
 have d:k<s.size:=by have:=(fA.1 a).1;rwa[←Lib.size_eq]at this
 have h1:s[k]?=some b:=by
  rw[ByteArray.getElem?_lt' _ _ d]
  have:=(fA.1 a).2
  simpa[ByteArray.getElem_eq_getElem_data]using this
 simp[Instr.index,asIntOf,run_underlying ht,h1]
theorem Ab {l:List UInt8}{c:UInt8}(h:∀x∈l,x≠c):Lib.indexByte l c<0:=by
 have h1:=Lib.contains_iff_indexByte l c
 have a:l.contains c=false:=by
  rw[Bool.eq_false_iff];intro b;exact h c (List.contains_iff_mem.1 b) rfl
 rw[a]at h1
 have:=iX h1.symm
 omega
set_option maxRecDepth 1000000 in
theorem Any.yq (L:Lays.n152 P ρ)(s:ByteArray)(r:Int)(w:World)(h0:128≤r)(h1:r≠65533)(hv:Lib.validRune r=true)(hs:∀(j:Nat) b,s.data.toList[j]?=some b→b.toNat<128)(SK:s.size≤100):
 Calls P (ρ.f 152) #[.string s,.int .i32 r] w λe w'=>e= .returned (.int .i64 (-1))∧∃k,w'=w.drewN k:=by
 have t3:=L.t3;have a3:=L.a3;have z3:=L.z3;have v3:=L.v3
 have t4:=L.t4;have a4:=L.a4;have z4:=L.z4;have v4:=L.v4
 have t5:=L.t5;have a5:=L.a5;have z5:=L.z5;have v5:=L.v5
 have t9:=L.t9;have a9:=L.a9;have z9:=L.z9;have v9:=L.v9
 have t21:=L.t21;have a21:=L.a21;have z21:=L.z21;have v21:=L.v21
 have ah1:∀args w,(callFunc (ρ.f 137) args).run P w= .ok (.enter (ρ.f 137) args) w:=enters_of L.f137 (by kernel_rfl) rfl
 have ah0:∀args w,(callFunc (ρ.f 119) args).run P w= .ok (.enter (ρ.f 119) args) w:=enters_of L.f119 (by kernel_rfl) rfl
 have mixed:=L.mixed
 have d1:decide ((0:Int)≤r)=true:=eB (by omega)
 have d2:decide (r<128)=false:=fI (by omega)
 have d3:(r==(65533:Int))=false:=sj.2 h1
 obtain⟨n,x,hn,hn2,hn4,hx,Uj⟩:=N2 h0
 have hc:=λ(w:World)=>vc (P:=P) (w:=w) (r:=r) t21 t9
 generalize Utf8.encode r=rs at hn hx hc
 subst hn
 go_enter L.f152,Body.n152_ntmps ρ
 go_wp2_with (go_at_fn (ρ.f 119);refine(Any.utf8_ValidRune {L with} _ _).mono ?_;rintro e w' ⟨rfl,hw⟩;rw[hw,hv])
 subst hw;refine wp_scope_straight ?_
 go_wp2
 by_cases hl:rs.size-1<s.size
 ·have hi0:(0:Int)≤(rs.size:Int)-1:=by omega
  have hi1:(rs.size:Int)-1<(s.size:Int):=by omega
  obtain⟨y,hy⟩:∃y:UInt8,s.data.toList[rs.size-1]?=some y:=⟨_,bU (by rw[←Lib.size_eq];exact hl)⟩
  have amT:=hs _ _ hy
  refine wp_loop_rounds 1 ?_;rw[rounds_succ]
  go_wp2
  refine wp_scope_straight ?_
  have kx:∀w,(Instr.index (ρ.t 9) (.string rs) (.int .i64 ((rs.size:Int)-1))).run P w= .ok (.int .u8 (x.toNat:Int)) w:=λw=>D0 t9 (by omega) hx
  have ky:∀w,(Instr.index (ρ.t 9) (.string s) (.int .i64 ((rs.size:Int)-1))).run P w= .ok (.int .u8 (y.toNat:Int)) w:=λw=>D0 t9 (by omega) hy
  have hne:((y.toNat:Int)==(x.toNat:Int))=false:=sj.2 (by omega)
  go_wp2
  go_region_o
  have ah1:∀args w,(callFunc (ρ.f 137) args).run P w= .ok (.enter (ρ.f 137) args) w:=enters_of L.f137 (by kernel_rfl) rfl
  have hw1:IntKind.i64.wrap (rs.size:Int)=(rs.size:Int):=by
   simp only[IntKind.wrap,IntKind.bits,IntKind.signed]
   simp
   omega
  have s1:(0:Int)≤(rs.size:Int)-1+1:=by omega
  have s2:(rs.size:Int)-1+1≤(s.size:Int):=by omega
  have s3:(0:Int)≤(rs.size:Int):=by omega
  have s4:(rs.size:Int)≤(s.size:Int):=by omega
  obtain⟨z,hz⟩:∃z,Lib.indexByte (s.extract rs.size s.size).data.toList ((x.toNat:Int).toNat.toUInt8)=z:=⟨_,rfl⟩
  have hz0:z<0:=by
   rw[←hz]
   refine Ab λb hb=> ?_
   have Dg:b∈s.data.toList:=by
    have:(s.extract rs.size s.size).data.toList=(s.data.toList.drop rs.size).take (s.size-rs.size):=by simp
    rw[this]at hb;exact GB (C5 hb)
   obtain⟨k,hk⟩:=Bz Dg
   have h5:=hs k b hk
   intro e
   have h6:((x.toNat:Int)).toNat.toUInt8=x:=by simp
   rw[h6]at e;rw[e]at h5;omega
  go_wp2
  go_region_with_o (
   go_at_fn (ρ.f 137)
   refine(Any.strings_IndexByte {L with} _ _ _).mono ?_;rintro e w' ⟨rfl,hw⟩
   rw[hw,hz])
  go_wp2
  simp only[Exit.noGoto,Exit.inBlock,Exit.then]
  go_ret
  exact⟨rfl,2,rfl⟩
 ·have hi1:decide ((rs.size:Int)-1<(s.size:Int))=false:=fI (by omega)
  refine wp_loop_rounds 1 ?_;rw[rounds_succ]
  go_wp2
  show Exit.inBlock 0 _ Exit.ret _ _
  go_ret
  exact⟨rfl,0,rfl⟩
set_option maxRecDepth 1000000 in
theorem Any.Ac (L:Lays.n152 P ρ)(s:ByteArray)(r:Int)(w:World)(h0:128≤r)(h1:r≠65533)(hv:Lib.validRune r=false):
 Calls P (ρ.f 152) #[.string s,.int .i32 r] w λe w'=>e= .returned (.int .i64 (-1))∧∃k,w'=w.drewN k:=by
 have t3:=L.t3;have a3:=L.a3;have z3:=L.z3;have v3:=L.v3
 have t4:=L.t4;have a4:=L.a4;have z4:=L.z4;have v4:=L.v4
 have t5:=L.t5;have a5:=L.a5;have z5:=L.z5;have v5:=L.v5
 have t9:=L.t9;have a9:=L.a9;have z9:=L.z9;have v9:=L.v9
 have t21:=L.t21;have a21:=L.a21;have z21:=L.z21;have v21:=L.v21
 have ah0:∀args w,(callFunc (ρ.f 119) args).run P w= .ok (.enter (ρ.f 119) args) w:=enters_of L.f119 (by kernel_rfl) rfl
 have d1:decide ((0:Int)≤r)=true:=eB (by omega)
 have d2:decide (r<128)=false:=fI (by omega)
 have d3:(r==(65533:Int))=false:=sj.2 h1
 go_enter L.f152,Body.n152_ntmps ρ
 go_wp2_with (go_at_fn (ρ.f 119);refine(Any.utf8_ValidRune {L with} _ _).mono ?_;rintro e w' ⟨rfl,hw⟩;rw[hw,hv])
 subst hw
 go_ret
 exact⟨rfl,0,rfl⟩
set_option maxRecDepth 1000000 in
theorem Any.xF (L:Lays.n152 P ρ)(s:ByteArray)(w:World)(hs:∀(j:Nat) b,s.data.toList[j]?=some b→b.toNat<128):
 Calls P (ρ.f 152) #[.string s,.int .i32 65533] w λe w'=>e= .returned (.int .i64 (-1))∧∃pos,w'=w.iter s pos:=by
 have HA:Aside (∀(j:Nat) b,s.data.toList[j]?=some b→b.toNat<128):=hs
 clear hs
 have t3:=L.t3;have a3:=L.a3;have z3:=L.z3;have v3:=L.v3
 have t4:=L.t4;have a4:=L.a4;have z4:=L.z4;have v4:=L.v4
 have t5:=L.t5;have a5:=L.a5;have z5:=L.z5;have v5:=L.v5
 have t9:=L.t9;have a9:=L.a9;have z9:=L.z9;have v9:=L.v9
 have t21:=L.t21;have a21:=L.a21;have z21:=L.z21;have v21:=L.v21
 go_enter L.f152,Body.n152_ntmps ρ
 go_wp2
 go_loopg [5,6] s.size (λg _ _ wx=>∃i:Nat,i+g=s.size∧wx=w.iter s i)
 case atStart=>exact⟨0,by omega,rfl⟩
 case round=>
  obtain⟨i,hig,rfl⟩:=hrel
  cases gk with
  |zero=>
   obtain rfl:i=s.size:=by omega
   have WY:=run_next_end (P:=P) w s s.size
   go_wp2
   go_ret
   exact⟨rfl,_,rfl⟩
  |succ g=>
   have hi:i<s.size:=by omega
   obtain⟨x,hx⟩:∃x:UInt8,s[i]'hi=x:=⟨_,rfl⟩
   have Uk:s.data.toList[i]?=some x:=by rw[←hx];exact Lib.data_getElem? s i hi
   have Uj:x.toNat<128:=HA.out i x Uk
   have WY:=λty=>run_next_ascii (P:=P) w s i ty hi (by rw[hx];exact Uj)
   rw[hx]at WY
   have hne:((x.toNat:Int)==(65533:Int))=false:=sj.2 (by omega)
   go_wp2
   go_roundg g
   case measure=>omega
   case rel=>exact⟨i+1,by omega,rfl⟩
theorem Any.vG (L:Lays.n152 P ρ)(s:ByteArray)(r:Int)(w:World)(a:128≤r)(c:∀(j:Nat) b,s.data.toList[j]?=some b→b.toNat<128)(g:s.size≤100):
 Calls P (ρ.f 152) #[.string s,.int .i32 r] w λe w'=>e= .returned (.int .i64 (-1))∧Below w.heap.size w w':=by
 by_cases h1:r=65533
 ·subst h1
  refine(Any.xF L s w c).mono ?_;rintro e w' ⟨rfl,pos,rfl⟩;exact⟨rfl,(Below.refl _ w).alloc (aR _) _⟩
 ·cases d:Lib.validRune r with
  |true=>
   refine(Any.yq L s r w a h1 d c g).mono ?_;rintro e w' ⟨rfl,k,rfl⟩;exact⟨rfl,rfl,rfl,rfl,aR _,λ_ _=>rfl⟩
  |false=>
   refine(Any.Ac L s r w a h1 d).mono ?_;rintro e w' ⟨rfl,k,rfl⟩;exact⟨rfl,rfl,rfl,rfl,aR _,λ_ _=>rfl⟩
theorem EW {w:World}{k:Nat}{s:ByteArray}{p:Nat}{o:Obj}(h:w.heap[k]?=some o):(w.iterAt k s p).heap[k]?=some (.stringIter s p):=by
 have hk:=(wC.1 h).1
 show(w.heap.setIfInBounds k _)[k]?=_
 simp[hk]
theorem iterAt_size {w:World}{k:Nat}{s:ByteArray}{p:Nat}:(w.iterAt k s p).heap.size=w.heap.size:=by
 show(w.heap.setIfInBounds k _).size=_
 simp
theorem D3 {w wx:World}{k:Nat}{s:ByteArray}{p:Nat}(h:Below k w wx):Below k w (wx.iterAt k s p):=
 ⟨h.os,h.tape,h.output,by rw[iterAt_size];exact h.size,λj a=>by
  show(wx.heap.setIfInBounds k _)[j]?=_
  rw[Array.getElem?_setIfInBounds_ne (by omega)]
  exact h.block j a⟩
theorem HX {s chars:List UInt8}{i n:Nat}(h:NoAny s chars i)(c:∀(j:Nat) b,chars[j]?=some b→b.toNat<128)(d:∀j,j<n→128≤J.bt s (i+j)):NoAny s chars (i+n):=by
 intro j b l a
 by_cases k:j<i
 ·exact h j b k a
 ·have h1:=d (j-i) (by omega)
  rw[show i+(j-i)=j by omega]at h1
  have e:J.bt s j=b.toNat:=by unfold J.bt;rw[aw,a];rfl
  rw[e]at h1;rw[Bool.eq_false_iff];intro f;obtain⟨q,g⟩:=Bz (List.contains_iff_mem.1 f)
  have:=c q b g
  omega
theorem MO {B:Nat}{w a b:World}(h:Below B w a)(d:B≤a.heap.size)(k:Below a.heap.size a b):Below B w b:=
 ⟨k.os.trans h.os,k.tape.trans h.tape,k.output.trans h.output,dW h.size k.size,λj c=>(k.block j (by omega)).trans (h.block j c)⟩
end Go.Proofs
namespace Go.Proofs
open Go.Shelf Go.RowKit Go.Lib
variable {P:Program}{ρ:Ren}
set_option maxRecDepth 1000000 in
theorem Any.sS (L:Lays.n153 P ρ)(s chars:ByteArray)(w:World)(h2:2≤chars.size)(NN:chars.size≤100)(h8:s.size≤8)(NM:∀(j:Nat) b,chars.data.toList[j]?=some b→b.toNat<128):
 Calls P (ρ.f 153) #[.string s,.string chars] w λe w'=>e= .returned (.int .i64 (Lib.indexAny s.data.toList chars.data.toList))∧Below w.heap.size w w':=by
 have HA:Aside (∀(j:Nat) b,chars.data.toList[j]?=some b→b.toNat<128):=NM
 clear NM
 have anB:chars.toList.isEmpty=false:=by
  rw[Lib.toList_data]
  cases h:chars.data.toList with
  |nil=>have:=Lib.size_eq chars;rw[h,List.length_nil]at this;omega
  |cons _ _=>rfl
 have hn1:((chars.size:Int)==1)=false:=sj.2 (by omega)
 have h8z:decide ((8:Int)<(s.size:Int))=false:=fI (by omega)
 have t3:=L.t3;have a3:=L.a3;have z3:=L.z3;have v3:=L.v3
 have t4:=L.t4;have a4:=L.a4;have z4:=L.z4;have v4:=L.v4
 have t5:=L.t5;have a5:=L.a5;have z5:=L.z5;have v5:=L.v5
 have t9:=L.t9;have a9:=L.a9;have z9:=L.z9;have v9:=L.v9
 have t21:=L.t21;have a21:=L.a21;have z21:=L.z21;have v21:=L.v21
 have am2:∀args w,(callFunc (ρ.f 152) args).run P w= .ok (.enter (ρ.f 152) args) w:=enters_of L.f152 (by kernel_rfl) rfl
 have am4:∀args w,(callFunc (ρ.f 226) args).run P w= .ok (.enter (ρ.f 226) args) w:=enters_of L.f226 (by kernel_rfl) rfl
 go_enter L.f153,Body.n153_ntmps ρ
 go_wp2_with (go_at_fn (ρ.f 226);refine(Any.strings_shouldUseASCIISet {L with} _ _).mono ?_;rintro e w' ⟨rfl,hw⟩;rw[hw,h8z])
 go_loopg [9,10] s.size (λg _ _ wx=>∃i:Nat,i+g=s.size∧wx.heap[w.heap.size]?=some (.stringIter s i)∧Below w.heap.size w wx∧Lib.NoAny s.data.toList chars.data.toList i)
 case atStart=>exact⟨0,by omega,World.iter_heap w s 0,(Below.refl _ w).alloc (aR _) _,Lib.NoAny.zero _ _⟩
 case round=>
  obtain⟨i,hig,hk,abQ,WX⟩:=hrel
  have HN:Aside (Lib.NoAny s.data.toList chars.data.toList i):=WX
  clear WX
  have HB:Aside (Below w.heap.size w wr):=abQ
  clear abQ
  cases gk with
  |zero=>
   obtain rfl:i=s.size:=by omega
   have WY:=λty=>run_next_end_at (P:=P) wr w.heap.size s s.size ty hk (by omega)
   go_wp2
   go_ret
   exact⟨by rw[Lib.indexAny_none (by rw[←Lib.size_eq];exact HN.out)];rfl,HB.out⟩
  |succ g=>
   have hi:i<s.size:=by omega
   have SC:i<s.data.toList.length:=by rw[←Lib.size_eq];exact hi
   have WY:=λty=>run_next_any_at (P:=P) wr w.heap.size s i ty hk hi
   obtain⟨b1,b2,b3⟩:=J.qq SC
   have abW:=decodeL_drop s i
   have SK:=Lib.size_eq s
   rw[abW]at b1 b2 b3
   obtain⟨r,wd,hd⟩:∃r wd,Utf8.decode s i=(r,wd):=⟨_,_,rfl⟩
   rw[hd]at WY b1 b2 b3
   simp only at WY b1 b2 b3
   obtain⟨w2,hw2⟩:∃w2,wr.iterAt w.heap.size s (i+wd)=w2:=⟨_,rfl⟩
   have hk2:w2.heap[w.heap.size]?=some (.stringIter s (i+wd)):=hw2▸EW hk
   have Dg:Below w.heap.size w w2:=hw2▸D3 HB.out
   rw[hw2]at WY
   clear hw2 abW hd
   have HK2:Aside (w2.heap[w.heap.size]?=some (.stringIter s (i+wd))):=hk2
   have HB2:Aside (Below w.heap.size w w2):=Dg
   clear hk2 Dg
   rcases b3 with⟨c1,c2⟩|⟨c1,c2⟩
   ·obtain⟨x,Uk⟩:∃x,s.data.toList[i]?=some x:=⟨_,bU SC⟩
    have hbx:J.bt s.data.toList i=x.toNat:=by unfold J.bt;rw[aw,Uk];rfl
    rw[hbx]at c1 c2;obtain⟨rfl,rfl⟩:=Prod.mk.inj c2
    have Hx:Aside (s.data.toList[i]?=some x):=Uk
    clear Uk hbx c2
    have Kj:=Lib.contains_iff_indexByte chars.data.toList x
    have Uc:((x.toNat:Int)).toNat.toUInt8=x:=by simp
    cases SD:chars.data.toList.contains x
    ·rw[SD]at Kj
     have YJ:¬((0:Int)≤Lib.indexByte chars.data.toList x):=iX Kj.symm
     clear Kj
     go_wp2_with (go_at_fn (ρ.f 152);refine(Any.strings_IndexRune_ascii {L with} _ _ _ (by omega) (by omega)).mono ?_;rintro e w' ⟨rfl,rfl⟩;rw[Uc];dsimp only)
     go_wp2
     go_roundg g
     case measure=>omega
     case rel=>exact⟨i+1,by omega,HK2.out,HB2.out,HN.out.succ Hx.out SD⟩
    ·rw[SD]at Kj
     have hge:(0:Int)≤Lib.indexByte chars.data.toList x:=fJ Kj.symm
     clear Kj
     go_wp2_with (go_at_fn (ρ.f 152);refine(Any.strings_IndexRune_ascii {L with} _ _ _ (by omega) (by omega)).mono ?_;rintro e w' ⟨rfl,rfl⟩;rw[Uc];dsimp only)
     go_wp2
     go_ret
     exact⟨by rw[Lib.indexAny_hit HN.out Hx.out SD];rfl,HB2.out⟩
   ·have HC:Aside (∀j,j<wd→128≤J.bt s.data.toList (i+j)):=c2
    clear c2
    go_wp2_with (go_at_fn (ρ.f 152);refine(Any.vG {L with} _ _ _ (by omega) HA.out NN).mono ?_;rintro e w3 ⟨rfl,hb3⟩;dsimp only)
    go_wp2
    go_roundg (s.size-(i+wd))
    case measure=>omega
    case rel=>exact⟨i+wd,by omega,by rw[hb3.block _ (wC.1 HK2.out).1];exact HK2.out,MO HB2.out HB2.out.size hb3,HX HN.out HA.out HC.out⟩
theorem Any.D2 (L:Lays.n153 P ρ)(a:(P.info? (ρ.t 116)).map (λi=>(i.zero,i.size))=some (some (.agg (Array.replicate 256 (.bool false))),256))(s chars:ByteArray)(w:World)(d:2≤chars.size)(g:chars.size≤100)(h:s.size<4294967281)
 (c:∀(j:Nat) b,chars.data.toList[j]?=some b→b.toNat<128):
 Calls P (ρ.f 153) #[.string s,.string chars] w λe w'=>e= .returned (.int .i64 (Lib.indexAny s.data.toList chars.data.toList))∧Below w.heap.size w w':=by
 by_cases k:s.size≤8
 ·exact Any.sS L s chars w d g k c
 ·refine(Any.strings_IndexAny_long L (zero_of_info a).1 (zero_of_info a).2 s chars w (by omega) (by omega) h (by omega) c).mono ?_
  rintro e w' ⟨l,m⟩;refine⟨l,?_⟩;rw[m];exact((Below.refl _ _).alloc (aR _) _).alloc (by simp) _
theorem Any.xD (L:Lays.n150 P ρ)(Rz:(P.info? (ρ.t 116)).map (λi=>(i.zero,i.size))=some (some (.agg (Array.replicate 256 (.bool false))),256))(s chars:ByteArray)(w:World)(h2:2≤chars.size)(NN:chars.size≤100)(hs:s.size<4294967281)
 (hac:∀(j:Nat) b,chars.data.toList[j]?=some b→b.toNat<128):
 Calls P (ρ.f 150) #[.string s,.string chars] w λe w'=>e= .returned (.bool (Lib.containsAny s.data.toList chars.data.toList))∧Below w.heap.size w w':=by
 have c:=Any.D2 {L with} Rz s chars w h2 NN hs hac
 have t3:=L.t3;have a3:=L.a3;have z3:=L.z3;have v3:=L.v3
 have t4:=L.t4;have a4:=L.a4;have z4:=L.z4;have v4:=L.v4
 have t9:=L.t9;have a9:=L.a9;have z9:=L.z9;have v9:=L.v9
 have am3:∀args w,(callFunc (ρ.f 153) args).run P w= .ok (.enter (ρ.f 153) args) w:=enters_of L.f153 (by kernel_rfl) rfl
 go_enter L.f150,Body.n150_ntmps ρ
 go_wp2_with (go_at_fn (ρ.f 153);refine c.mono ?_;rintro e w' ⟨rfl,hw⟩)
 go_ret
 exact⟨rfl,hw⟩
theorem uw (s:List UInt8):Lib.containsAny s J.xK=s.any J.iz:=by
 rw[A8];unfold Lib.containsAny;rw[decide_eq_true_iff,pY]
 constructor
 ·have g:∀l:List UInt8,0≤Lib.indexAny l J.xK→∃b,b∈l∧J.iz b=true:=by
   intro l
   induction l with
   |nil=>intro h;exact absurd h (by decide)
   |cons c l i=>
    intro h;unfold Lib.indexAny at h
    have j:=Lib.indexAny_ge J.xK l
    split at h
    ·rename_i d
     exact⟨c,aQ ..,by unfold J.iz;exact d⟩
    ·split at h
     ·omega
     ·rename_i he
      have k:Lib.indexAny l J.xK≠ -1:=λe=>he (by rw[e];rfl)
      obtain⟨b,a,f⟩:=i (by omega);exact⟨b,cO _ a,f⟩
  exact g s
 ·rintro ⟨b,a,f⟩
  rcases Int.lt_or_le (Lib.indexAny s J.xK) 0 with h|h
  ·exfalso
   have key:∀l:List UInt8,Lib.indexAny l J.xK<0→∀b∈l,J.iz b=false:=by
    intro l
    induction l with
    |nil=>intro _ b a;cases a
    |cons c l i=>
     intro h b a;unfold Lib.indexAny at h
     have j:=Lib.indexAny_ge J.xK l
     split at h
     ·omega
     ·rename_i d
      rcases cK.1 a with rfl|a
      ·unfold J.iz;simpa using d
      ·refine i ?_ b a
       split at h
       ·rename_i he;rw[beq_iff_eq]at he;omega
       ·rename_i he;omega
   rw[key s h b a]at f;cases f
  ·exact h
end Go.Proofs
namespace Go.Proofs
open Go.Shelf
def Tryz.EZ:Go.Shelf.Ren:=⟨λ|195=>102|n=>n,λ|0=>0|3=>3|4=>4|9=>9|n=>n,λ|n=>n⟩
theorem Tryz.Sf:Go.Proofs.Lays.n195 Tryz.prog Tryz.EZ:={
 mixed:=by kernel_rfl
 f195:=Tryz.func102.trans (congrArg some (by kernel_rfl))
 t0:=YX
 a0:=Tryz.isAgg0
 z0:=Tryz.sizeOf0
 v0:=Tryz.zeroValue0
 t3:=gD
 a3:=Tryz.isAgg3
 z3:=Tryz.sizeOf3
 v3:=Tryz.zeroValue3
 t4:=ID
 a4:=Tryz.isAgg4
 z4:=Tryz.sizeOf4
 v4:=Tryz.zeroValue4
 t9:=vt
 a9:=Tryz.isAgg9
 z9:=Tryz.sizeOf9
 v9:=Tryz.zeroValue9}
def Tryz.qM:Go.Shelf.Ren:=⟨λ|196=>103|259=>134|n=>n,λ|0=>0|3=>3|4=>4|5=>5|9=>9|12=>12|46=>218|53=>157|119=>217|138=>220|139=>221|n=>n,λ|3=>0|4=>1|n=>n⟩
theorem Tryz.Sg:Go.Proofs.Lays.n196 Tryz.prog Tryz.qM:={
 mixed:=by kernel_rfl
 f196:=Tryz.func103.trans (congrArg some (by kernel_rfl))
 f259:=Tryz.func134.trans (congrArg some (by kernel_rfl))
 t0:=YX
 a0:=Tryz.isAgg0
 z0:=Tryz.sizeOf0
 v0:=Tryz.zeroValue0
 t3:=gD
 a3:=Tryz.isAgg3
 z3:=Tryz.sizeOf3
 v3:=Tryz.zeroValue3
 t4:=ID
 a4:=Tryz.isAgg4
 z4:=Tryz.sizeOf4
 v4:=Tryz.zeroValue4
 t5:=GI
 a5:=Tryz.isAgg5
 z5:=Tryz.sizeOf5
 v5:=Tryz.zeroValue5
 t9:=vt
 a9:=Tryz.isAgg9
 z9:=Tryz.sizeOf9
 v9:=Tryz.zeroValue9
 t12:=Tryz.underlying12
 a12:=Tryz.isAgg12
 z12:=Tryz.sizeOf12
 v12:=Tryz.zeroValue12
 t46:=Bo
 a46:=Tryz.isAgg218
 z46:=Tryz.sizeOf218
 v46:=Tryz.zeroValue218
 t53:=lf
 a53:=Tryz.isAgg157
 z53:=Tryz.sizeOf157
 v53:=Tryz.zeroValue157
 t119:=Tryz.underlying217
 a119:=Tryz.isAgg217
 z119:=Tryz.sizeOf217
 t138:=Tryz.underlying220
 a138:=Tryz.isAgg220
 z138:=Tryz.sizeOf220
 v138:=Tryz.zeroValue220
 t139:=Tryz.underlying221
 a139:=Tryz.isAgg221
 z139:=Tryz.sizeOf221
 v139:=Tryz.zeroValue221
 g3:=by kernel_rfl
 g4:=by kernel_rfl}
def Tryz.wP:Go.Shelf.Ren:=⟨λ|119=>176|137=>175|150=>104|152=>152|153=>135|217=>184|224=>177|225=>178|226=>153|227=>154|228=>155|266=>186|n=>n,λ|0=>0|3=>3|4=>4|5=>5|9=>9|21=>21|46=>218|116=>275|117=>276|124=>297|n=>n,λ|n=>n⟩
theorem Tryz.Se:Go.Proofs.Lays.n150 Tryz.prog Tryz.wP:={
 mixed:=by kernel_rfl
 f119:=Tryz.func176.trans (congrArg some (by kernel_rfl))
 f137:=Tryz.func175.trans (congrArg some (by kernel_rfl))
 f150:=Tryz.func104.trans (congrArg some (by kernel_rfl))
 f152:=Tryz.func152.trans (congrArg some (by kernel_rfl))
 f153:=Tryz.func135.trans (congrArg some (by kernel_rfl))
 f217:=Tryz.func184.trans (congrArg some (by kernel_rfl))
 f224:=Tryz.func177.trans (congrArg some (by kernel_rfl))
 f225:=Tryz.func178.trans (congrArg some (by kernel_rfl))
 f226:=Tryz.func153.trans (congrArg some (by kernel_rfl))
 f227:=Tryz.func154.trans (congrArg some (by kernel_rfl))
 f228:=Tryz.func155.trans (congrArg some (by kernel_rfl))
 f266:=Tryz.func186.trans (congrArg some (by kernel_rfl))
 t0:=YX
 a0:=Tryz.isAgg0
 z0:=Tryz.sizeOf0
 v0:=Tryz.zeroValue0
 t3:=gD
 a3:=Tryz.isAgg3
 z3:=Tryz.sizeOf3
 v3:=Tryz.zeroValue3
 t4:=ID
 a4:=Tryz.isAgg4
 z4:=Tryz.sizeOf4
 v4:=Tryz.zeroValue4
 t5:=GI
 a5:=Tryz.isAgg5
 z5:=Tryz.sizeOf5
 v5:=Tryz.zeroValue5
 t9:=vt
 a9:=Tryz.isAgg9
 z9:=Tryz.sizeOf9
 v9:=Tryz.zeroValue9
 t21:=Tryz.underlying21
 a21:=Tryz.isAgg21
 z21:=Tryz.sizeOf21
 v21:=Tryz.zeroValue21
 t46:=Bo
 a46:=Tryz.isAgg218
 z46:=Tryz.sizeOf218
 v46:=Tryz.zeroValue218
 t116:=Tryz.underlying275
 a116:=Tryz.isAgg275
 z116:=Tryz.sizeOf275
 t117:=Tryz.underlying276
 a117:=Tryz.isAgg276
 z117:=Tryz.sizeOf276
 v117:=Tryz.zeroValue276
 t124:=Tryz.underlying297
 a124:=Tryz.isAgg297
 z124:=Tryz.sizeOf297
 v124:=Tryz.zeroValue297}
end Go.Proofs
namespace Go.Proofs.YtblifkgpebebmaaGreatDoor
open Go Go.J Tryz
theorem ZG:aI prog 102:=⟨_,func102,rfl,by kernel_rfl⟩
theorem ZH:aI prog 103:=⟨_,func103,rfl,by kernel_rfl⟩
theorem ZI:aI prog 104:=⟨_,func104,rfl,by kernel_rfl⟩
def VT (w:World):Prop:=Lib.Utf8Tabs (Tryz.qM.g 3) (Tryz.qM.g 4) w
abbrev u8:du:=du.of VT
theorem Xm:(prog.info? (Tryz.wP.t 116)).map (λi=>(i.zero,i.size))=some (some (.agg (Array.replicate 256 (.bool false))),256):=by kernel_rfl
theorem JU (s:bC):(⟨s.toArray⟩:ByteArray).size=s.length:=by simp[ByteArray.size]
theorem TD (s:bC)(a:s.length<9223372036854775807):kX prog 102 #[sv s] [u8] (iv (Lib.runeCountL s)):=
 kX.qS λw _=>by
  refine(Any.utf8_RuneCountInString Tryz.Sf ⟨s.toArray⟩ w (by rw[JU];exact a)).mono ?_;rintro e w' ⟨rfl,pos,rfl⟩;exact⟨rfl,(RowKit.Below.refl _ w).alloc (aR _) _⟩
theorem IH (s:bC)(a:s.length<9223372036854775807):kX prog 103 #[sv s] [u8] (.bool (Lib.validD s)):=
 kX.qS λw hw=>Any.utf8_ValidString Tryz.Sg ⟨s.toArray⟩ w (by rw[JU];omega) hw
theorem MF (s:bC)(a:s.length<4294967281):kX prog 104 #[sv s,sv xK] [u8] (.bool (s.any iz)):=
 kX.qS λw _=>by
  have:=Any.xD Tryz.Se Xm ⟨s.toArray⟩ ⟨xK.toArray⟩ w (by decide) (by decide) (by rw[JU];exact a) (λj b h=>by
   have:∀b∈xK,b.toNat<128:=by decide
   exact this b (aZ h))
  rw[←uw];exact this
theorem XV (s:bC):s.length≤4*Lib.runeCountL s:=by
 have key:∀(f p:Nat),s.length-p≤f→s.length-p≤4*Lib.runeCountFrom ⟨s.toArray⟩ f p:=by
  intro f
  induction f with
  |zero=>intro p h;omega
  |succ f b=>
   intro p h
   by_cases hp:p<s.length
   ·have c:p<(⟨s.toArray⟩:ByteArray).size:=by rw[JU];exact hp
    obtain⟨d1,d2,_⟩:=qq hp
    have a:=Lib.decodeL_drop ⟨s.toArray⟩ p
    simp only at a
    have hw:(Lib.decodeL (s.drop p)).2≤4:=by
     rw[uy]
     rcases ux (n:=s.length-p) (pP s p) (pP s (p+1)) (pP s (p+2)) (pP s (p+3))with⟨_,e⟩|⟨_,_,_,_,e⟩|⟨_,r,_,e⟩|⟨_,r,_,e⟩|⟨_,r,_,e⟩<;>rw[e]<;>simp
    have:=b (p+(Lib.decodeL (s.drop p)).2) (by omega)
    rw[Lib.runeCountFrom,aC c,←a];omega
   ·omega
 have:=key s.length 0 (by omega)
 have e:Lib.runeCountFrom ⟨s.toArray⟩ s.length 0=Lib.runeCountL s:=by unfold Lib.runeCountL Lib.runeCount;congr 1
 rw[e]at this;omega
theorem G4 (s:bC):(((decide ((1:Int)≤(Lib.runeCountL s:Int))&&decide ((Lib.runeCountL s:Int)≤30))&&Lib.validD s)&& !(s.any iz))=isWord s:=by
 rw[Kw]
 have h1:decide ((1:Int)≤(Lib.runeCountL s:Int))=decide (1≤Lib.runeCountL s):=decide_eq_decide.2 (by omega)
 have a:decide ((Lib.runeCountL s:Int)≤30)=decide (Lib.runeCountL s≤30):=decide_eq_decide.2 (by omega)
 rw[h1,a]
theorem ug (s:bC)(d:s.length<9223372036854775807):kX prog 67 #[sv s] [u8] (.bool (isWord s)):=by
 refine kX.body (args:=[sv s]) (ds:=[u8]) 21 func67 rfl ntmps67 rfl (λc b=> ?_)
 change St _ _ (Mm c [aB u8]) _
 refine g8 ?_;refine St.ee (Ev.mO b (TD s d) ZG (.ar rfl)) ?_;refine g8 ?_;refine St.gt _ rfl rfl (λa=>Ev.move (.mk rfl)) rfl ?_;refine St.gt _ rfl rfl (λa=>Ev.leq (ah.gv rfl a) (.mk rfl)) rfl ?_;refine g2 ?_;refine St.gt _ rfl rfl (λa=>Ev.move (.mk rfl)) rfl ?_;refine St.gt _ rfl rfl (λa=>Ev.mO b (IH s d) ZH (.cons (ah.gv rfl a) .nil)) rfl ?_;refine g2 ?_;refine St.gt _ rfl rfl (λa=>Ev.move (.mk rfl)) rfl ?_;refine St.gt _ rfl rfl (λa=>Ev.mO b (MF s (by have e:=XV s;first|omega|(simp only[Bool.and_eq_true,decide_eq_true_eq]at a;omega)|(simp at a;omega)|(trace_state;omega))) ZI (.cons (ah.gv rfl a) (.ar rfl))) rfl ?_;refine St.gt _ rfl rfl (λa=>Ev.not (ah.gv rfl a)) rfl ?_;refine g5 ?_;refine St.rV [_] [] ?_;exact be (by first|exact G4 s|(simp[G4]))
theorem Sj (T:List eo)(Fs:List oc)(x:eZ):xH T Fs (oe x)=if isWord x.word=false then 10 else if x.weight<0∨1000000<x.weight then 3 else if(dP T Fs (ax x.graph)).1≠0 then(dP T Fs (ax x.graph)).1 else(qZ (dH x.ew)).1:=rfl
theorem P8 (T:List eo)(Fs:List oc)(x:ca):pU T Fs (lK x)=if x.kids<1∨3<x.kids∨x.weight<0∨1000000<x.weight then 3 else if(dP T Fs (ax x.graph)).1≠0 then(dP T Fs (ax x.graph)).1 else if nP (ax x.graph) x.kids=false then 5 else(qZ (dH x.ew)).1:=rfl
theorem Db {T:List eo}{Fs:List oc}{G:e8}(h:(dP T Fs G).1=0):(fX T.length Fs.length G).1=0:=by
 rcases Decidable.em ((fX T.length Fs.length G).1=0)with h1|h1
 ·exact h1
 ·rw[Bu h1]at h;exact h
theorem Aw {T:List eo}{Fs:List oc}(c:Fs.length≤40){g:dD}(h:(dP T Fs (ax g)).1=0):0<g.nodes.length∧∀n∈g.nodes,Asc n.aq∧n.aq.length≤1000000:=by
 have h1:=Db h
 obtain⟨b,_,d⟩:=z8 h1;refine⟨by rw[cy]at b;exact b,λn a=>⟨BN h1 n a,?_⟩⟩
 have e:=(d (mB n) (eQ a)).2
 have:=Qt (BN h1 n a) (nf:=Fs.length) (λx hx=>by
  have:=e (fP x) (eQ hx)
  exact⟨this.1,this.2.1⟩)
 omega
theorem GK (tv xv d e:aV)(ts:List rh)(a:List jJ)(x:eZ)(n:ir (ts.map dG))(o:∀f∈a,0≤f.BS∧f.BS<ts.length∧0≤f.value∧f.value<ts.length)(hw:e7.wf x):kX prog 48 #[.agg #[tv.1,xv.1],kB d e,ad8 x] [sl mw tv.1 ts,sl ga xv.1 a,sl bI d.1 (dg (ts.map dG)),sl bI e.1 (de (ts.map dG)),eR x,u8] (iv (xH (ts.map dG) (a.map gz) (oe x))):=by
 refine kX.body (args:=[.agg #[tv.1,xv.1],kB d e,ad8 x]) (ds:=[sl mw tv.1 ts,sl ga xv.1 a,sl bI d.1 (dg (ts.map dG)),sl bI e.1 (de (ts.map dG)),eR x,u8]) 34 func48 rfl ntmps48 rfl (λc p=> ?_);refine St.cast (H':=[aB (sl mw tv.1 ts),aB (sl ga xv.1 a),aB (sl bI d.1 (dg (ts.map dG))),aB (sl bI e.1 (de (ts.map dG))),aB (eR x),aB (u8)]) rfl ?_;refine go ?_
 refine St.jQ (eR x) (λ_:Unit=>XC x) (λρ h=>⟨(),h⟩) λ_=> ?_
 refine St.cast (H':=[aB (aG x.graph),aB (cm x.ew),aB (sl mw tv.1 ts),aB (sl ga xv.1 a),aB (sl bI d.1 (dg (ts.map dG))),aB (sl bI e.1 (de (ts.map dG))),aB (eR x),aB (u8)]) rfl ?_
 have b:=Sj (ts.map dG) (a.map gz) x
 obtain⟨m,r,i⟩:=hw
 replace m:x.word.length≤140737488351232:=m
 refine go ?_;refine St.dJ (.mk rfl) rfl (λs=> ?_);refine St.dJ (.mk rfl) rfl (λt=> ?_);refine St.dJ (.mk rfl) rfl (λu=> ?_);refine g8 ?_;refine St.ee (Ev.mO p (ug x.word (by omega)) Vu (.ar rfl)) ?_;refine g3 ?_;refine St.cond _ rfl (λj=> ?_) (λj=> ?_)
 ·skip
  rw[aC (by simpa using j)]at b;refine g7 ?_;refine St.rV [_] [] ?_;exact ie b.symm
 ·skip
  rw[aA (by simpa using j)]at b;refine g9 ?_;refine St.gf _ rfl rfl (λg=>Ev.da (.mk rfl) Co) rfl ?_;refine St.gf _ rfl rfl (λg=>Ev.ke (ah.gv rfl g) gD trivial (by rfl)) rfl ?_;refine St.gf _ rfl rfl (λg=>Ev.gtr (ah.gv rfl g) (.mk rfl)) rfl ?_;refine g3 ?_;refine St.cq (λq=> ?_) (λq=> ?_)
  ·rw[aC (by omega)]at b
   refine g7 ?_;refine St.rV [_] [] ?_;exact ie b.symm
  ·rw[aA (by omega)]at b
   refine g8 ?_;refine St.ee (Ev.iU 1 (.mk rfl) mm trivial jU rfl rfl) ?_;refine St.slot 23 (bA x.graph) rfl rfl ?_;refine St.ee (Ev.call (q8 tv xv d e ts a x.graph n o) Vs (.ek rfl rfl rfl)) ?_;refine St.al (λv=> ?_);refine g10 ?_;refine St.cond _ rfl (λk=> ?_) (λk=> ?_)
   ·skip
    have l:(dP (ts.map dG) (a.map gz) (ax x.graph)).1≠0:=by simpa using k
    rw[aC l]at b;refine g9 ?_;refine St.rV [_] [] ?_;exact ie b.symm
   ·skip
    have l:¬(dP (ts.map dG) (a.map gz) (ax x.graph)).1≠0:=by simpa using k
    rw[aA l]at b;refine g5 ?_;refine St.ee (Ev.iU 6 (.mk rfl) lZ trivial fg rfl rfl) ?_;refine St.slot 31 (cN x.ew) rfl rfl ?_;refine St.ee (Ev.call (uO x.ew i) Zr (.ar rfl)) ?_;refine St.ee (Ev.Cl (.mk rfl) Fz rfl (by first|rw[gD]|(dsimp only;rw[gD])|kernel_rfl) rfl) ?_;refine g4 ?_;refine St.rV [_] [] ?_;exact ie b.symm
theorem KI (tv xv e g:aV)(ts:List rh)(b:List jJ)(x:ca)(n:ir (ts.map dG))(o:∀f∈b,0≤f.BS∧f.BS<ts.length∧0≤f.value∧f.value<ts.length)(p:b.length≤40)(hw:cT.wf x):eE prog 47 #[.agg #[tv.1,xv.1],kB e g,ru x] [sl mw tv.1 ts,sl ga xv.1 b,sl bI e.1 (dg (ts.map dG)),sl bI g.1 (de (ts.map dG)),bz x] (iv (pU (ts.map dG) (b.map gz) (lK x))):=by
 unfold eE;refine dz.body (args:=[.agg #[tv.1,xv.1],kB e g,ru x]) 46 func47 rfl ntmps47 rfl (λc=> ?_);refine St.cast (H':=[aB (sl mw tv.1 ts),aB (sl ga xv.1 b),aB (sl bI e.1 (dg (ts.map dG))),aB (sl bI g.1 (de (ts.map dG))),aB (bz x)]) rfl ?_;refine go ?_
 refine St.jQ (bz x) (λ_:Unit=>PA x) (λρ h=>⟨(),h⟩) λ_=> ?_
 refine St.cast (H':=[aB (aG x.graph),aB (cm x.ew),aB (sl mw tv.1 ts),aB (sl ga xv.1 b),aB (sl bI e.1 (dg (ts.map dG))),aB (sl bI g.1 (de (ts.map dG))),aB (bz x)]) rfl ?_
 have d:=P8 (ts.map dG) (b.map gz) x
 obtain⟨u,q,r,j⟩:=hw;refine go ?_;refine St.dJ (.mk rfl) rfl (λv=> ?_);refine St.dJ (.mk rfl) rfl (λw=> ?_);refine St.dJ (.mk rfl) rfl (λy=> ?_);refine g10 ?_;refine St.gf _ rfl rfl (λa=>Ev.da (.mk rfl) xY) rfl ?_;refine St.gf _ rfl rfl (λa=>Ev.ke (ah.gv rfl a) gD trivial (by rfl)) rfl ?_;refine St.gf _ rfl rfl (λa=>Ev.gtr (ah.gv rfl a) (.mk rfl)) rfl ?_;refine g2 ?_;refine St.gf _ rfl rfl (λa=>Ev.da (.mk rfl) xZ) rfl ?_;refine St.gf _ rfl rfl (λa=>Ev.ke (ah.gv rfl a) gD trivial (by rfl)) rfl ?_;refine St.gf _ rfl rfl (λa=>Ev.lss (ah.gv rfl a) (.mk rfl)) rfl ?_;refine g2 ?_;refine St.gf _ rfl rfl (λa=>Ev.da (.mk rfl) xZ) rfl ?_;refine St.gf _ rfl rfl (λa=>Ev.ke (ah.gv rfl a) gD trivial (by rfl)) rfl ?_;refine St.gf _ rfl rfl (λa=>Ev.gtr (ah.gv rfl a) (.mk rfl)) rfl ?_;refine g3 ?_;refine St.cq (λs=> ?_) (λs=> ?_)
 ·rw[aC (by omega)]at d
  refine g7 ?_;refine St.rV [_] [] ?_;exact ie d.symm
 ·rw[aA (by omega)]at d
  refine g8 ?_;refine St.ee (Ev.iU 1 (.mk rfl) mm trivial jU rfl rfl) ?_;refine St.slot 29 (bA x.graph) rfl rfl ?_;refine St.ee (Ev.call (q8 tv xv e g ts b x.graph n o) Vs (.ek rfl rfl rfl)) ?_;refine St.al (λz=> ?_);refine g10 ?_;refine St.cond _ rfl (λk=> ?_) (λk=> ?_)
  ·skip
   have i:(dP (ts.map dG) (b.map gz) (ax x.graph)).1≠0:=by simpa using k
   rw[aC i]at d;refine g9 ?_;refine St.rV [_] [] ?_;exact ie d.symm
  ·skip
   have i:¬(dP (ts.map dG) (b.map gz) (ax x.graph)).1≠0:=by simpa using k
   rw[aA i]at d;obtain⟨t,l⟩:=Aw (by rw[aO];exact p) (iY.1 i);refine g6 ?_;refine St.ee (Ev.iU 1 (.mk rfl) mm trivial jU rfl rfl) ?_;refine St.slot 37 (bA x.graph) rfl rfl ?_;refine g2 ?_;refine St.ee (Ev.call (Dq x.graph x.kids t l) ahO (.aX rfl rfl)) ?_;refine g3 ?_;refine St.cond _ rfl (λm=> ?_) (λm=> ?_)
   ·skip
    rw[aC (by simpa using m)]at d;refine g7 ?_;refine St.rV [_] [] ?_;exact ie d.symm
   ·skip
    rw[aA (by simpa using m)]at d;refine g5 ?_;refine St.ee (Ev.iU 6 (.mk rfl) lZ trivial fg rfl rfl) ?_;refine St.slot 43 (cN x.ew) rfl rfl ?_;refine St.ee (Ev.call (uO x.ew j) Zr (.ar rfl)) ?_;refine St.ee (Ev.Cl (.mk rfl) Fz rfl (by first|rw[gD]|(dsimp only;rw[gD])|kernel_rfl) rfl) ?_;refine g4 ?_;refine St.rV [_] [] ?_;exact ie d.symm
theorem FR {T:List eo}{Fs:List oc}{l:List sm}{k:Nat}{t:sm}(ht:l[k]?=some t)(known:List bC):jd T Fs known k (l.drop k)=if isName t.name=false then(10,(k:Int))else if t.name∈known then(7,(k:Int))else if pU T Fs t≠0 then(pU T Fs t,(k:Int))else jd T Fs (known++ [t.name]) (k+1) (l.drop (k+1)):=by rw[bO ht,jd]
theorem Hn {T:List eo}{Fs:List oc}{l:List sm}{k:Nat}(h:l.length≤k)(known:List bC):jd T Fs known k (l.drop k)=(0,0):=by rw[j6 h,jd]
theorem Eh {T:List eo}{Fs:List oc}{l:List Dp}{k:Nat}{t:Dp}(ht:l[k]?=some t):jc T Fs k (l.drop k)=if xH T Fs t≠0 then(xH T Fs t,(k:Int))else jc T Fs (k+1) (l.drop (k+1)):=by rw[bO ht,jc]
theorem HQ {T:List eo}{Fs:List oc}{l:List Dp}{k:Nat}(h:l.length≤k):jc T Fs k (l.drop k)=(0,0):=by rw[j6 h,jc]
theorem Ru (g:gW):jO (bZ g)=if(jP (g.types.map dG) (g.cC.map gz)).1≠0 then jP (g.types.map dG) (g.cC.map gz)else if(g.cC.map gz).length≤3 then(9,-1)else if 40<(g.rules.map lK).length∨100<(g.aN.map oe).length then(2,-1)
 else if(jd (g.types.map dG) (g.cC.map gz) [] 0 (g.rules.map lK)).1≠0 then jd (g.types.map dG) (g.cC.map gz) [] 0 (g.rules.map lK)else if(jc (g.types.map dG) (g.cC.map gz) 0 (g.aN.map oe)).1≠0 then jc (g.types.map dG) (g.cC.map gz) 0 (g.aN.map oe)
 else if(dP (g.types.map dG) (g.cC.map gz) (ax g.start)).1≠0 then((dP (g.types.map dG) (g.cC.map gz) (ax g.start)).1,-1)else(0,0):=rfl
theorem xh {r x E:Int×Int}{c i:Int}(h:x=if r.1≠0 then r else E)(e:r=(c,i))(a:c≠0):x=(c,i):=by rw[h,aC (by rw[e];exact a),e]
theorem J4 {r x E:Int×Int}(h:x=if r.1≠0 then r else E)(e:r=(0,0)):x=E:=by rw[h,aA (by rw[e];simp)]
theorem qL (g:gW):kX prog 24 #[fG g] [eu g,tz,u8] (fv (jO (bZ g))):=by
 refine kX.body (args:=[fG g]) (ds:=[eu g,tz,u8]) 112 func24 rfl ntmps24 rfl (λc P=> ?_);refine St.cast (H':=[aB (eu g),aB (tz),aB (u8)]) rfl ?_;refine go ?_
 refine St.jQ (eu g) (λ_:Unit=>Gz g) (λρ h=>⟨(),h⟩) λ_=> ?_
 refine St.cast (H':=[aB (sl mw g.tv.1 g.types),aB (aF s6 g.types),aB (sl ga g.fv.1 g.cC),aB (sl cT g.rv.1 g.rules),aB (aF bz g.rules),aB (sl e7 g.xv.1 g.aN),aB (aF eR g.aN),aB (aG g.start),aB (eu g),aB (tz),aB (u8)]) rfl ?_
 have a:=Ru g
 have Q:(g.types.map dG).length=g.types.length:=aO ..
 have hFl:(g.cC.map gz).length=g.cC.length:=aO ..
 have R:(g.rules.map lK).length=g.rules.length:=aO ..
 have S:(g.aN.map oe).length=g.aN.length:=aO ..
 refine St.wf g.rv.1 (λs Wd=> ?_);refine St.wf g.xv.1 (λU Uk=> ?_);refine go ?_;refine St.dJ (.mk rfl) rfl (λJ=> ?_);refine St.al (λK=> ?_);refine g5 ?_;refine St.ee (Ev.iU 2 (.mk rfl) underlying25 trivial PV rfl rfl) ?_;refine St.slot 17 (.agg #[g.tv.1,g.fv.1]) rfl rfl ?_;refine St.al (λL=> ?_);refine g7 ?_;refine St.ee (Ev.call (Cy g.tv g.fv g.types g.cC) ahC (.ar rfl)) ?_;refine St.al (λb4=> ?_);refine g10 ?_;refine St.cond _ rfl (λz=> ?_) (λz=> ?_)
 ·skip
  have u:(jP (g.types.map dG) (g.cC.map gz)).1≠0:=by simpa using z
  rw[aC u]at a;refine g8 ?_;refine St.rV [_] [] ?_;exact congrArg fv a.symm
 ·skip
  have u:¬(jP (g.types.map dG) (g.cC.map gz)).1≠0:=by simpa using z
  rw[aA u]at a;obtain⟨_,v,V,A⟩:=SB (iY.1 u)
  have B:∀f∈g.cC,0≤f.BS∧f.BS<g.types.length∧0≤f.value∧f.value<g.types.length:=λf W=>by have:=A (gz f) (eQ W);rw[Q]at this;exact this
  refine g11 ?_;refine St.cq (λX=> ?_) (λX=> ?_)
  ·rw[aC (by omega)]at a
   refine g2 ?_;refine St.ee (Ev.call (ej 9 (-1)) Gj (.aX rfl rfl)) ?_;refine g5 ?_;refine St.rV [_] [] ?_;exact congrArg fv a.symm
  ·rw[aA (by omega)]at a
   refine g10 ?_;refine St.gf _ rfl rfl (λp=>Ev.da (.mk rfl) Gt) rfl ?_;refine St.gf _ rfl rfl (λp=>Ev.ke (ah.gv rfl p) IC trivial (by rfl)) rfl ?_;refine St.gf _ rfl rfl (λp=>Ev.fc (ah.gv rfl p) IC) rfl ?_;refine St.gf _ rfl rfl (λp=>Ev.gtr (ah.gv rfl p) (.mk rfl)) rfl ?_;refine g3 ?_;refine St.cq (λY=> ?_) (λY=> ?_)
   ·rw[aC (by omega)]at a
    refine g2 ?_;refine St.ee (Ev.call (ej 2 (-1)) Gj (.aX rfl rfl)) ?_;refine g5 ?_;refine St.rV [_] [] ?_;exact congrArg fv a.symm
   ·rw[aA (by omega)]at a
    refine g6 ?_;refine St.ae (q7 g.tv.1 g.types v) Vr (.ar rfl) rfl ?_;rintro v42 _ ⟨e,i,rfl,rfl⟩;refine St.dQ ?_;refine St.al (λM=> ?_);refine g5 ?_;refine St.makeMap mkStr rfl (λC=> ?_);refine g13 ?_;refine St.tm (ι:=Nat) (κ:=List (bC×Value)) (λk m T=>(47,iv k)::T) (λk m=>[aW C (eW mkStr m),aW J (.cells [g.tv.1,g.fv.1,g.rv.1,g.xv.1,g.start.nv.1].toArray 32 (0,0)),aW K (.cells [iv 0,iv 0].toArray 35 (0,0)),aW L (.cells [g.tv.1,g.fv.1].toArray 25 (0,0)),aW M (.cells [e.1,i.1].toArray 100 (0,0)),aB (sl mw g.tv.1 g.types),aB (aF s6 g.types),aB (sl ga g.fv.1 g.cC),aB (sl cT g.rv.1 g.rules),aB (aF bz g.rules),aB (sl e7 g.xv.1 g.aN),aB (aF eR g.aN),aB (aG g.start),aB (sl bI e.1 (dg (g.types.map dG))),aB (sl bI i.1 (de (g.types.map dG))),aB (u8)]) (λk m=>k≤g.rules.length∧jd (g.types.map dG) (g.cC.map gz) [] 0 (g.rules.map lK)=jd (g.types.map dG) (g.cC.map gz) ((g.rules.take k).map ca.name) k ((g.rules.map lK).drop k)∧KC m ((g.rules.take k).map ca.name)) (λk m=>g.rules.length-k) 0 [] (aD.cons 1 rfl (aD.cons 2 rfl (aD.cons 3 rfl (aD.cons 5 rfl (aD.cons 6 rfl (aD.cons 45 rfl (aD.cons 46 rfl aD.nil))))))) ⟨aP _,rfl,KC.nil⟩ ?_;rintro k m ⟨hk,r,N⟩;refine g6 ?_;refine St.cq (λD=> ?_) (λD=> ?_)
    ·obtain⟨t,ht⟩:=aE (show k<g.rules.length by omega)
     have E:=aZ ht
     have b:=FR (T:=(g.types.map dG)) (Fs:=(g.cC.map gz)) (l:=g.rules.map lK) (k:=k) (t:=lK t) (by rw[bQ,ht];rfl) ((g.rules.take k).map ca.name)
     have Z:t.name.length≤9223372036854775807:=by have:=(s t E).1;simp only[nB]at this;omega
     refine St.cL bz g.rules (x:=t) E ?_;refine g8 ?_;refine St.ee (Ev.js (.mk rfl) ht uR trivial kV j7.eq) ?_;refine St.al (λb8=> ?_);refine g9 ?_;refine St.ee (Ev.call (qm t.name Z) R8 (.ar rfl)) ?_;refine g3 ?_;refine St.cq (λj=> ?_) (λj=> ?_)
     ·rw[aC (show isName (lK t).name=false from(by simpa using j:isName t.name=false))]at b
      refine g3 ?_;refine St.ee (Ev.call (ej 10 k) Gj (.aX rfl rfl)) ?_;refine g10 ?_;refine St.rV [_] [] ?_;exact congrArg fv (xh a (r.trans b) (by decide)).symm
     ·rw[aA (show ¬isName (lK t).name=false from(by simpa using j:¬isName t.name=false))]at b
      refine g8 ?_;refine St.ee (Ev.tn mkStr (k:=t.name) (.mk rfl) (.mk rfl) pX (by exact vt) eT) ?_;refine g3 ?_;refine St.slot 64 (.bool (decide (t.name∈(g.rules.take k).map ca.name))) rfl (congrArg Value.bool (N t.name)) ?_;refine g9 ?_;refine St.cq (λn=> ?_) (λn=> ?_)
      ·rw[aC (show(lK t).name∈(g.rules.take k).map ca.name from n)]at b
       refine g3 ?_;refine St.ee (Ev.call (ej 7 k) Gj (.aX rfl rfl)) ?_;refine g10 ?_;refine St.rV [_] [] ?_;exact congrArg fv (xh a (r.trans b) (by decide)).symm
      ·rw[aA (show ¬(lK t).name∈(g.rules.take k).map ca.name from n)]at b
       refine g8 ?_;refine St.mapUpdate mkStr (k:=t.name) (.mk rfl) (.mk rfl) (.mk rfl) pX (by exact vt) ?_;refine g7 ?_;refine St.ee (Ev.call (KI g.tv g.fv e i g.types g.cC t v B (by omega) (s t E)) ahD (.ek rfl rfl rfl)) ?_;refine g9 ?_;refine St.cond _ rfl (λF=> ?_) (λF=> ?_)
       ·skip
        have d:pU (g.types.map dG) (g.cC.map gz) (lK t)≠0:=by simpa using F
        rw[aC d]at b;refine g4 ?_;refine St.ee (Ev.call (ej (pU (g.types.map dG) (g.cC.map gz) (lK t)) k) Gj (.aX rfl rfl)) ?_;refine g9 ?_;refine St.rV [_] [] ?_;exact congrArg fv (xh a (r.trans b) d).symm
       ·skip
        have d:¬pU (g.types.map dG) (g.cC.map gz) (lK t)≠0:=by simpa using F
        rw[aA d]at b;refine g8 ?_;refine St.ui (k+1) (l8 m t.name (iv k)) ⟨by omega,by rw[r,b,gX ca.name ht];rfl,by rw[gX ca.name ht];exact N.snoc _ _⟩
    ·rw[Hn (by omega)]at r
     replace a:=J4 a r
     refine g15 ?_;refine St.lH (ι:=Nat) (λq T=>(85,iv q)::T) (λq=>[aW J (.cells [g.tv.1,g.fv.1,g.rv.1,g.xv.1,g.start.nv.1].toArray 32 (0,0)),aW K (.cells [iv 0,iv 0].toArray 35 (0,0)),aW L (.cells [g.tv.1,g.fv.1].toArray 25 (0,0)),aW M (.cells [e.1,i.1].toArray 100 (0,0)),aB (sl mw g.tv.1 g.types),aB (aF s6 g.types),aB (sl ga g.fv.1 g.cC),aB (sl cT g.rv.1 g.rules),aB (aF bz g.rules),aB (sl e7 g.xv.1 g.aN),aB (aF eR g.aN),aB (aG g.start),aB (sl bI e.1 (dg (g.types.map dG))),aB (sl bI i.1 (de (g.types.map dG))),aB (u8)]) (λq=>q≤g.aN.length∧jc (g.types.map dG) (g.cC.map gz) 0 (g.aN.map oe)=jc (g.types.map dG) (g.cC.map gz) q ((g.aN.map oe).drop q)) (λq=>g.aN.length-q) 0 (aD.cons 1 rfl (aD.cons 2 rfl (aD.cons 3 rfl (aD.cons 5 rfl (aD.cons 83 rfl (aD.cons 84 rfl aD.nil)))))) ⟨aP _,rfl⟩ ?_;rintro q ⟨hq,y⟩;refine g6 ?_;refine St.cq (λG=> ?_) (λG=> ?_)
     ·obtain⟨x,hx⟩:=aE (show q<g.aN.length by omega)
      have O:=aZ hx
      have b:=Eh (T:=(g.types.map dG)) (Fs:=(g.cC.map gz)) (l:=g.aN.map oe) (k:=q) (t:=oe x) (by rw[bQ,hx];rfl)
      refine St.cL eR g.aN (x:=x) O ?_;refine g8 ?_;refine St.ee (Ev.js (.mk rfl) hx zw trivial nT j7.eq) ?_;refine St.al (λb13=> ?_);refine g9 ?_;refine St.ee (Ev.mO P (GK g.tv g.fv e i g.types g.cC x v B (U x O)) ahE (.ek rfl rfl rfl)) ?_;refine g9 ?_;refine St.cond _ rfl (λH=> ?_) (λH=> ?_)
      ·skip
       have d:xH (g.types.map dG) (g.cC.map gz) (oe x)≠0:=by simpa using H
       rw[aC d]at b;refine g4 ?_;refine St.ee (Ev.call (ej (xH (g.types.map dG) (g.cC.map gz) (oe x)) q) Gj (.aX rfl rfl)) ?_;refine g9 ?_;refine St.rV [_] [] ?_;exact congrArg fv (xh a (y.trans b) d).symm
      ·skip
       have d:¬xH (g.types.map dG) (g.cC.map gz) (oe x)≠0:=by simpa using H
       rw[aA d]at b;refine g8 ?_;refine St.aH (q+1) ⟨by omega,y.trans b⟩
     ·rw[HQ (by omega)]at y
      replace a:=J4 a y
      refine g11 ?_;refine St.ee (Ev.iU 1 (.mk rfl) mm trivial jU rfl rfl) ?_;refine St.slot 103 (bA g.start) rfl rfl ?_;refine St.ee (Ev.call (q8 g.tv g.fv e i g.types g.cC g.start v B) Vs (.ek rfl rfl rfl)) ?_;refine St.al (λVb=> ?_);refine g10 ?_;refine St.cond _ rfl (λI=> ?_) (λI=> ?_)
      ·skip
       have o:(dP (g.types.map dG) (g.cC.map gz) (ax g.start)).1≠0:=by simpa using I
       rw[aC o]at a;refine g4 ?_;refine St.ee (Ev.call (ej (dP (g.types.map dG) (g.cC.map gz) (ax g.start)).1 (-1)) Gj (.aX rfl rfl)) ?_;refine g5 ?_;refine St.rV [_] [] ?_;exact congrArg fv a.symm
      ·skip
       have o:¬(dP (g.types.map dG) (g.cC.map gz) (ax g.start)).1≠0:=by simpa using I
       rw[aA o]at a;refine g4 ?_;refine St.ee (Ev.build (bH.nil) (λw=>ja w)) ?_;refine g4 ?_;refine St.rV [_] [] ?_;exact congrArg fv a.symm
end Go.Proofs.YtblifkgpebebmaaGreatDoor
namespace Go.J
open Go
def YW:Rp UInt8:=⟨1,by decide,λx=>[.int .u8 (x.toNat:Int)],λ_=>True,λ_=>rfl,λ_ u h=>by simp at h;subst h;rfl⟩
section
variable {P:Program}{n:Nat}{F:Fr}{c:Ctx}{H:List ak}{ty:TypeId}{x:Operand}{Q:Exit→Act→World→Prop}{ops:Array Oper}{rest:List Oper}{d:Nat}{pos:String}{after:Array Edge}{src dst e:TypeId}
theorem uJ (s:bC):rows YW s=s.map λb=>Value.int .u8 (b.toNat:Int):=by
 induction s with
 |nil=>rfl
 |cons x xs a=>simp only[rows,List.flatMap_cons,List.map_cons]at a⊢;rw[a];rfl
end
end Go.J
namespace Go.J
open Go.RowKit
open Go
end Go.J
namespace Go.J
open Go
section
variable {P:Program}{n:Nat}{F:Fr}{c:Ctx}{H R:List ak}{ty:TypeId}{x:Operand}{v:Value}
theorem Ev.Xk (l:bC){m:Nat}{cs:List Value}{src dst e:TypeId}[f:wu v H e 1 m cs](hx:ah F x v)(hm:m=l.length)(d:cs=l.map λb=>Value.int .u8 (b.toNat:Int))(h:l≠ [])
 (i:P.underlying src=some (.slice e)) (he:P.underlying e=some (.int .u8)) (hd:P.underlying dst=some .string):Ev P n F (Mm c H) (.convert src dst x) ty (sv l):= .of_run λa w k hw=>by
 obtain⟨ρ,o⟩:=hw.out;subst hm d
 have p:=o.row f
 rcases p.2 with⟨_,q⟩|⟨g,cap,cur,rfl,_,r,_,_,d,s⟩
 ·exact absurd (lG q) h
 ·have:=run_convert_bytes_back (P:=P) w src dst e ⟨g,0,none⟩ cap l i he hd (λj t=>by
   have h1:(cur.toList.take (l.length*1))[j]?=some (.int .u8 (l[j].toNat:Int)):=by
    rw[s,bQ,bU t];rfl
   rw[sB]at h1;rw[Addr.add_lit,iW,cV r]
   split at h1
   ·simpa using h1
   ·cases h1)
  simp[execOp,hx.eval k,this]
end
end Go.J
namespace Go.J
open Go Go.RowKit
section
variable {P:Program}{n:Nat}{F:Fr}{A:World→Prop}{c:Ctx}{H:List ak}{ty t e:TypeId}{x y:Operand}{v:Value}{T:Act→World→Prop}
theorem Ev.xg {b o' cap m size k off j N:Nat}{i:Int}{kd:IntKind}(d:v= .slice (some ⟨b,o',none⟩) m cap)(hx:ah F x (cZ v size k off))(hy:ah F y (.int kd i))(ht:P.underlying t=some (.array N e))(f:(P.info? e).map (·.size)=some 1)
 (g:i=j) (h:j<N):Ev P n F A (.indexAddr t x y) ty (cZ v size k (off+j)):= .of_run λa w c hw=>by
 obtain⟨inf,l,o⟩:=dp.1 f;subst g d;rw[eG]at hx
 simp[execOp,hx.eval c,hy.eval c,Instr.indexAt,Instr.sureAddr,asIntOf,run_underlying ht,sizeOf,typeInfo,l,o,h,eG,Addr.add_lit,Nat.add_assoc]
theorem St.V4 {α:Type}{Rr:Rp α}{xs:List α}(v:Value)[hd:sI v H α Rr xs](h:v.oneCell'=true→St n F (Mm c H) T):St n F (Mm c H) T:=by
 intro a w b hw;obtain⟨ρ,hm⟩:=hw.out;obtain⟨ad,cap,rfl,_⟩:=hm.sl hd;exact h rfl a w b hw
end
def Lw:Rp (Int×Int):=⟨2,by decide,λx=>[iv x.1,iv x.2],λ_=>True,λ_=>rfl,λx u h=>by
 simp only[List.mem_cons,List.not_mem_nil,or_false]at h
 rcases h with rfl|rfl<;>rfl⟩
end Go.J
namespace Go.Proofs.YtblifkgpebebmaaGreatDoor
open Go Go.J Tryz
abbrev kq:=List (Int×Int)
def vQ:Nat→kq→kq→kq
 |0,xs,a=>xs++a
 |_+1,[],a=>a
 |_+1,x::xs,[]=>x::xs
 |f+1,x::xs,y::a=>if x.1<y.1 then x::vQ f xs (y::a)else if y.1<x.1 then y::vQ f (x::xs) a else x::vQ f xs a
def xJ:Nat→kq→kq→List (Int×Int)
 |0,_,_=>[]
 |_+1,[],_=>[]
 |_+1,_::_,[]=>[]
 |f+1,x::xs,y::a=>if x.1<y.1 then xJ f xs (y::a)else if y.1<x.1 then xJ f (x::xs) a else(x.2,y.2)::xJ f xs a
def Ah (xs a:kq):kq:=vQ (xs.length+a.length) xs a
def DD (xs a:kq):List (Int×Int):=xJ (xs.length+a.length) xs a
theorem zC (f:Nat)(a:kq):vQ f [] a=a:=by cases f<;>rfl
theorem vR (f:Nat)(xs:kq):vQ f xs []=xs:=by cases f<;>cases xs<;>simp[vQ]
theorem zK (f:Nat)(a:kq):xJ f [] a=[]:=by cases f<;>rfl
theorem vV (f:Nat)(xs:kq):xJ f xs []=[]:=by cases f<;>cases xs<;>rfl
theorem mG:∀(f g:Nat) (xs a:kq),xs.length+a.length≤f→xs.length+a.length≤g→vQ f xs a=vQ g xs a
 |f,g,[],a,_,_=>by rw[zC,zC]
 |f,g,x::xs,[],_,_=>by rw[vR,vR]
 |f+1,g+1,x::xs,y::a,b,c=>by
  simp only[List.length_cons]at b c
  rw[vQ,vQ,mG f g xs (y::a) (by simp only[List.length_cons];omega) (by simp only[List.length_cons];omega),mG f g (x::xs) a (by simp only[List.length_cons];omega) (by simp only[List.length_cons];omega),mG f g xs a (by omega) (by omega)]
 |0,_,_::_,_::_,h,_=>by simp only[List.length_cons]at h;omega
 |_+1,0,_::_,_::_,_,h=>by simp only[List.length_cons]at h;omega
theorem mH:∀(f g:Nat) (xs a:kq),xs.length+a.length≤f→xs.length+a.length≤g→xJ f xs a=xJ g xs a
 |f,g,[],a,_,_=>by rw[zK,zK]
 |f,g,x::xs,[],_,_=>by rw[vV,vV]
 |f+1,g+1,x::xs,y::a,b,c=>by
  simp only[List.length_cons]at b c
  rw[xJ,xJ,mH f g xs (y::a) (by simp only[List.length_cons];omega) (by simp only[List.length_cons];omega),mH f g (x::xs) a (by simp only[List.length_cons];omega) (by simp only[List.length_cons];omega),mH f g xs a (by omega) (by omega)]
 |0,_,_::_,_::_,h,_=>by simp only[List.length_cons]at h;omega
 |_+1,0,_::_,_::_,_,h=>by simp only[List.length_cons]at h;omega
theorem u9 (a:kq):Ah [] a=a:=zC _ _
theorem qQ (xs:kq):Ah xs []=xs:=vR _ _
theorem DE (a:kq):DD [] a=[]:=zK _ _
theorem zL (xs:kq):DD xs []=[]:=vV _ _
theorem ff (x y:Int×Int)(xs a:kq):Ah (x::xs) (y::a)=if x.1<y.1 then x::Ah xs (y::a)else if y.1<x.1 then y::Ah (x::xs) a else x::Ah xs a:=by
 have e:(x::xs).length+(y::a).length=(xs.length+a.length+1)+1:=by simp only[List.length_cons];omega
 show vQ _ _ _=_
 rw[e,vQ,mG _ (xs.length+(y::a).length) xs (y::a) (by simp only[List.length_cons];omega) (aR _),mG _ ((x::xs).length+a.length) (x::xs) a (by simp only[List.length_cons];omega) (aR _),mG _ (xs.length+a.length) xs a (by omega) (aR _)];rfl
theorem jy (x y:Int×Int)(xs a:kq):DD (x::xs) (y::a)=if x.1<y.1 then DD xs (y::a)else if y.1<x.1 then DD (x::xs) a else(x.2,y.2)::DD xs a:=by
 have e:(x::xs).length+(y::a).length=(xs.length+a.length+1)+1:=by simp only[List.length_cons];omega
 show xJ _ _ _=_
 rw[e,xJ,mH _ (xs.length+(y::a).length) xs (y::a) (by simp only[List.length_cons];omega) (aR _),mH _ ((x::xs).length+a.length) (x::xs) a (by simp only[List.length_cons];omega) (aR _),mH _ (xs.length+a.length) xs a (by omega) (aR _)];rfl
theorem nM {C:kq→kq→Prop}(h1:∀a,C [] a)(b:∀x xs,C (x::xs) [])(d:∀x xs y a,x.1<y.1→C xs (y::a)→C (x::xs) (y::a))(e:∀x xs y a,y.1<x.1→C (x::xs) a→C (x::xs) (y::a))(f:∀x xs y a,x.1=y.1→C xs a→C (x::xs) (y::a)):∀(n:Nat) (xs a:kq),xs.length+a.length≤n→C xs a
 |_,[],a,_=>h1 a
 |_,x::xs,[],_=>b x xs
 |n+1,x::xs,y::a,h=>by
  simp only[List.length_cons]at h
  rcases Int.lt_trichotomy x.1 y.1 with c|c|c
  ·exact d _ _ _ _ c (nM h1 b d e f n xs (y::a) (by simp only[List.length_cons];omega))
  ·exact f _ _ _ _ c (nM h1 b d e f n xs a (by omega))
  ·exact e _ _ _ _ c (nM h1 b d e f n (x::xs) a (by simp only[List.length_cons];omega))
 |0,_::_,_::_,h=>by simp only[List.length_cons]at h;omega
theorem Sv (xs a:kq):(Ah xs a).length+(DD xs a).length=xs.length+a.length:=by
 refine nM (C:=λxs a=>(Ah xs a).length+(DD xs a).length=xs.length+a.length) ?_ ?_ ?_ ?_ ?_ _ xs a (aR _)
 ·intro a;rw[u9,DE];simp
 ·intro x xs;rw[qQ,zL]
 ·intro x xs y a h b;rw[ff,jy,aC h,aC h];simp only[List.length_cons]at b⊢;omega
 ·intro x xs y a h b
  have c:¬x.1<y.1:=by omega
  rw[ff,jy,aA c,aA c,aC h,aC h];simp only[List.length_cons]at b⊢;omega
 ·intro x xs y a h b
  have c:¬x.1<y.1:=by omega
  have d:¬y.1<x.1:=by omega
  rw[ff,jy,aA c,aA c,aA d,aA d];simp only[List.length_cons]at b⊢;omega
theorem xo {z:Int×Int}(xs a:kq):z∈Ah xs a→z∈xs∨z∈a:=by
 refine nM (C:=λxs a=>z∈Ah xs a→z∈xs∨z∈a) ?_ ?_ ?_ ?_ ?_ _ xs a (aR _)
 ·intro a h;rw[u9]at h;exact .inr h
 ·intro x xs h;rw[qQ]at h;exact .inl h
 ·intro x xs y a h b hz;rw[ff,aC h]at hz
  rcases cK.1 hz with rfl|hz
  ·exact .inl (by simp)
  ·rcases b hz with h|h
   ·exact .inl (by simp[h])
   ·exact .inr h
 ·intro x xs y a h b hz;rw[ff,aA (by omega),aC h]at hz
  rcases cK.1 hz with rfl|hz
  ·exact .inr (by simp)
  ·rcases b hz with h|h
   ·exact .inl h
   ·exact .inr (by simp[h])
 ·intro x xs y a h b hz;rw[ff,aA (by omega),aA (by omega)]at hz
  rcases cK.1 hz with rfl|hz
  ·exact .inl (by simp)
  ·rcases b hz with h|h
   ·exact .inl (by simp[h])
   ·exact .inr (by simp[h])
theorem Ss {z:Int×Int}(xs a:kq):z∈DD xs a→(∃x∈xs,z.1=x.2)∧∃y∈a,z.2=y.2:=by
 refine nM (C:=λxs a=>z∈DD xs a→(∃x∈xs,z.1=x.2)∧∃y∈a,z.2=y.2) ?_ ?_ ?_ ?_ ?_ _ xs a (aR _)
 ·intro a h;rw[DE]at h;cases h
 ·intro x xs h;rw[zL]at h;cases h
 ·intro x xs y a h b hz;rw[jy,aC h]at hz
  obtain⟨⟨u,hu,e⟩,c⟩:=b hz;exact⟨⟨u,by simp[hu],e⟩,c⟩
 ·intro x xs y a h b hz;rw[jy,aA (by omega),aC h]at hz
  obtain⟨c,⟨u,hu,e⟩⟩:=b hz;exact⟨c,⟨u,by simp[hu],e⟩⟩
 ·intro x xs y a h b hz;rw[jy,aA (by omega),aA (by omega)]at hz
  rcases cK.1 hz with rfl|hz
  ·exact⟨⟨x,by simp,rfl⟩,⟨y,by simp,rfl⟩⟩
  ·obtain⟨⟨u,hu,e⟩,⟨v,d,e2⟩⟩:=b hz
   exact⟨⟨u,by simp[hu],e⟩,⟨v,by simp[d],e2⟩⟩
def lx (l:kq):List Int:=l.map (·.1)
theorem Iw {k:Int}(xs b:kq):k∈lx xs∨k∈lx b→k∈lx (Ah xs b):=by
 refine nM (C:=λxs b=>k∈lx xs∨k∈lx b→k∈lx (Ah xs b)) ?_ ?_ ?_ ?_ ?_ _ xs b (aR _)
 ·intro b h;rw[u9];rcases h with h|h
  ·cases h
  ·exact h
 ·intro x xs h;rw[qQ];rcases h with h|h
  ·exact h
  ·cases h
 ·intro x xs y b h a hk;rw[ff,aC h]
  simp only[lx,List.map_cons,List.mem_cons]at hk a⊢
  rcases hk with(hk|hk)|hk
  ·exact .inl hk
  ·exact .inr (a (.inl hk))
  ·exact .inr (a (.inr hk))
 ·intro x xs y b h a hk;rw[ff,aA (by omega),aC h]
  simp only[lx,List.map_cons,List.mem_cons]at hk a⊢
  rcases hk with hk|hk|hk
  ·exact .inr (a (.inl hk))
  ·exact .inl hk
  ·exact .inr (a (.inr hk))
 ·intro x xs y b h a hk;rw[ff,aA (by omega),aA (by omega)]
  simp only[lx,List.map_cons,List.mem_cons]at hk a⊢
  rcases hk with(hk|hk)|hk|hk
  ·exact .inl hk
  ·exact .inr (a (.inl hk))
  ·exact .inl (by omega)
  ·exact .inr (a (.inr hk))
def sH (l:kq):Prop:=l.Pairwise λx y=>x.1<y.1
theorem Qu (xs a:kq):sH xs→sH a→sH (Ah xs a):=by
 refine nM (C:=λxs a=>sH xs→sH a→sH (Ah xs a)) ?_ ?_ ?_ ?_ ?_ _ xs a (aR _)
 ·intro a _ h;rw[u9];exact h
 ·intro x xs h _;rw[qQ];exact h
 ·intro x xs y a h b hx hy;rw[ff,aC h]
  obtain⟨h1,d⟩:=jW.1 hx;obtain⟨c,e⟩:=jW.1 hy;refine jW.2 ⟨λz hz=> ?_,b d hy⟩
  rcases xo _ _ hz with hz|hz
  ·exact h1 z hz
  ·rcases cK.1 hz with rfl|hz
   ·exact h
   ·have:=c z hz;omega
 ·intro x xs y a h b hx hy;rw[ff,aA (by omega),aC h]
  obtain⟨h1,d⟩:=jW.1 hx;obtain⟨c,e⟩:=jW.1 hy;refine jW.2 ⟨λz hz=> ?_,b hx e⟩
  rcases xo _ _ hz with hz|hz
  ·rcases cK.1 hz with rfl|hz
   ·exact h
   ·have:=h1 z hz;omega
  ·exact c z hz
 ·intro x xs y a h b hx hy;rw[ff,aA (by omega),aA (by omega)]
  obtain⟨h1,d⟩:=jW.1 hx;obtain⟨c,e⟩:=jW.1 hy;refine jW.2 ⟨λz hz=> ?_,b d e⟩
  rcases xo _ _ hz with hz|hz
  ·exact h1 z hz
  ·have:=c z hz;omega
def fy (f:Nat→Nat):Nat→Nat
 |0=>0
 |n+1=>fy f n+f n
theorem zh {f g:Nat→Nat}:∀{n:Nat},(∀i,i<n→f i=g i)→fy f n=fy g n
 |0,_=>rfl
 |n+1,h=>by rw[fy,fy,zh λi a=>h i (by omega),h n (by omega)]
theorem zi {f g:Nat→Nat}{a:Nat}:∀{n:Nat},(∀i,i<n→i≠a→f i=g i)→a<n→fy f n+g a=fy g n+f a
 |0,_,h=>by omega
 |n+1,h,d=>by
  rw[fy,fy]
  by_cases e:a=n
  ·subst e
   rw[zh λi b=>h i (by omega) (by omega)];omega
  ·have:=zi (n:=n) (λi b c=>h i (by omega) c) (by omega)
   rw[h n (by omega) (λx=>e x.symm)];omega
structure Pl where
 ro:List Nat
 ty:List Int
 lk:List kq
def Pl.rt (p:Pl)(i:Nat):Nat:=p.ro.getD i 0
def Pl.tt (p:Pl)(i:Nat):Int:=p.ty.getD i 0
def Pl.ll (p:Pl)(i:Nat):kq:=p.lk.getD i []
def Pl.put (p:Pl)(a b m:Nat):Pl:=⟨p.ro.map λx=>if x=b then a else x,p.ty.set a m,p.lk.set a (Ah (p.ll a) (p.ll b))⟩
def jC (mt:Nat→Nat→Option Nat):Nat→Pl→List (Int×Int)→Option Pl
 |0,_,_=>none
 |_+1,p,[]=>some p
 |f+1,p,x::w=>
  if p.rt x.1.toNat=p.rt x.2.toNat then jC mt f p w
  else match mt (p.tt (p.rt x.1.toNat)).toNat (p.tt (p.rt x.2.toNat)).toNat with
   |none=>none
   |some m=>jC mt f (p.put (p.rt x.1.toNat) (p.rt x.2.toNat) m) ((DD (p.ll (p.rt x.1.toNat)) (p.ll (p.rt x.2.toNat))).reverse++w)
def Pl.left (p:Pl):Nat:=fy (λi=>if p.rt i=i then(p.ll i).length else 0) p.ro.length
def Pl.mu (p:Pl)(w:List (Int×Int)):Nat:=p.left+w.length+1
structure mM (nt nf n:Nat)(p:Pl):Prop where
 lr:p.ro.length=n
 lt:p.ty.length=n
 ll:p.lk.length=n
 AE:∀i,i<n→p.rt i<n
 V3:∀i,i<n→p.rt (p.rt i)=p.rt i
 tys:∀t∈p.ty,0≤t∧t<nt
 QY:∀l∈p.lk,∀x∈l,(0≤x.1∧x.1<nf)∧0≤x.2∧x.2<n
 YA:∀l∈p.lk,sH l
theorem mM.tt {nt nf n:Nat}{p:Pl}(h:mM nt nf n p){i:Nat}(a:i<n):0≤p.tt i∧p.tt i<nt:=by
 unfold Pl.tt;rw[aw,bU (by rw[h.lt];exact a)];exact h.tys _ (iG _)
theorem mM.lm {nt nf n:Nat}{p:Pl}(h:mM nt nf n p){i:Nat}(a:i<n):p.ll i∈p.lk:=by
 unfold Pl.ll;rw[aw,bU (by rw[h.ll];exact a)];exact iG _
theorem Pl.Hc {p:Pl}{a b m i:Nat}(c:i<p.ro.length):(p.put a b m).rt i=if p.rt i=b then a else p.rt i:=by
 unfold Pl.rt Pl.put
 simp only[List.getD_eq_getElem?_getD,List.getElem?_map,List.getElem?_eq_getElem c,Option.map_some,Option.getD_some]
theorem Pl.Oi {p:Pl}{a b m i:Nat}(c:a<p.lk.length):(p.put a b m).ll i=if i=a then Ah (p.ll a) (p.ll b)else p.ll i:=by
 unfold Pl.ll Pl.put
 simp only[List.getD_eq_getElem?_getD]
 by_cases e:i=a
 ·subst e;rw[fT c,aC rfl];rfl
 ·rw[ik (λh=>e h.symm),aA e]
theorem mM.put {nt nf n:Nat}{p:Pl}(h:mM nt nf n p){a b m:Nat}(f:a<n)(j:b<n)(k:p.rt a=a)(hm:m<nt)(o:a≠b):mM nt nf n (p.put a b m):=by
 have g:∀i,i<n→(p.put a b m).rt i=if p.rt i=b then a else p.rt i:=λi d=>Pl.Hc (by rw[h.lr];exact d)
 refine⟨by simp[Pl.put,h.lr],by simp[Pl.put,h.lt],by simp[Pl.put,h.ll],λi d=> ?_,λi d=> ?_,λt ht=> ?_,λl c=> ?_,λl c=> ?_⟩
 ·rw[g i d];split
  ·exact f
  ·exact h.AE i d
 ·rw[g i d];split
  ·rw[g a f,k,aA o]
  ·rename_i e
   rw[g _ (h.AE i d),h.V3 i d,aA e]
 ·rcases lI ht with ht|ht
  ·exact h.tys t ht
  ·subst ht;exact⟨by omega,by omega⟩
 ·rcases lI c with c|c
  ·exact h.QY l c
  ·subst c
   intro x hx
   rcases xo _ _ hx with hx|hx
   ·exact h.QY _ (h.lm f) x hx
   ·exact h.QY _ (h.lm j) x hx
 ·rcases lI c with c|c
  ·exact h.YA l c
  ·subst c
   exact Qu _ _ (h.YA _ (h.lm f)) (h.YA _ (h.lm j))
theorem mM.left {nt nf n:Nat}{p:Pl}(h:mM nt nf n p){a b m:Nat}(d:a<n)(r:b<n)(s:p.rt a=a)(j:p.rt b=b)(k:a≠b):(p.put a b m).left+(DD (p.ll a) (p.ll b)).length=p.left:=by
 have l:∀i,i<n→(p.put a b m).rt i=if p.rt i=b then a else p.rt i:=λi c=>Pl.Hc (by rw[h.lr];exact c)
 have o:∀i,(p.put a b m).ll i=if i=a then Ah (p.ll a) (p.ll b)else p.ll i:=λi=>Pl.Oi (by rw[h.ll];exact d)
 have hlen:=Sv (p.ll a) (p.ll b)
 unfold Pl.left
 have t:(p.put a b m).ro.length=n:=by simp[Pl.put,h.lr]
 rw[t,h.lr]
 -- in u:b is no root any more
 have s1:=zi (n:=n) (a:=b) (f:=λi=>if i=b then 0 else if p.rt i=i then(p.ll i).length else 0) (g:=λi=>if p.rt i=i then(p.ll i).length else 0) (λi _ c=>aA c) r
 have s2:=zi (n:=n) (a:=a) (f:=λi=>if(p.put a b m).rt i=i then((p.put a b m).ll i).length else 0) (g:=λi=>if i=b then 0 else if p.rt i=i then(p.ll i).length else 0) (λi c q=>by
  rw[l i c,o i,aA q]
  by_cases e:p.rt i=b
  ·rw[aC e,aA (λh=>q h.symm)]
   by_cases e2:i=b
   ·rw[aC e2]
   ·rw[aA e2,aA (λh=>e2 (by rw[←e,h]))]
  ·rw[aA e,aA (show i≠b from λv=>e (by rw[v,j]))]) d
 rw[aC rfl,aC j]at s1;rw[l a d,s,aA k,aC rfl,o a,aC rfl,aA k,aC rfl]at s2;omega
def Pl.of (x y:e8):Pl:=⟨List.range (x.length+y.length),x.map (·.1)++y.map (·.1),x.map (·.2)++y.map λn=>n.2.map λl=>(l.1,(x.length:Int)+l.2)⟩
def ph (p:Pl):e8:=(List.range p.ro.length).map λi=>(p.tt i,if p.rt i=i then(p.ll i).map (λl=>(l.1,(p.rt l.2.toNat:Int)))else [])
def lF (g:e8):Nat→List Nat→Nat→List Nat
 |0,o,_=>o
 |f+1,o,i=>if i∈o then o else(g.getD i iK).2.foldl (λo x=>lF g f o x.2.toNat) (o++ [i])
def gl (g:e8)(r:Nat):e8:=let o:=lF g (g.length+1) [] r;o.map λi=>((g.getD i iK).1,(g.getD i iK).2.map λx=>(x.1,(o.idxOf x.2.toNat:Int)))
def dT (mt:Nat→Nat→Option Nat)(x:e8)(node:Nat)(y:e8):Option e8:=
 (jC mt ((Pl.of x y).mu [((node:Int),(x.length:Int))]) (Pl.of x y) [((node:Int),(x.length:Int))]).map λp=>gl (ph p) (p.rt 0)
end Go.Proofs.YtblifkgpebebmaaGreatDoor
