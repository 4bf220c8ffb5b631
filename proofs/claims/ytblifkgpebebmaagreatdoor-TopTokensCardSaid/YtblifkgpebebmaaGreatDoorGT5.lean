/-
  Laws of walks through programs, and facts on grammars, trees and queries.
  Conditions: none.
-/
import Derived.Test.YtblifkgpebebmaaGreatDoorGT4
import Derived.Shelf.Spec.SlicesGrow
set_option maxHeartbeats 1000000
set_option maxRecDepth 20000
set_option linter.unusedVariables false
set_option linter.unusedSimpArgs false
namespace Go.Proofs.YtblifkgpebebmaaGreatDoor
open Go Go.J Tryz
structure dP (nt nf:Nat)(g:dF):Prop where
 pos:0<g.length
 nd:∀n∈g,(0≤n.1∧n.1<nt)∧s7 n.2∧∀x∈n.2,(0≤x.1∧x.1<nf)∧0≤x.2∧x.2<g.length
theorem dP.at_ {nt nf:Nat}{g:dF}(h:dP nt nf g){i:Nat}(hi:i<g.length):(0≤(g.getD i gH).1∧(g.getD i gH).1<nt)∧s7 (g.getD i gH).2∧∀x∈(g.getD i gH).2,(0≤x.1∧x.1<nf)∧0≤x.2∧x.2<g.length:=by
 refine h.nd _ ?_;rw[ak,bO hi];exact gm hi
theorem dP.lk {nt nf:Nat}{g:dF}(h:dP nt nf g):tL g:=⟨h.pos,λn hn x hx=>by
 obtain⟨_,_,h3⟩:=h.nd n hn;obtain⟨h4,h5,h6⟩:=h3 x hx
 exact⟨h4.1,h5,by omega⟩⟩
theorem D8 (F:Int×Int→Int){l:jw}(h:s7 l):s7 (l.map λx=>(x.1,F x)):=by
 unfold s7 at h⊢;rw[rC];exact h
theorem UN {n i:Nat}(h:i<n):(List.range n).getD i 0=i:=by
 rw[ak,kg h];rfl
theorem Pl.QC {nt nf:Nat}{x y:dF}(hx:dP nt nf x)(hy:dP nt nf y):mG nt nf (x.length+y.length) (Pl.of x y):=by
 refine⟨by simp[Pl.of],by simp[Pl.of],by simp[Pl.of],λi hi=> ?_,λi hi=> ?_,λt ht=> ?_,λl hl=> ?_,λl hl=> ?_⟩
 ·show(List.range _).getD i 0<_;rw[UN hi];exact hi
 ·show(List.range _).getD ((List.range _).getD i 0) 0=(List.range _).getD i 0;rw[UN hi,UN hi]
 ·rcases ba.1 ht with h|h<;>obtain⟨n,hn,rfl⟩:=ct.1 h
  ·exact(hx.nd n hn).1
  ·exact(hy.nd n hn).1
 ·rcases ba.1 hl with h|h<;>obtain⟨n,hn,rfl⟩:=ct.1 h<;>intro z hz
  ·obtain⟨h1,h2,h3⟩:=(hx.nd n hn).2.2 z hz
   exact⟨h1,h2,by omega⟩
  ·obtain⟨u,hu,rfl⟩:=ct.1 hz
   obtain⟨h1,h2,h3⟩:=(hy.nd n hn).2.2 u hu;exact⟨h1,by dsimp only;omega,by dsimp only;omega⟩
 ·rcases ba.1 hl with h|h<;>obtain⟨n,hn,rfl⟩:=ct.1 h
  ·exact(hx.nd n hn).2.1
  ·exact D8 _ (hy.nd n hn).2.1
def D9 (n:Nat)(w:List (Int×Int)):Prop:=∀x∈w,(0≤x.1∧x.1<n)∧0≤x.2∧x.2<n
theorem D9.rt {n:Nat}{x:Int×Int}{w:List (Int×Int)}(h:D9 n (x::w)):x.1.toNat<n∧x.2.toNat<n:=by
 obtain⟨h1,h2⟩:=h x (by simp);exact⟨by omega,by omega⟩
theorem D9.put {nt nf n:Nat}{p:Pl}(hp:mG nt nf n p){a b:Nat}(ha:a<n)(hb:b<n){w:List (Int×Int)}(h:D9 n w):D9 n ((D6 (p.ll a) (p.ll b)).reverse++w):=λz hz=>by
 rcases ba.1 hz with hz|hz
 ·obtain⟨⟨u,hu,e1⟩,⟨v,hv,e2⟩⟩:=UL _ _ (List.mem_reverse.1 hz)
  have h1:=(hp.SP _ (hp.lm ha) u hu).2
  have h2:=(hp.SP _ (hp.lm hb) v hv).2
  exact⟨by rw[e1];exact h1,by rw[e2];exact h2⟩
 ·exact h z hz
def yn (nt:Nat)(mt:Nat→Nat→Option Nat):Prop:=∀a b m,mt a b=some m→m<nt
theorem MG {mt:Nat→Nat→Option Nat}{p:Pl}{x:Int×Int}{w:List (Int×Int)}(h:p.rt x.1.toNat=p.rt x.2.toNat):iQ mt (p.mu (x::w)) p (x::w)=iQ mt (p.mu w) p w:=by
 have e:p.mu (x::w)=p.mu w+1:=by unfold Pl.mu;simp only[List.length_cons];omega
 rw[e,iQ,aB h]
theorem KO {mt:Nat→Nat→Option Nat}{p:Pl}{x:Int×Int}{w:List (Int×Int)}(h:p.rt x.1.toNat≠p.rt x.2.toNat)(hm:mt (p.tt (p.rt x.1.toNat)).toNat (p.tt (p.rt x.2.toNat)).toNat=none):iQ mt (p.mu (x::w)) p (x::w)=none:=by
 have e:p.mu (x::w)=p.mu w+1:=by unfold Pl.mu;simp only[List.length_cons];omega
 rw[e,iQ,aA h,hm]
theorem QD {nt nf n:Nat}{mt:Nat→Nat→Option Nat}{p:Pl}(hp:mG nt nf n p){x:Int×Int}{w:List (Int×Int)}{m:Nat}(hx:x.1.toNat<n∧x.2.toNat<n)(h:p.rt x.1.toNat≠p.rt x.2.toNat)(hm:mt (p.tt (p.rt x.1.toNat)).toNat (p.tt (p.rt x.2.toNat)).toNat=some m):
 iQ mt (p.mu (x::w)) p (x::w)=iQ mt ((p.put (p.rt x.1.toNat) (p.rt x.2.toNat) m).mu ((D6 (p.ll (p.rt x.1.toNat)) (p.ll (p.rt x.2.toNat))).reverse++w)) (p.put (p.rt x.1.toNat) (p.rt x.2.toNat) m) ((D6 (p.ll (p.rt x.1.toNat)) (p.ll (p.rt x.2.toNat))).reverse++w):=by
 have hl:=hp.left (m:=m) (hp.xS _ hx.1) (hp.xS _ hx.2) (hp.Ww _ hx.1) (hp.Ww _ hx.2) h
 have e:p.mu (x::w)=(p.put (p.rt x.1.toNat) (p.rt x.2.toNat) m).mu ((D6 (p.ll (p.rt x.1.toNat)) (p.ll (p.rt x.2.toNat))).reverse++w)+1:=by
  unfold Pl.mu;simp only[List.length_cons,List.length_append,List.length_reverse];omega
 rw[e,iQ,aA h,hm]
theorem MH {mt:Nat→Nat→Option Nat}{p:Pl}:iQ mt (p.mu []) p []=some p:=by
 show iQ mt (p.left+0+1) p []=_;rw[iQ]
theorem DA {nt nf n:Nat}{mt:Nat→Nat→Option Nat}(qC:yn nt mt):∀(f:Nat) (p:Pl) (w:List (Int×Int)) (q:Pl),mG nt nf n p→D9 n w→iQ mt f p w=some q→mG nt nf n q∧∀i,i<n→∀k∈lE (p.ll (p.rt i)),k∈lE (q.ll (q.rt i))
 |0,_,_,_,_,_,h=>by cases h
 |f+1,p,[],q,hp,_,h=>by
  rw[iQ]at h;obtain rfl:=Option.some.inj h;exact⟨hp,λ_ _ _ h=>h⟩
 |f+1,p,x::w,q,hp,hw,h=>by
  have hx:=hw.rt
  have Ay:D9 n w:=λz hz=>hw z (by simp[hz])
  rw[iQ]at h
  split at h
  ·exact DA qC f p w q hp Ay h
  ·rename_i fP
   split at h
   ·cases h
   ·rename_i m hm
    have ha:=hp.xS _ hx.1
    have hb:=hp.xS _ hx.2
    have FT:=hp.Ww _ hx.1
    have w8:=hp.Ww _ hx.2
    have rP:=hp.put (b:=p.rt x.2.toNat) ha hb FT (qC _ _ _ hm) fP
    obtain⟨h1,h2⟩:=DA qC f _ _ q rP (Ay.put hp ha hb) h;refine⟨h1,λi hi k hk=>h2 i hi k ?_⟩;rw[Pl.IM (by rw[hp.lr];exact hi),Pl.QB (by rw[hp.ll];exact ha)]
    by_cases e:p.rt i=p.rt x.2.toNat
    ·rw[aB e,aB rfl];rw[e]at hk;exact KN _ _ (.inr hk)
    ·rw[aA e]
     split
     ·rename_i e2;rw[e2]at hk;exact KN _ _ (.inl hk)
     ·exact hk
theorem tT (p:Pl):(pV p).length=p.ro.length:=by simp[pV]
theorem Yy {p:Pl}{i:Nat}(h:i<p.ro.length):(pV p).getD i gH=(p.tt i,if p.rt i=i then(p.ll i).map (λl=>(l.1,(p.rt l.2.toNat:Int)))else []):=by
 unfold pV
 rw[ak,bE,kg h];rfl
theorem QE {nt nf n:Nat}{p:Pl}(hp:mG nt nf n p)(hn:0<n):dP nt nf (pV p):=by
 refine⟨by rw[tT,hp.lr];exact hn,λd hd=> ?_⟩;unfold pV at hd;obtain⟨i,hi,rfl⟩:=ct.1 hd;rw[cy,hp.lr]at hi;rw[tT,hp.lr];refine⟨hp.tt hi,?_,λx hx=> ?_⟩
 ·dsimp only;split
  ·exact D8 _ (hp.asc _ (hp.lm hi))
  ·exact List.Pairwise.nil
 ·dsimp only at hx
  split at hx
  ·obtain⟨u,hu,rfl⟩:=ct.1 hx
   obtain⟨h1,h2,h3⟩:=hp.SP _ (hp.lm hi) u hu
   have:=hp.xS u.2.toNat (by omega)
   exact⟨h1,by dsimp only;omega,by dsimp only;omega⟩
  ·cases hx
def MI (n:Nat)(o:List Nat):Nat:=((List.range n).filter λj=>decide (j∉o)).length
theorem FU {n:Nat}{o o':List Nat}(h:∀j∈o,j∈o'):MI n o'≤MI n o:=by
 unfold MI;rw[←JN,←JN]
 refine List.countP_mono_left λj _ hj=> ?_
 rw[fS]at hj⊢
 exact λhh=>hj (h j hh)
theorem FV {n:Nat}{o:List Nat}{i:Nat}(hi:i<n)(hn:i∉o):MI n (o++ [i])<MI n o:=by
 unfold MI;rw[←JN,←JN]
 have key:∀l:List Nat,i∈l→l.Nodup→l.countP (λj=>decide (j∉o++ [i]))+1≤l.countP (λj=>decide (j∉o)):=by
  intro l
  induction l with
  |nil=>intro h;cases h
  |cons x l ih=>
   intro hm hd;obtain⟨hx,hd⟩:=List.nodup_cons.1 hd;rw[r8,r8]
   by_cases e:x=i
   ·subst e
    rw[aA (by simp),aB (by simpa using hn)]
    have:=List.countP_mono_left (l:=l) (p:=λj=>decide (j∉o++ [x])) (q:=λj=>decide (j∉o)) (λj _ hj=>by
     rw[fS]at hj⊢;exact λhh=>hj (by simp[hh]))
    omega
   ·have:=ih ((cD.1 hm).resolve_left λh=>e h.symm) hd
    have e2:decide (x∉o++ [i])=decide (x∉o):=by rw[decide_eq_decide];simp[e]
    rw[e2];omega
 have:=key (List.range n) (cy.2 hi) List.nodup_range
 omega
theorem KP (n:Nat):MI n []=n:=by
 unfold MI;rw[List.filter_eq_self.2 (by simp),iJ]
def mP (g:dF)(f:Nat)(o:List Nat)(l:jw):List Nat:=l.foldl (λo x=>kL g f o x.2.toNat) o
theorem jr (g:dF)(f:Nat)(o:List Nat)(i:Nat):kL g (f+1) o i=if i∈o then o else mP g f (o++ [i]) (g.getD i gH).2:=rfl
theorem Bh (g:dF)(f:Nat)(o:List Nat)(l:jw)(x:Int×Int):mP g f o (l++ [x])=kL g f (mP g f o l) x.2.toNat:=by
 unfold mP;rw[An];rfl
structure DB (g:dF)(o:List Nat):Prop where
 nd:o.Nodup
 lt:∀j∈o,j<g.length
theorem KQ (g:dF):∀(f:Nat) (o:List Nat) (i:Nat),o<+:kL g f o i:=by
 intro f
 induction f with
 |zero=>intro o i;exact List.prefix_refl _
 |succ f ih=>
  intro o i;rw[jr]
  split
  ·exact List.prefix_refl _
  ·have:∀(l:jw) (o:List Nat),o<+:mP g f o l:=by
    intro l
    induction l with
    |nil=>intro o;exact List.prefix_refl _
    |cons x l Ym=>intro o;exact(ih o _).trans (Ym _)
   exact(List.prefix_append o [i]).trans (this _ _)
theorem qD (g:dF)(f:Nat):∀(l:jw) (o:List Nat),o<+:mP g f o l
 | [],o=>List.prefix_refl _
 |x::l,o=>(KQ g f o _).trans (qD g f l _)
theorem UO (g:dF)(f:Nat)(o:List Nat)(i:Nat){j:Nat}(h:j∈o):j∈kL g f o i:=(KQ g f o i).subset h
theorem QF {g:dF}(hg:tL g):∀(f:Nat) (o:List Nat) (i:Nat),DB g o→i<g.length→DB g (kL g f o i):=by
 intro f
 induction f with
 |zero=>intro o i h _;exact h
 |succ f ih=>
  intro o i h hi;rw[jr]
  split
  ·exact h
  ·rename_i hn
   have h1:DB g (o++ [i]):=⟨by rw[List.nodup_append];exact⟨h.nd,by simp,by intro a ha b hb;rw[bJ.1 hb];rintro rfl;exact hn ha⟩,λj hj=>by
    rcases ba.1 hj with hj|hj
    ·exact h.lt j hj
    ·rw[bJ.1 hj];exact hi⟩
   have:∀(l:jw) (o:List Nat),(∀x∈l,x.2.toNat<g.length)→DB g o→DB g (mP g f o l):=by
    intro l
    induction l with
    |nil=>intro o _ h;exact h
    |cons x l Ym=>intro o hl h;exact Ym _ (λy hy=>hl y (by simp[hy])) (ih _ _ h (hl x (by simp)))
   exact this _ _ (λx hx=>(hg.at_ hx).2.2) h1
theorem Yz {g:dF}{f:Nat}{o:List Nat}{i:Nat}:i∈kL g (f+1) o i:=by
 rw[jr]
 split
 ·rename_i h;exact h
 ·exact(qD g f _ _).subset (by simp)
theorem UP {g:dF}(hg:tL g):∀(f:Nat) (o:List Nat) (i:Nat),i<g.length→MI g.length o<f→∀j∈kL g f o i,j∈o∨∀x∈(g.getD j gH).2,x.2.toNat∈kL g f o i:=by
 intro f
 induction f with
 |zero=>intro o i _ h;omega
 |succ f ih=>
  intro o i hi hu j hj;rw[jr]at hj⊢
  split at hj
  ·exact .inl hj
  ·rename_i hn
   rw[aA hn]
   have zz:=FV hi hn
   have step:∀(l:jw) (o:List Nat),(∀x∈l,x.2.toNat<g.length)→MI g.length o<f→(∀j∈mP g f o l,j∈o∨∀x∈(g.getD j gH).2,x.2.toNat∈mP g f o l)∧∀x∈l,x.2.toNat∈mP g f o l:=by
    intro l
    induction l with
    |nil=>intro o _ _;exact⟨λj hj=> .inl hj,λx hx=>by cases hx⟩
    |cons x l Ym=>
     intro o hl hu
     have hm:=FU (n:=g.length) (o:=o) (o':=kL g f o x.2.toNat) λj hj=>UO g f o _ hj
     obtain⟨a1,a2⟩:=Ym (kL g f o x.2.toNat) (λy hy=>hl y (by simp[hy])) (by omega)
     have hp:=(qD g f l (kL g f o x.2.toNat)).subset
     refine⟨λj hj=> ?_,λy hy=> ?_⟩
     ·rcases a1 j hj with h|h
      ·rcases ih o x.2.toNat (hl x (by simp)) hu j h with h|h
       ·exact .inl h
       ·exact .inr λy hy=>hp (h y hy)
      ·exact .inr h
     ·rcases cD.1 hy with rfl|hy
      ·cases f with
       |zero=>omega
       |succ f=>exact hp Yz
      ·exact a2 y hy
   obtain⟨a1,a2⟩:=step (g.getD i gH).2 (o++ [i]) (λx hx=>(hg.at_ hx).2.2) (by omega)
   rcases a1 j hj with h|h
   ·rcases ba.1 h with h|h
    ·exact .inl h
    ·rw[bJ.1 h];exact .inr a2
   ·exact .inr h
def wW (g:dF)(r:Nat):List Nat:=kL g (g.length+1) [] r
theorem QG {g:dF}(hg:tL g){r:Nat}(hr:r<g.length):DB g (wW g r)∧(∀j∈wW g r,∀x∈(g.getD j gH).2,x.2.toNat∈wW g r)∧(wW g r)[0]?=some r:=by
 refine⟨QF hg _ _ _ ⟨List.nodup_nil,λj hj=>by cases hj⟩ hr,λj hj=> ?_,?_⟩
 ·rcases UP hg _ _ _ hr (by rw[KP];omega) j hj with h|h
  ·cases h
  ·exact h
 ·unfold wW
  rw[jr,aA (by simp)];obtain⟨t,ht⟩:=qD g g.length (g.getD r gH).2 ([]++ [r])
  rw[←ht];rfl
theorem js {o:List Nat}{n:Nat}(h:o.Nodup)(hl:∀j∈o,j<n):o.length≤n:=by
 have:o.length≤(List.range n).length:=h.length_le_of_subset λj hj=>cy.2 (hl j hj)
 rwa[iJ]at this
theorem tU (g:dF)(r:Nat):ff g r=(wW g r).map λi=>((g.getD i gH).1,(g.getD i gH).2.map λx=>(x.1,((wW g r).idxOf x.2.toNat:Int))):=rfl
theorem tV {nt nf:Nat}{g:dF}(hg:dP nt nf g){r:Nat}(hr:r<g.length):dP nt nf (ff g r)∧(ff g r).length≤g.length∧lE ((ff g r).getD 0 gH).2=lE (g.getD r gH).2:=by
 obtain⟨h1,h2,h3⟩:=QG hg.lk hr
 have nc:0<(wW g r).length:=by
  cases e:wW g r with
  |nil=>rw[e]at h3;cases h3
  |cons=>simp
 refine⟨⟨by rw[tU,aQ];exact nc,λd hd=> ?_⟩,by rw[tU,aQ];exact js h1.nd h1.lt,?_⟩
 ·rw[tU]at hd
  obtain⟨i,hi,rfl⟩:=ct.1 hd;obtain⟨a1,a2,a3⟩:=hg.at_ (h1.lt i hi);refine⟨a1,D8 _ a2,λx hx=> ?_⟩;obtain⟨u,hu,rfl⟩:=ct.1 hx
  have:=List.idxOf_lt_length_iff.2 (h2 i hi u hu)
  rw[tU,aQ];exact⟨(a3 u hu).1,by dsimp only;omega,by dsimp only;omega⟩
 ·rw[tU,ak,bE,h3]
  simp[lE,List.map_map,Function.comp_def]
theorem UQ {nt nf:Nat}{mt:Nat→Nat→Option Nat}(qC:yn nt mt){x y z:dF}(hx:dP nt nf x)(hy:dP nt nf y){node:Nat}(hn:node<x.length)(h:cm mt x node y=some z):
 dP nt nf z∧z.length≤x.length+y.length∧∀k∈lE (x.getD 0 gH).2,k∈lE (z.getD 0 gH).2:=by
 have wi:=hx.pos
 have hy0:=hy.pos
 obtain⟨p,hp,rfl⟩:=dG.1 h;obtain⟨h1,h2⟩:=DA qC _ _ _ p (Pl.QC hx hy) (λu hu=>by rw[bJ.1 hu];exact⟨⟨by dsimp only;omega,by dsimp only;omega⟩,by dsimp only;omega,by dsimp only;omega⟩) hp
 have hg:=QE h1 (by omega)
 have hr:=h1.xS 0 (by omega)
 obtain⟨f1,f2,f3⟩:=tV hg (r:=p.rt 0) (by rw[tT,h1.lr];exact hr);rw[tT,h1.lr]at f2;refine⟨f1,f2,λk hk=> ?_⟩;rw[f3,Yy (by rw[h1.lr];exact hr),aB (h1.Ww 0 (by omega))]
 have h3:=h2 0 (by omega) k (by
  show k∈lE ((Pl.of x y).lk.getD ((List.range _).getD 0 0) [])
  rw[UN (by omega)]
  show k∈lE ((x.map (·.2)++_).getD 0 [])
  rw[ak,pd (by simpa using wi),bE];rw[ak]at hk
  cases e:x[0]? with
  |none=>rw[e]at hk;exact hk
  |some d=>rw[e]at hk;exact hk)
 simpa[lE,List.map_map,Function.comp_def]using h3
structure UR (rk:Nat→Nat)(B:Nat)(P R:List Nat):Prop where
 len:P.length=R.length
 lt:∀i,i<R.length→P.getD i 0<R.length
 rt:∀i,i<R.length→R.getD (P.getD i 0) 0=R.getD i 0
 me:∀i,i<R.length→(P.getD i 0=i↔R.getD i 0=i)
 up:∀i,i<R.length→P.getD i 0≠i→rk i<rk (P.getD i 0)
 le:∀i,i<R.length→rk i≤B
def UF (P R:List Nat):Prop:=∃rk B,UR rk B P R
theorem FW {α:Type}{l:List α}{i j:Nat}{x d:α}(h:i<l.length):(l.set i x).getD j d=if j=i then x else l.getD j d:=by
 rw[ak,ak]
 by_cases e:j=i
 ·subst e;rw[eP h,aB rfl];rfl
 ·rw[gX (λh=>e h.symm),aA e]
theorem UR.aeX {rk:Nat→Nat}{B:Nat}{P R:List Nat}(h:UR rk B P R){i:Nat}(hi:i<R.length)(fP:P.getD i 0≠i):
 UR rk B (P.set i (P.getD (P.getD i 0) 0)) R∧rk i<rk (P.getD (P.getD i 0) 0)∧R.getD (P.getD (P.getD i 0) 0) 0=R.getD i 0∧P.getD (P.getD i 0) 0<R.length:=by
 have h1:=h.lt i hi
 have h2:=h.lt _ h1
 have u1:=h.up i hi fP
 have hr:R.getD (P.getD (P.getD i 0) 0) 0=R.getD i 0:=by rw[h.rt _ h1,h.rt i hi]
 have u2:rk i<rk (P.getD (P.getD i 0) 0):=by
  by_cases e:P.getD (P.getD i 0) 0=P.getD i 0
  ·rw[e];exact u1
  ·have:=h.up _ h1 e;omega
 have hg:∀j,(P.set i (P.getD (P.getD i 0) 0)).getD j 0=if j=i then P.getD (P.getD i 0) 0 else P.getD j 0:=λj=>FW (by rw[h.len];exact hi)
 refine⟨⟨by rw[cG];exact h.len,λj hj=> ?_,λj hj=> ?_,λj hj=> ?_,λj hj hn=> ?_,h.le⟩,u2,hr,h2⟩
 ·rw[hg];split
  ·exact h2
  ·exact h.lt j hj
 ·rw[hg];split
  ·rename_i e;rw[e];exact hr
  ·exact h.rt j hj
 ·rw[hg];split
  ·rename_i e;subst e
   refine⟨λe=> ?_,λe=>absurd ((h.me j hj).2 e) fP⟩
   rw[e]at u2;omega
  ·exact h.me j hj
 ·rw[hg]at hn⊢
  split
  ·rename_i e;subst e;exact u2
  ·rename_i e;rw[aA e]at hn;exact h.up j hj hn
theorem UR.put {rk:Nat→Nat}{B:Nat}{P R:List Nat}(h:UR rk B P R){a b:Nat}(ha:a<R.length)(hb:b<R.length)(FT:R.getD a 0=a)(w8:R.getD b 0=b)(fP:a≠b):
 UF (P.set b a) (R.map λx=>if x=b then a else x):=by
 have hg:∀j,(P.set b a).getD j 0=if j=b then a else P.getD j 0:=λj=>FW (by rw[h.len];exact hb)
 have hm:∀j,j<R.length→(R.map λx=>if x=b then a else x).getD j 0=if R.getD j 0=b then a else R.getD j 0:=λj hj=>by
  simp only[List.getD_eq_getElem?_getD,List.getElem?_map,List.getElem?_eq_getElem hj,Option.map_some,Option.getD_some]
 have hpa:=(h.me a ha).2 FT
 refine⟨λx=>if x=a then rk a+rk b+1 else rk x,B+B+1,by rw[cG,aQ];exact h.len,λj hj=> ?_,λj hj=> ?_,λj hj=> ?_,λj hj hn=> ?_,λj hj=> ?_⟩<;>rw[aQ]at hj
 ·rw[hg,aQ];split
  ·exact ha
  ·exact h.lt j hj
 ·rw[hg,hm j hj];split
  ·rename_i e;subst e
   rw[hm a ha,FT,aA fP,w8,aB rfl]
  ·rw[hm _ (h.lt j hj),h.rt j hj]
 ·rw[hg,hm j hj]
  by_cases e:j=b
  ·subst e;rw[aB rfl,w8,aB rfl]
  ·rw[aA e]
   by_cases e2:R.getD j 0=b
   ·rw[aB e2]
    refine⟨λe3=> ?_,λe3=> ?_⟩
    ·have:=(h.me j hj).1 e3;rw[this]at e2;exact absurd e2 e
    ·subst e3;rw[FT]at e2;exact absurd e2 fP
   ·rw[aA e2];exact h.me j hj
 ·rw[hg]at hn⊢
  by_cases e:j=b
  ·subst e
   rw[aB rfl,aA (λx=>fP x.symm),aB rfl];omega
  ·rw[aA e]at hn⊢
   have hu:=h.up j hj hn
   have hja:j≠a:=λx=>by rw[x]at hn;exact hn hpa
   rw[aA hja]
   split
   ·rename_i e2;rw[e2]at hu;omega
   ·exact hu
 ·have:=h.le j hj
  have:=h.le a ha
  have:=h.le b hb
  split<;>omega
theorem UF.range (n:Nat):UF (List.range n) (List.range n):=
 ⟨λ_=>0,0,rfl,λi hi=>by rw[iJ]at hi⊢;rw[UN hi];exact hi,λi hi=>by rw[iJ]at hi;rw[UN hi,UN hi],λi hi=>Iff.rfl,λi hi h=>by rw[iJ]at hi;exact absurd (UN hi) h,λi hi=>aW _⟩
structure Dr (x0 y0 l x y:jw)(w:List (Int×Int)):Prop where
 l:l++AN x y=AN x0 y0
 w:w++D6 x y=D6 x0 y0
theorem Dr.start (x y:jw):Dr x y [] x y []:=⟨rfl,rfl⟩
theorem Dr.lt {x0 y0 l x y:jw}{w:List (Int×Int)}{a b:Int×Int}(h:Dr x0 y0 l (a::x) (b::y) w)(hc:a.1<b.1):Dr x0 y0 (l++ [a]) x (b::y) w:=by
 obtain⟨h1,h2⟩:=h;rw[ef,aB hc]at h1;rw[jT,aB hc]at h2;exact⟨by rw[cg];exact h1,h2⟩
theorem Dr.gt {x0 y0 l x y:jw}{w:List (Int×Int)}{a b:Int×Int}(h:Dr x0 y0 l (a::x) (b::y) w)(hc:b.1<a.1):Dr x0 y0 (l++ [b]) (a::x) y w:=by
 obtain⟨h1,h2⟩:=h
 have hn:¬a.1<b.1:=by omega
 rw[ef,aA hn,aB hc]at h1;rw[jT,aA hn,aB hc]at h2;exact⟨by rw[cg];exact h1,h2⟩
theorem Dr.eq {x0 y0 l x y:jw}{w:List (Int×Int)}{a b:Int×Int}(h:Dr x0 y0 l (a::x) (b::y) w)(hc:a.1=b.1):Dr x0 y0 (l++ [a]) x y (w++ [(a.2,b.2)]):=by
 obtain⟨h1,h2⟩:=h
 have hn:¬a.1<b.1:=by omega
 have SE:¬b.1<a.1:=by omega
 rw[ef,aA hn,aA SE]at h1;rw[jT,aA hn,aA SE]at h2;exact⟨by rw[cg];exact h1,by rw[cg];exact h2⟩
theorem Dr.fin {x0 y0 l x y:jw}{w:List (Int×Int)}(h:Dr x0 y0 l x y w)(he:x=[]∨y=[]):l++(x++y)=AN x0 y0∧w=D6 x0 y0:=by
 obtain⟨h1,h2⟩:=h
 rcases he with rfl|rfl
 ·rw[tS]at h1;rw[D7,fj]at h2;exact⟨h1,h2⟩
 ·rw[qB]at h1;rw[yj,fj]at h2;exact⟨by rw[fj];exact h1,h2⟩
def fg (T:List dz)(a b:Nat):Option Nat:=match comm T a b with
 | []=>none
 |m::_=>if jO T a b=true then none else some m
def lF (x:dF):dF:=ff x (qp x 0).toNat
def mQ (mt:Nat→Nat→Option Nat)(x:dF)(gi:Int)(y:dF):Option dF:=match cm mt x (qp x gi).toNat y with
 |some z=>if z.length≤60 then some z else none
 |none=>none
structure p5 where
 frm:Nat
 tqo:Nat
 cQ:Nat
 gr:dF
structure uz where
 rule:Int
 lex:Int
 kids:List Nat
structure kZ where
 ed:p5
 bx:List uz
 bN:List Int
def ed0:p5:=⟨0,0,0,[]⟩
def fQ:kZ:=⟨ed0,[],[]⟩
structure Cs where
 its:List kZ
 sp:List (List Nat)
def jU (i:Int):UInt8:=UInt8.ofNat (i%256).toNat
def vA (l:jw):bI:=l.flatMap λx=>[jU x.1,jU x.2]
def yo (g:dF):bI:=g.flatMap λn=>jU n.1::jU (n.2.length:Nat)::vA n.2
def ea (e:p5):bI:=jU (e.frm:Nat)::jU (e.tqo:Nat)::jU (e.cQ:Nat)::yo e.gr
def xG (its:List kZ)(k:bI):Option Nat:=its.findIdx? λit=>decide (ea it.ed=k)
def s8 (w:uz):Int:=if w.rule<0 then 1000+w.lex else w.rule
def kZ.put (it:kZ)(w:uz):kZ:=⟨it.ed,it.bx++ [w],if s8 w∈it.bN then it.bN else it.bN++ [s8 w]⟩
def jt (n:Nat)(cs:Cs)(e:p5)(w:uz):Cs:=match xG cs.its (ea e)with
 |some i=>⟨cs.its.modify i λit=>it.put w,cs.sp⟩
 |none=>⟨cs.its++ [(⟨e,[],[]⟩:kZ).put w],cs.sp.modify (e.frm*(n+1)+e.tqo) λl=>l++ [cs.its.length]⟩
structure Qr where
 n:Nat
 mt:Nat→Nat→Option Nat
 adm:Nat→Nat→Int→Bool
 rules:List CZ
 aN:List HJ
def Cs.at_ (cs:Cs)(n i j:Nat):List Nat:=cs.sp.getD (i*(n+1)+j) []
def Cs.ed (cs:Cs)(e:Nat):p5:=(cs.its.getD e fQ).ed
def Z0 (Q:Qr)(cs:Cs)(rule gi e:Nat):Bool:=(cs.its.getD e fQ).bN.any (Q.adm rule gi)
def ka (Q:Qr)(cs:Cs)(rule:Nat)(x:dF)(gi e:Nat):Option dF:=if Z0 Q cs rule gi e=true then mQ Q.mt x gi (cs.ed e).gr else none
def vB (Q:Qr)(rule frm tqo:Nat):Nat→Cs→dF→List Nat→Nat→Cs
 |0,cs,x,kids,a=>(cs.at_ Q.n a tqo).foldl (λcs e=>match ka Q cs rule x (kids.length+1) e with
  |none=>cs
  |some y=>jt Q.n cs ⟨frm,tqo,0,lF y⟩ ⟨rule,0,kids++ [e]⟩) cs
 |l+1,cs,x,kids,a=>(List.range' (a+1) (tqo-(l+1)-a)).foldl (λcs en=>(cs.at_ Q.n a en).foldl (λcs e=>match ka Q cs rule x (kids.length+1) e with
  |none=>cs
  |some y=>vB Q rule frm tqo l cs y (kids++ [e]) en) cs) cs
def qE (Q:Qr)(frm tqo e:Nat)(cs:Cs)(i:Nat):Cs:=
 if(Q.rules.getD i nz).kids≠1 then cs else match ka Q cs i (Q.rules.getD i nz).graph 1 e with
  |none=>cs
  |some x=>jt Q.n cs ⟨frm,tqo,(cs.ed e).cQ+1,lF x⟩ ⟨i,0,[e]⟩
def qF (Q:Qr)(frm tqo:Nat):Nat→Nat→Cs→Cs
 |0,_,cs=>cs
 |f+1,k,cs=>if k<(cs.at_ Q.n frm tqo).length then
   (if(cs.ed ((cs.at_ Q.n frm tqo).getD k 0)).cQ=3 then qF Q frm tqo f (k+1) cs
    else qF Q frm tqo f (k+1) ((List.range Q.rules.length).foldl (qE Q frm tqo ((cs.at_ Q.n frm tqo).getD k 0)) cs))
  else cs
def fh (Q:Qr):Nat:=Q.rules.countP λr=>decide (r.kids=1)
def jV (r:Nat):Nat→Nat
 |0=>0
 |k+1=>r*(1+jV r k)
def qG (Q:Qr)(cs:Cs)(l:List Nat):Nat:=(l.map λe=>1+jV (fh Q) (3-(cs.ed e).cQ)).sum
def qq (Q:Qr)(w:bI)(frm tqo:Nat)(cs:Cs)(i:Nat):Cs:=if(Q.aN.getD i SC).word=w then jt Q.n cs ⟨frm,tqo,0,ff (Q.aN.getD i SC).graph 0⟩ ⟨-1,i,[]⟩else cs
def qs (Q:Qr)(frm tqo:Nat)(cs:Cs)(i:Nat):Cs:=if 1<(Q.rules.getD i nz).kids∧(Q.rules.getD i nz).kids≤(tqo:Int)-frm then vB Q i frm tqo ((Q.rules.getD i nz).kids.toNat-1) cs (Q.rules.getD i nz).graph [] frm else cs
def mR (Q:Qr)(words:List bI)(frm tqo:Nat)(cs:Cs):Cs:=
 if tqo=frm+1 then(List.range Q.aN.length).foldl (qq Q (words.getD frm []) frm tqo) cs else(List.range Q.rules.length).foldl (qs Q frm tqo) cs
def p6 (Q:Qr)(words:List bI)(frm tqo:Nat)(cs:Cs):Cs:=
 qF Q frm tqo (qG Q (mR Q words frm tqo cs) ((mR Q words frm tqo cs).at_ Q.n frm tqo)+1) 0 (mR Q words frm tqo cs)
def AO (Q:Qr)(words:List bI)(len:Nat):Nat→Nat→Cs→Option Cs
 |0,_,cs=>some cs
 |m+1,frm,cs=>if 300<(p6 Q words frm (frm+len) cs).its.length then none else AO Q words len m (frm+1) (p6 Q words frm (frm+len) cs)
def yp (Q:Qr)(words:List bI):Nat→Nat→Cs→Option Cs
 |0,_,cs=>some cs
 |m+1,len,cs=>(AO Q words len (Q.n+1-len) 0 cs).bind λcs=>yp Q words m (len+1) cs
def lG (a b:Int):Int:=if a<b then-1 else if b<a then 1 else 0
def sL (a b:Int):Int:=if a=0 then b else a
def je {α:Type}(f:α→α→Int):List α→List α→Int
 | [],[]=>0
 | [],_::_=> -1
 |_::_,[]=>1
 |a::l,b::m=>if f a b≠0 then f a b else je f l m
def FX (p q:Int×Int):Int:=sL (lG p.1 q.1) (lG p.2 q.2)
def wX (x y:My):Int:=sL (lG x.1 y.1) (sL (lG x.2.length y.2.length) (je FX x.2 y.2))
def xH (x y:p5):Int:=sL (lG x.frm y.frm) (sL (lG x.tqo y.tqo) (sL (lG x.cQ y.cQ) (je wX x.gr y.gr)))
def MJ {α:Type}(f:α→α→Int)(a:α):List α→List α
 | []=>[a]
 |b::l=>if f a b<0 then a::b::l else b::MJ f a l
def US {α:Type}(f:α→α→Int):List α→List α
 | []=>[]
 |a::l=>MJ f a (US f l)
def kM (its:List kZ):List Nat:=US (λi j=>xH (its.getD i fQ).ed (its.getD j fQ).ed) (List.range its.length)
def p7 (o:List Nat)(i:Nat):Nat:=o.idxOf i
def fU (its:List kZ):List kZ:=(kM its).map λi=>⟨(its.getD i fQ).ed,(its.getD i fQ).bx.map λw=>⟨w.rule,w.lex,w.kids.map (p7 (kM its))⟩,(its.getD i fQ).bN⟩
def IP (mt:Nat→Nat→Option Nat)(n:Nat)(start:dF)(its:List kZ):List Nat:=(List.range its.length).filter λi=>decide ((its.getD i fQ).ed.frm=0)&&decide ((its.getD i fQ).ed.tqo=n)&&(cm mt (its.getD i fQ).ed.gr 0 start).isSome
def IQ (g:ob):List dF:=g.rules.map (λr=>lF r.graph)++g.aN.map (·.graph)
def IU (g:ob)(top:Int):Int:=if 0≤top∧top<g.rules.length then top else if 1000≤top∧top<1000+g.aN.length then g.rules.length+top-1000 else-1
def Z1 (g:ob)(mt:Nat→Nat→Option Nat)(rule gi:Nat)(top:Int):Bool:=
 decide (0≤IU g top)&&decide (rule<g.rules.length)&&decide (1≤gi)&&decide ((gi:Int)≤(g.rules.getD rule nz).kids)&&(cm mt (g.rules.getD rule nz).graph (qp (g.rules.getD rule nz).graph gi).toNat ((IQ g).getD (IU g top).toNat [])).isSome
def qrG (g:ob)(words:List bI):Qr:=⟨words.length,fg g.types,Z1 g (fg g.types),g.rules,g.aN⟩
def wY:Nat→List bI→Int×Int
 |_,[]=>(0,0)
 |i,w::l=>if isWord w=false then(10,(i:Int))else wY (i+1) l
def AP (aN:List HJ):Nat→List bI→Int×Int
 |_,[]=>(0,0)
 |i,w::l=>if w∈aN.map (·.word)then AP aN (i+1) l else(6,(i:Int))
def qt (g:ob)(words:List bI):Int×Int:=if words.length=0∨12<words.length then(9,-2)else if(wY 0 words).1≠0 then wY 0 words else AP g.aN 0 words
def AQ (g:ob)(words:List bI):Option (List kZ):=(yp (qrG g words) words words.length 1 ⟨[],List.replicate (words.length*(words.length+1)) []⟩).map λcs=>fU cs.its
def dI (g:ob)(words:List bI):(List kZ×List Nat)×(Int×Int):=
 if(lC g).1≠0 then(([],[]),lC g)else if(qt g words).1≠0 then(([],[]),qt g words)else match AQ g words with
  |none=>(([],[]),(17,-2))
  |some its=>((its,IP (fg g.types) words.length g.start its),(0,0))
theorem lI {a b:Nat}(ha:a<256)(hb:b<256)(h:jU (a:Int)=jU (b:Int)):a=b:=by
 have:=congrArg UInt8.toNat h
 unfold jU at this
 simp only[UInt8.toNat_ofNat']at this
 omega
theorem QH {e d:p5}(he:e.frm<256∧e.tqo<256)(hd:d.frm<256∧d.tqo<256)(h:ea e=ea d):e.frm=d.frm∧e.tqo=d.tqo:=by
 unfold ea at h
 simp only[List.cons.injEq]at h
 exact⟨lI he.1 hd.1 h.1,lI he.2 hd.2 h.2.1⟩
theorem yq {its:List kZ}{k:bI}{i:Nat}(h:xG its k=some i):∃it,its[i]?=some it∧ea it.ed=k:=by
 obtain⟨hi,h1,_⟩:=List.findIdx?_eq_some_iff_getElem.1 h;exact⟨_,bO hi,eS h1⟩
theorem QI {its:List kZ}{k:bI}(h:xG its k=none):∀it∈its,ea it.ed≠k:=λit hit=>by
 have:=List.findIdx?_eq_none_iff.1 h it hit
 exact iT (by simpa using this)
def slt (n i j:Nat):Nat:=i*(n+1)+j
theorem DC {n i j i' j':Nat}(hj:j≤n)(Hj:j'≤n)(h:slt n i j=slt n i' j'):i=i'∧j=j':=by
 unfold slt at h
 have h1:(i*(n+1)+j)/(n+1)=i:=by rw[Nat.mul_comm,Nat.mul_add_div (by omega),Nat.div_eq_of_lt (by omega),jK]
 have h2:(i'*(n+1)+j')/(n+1)=i':=by rw[Nat.mul_comm,Nat.mul_add_div (by omega),Nat.div_eq_of_lt (by omega),jK]
 have h3:i=i':=by rw[←h1,←h2,h]
 subst h3;exact⟨rfl,by omega⟩
theorem s9 {n i j:Nat}(hi:i<n)(hj:j≤n):slt n i j<n*(n+1):=by
 unfold slt
 have:(i+1)*(n+1)≤n*(n+1):=gO _ hi
 rw[lW]at this;omega
structure Grow (n frm tqo:Nat)(cs eh:Cs)(a:Nat):Prop where
 more:cs.its.length≤eh.its.length
 most:eh.its.length≤cs.its.length+a
 Gp:eh.sp.length=cs.sp.length
 Z2:∀k,k≠slt n frm tqo→eh.sp.getD k []=cs.sp.getD k []
 own:(eh.sp.getD (slt n frm tqo) []).length≤(cs.sp.getD (slt n frm tqo) []).length+a
 ed:∀i,i<cs.its.length→eh.ed i=cs.ed i
 new:∀i,cs.its.length≤i→i<eh.its.length→(eh.ed i).frm=frm∧(eh.ed i).tqo=tqo
 far:∀i,i<cs.its.length→¬((cs.ed i).frm=frm∧(cs.ed i).tqo=tqo)→eh.its.getD i fQ=cs.its.getD i fQ
 bx:∀i,i<eh.its.length→(eh.its.getD i fQ).bx.length≤(cs.its.getD i fQ).bx.length+a
theorem Grow.refl (n frm tqo:Nat)(cs:Cs):Grow n frm tqo cs cs 0:=
 ⟨aW _,aW _,rfl,λ_ _=>rfl,aW _,λ_ _=>rfl,λi h1 h2=>by omega,λ_ _ _=>rfl,λ_ _=>aW _⟩
theorem Grow.trans {n frm tqo:Nat}{x y z:Cs}{a b:Nat}(h:Grow n frm tqo x y a)(k:Grow n frm tqo y z b):Grow n frm tqo x z (a+b):=by
 refine⟨eH h.more k.more,by have:=h.most;have:=k.most;omega,k.Gp.trans h.Gp,λi hi=>(k.Z2 i hi).trans (h.Z2 i hi),by have:=h.own;have:=k.own;omega,λi hi=> ?_,λi h1 h2=> ?_,λi hi hn=> ?_,λi hi=> ?_⟩
 ·rw[k.ed i (eK hi h.more),h.ed i hi]
 ·by_cases c:i<y.its.length
  ·rw[k.ed i c];exact h.new i h1 c
  ·exact k.new i (by omega) h2
 ·rw[k.far i (eK hi h.more) (by rw[h.ed i hi];exact hn),h.far i hi hn]
 ·have h1:=k.bx i hi
  by_cases c:i<y.its.length
  ·have h2:=h.bx i c;omega
  ·have e:y.its.getD i fQ=fQ:=by rw[ak,fY (by omega)];rfl
   rw[e]at h1
   have:fQ.bx.length=0:=rfl
   omega
theorem Grow.mono {n frm tqo:Nat}{x y:Cs}{a b:Nat}(h:Grow n frm tqo x y a)(Gq:a≤b):Grow n frm tqo x y b:=
 ⟨h.more,by have:=h.most;omega,h.Gp,h.Z2,by have:=h.own;omega,h.ed,h.new,h.far,λi hi=>by have:=h.bx i hi;omega⟩
structure fV (nt nf n:Nat)(cs:Cs):Prop where
 Gp:cs.sp.length=n*(n+1)
 idx:∀l∈cs.sp,∀e∈l,e<cs.its.length
 tot:(cs.sp.map List.length).sum=cs.its.length
 prt:∀i j e,j≤n→e∈cs.sp.getD (slt n i j) []→(cs.ed e).frm=i∧(cs.ed e).tqo=j
 gr:∀it∈cs.its,it.ed.frm<it.ed.tqo∧it.ed.tqo≤n∧it.ed.cQ≤3∧dP nt nf it.ed.gr∧it.ed.gr.length≤60
 bN:∀it∈cs.its,it.bN.length≤it.bx.length
 kids:∀it∈cs.its,∀w∈it.bx,∀k∈w.kids,k<cs.its.length
theorem fV.IV {nt nf n:Nat}{cs:Cs}(h:fV nt nf n cs){k e:Nat}(he:e∈cs.sp.getD k []):e<cs.its.length:=by
 rw[ak]at he
 cases c:cs.sp[k]? with
 |none=>rw[c]at he;cases he
 |some l=>rw[c]at he;exact h.idx l (ab c) e he
theorem kZ.DD (it:kZ)(w:uz):(it.put w).bx=it.bx++ [w]:=rfl
theorem IW {l:List (List Nat)}{k:Nat}(x:Nat)(h:k<l.length):((l.modify k λm=>m++ [x]).map List.length).sum=(l.map List.length).sum+1:=by
 induction l generalizing k with
 |nil=>cases h
 |cons a l ih=>
  cases k with
  |zero=>simp;omega
  |succ k=>
   rw[List.modify_succ_cons,eW,eW,nW,nW,ih (by simpa using h)];omega
theorem getD_modify {α:Type}{l:List α}{f:α→α}{i j:Nat}{d:α}(h:j<l.length):(l.modify i f).getD j d=if i=j then f (l.getD j d)else l.getD j d:=by
 simp only[List.getD_eq_getElem?_getD,List.getElem?_modify,List.getElem?_eq_getElem h,Option.map_some,Option.getD_some]
 split<;>simp_all
theorem yr {nt nf n:Nat}(hn:n≤12){cs:Cs}(h:fV nt nf n cs){e:p5}{w:uz}(he:e.frm<e.tqo∧e.tqo≤n∧e.cQ≤3∧dP nt nf e.gr∧e.gr.length≤60)(hk:∀k∈w.kids,k<cs.its.length):
 fV nt nf n (jt n cs e w)∧Grow n e.frm e.tqo cs (jt n cs e w) 1:=by
 have QJ:slt n e.frm e.tqo<cs.sp.length:=by rw[h.Gp];exact s9 (by omega) he.2.1
 unfold jt
 cases hc:xG cs.its (ea e)with
 |some i=>
  dsimp only
  obtain⟨it,hit,CJ⟩:=yq hc
  have hm:=ab hit
  obtain⟨g1,g2,g3,g4,g5⟩:=h.gr it hm;obtain⟨s1,s2⟩:=QH (e:=it.ed) (d:=e) ⟨by omega,by omega⟩ ⟨by omega,by omega⟩ CJ
  have qQ:i<cs.its.length:=(eD.1 hit).1
  have hgi:cs.its.getD i fQ=it:=by rw[ak,hit];rfl
  have EB:∀x∈cs.its.modify i (λit=>it.put w),x∈cs.its∨x=it.put w:=λx hx=>by
   obtain⟨j,hj⟩:=List.mem_iff_getElem?.1 hx;rw[List.getElem?_modify]at hj
   split at hj
   ·rename_i e2;subst e2;rw[hit]at hj;exact .inr (Option.some.inj hj).symm
   ·simp at hj;exact .inl (ab hj)
  have AR:∀j,j<cs.its.length→(⟨cs.its.modify i λit=>it.put w,cs.sp⟩:Cs).ed j=cs.ed j:=λj hj=>by
   unfold Cs.ed;rw[getD_modify hj]
   split<;>rfl
  refine⟨⟨h.Gp,λl hl x hx=>by rw[pE];exact h.idx l hl x hx,by rw[pE];exact h.tot,λi' j' e' Hj N6=> ?_,λx hx=> ?_,λx hx=> ?_,λx hx v hv k l8=> ?_⟩,⟨by rw[pE];exact aW _,by rw[pE];omega,rfl,λ_ _=>rfl,Nat.le_succ _,λj hj=> ?_,λj h1 h2=>by rw[pE]at h2;omega,λj hj fP=> ?_,λj hj=> ?_⟩⟩
  ·rw[AR e' (h.IV N6)]
   exact h.prt i' j' e' Hj N6
  ·rcases EB x hx with hx|rfl
   ·exact h.gr x hx
   ·exact h.gr it hm
  ·rcases EB x hx with hx|rfl
   ·exact h.bN x hx
   ·have:=h.bN it hm
    show(if s8 w∈it.bN then it.bN else it.bN++ [s8 w]).length≤(it.bx++ [w]).length
    rw[bA]
    split
    ·simp;omega
    ·rw[bA];simp;omega
  ·rw[pE]
   rcases EB x hx with hx|rfl
   ·exact h.kids x hx v hv k l8
   ·rcases ba.1 hv with hv|hv
    ·exact h.kids it hm v hv k l8
    ·rw[bJ.1 hv]at l8;exact hk k l8
  ·exact AR j hj
  ·rw[getD_modify hj,aA]
   rintro rfl;exact fP (by unfold Cs.ed;rw[hgi];exact⟨s1,s2⟩)
  ·rw[pE]at hj
   rw[getD_modify hj]
   split
   ·rw[kZ.DD,bA];simp
   ·omega
 |none=>
  dsimp only
  have hlen:(cs.its++ [(⟨e,[],[]⟩:kZ).put w]).length=cs.its.length+1:=by simp
  have hold:∀j,j<cs.its.length→(cs.its++ [(⟨e,[],[]⟩:kZ).put w]).getD j fQ=cs.its.getD j fQ:=λj hj=>by
   rw[ak,pd hj,←ak]
  have xg:(cs.its++ [(⟨e,[],[]⟩:kZ).put w]).getD cs.its.length fQ=(⟨e,[],[]⟩:kZ).put w:=by
   rw[ak,mW (aW _),fJ];rfl
  refine⟨⟨by rw[pE];exact h.Gp,λl hl x hx=> ?_,by rw[hlen,←h.tot];exact IW _ QJ,λi' j' e' Hj N6=> ?_,λx hx=> ?_,λx hx=> ?_,λx hx v hv k l8=> ?_⟩,⟨by rw[hlen];omega,by rw[hlen];omega,by rw[pE],λk rf=> ?_,?_,λj hj=> ?_,λj h1 h2=> ?_,λj hj fP=>hold j hj,λj hj=> ?_⟩⟩
  ·rw[hlen]
   obtain⟨j,hj⟩:=List.mem_iff_getElem?.1 hl;rw[List.getElem?_modify]at hj
   split at hj
   ·obtain⟨l0,h1,rfl⟩:=dG.1 hj
    rcases ba.1 hx with hx|hx
    ·have:=h.idx l0 (ab h1) x hx;omega
    ·rw[bJ.1 hx];omega
   ·simp at hj
    have:=h.idx l (ab hj) x hx;omega
  ·have Wx:∀l0,e'∈cs.sp.getD (slt n i' j') []→(⟨cs.its++ [(⟨e,[],[]⟩:kZ).put w],l0⟩:Cs).ed e'=cs.ed e':=λl0 hx=>by unfold Cs.ed;rw[hold e' (h.IV hx)]
   by_cases c:slt n i' j'<cs.sp.length
   ·dsimp only at N6
    rw[getD_modify c]at N6
    split at N6
    ·rename_i e2
     obtain⟨q1,q2⟩:=DC he.2.1 Hj e2
     rcases ba.1 N6 with hx|hx
     ·rw[Wx _ hx];exact h.prt i' j' e' Hj hx
     ·rw[bJ.1 hx];unfold Cs.ed;dsimp only;rw[xg];exact⟨q1,q2⟩
    ·rw[Wx _ N6];exact h.prt i' j' e' Hj N6
   ·dsimp only at N6
    rw[ak,fY (by rw[pE];omega)]at N6
    cases N6
  ·rcases ba.1 hx with hx|hx
   ·exact h.gr x hx
   ·rw[bJ.1 hx];exact he
  ·rcases ba.1 hx with hx|hx
   ·exact h.bN x hx
   ·rw[bJ.1 hx]
    show(if s8 w∈([]:List Int)then([]:List Int)else []++ [s8 w]).length≤(([]:List uz)++ [w]).length
    rw[aA (by simp)];exact aW _
  ·rw[hlen]
   rcases ba.1 hx with hx|hx
   ·have:=h.kids x hx v hv k l8;omega
   ·rw[bJ.1 hx]at hv
    rw[kZ.DD,Av]at hv;rw[bJ.1 hv]at l8
    have:=hk k l8;omega
  ·by_cases c:k<cs.sp.length
   ·rw[getD_modify c,aA (λe2=>rf e2.symm)]
   ·rw[ak,ak,fY (by rw[pE];omega),fY (by omega)]
  ·rw[getD_modify QJ,aB (show e.frm*(n+1)+e.tqo=slt n e.frm e.tqo from rfl),bA];simp
  ·unfold Cs.ed;rw[hold j hj]
  ·rw[hlen]at h2
   obtain rfl:j=cs.its.length:=by omega
   unfold Cs.ed;rw[xg];exact⟨rfl,rfl⟩
  ·rw[hlen]at hj
   by_cases c:j<cs.its.length
   ·rw[hold j c];omega
   ·obtain rfl:j=cs.its.length:=by omega
    rw[xg,kZ.DD];simp
structure Room (cs:Cs)(m:Nat):Prop where
 its:cs.its.length+m≤1400000000000
 bx:∀it∈cs.its,it.bx.length+m≤3000000000000
theorem Room.at_ {cs:Cs}{m i:Nat}(h:Room cs m):(cs.its.getD i fQ).bx.length+m≤3000000000000:=by
 by_cases c:i<cs.its.length
 ·rw[ak,bO c];exact h.bx _ (gm c)
 ·rw[ak,fY (by omega)]
  show 0+m≤_
  have:=h.its;omega
theorem Room.grow {n frm tqo:Nat}{cs eh:Cs}{a b:Nat}(h:Room cs (a+b))(k:Grow n frm tqo cs eh a):Room eh b:=by
 refine⟨by have:=k.most;have:=h.its;omega,λit hit=> ?_⟩;obtain⟨i,hi,rfl⟩:=Dx.1 hit
 have h1:=k.bx i hi
 have h2:=h.at_ (i:=i)
 rw[ak,bO hi]at h1
 have h1:(eh.its[i]).bx.length≤_:=h1
 omega
theorem Room.mono {cs:Cs}{a b:Nat}(h:Room cs b)(Gq:a≤b):Room cs a:=⟨by have:=h.its;omega,λit hit=>by have:=h.bx it hit;omega⟩
theorem gK {β:Type}{n frm tqo:Nat}(f:Cs→β→Cs)(b:β→Nat)(I:Cs→Prop):∀(l:List β) (cs:Cs),I cs→(∀cs x,x∈l→I cs→I (f cs x)∧Grow n frm tqo cs (f cs x) (b x))→I (l.foldl f cs)∧Grow n frm tqo cs (l.foldl f cs) ((l.map b).sum)
 | [],cs,h,_=>⟨h,Grow.refl ..⟩
 |x::l,cs,h,hs=>by
  obtain⟨h1,h2⟩:=hs cs x (by simp) h
  obtain⟨h3,h4⟩:=gK f b I l (f cs x) h1 λcs y hy=>hs cs y (by simp[hy])
  exact⟨h3,h2.trans h4⟩
def UU (n frm tqo:Nat)(c:Nat→Nat→Nat)(cs:Cs):Prop:=∀i j,j≤n→¬(i=frm∧j=tqo)→(cs.at_ n i j).length=c i j
theorem UU.grow {n frm tqo:Nat}{c:Nat→Nat→Nat}{cs eh:Cs}{a:Nat}(h:UU n frm tqo c cs)(k:Grow n frm tqo cs eh a)(ht:tqo≤n):UU n frm tqo c eh:=λi j hj fP=>by
 rw[←h i j hj fP]
 show(eh.sp.getD (slt n i j) []).length=(cs.sp.getD (slt n i j) []).length
 rw[k.Z2 _ λe=>fP (DC hj ht e)]
def l9 (c:Nat→Nat→Nat)(tqo:Nat):Nat→Nat→Nat
 |0,a=>c a tqo
 |l+1,a=>((List.range' (a+1) (tqo-(l+1)-a)).map λen=>c a en*l9 c tqo l en).sum
theorem jC {β:Type}(l:List β)(k:Nat):(l.map λ_=>k).sum=l.length*k:=by
 induction l with
 |nil=>simp
 |cons x l ih=>rw[eW,nW,ih,dy,lW];omega
structure gj (nt nf n frm tqo:Nat)(c:Nat→Nat→Nat)(m:Nat)(cs:Cs):Prop where
 ok:fV nt nf n cs
 len:UU n frm tqo c cs
 KR:m≤cs.its.length
theorem gj.grow {nt nf n frm tqo:Nat}{c:Nat→Nat→Nat}{m a:Nat}{cs eh:Cs}(h:gj nt nf n frm tqo c m cs)(wS:fV nt nf n eh)(k:Grow n frm tqo cs eh a)(ht:tqo≤n):gj nt nf n frm tqo c m eh:=
 ⟨wS,h.len.grow k ht,eH h.KR k.more⟩
theorem yt {nt nf:Nat}{x:dF}(h:dP nt nf x)(k:Int):(qp x k).toNat<x.length:=by
 unfold qp
 split
 ·rename_i y e
  have:=(h.at_ h.pos).2.2 y (List.mem_of_find?_eq_some e)
  omega
 ·exact h.pos
theorem IX {nt nf:Nat}{mt:Nat→Nat→Option Nat}(qC:yn nt mt){x y z:dF}{k:Int}(hx:dP nt nf x)(hy:dP nt nf y)(h:mQ mt x k y=some z):dP nt nf z∧z.length≤60∧∀j∈lE (x.getD 0 gH).2,j∈lE (z.getD 0 gH).2:=by
 unfold mQ at h
 split at h
 ·rename_i u e
  split at h
  ·obtain rfl:=Option.some.inj h
   obtain⟨a,_,b⟩:=UQ qC hx hy (yt hx k) e;exact⟨a,by assumption,b⟩
  ·cases h
 ·cases h
theorem qH {nt nf:Nat}{x:dF}(hx:dP nt nf x)(hl:x.length≤60):dP nt nf (lF x)∧(lF x).length≤60:=by
 obtain⟨a,b,_⟩:=tV hx (yt hx 0);exact⟨a,eH b hl⟩
theorem vC {nt nf n:Nat}{Q:Qr}(qC:yn nt Q.mt){cs:Cs}(h:fV nt nf n cs){rule gi e:Nat}{x y:dF}(hx:dP nt nf x)(he:e<cs.its.length)(hy:ka Q cs rule x gi e=some y):dP nt nf y∧y.length≤60∧∀j∈lE (x.getD 0 gH).2,j∈lE (y.getD 0 gH).2:=by
 unfold ka at hy
 split at hy
 ·refine IX qC hx ?_ hy
  unfold Cs.ed;rw[ak,bO he];exact(h.gr _ (gm he)).2.2.2.1
 ·cases hy
theorem fV.qI {nt nf n:Nat}{cs:Cs}(h:fV nt nf n cs){i j e:Nat}(he:e∈cs.at_ n i j):e<cs.its.length:=by
 unfold Cs.at_ at he;rw[ak]at he
 cases c:cs.sp[i*(n+1)+j]? with
 |none=>rw[c]at he;cases he
 |some l=>rw[c]at he;exact h.idx l (ab c) e he
theorem yu {nt nf:Nat}{Q:Qr}(hn:Q.n≤12)(qC:yn nt Q.mt){rule frm tqo:Nat}(iH:frm<tqo)(ht:tqo≤Q.n)(c:Nat→Nat→Nat):∀(l:Nat) (cs:Cs) (x:dF) (kids:List Nat) (a m:Nat),gj nt nf Q.n frm tqo c m cs→dP nt nf x→(frm<a∨(a=frm∧1≤l))→a<tqo→(∀k∈kids,k<m)→
 gj nt nf Q.n frm tqo c m (vB Q rule frm tqo l cs x kids a)∧Grow Q.n frm tqo cs (vB Q rule frm tqo l cs x kids a) (l9 c tqo l a)
 |0,cs,x,kids,a,m,hs,hx,ha,Bi,hk=>by
  have iX:∀e∈cs.at_ Q.n a tqo,e<cs.its.length:=λe he=>hs.ok.qI he
  have:=gK (n:=Q.n) (frm:=frm) (tqo:=tqo) (λcs e=>match ka Q cs rule x (kids.length+1) e with
   |none=>cs
   |some y=>jt Q.n cs ⟨frm,tqo,0,lF y⟩ ⟨rule,0,kids++ [e]⟩) (λ_=>1) (λeh=>gj nt nf Q.n frm tqo c m eh∧cs.its.length≤eh.its.length) (cs.at_ Q.n a tqo) cs ⟨hs,aW _⟩ (λsB e he ⟨h1,h2⟩=>by
    have lA:=eK (iX e he) h2
    cases hy:ka Q sB rule x (kids.length+1) e with
    |none=>exact⟨⟨h1,h2⟩,(Grow.refl ..).mono (aR _)⟩
    |some y=>
     dsimp only
     obtain⟨y1,y2,_⟩:=vC qC h1.ok hx lA hy;obtain⟨m1,m2⟩:=qH y1 y2
     obtain⟨a1,a2⟩:=yr hn h1.ok (e:=⟨frm,tqo,0,lF y⟩) (w:=⟨rule,0,kids++ [e]⟩) ⟨iH,ht,aR _,m1,m2⟩ (λk l8=>by
      rcases ba.1 l8 with l8|l8
      ·have:=hk k l8;have:=h1.KR;omega
      ·rw[bJ.1 l8];exact lA)
     exact⟨⟨h1.grow a1 a2 ht,eH h2 a2.more⟩,a2⟩)
  rw[jC,fR,hs.len a tqo ht (by omega)]at this;exact⟨this.1.1,this.2⟩
 |l+1,cs,x,kids,a,m,hs,hx,ha,Bi,hk=>by
  refine gK (n:=Q.n) (frm:=frm) (tqo:=tqo) (λcs en=>(cs.at_ Q.n a en).foldl (λcs e=>match ka Q cs rule x (kids.length+1) e with
   |none=>cs
   |some y=>vB Q rule frm tqo l cs y (kids++ [e]) en) cs) (λen=>c a en*l9 c tqo l en) (gj nt nf Q.n frm tqo c m) (List.range' (a+1) (tqo-(l+1)-a)) cs hs (λsB en IY h1=> ?_)
  obtain⟨i,hi,rfl⟩:=List.mem_range'.1 IY
  have ai2:a+1+1*i<tqo:=by omega
  have iX:∀e∈sB.at_ Q.n a (a+1+1*i),e<sB.its.length:=λe he=>h1.ok.qI he
  have:=gK (n:=Q.n) (frm:=frm) (tqo:=tqo) (λcs e=>match ka Q cs rule x (kids.length+1) e with
   |none=>cs
   |some y=>vB Q rule frm tqo l cs y (kids++ [e]) (a+1+1*i)) (λ_=>l9 c tqo l (a+1+1*i)) (gj nt nf Q.n frm tqo c (max m sB.its.length)) (sB.at_ Q.n a (a+1+1*i)) sB ⟨h1.ok,h1.len,by have:=h1.KR;omega⟩ (λoQ e he h2=>by
    have lA:e<max m sB.its.length:=by have:=iX e he;omega
    have Z3:=eK lA h2.KR
    cases hy:ka Q oQ rule x (kids.length+1) e with
    |none=>exact⟨h2,(Grow.refl ..).mono (aR _)⟩
    |some y=>
     dsimp only
     obtain⟨y1,y2,_⟩:=vC qC h2.ok hx Z3 hy
     exact yu hn qC iH ht c l oQ y (kids++ [e]) (a+1+1*i) _ h2 y1 (.inl (by omega)) ai2 (λk l8=>by
      rcases ba.1 l8 with l8|l8
      ·have:=hk k l8;omega
      ·rw[bJ.1 l8];exact lA))
  rw[jC,h1.len a _ (by omega) (by omega)]at this;exact⟨⟨this.1.ok,this.1.len,by have:=this.1.KR;omega⟩,this.2⟩
theorem FY (f:Nat→Nat)(a:Nat):∀b:Nat,ew f (a+b)=ew f a+ew (λj=>f (a+j)) b
 |0=>rfl
 |b+1=>by rw[←Nat.add_assoc,ew,ew,FY f a b];omega
theorem yw (f:Nat→Nat)(b:Nat):∀a:Nat,ew f (a*b)=ew (λi=>ew (λj=>f (i*b+j)) b) a
 |0=>by rw[Nat.zero_mul];rfl
 |a+1=>by rw[lW,Nat.one_mul,FY,yw f b a];rfl
theorem Bj (f:Nat→Nat)(a:Nat):∀b:Nat,ew f a≤ew f (a+b)
 |0=>aW _
 |b+1=>by rw[←Nat.add_assoc,ew];have:=Bj f a b;omega
theorem xI {f:Nat→Nat}{a b:Nat}(h:a≤b):ew f a≤ew f b:=by
 obtain⟨k,rfl⟩:=Nat.exists_eq_add_of_le h;exact Bj f a k
theorem o9 {f:Nat→Nat}{i n:Nat}(h:i<n):f i≤ew f n:=by
 have:=xI (f:=f) (show i+1≤n from h)
 rw[ew]at this;omega
theorem QK {f:Nat→Nat}{i j n:Nat}(hi:i<n)(hj:j<n)(fP:i≠j):f i+f j≤ew f n:=by
 rcases Nat.lt_or_gt_of_ne fP with c|c
 ·have h1:=o9 (f:=f) c
  have h2:=xI (f:=f) (show j+1≤n from hj)
  rw[ew]at h2;omega
 ·have h1:=o9 (f:=f) c
  have h2:=xI (f:=f) (show i+1≤n from hi)
  rw[ew]at h2;omega
theorem sum_range' (f:Nat→Nat):∀(k s:Nat),((List.range' s k).map f).sum+ew f s=ew f (s+k)
 |0,s=>by simp
 |k+1,s=>by
  rw[List.range'_succ,eW,nW]
  have:=sum_range' f k (s+1)
  rw[ew]at this
  rw[show s+(k+1)=s+1+k by omega];omega
theorem vD (f:Nat→Nat):∀n:Nat,ew f (n+1)=f 0+ew (λi=>f (i+1)) n
 |0=>by simp[ew]
 |n+1=>by rw[ew,vD f n,ew];omega
theorem FZ {α:Type}(f:α→Nat)(d:α):∀l:List α,(l.map f).sum=ew (λk=>f (l.getD k d)) l.length
 | []=>rfl
 |a::l=>by
  rw[eW,nW,dy,vD,FZ f d l];rfl
theorem IZ {β:Type}{f g:β→Nat}:∀{l:List β},(∀x∈l,f x≤g x)→(l.map f).sum≤(l.map g).sum
 | [],_=>aW _
 |x::l,h=>by
  rw[eW,eW,nW,nW]
  have:=h x (by simp)
  have:=IZ (f:=f) (g:=g) (l:=l) λy hy=>h y (by simp[hy])
  omega
theorem KS {β:Type}(f:β→Nat)(k:Nat):∀l:List β,(l.map λx=>f x*k).sum=(l.map f).sum*k
 | []=>by simp
 |x::l=>by rw[eW,eW,nW,nW,KS f k l,lW]
def AU (c:Nat→Nat→Nat)(n i:Nat):Nat:=ew (c i) (n+1)
theorem QL {nt nf n:Nat}{cs:Cs}(h:fV nt nf n cs):ew (AU (λi j=>(cs.at_ n i j).length) n) n=cs.its.length:=by
 have:=FZ List.length [] cs.sp
 rw[h.tot,h.Gp,yw]at this;exact this.symm
theorem QM {c:Nat→Nat→Nat}{n a s k:Nat}(h:s+k≤n+1):((List.range' s k).map (c a)).sum≤AU c n a:=by
 have h1:=sum_range' (c a) k s
 have h2:=xI (f:=c a) h
 unfold AU;omega
theorem yx {c:Nat→Nat→Nat}{n tqo l a K:Nat}(ht:tqo≤n)(hK:∀en,a<en→en<tqo→l9 c tqo l en≤K):l9 c tqo (l+1) a≤AU c n a*K:=by
 show((List.range' (a+1) (tqo-(l+1)-a)).map λen=>c a en*l9 c tqo l en).sum≤_
 refine eH (IZ (g:=λen=>c a en*K) λen IY=> ?_) ?_
 ·obtain⟨i,hi,rfl⟩:=List.mem_range'.1 IY
  exact xP _ (hK _ (by omega) (by omega))
 ·rw[KS]
  by_cases e:tqo-(l+1)-a=0
  ·rw[e];simp
  ·exact gO _ (QM (by omega))
theorem UW {c:Nat→Nat→Nat}{n frm tqo A M:Nat}(ht:tqo≤n)(hA:AU c n frm≤A)(hM:∀i,frm<i→i<n→AU c n i≤M):l9 c tqo 1 frm≤A*M∧l9 c tqo 2 frm≤A*(M*M):=by
 have h0:∀en,frm<en→en<tqo→l9 c tqo 0 en≤M:=λen h1 h2=>eH (o9 (f:=c en) (show tqo<n+1 by omega)) (hM en h1 (by omega))
 have h1:∀en,frm<en→en<tqo→l9 c tqo 1 en≤M*M:=λen h1 h2=>eH (yx (l:=0) ht λe a b=>h0 e (by omega) b) (gO _ (hM en h1 (by omega)))
 exact⟨eH (yx (l:=0) ht h0) (gO _ hA),eH (yx (l:=1) ht h1) (gO _ hA)⟩
theorem UX:∀A,A≤300→A*((300-A)*(300-A))≤4000000:=by decide+kernel
theorem UY:∀A,A≤300→A*(300-A)≤4000000:=by decide+kernel
theorem Bk {nt nf n:Nat}{cs:Cs}(h:fV nt nf n cs)(hl:cs.its.length≤300){frm tqo l:Nat}(iH:frm<tqo)(ht:tqo≤n)(h1:1≤l)(h2:l≤2):l9 (λi j=>(cs.at_ n i j).length) tqo l frm≤4000000:=by
 obtain⟨c,hc⟩:∃c:Nat→Nat→Nat,c=λi j=>(cs.at_ n i j).length:=⟨_,rfl⟩
 have ai3:=QL h
 rw[←hc]at ai3⊢
 have MA:frm<n:=by omega
 have hA:=o9 (f:=AU c n) MA
 have hM:∀i,frm<i→i<n→AU c n i≤300-AU c n frm:=λi h1 h2=>by
  have:=QK (f:=AU c n) MA h2 (by omega);omega
 obtain⟨k1,k2⟩:=UW (c:=c) ht (aW _) hM
 rcases(show l=1∨l=2 by omega)with rfl|rfl
 ·exact eH k1 (UY _ (by omega))
 ·exact eH k2 (UX _ (by omega))
structure qu (nt nf:Nat)(Q:Qr):Prop where
 n:Q.n≤12
 mt:yn nt Q.mt
 rn:Q.rules.length≤40
 xn:Q.aN.length≤100
 rule:∀r∈Q.rules,(1≤r.kids∧r.kids≤3)∧dP nt nf r.graph∧r.graph.length≤60
 lex:∀x∈Q.aN,dP nt nf x.graph∧x.graph.length≤60
theorem qu.vE {nt nf:Nat}{Q:Qr}(h:qu nt nf Q){i:Nat}(hi:i<Q.rules.length):(1≤(Q.rules.getD i nz).kids∧(Q.rules.getD i nz).kids≤3)∧dP nt nf (Q.rules.getD i nz).graph∧(Q.rules.getD i nz).graph.length≤60:=by
 rw[ak,bO hi];exact h.rule _ (gm hi)
theorem qu.Wy {nt nf:Nat}{Q:Qr}(h:qu nt nf Q){i:Nat}(hi:i<Q.aN.length):dP nt nf (Q.aN.getD i SC).graph∧(Q.aN.getD i SC).graph.length≤60:=by
 rw[ak,bO hi];exact h.lex _ (gm hi)
theorem qd {α:Type}(p:α→Bool)(d:α)(k:Nat)(l:List α):((List.range l.length).map λi=>if p (l.getD i d)=true then k else 0).sum=l.countP p*k:=by
 have h1:((List.range l.length).map λi=>if p (l.getD i d)=true then k else 0).sum=ew (λi=>if p (l.getD i d)=true then k else 0) l.length:=by
  have:=sum_range' (λi=>if p (l.getD i d)=true then k else 0) l.length 0
  rw[←List.range_eq_range',gP]at this;exact this
 rw[h1]
 induction l with
 |nil=>simp[ew]
 |cons a l ih=>
  rw[dy,vD,r8]
  have h2:((List.range l.length).map λi=>if p (l.getD i d)=true then k else 0).sum=ew (λi=>if p (l.getD i d)=true then k else 0) l.length:=by
   have:=sum_range' (λi=>if p (l.getD i d)=true then k else 0) l.length 0
   rw[←List.range_eq_range',gP]at this;exact this
  have h3:=ih h2
  show(if p a=true then k else 0)+ew (λi=>if p (l.getD i d)=true then k else 0) l.length=_
  rw[h3]
  split
  ·rw[lW];omega
  ·simp
def QN (Q:Qr):Nat:=Q.rules.countP λr=>decide (1<r.kids)
theorem QO {nt nf:Nat}{Q:Qr}(h:qu nt nf Q):fh Q+QN Q=Q.rules.length:=by
 unfold fh QN
 have:=h.rule
 generalize Q.rules=l at this
 induction l with
 |nil=>rfl
 |cons a l ih=>
  have ha:=(this a (by simp)).1
  have:=ih λr hr=>this r (by simp[hr])
  rw[r8,r8,dy]
  by_cases e:a.kids=1
  ·rw[aB (dH e),aA (by simp;omega)];omega
  ·rw[aA (by simp[e]),aB (dH (by omega))];omega
def DE (Q:Qr)(frm tqo:Nat):Nat:=if tqo=frm+1 then 100 else QN Q*4000000
theorem yy {nt nf:Nat}{Q:Qr}(hQ:qu nt nf Q){frm tqo m:Nat}(iH:frm<tqo)(ht:tqo≤Q.n){LV cs:Cs}(h0:fV nt nf Q.n LV)(hl:LV.its.length≤300)(h:gj nt nf Q.n frm tqo (λi j=>(LV.at_ Q.n i j).length) m cs){i:Nat}(hi:i<Q.rules.length):
 gj nt nf Q.n frm tqo (λi j=>(LV.at_ Q.n i j).length) m (qs Q frm tqo cs i)∧Grow Q.n frm tqo cs (qs Q frm tqo cs i) (if decide (1<(Q.rules.getD i nz).kids)=true then 4000000 else 0):=by
 obtain⟨⟨k1,k3⟩,hg,_⟩:=hQ.vE hi;unfold qs
 split
 ·rename_i hc
  obtain⟨hk,rf⟩:=hc;rw[aB (dH hk)];obtain⟨a,b⟩:=yu hQ.n hQ.mt iH ht _ ((Q.rules.getD i nz).kids.toNat-1) cs _ [] frm m h hg (.inr ⟨rfl,by omega⟩) iH (λk hk=>by cases hk);exact⟨a,b.mono (Bk h0 hl iH ht (by omega) (by omega))⟩
 ·exact⟨h,(Grow.refl ..).mono (aR _)⟩
theorem yz {nt nf:Nat}{Q:Qr}(hQ:qu nt nf Q){w:bI}{frm tqo m:Nat}{c:Nat→Nat→Nat}(iH:frm<tqo)(ht:tqo≤Q.n){cs:Cs}(h:gj nt nf Q.n frm tqo c m cs){i:Nat}(hi:i<Q.aN.length):
 gj nt nf Q.n frm tqo c m (qq Q w frm tqo cs i)∧Grow Q.n frm tqo cs (qq Q w frm tqo cs i) 1:=by
 obtain⟨hg,hl⟩:=hQ.Wy hi;unfold qq
 split
 ·obtain⟨f1,f2,_⟩:=tV hg hg.pos
  obtain⟨a,b⟩:=yr hQ.n h.ok (e:=⟨frm,tqo,0,ff (Q.aN.getD i SC).graph 0⟩) (w:=⟨-1,i,[]⟩) ⟨iH,ht,aR _,f1,eH f2 hl⟩ (λk hk=>by cases hk);exact⟨h.grow a b ht,b⟩
 ·exact⟨h,(Grow.refl ..).mono (aR _)⟩
theorem QP {nt nf:Nat}{Q:Qr}(hQ:qu nt nf Q){words:List bI}{frm tqo:Nat}(iH:frm<tqo)(ht:tqo≤Q.n){cs:Cs}(h:fV nt nf Q.n cs)(hl:cs.its.length≤300):
 gj nt nf Q.n frm tqo (λi j=>(cs.at_ Q.n i j).length) 0 (mR Q words frm tqo cs)∧Grow Q.n frm tqo cs (mR Q words frm tqo cs) (DE Q frm tqo):=by
 have h0:gj nt nf Q.n frm tqo (λi j=>(cs.at_ Q.n i j).length) 0 cs:=⟨h,λ_ _ _ _=>rfl,aR _⟩
 unfold mR DE
 split
 ·obtain⟨a,b⟩:=gK (n:=Q.n) (frm:=frm) (tqo:=tqo) (qq Q (words.getD frm []) frm tqo) (λ_=>1) _ (List.range Q.aN.length) cs h0 (λsB i hi h1=>yz hQ iH ht h1 (cy.1 hi))
  rw[jC,iJ,fR]at b;exact⟨a,b.mono hQ.xn⟩
 ·obtain⟨a,b⟩:=gK (n:=Q.n) (frm:=frm) (tqo:=tqo) (qs Q frm tqo) _ _ (List.range Q.rules.length) cs h0 (λsB i hi h1=>yy hQ iH ht h hl h1 (cy.1 hi))
  rw[qd (λr:CZ=>decide (1<r.kids)) nz 4000000 Q.rules]at b;exact⟨a,b⟩
end Go.Proofs.YtblifkgpebebmaaGreatDoor
namespace Go.Proofs
open Go.Shelf
def Tryz.Ia:Go.Shelf.Ren:=⟨λ|4=>174|n=>n,λ|0=>0|3=>3|4=>4|9=>9|20=>20|22=>161|25=>165|n=>n,λ|n=>n⟩
theorem Tryz.QQ:Go.Proofs.Lays8.n4 Tryz.prog Tryz.Ia:={
 mixed:=by kernel_rfl
 f4:=⟨Tryz.f174.name,by decide,Tryz.func174.trans (congrArg some (by kernel_rfl))⟩
 t0:=WJ
 a0:=Tryz.isAgg0
 z0:=Tryz.sizeOf0
 v0:=Tryz.zeroValue0
 t3:=eN
 a3:=Tryz.isAgg3
 z3:=Tryz.sizeOf3
 v3:=Tryz.zeroValue3
 t4:=Eb
 a4:=Tryz.isAgg4
 z4:=Tryz.sizeOf4
 v4:=Tryz.zeroValue4
 t9:=sK
 a9:=Tryz.isAgg9
 z9:=Tryz.sizeOf9
 v9:=Tryz.zeroValue9
 t20:=Tryz.underlying20
 a20:=Tryz.isAgg20
 z20:=Tryz.sizeOf20
 v20:=Tryz.zeroValue20
 t22:=eA
 a22:=Tryz.isAgg161
 z22:=Tryz.sizeOf161
 v22:=Tryz.zeroValue161}
end Go.Proofs
namespace Go.Proofs.YtblifkgpebebmaaGreatDoor
open Go Go.J Tryz
def pW (n:Nat)(o:List Nat):List Int:=(List.range n).map λi=>if i∈o then(o.idxOf i:Int)else-1
theorem z6 (n:Nat)(o:List Nat):(pW n o).length=n:=by simp[pW]
theorem xJ {n:Nat}{o:List Nat}{i:Nat}(h:i<n):(pW n o)[i]?=some (if i∈o then(o.idxOf i:Int)else-1):=by
 unfold pW;rw[bE,kg h];rfl
theorem QR {n:Nat}{o:List Nat}{i:Nat}(h:i<n)(hn:i∉o):(pW n o).set i (o.length:Int)=pW n (o++ [i]):=by
 refine nV λj=> ?_
 rcases e7 j n with hj|hj
 ·rw[xJ hj]
  by_cases e:j=i
  ·subst e
   rw[eP (by rw[z6];exact hj),aB (by simp),List.idxOf_append,aA hn];simp
  ·rw[gX (λh=>e h.symm),xJ hj]
   by_cases c:j∈o
   ·rw[aB c,aB (by simp[c]),List.idxOf_append,aB c]
   ·rw[aA c,aA (by simp[c,e])]
 ·rw[fY (by rw[cG,z6];exact hj),fY (by rw[z6];exact hj)]
theorem QS (n:Nat):pW n []=List.replicate n (-1):=by
 unfold pW;refine nV λj=> ?_
 rw[bE,r9]
 rcases e7 j n with hj|hj
 ·rw[kg hj,aB hj];simp
 ·rw[fY (by simpa using hj),aA (by omega)];rfl
theorem gN (l:List Int)(k:Nat)(x:Int):(rows aL l).set (k*1+0) (iv x)=rows aL (l.set k x):=by
 rw[fR,jK,im,im,ia]
theorem fF {l:List Int}{k:Nat}{x:Int}(h:l[k]?=some x):(rows aL l)[k*1+0]?=some (iv x):=by
 rw[fR,jK,im,bE,h];rfl
theorem tX (n:Nat):List.replicate n (iv 0)=rows aL (List.replicate n 0):=by rw[im,sN]
theorem Ib (bn bo bg bv:Nat)(nv:Value)(g:cU)(hg:tL (ar g))(hn:g.nodes.length≤120)(A5:(ar g).length=g.nodes.length):∀(f:Nat) (o:List Nat) (i:Nat) (ov:Value),ov.oneCell'=true→DB (ar g) o→i<g.nodes.length→MI g.nodes.length o<f→dt Tryz.prog 156 ([iv i]++ [(Value.pointer (some ⟨bn,0,none⟩)),(Value.pointer (some ⟨bo,0,none⟩)),(Value.pointer (some ⟨bg,0,none⟩)),(Value.pointer (some ⟨bv,0,none⟩))]).toArray [aF (sl bW g.nv.1 g.nodes),aF (aI bX g.nodes),aX bn (.cells [nv].toArray 58 (0,0)),row nv 3 1 g.nodes.length (rows aL (pW g.nodes.length (o))),aX bo (.cells [ov].toArray 58 (0,0)),row ov 3 1 (o).length (rows aL (cA (o))),aX bg (.cells [g.nv.1].toArray 30 (0,0)),aX bv (.cells [(.func (.func 156) #[] [(Value.pointer (some ⟨bn,0,none⟩)),(Value.pointer (some ⟨bo,0,none⟩)),(Value.pointer (some ⟨bg,0,none⟩)),(Value.pointer (some ⟨bv,0,none⟩))].toArray)].toArray 87 (0,0))] (λv H'=>∃tY,tY.oneCell'=true∧H'=[aX bn (.cells [nv].toArray 58 (0,0)),row nv 3 1 g.nodes.length (rows aL (pW g.nodes.length (kL (ar g) f o i))),aX bo (.cells [tY].toArray 58 (0,0)),row tY 3 1 (kL (ar g) f o i).length (rows aL (cA (kL (ar g) f o i))),aX bg (.cells [g.nv.1].toArray 30 (0,0)),aX bv (.cells [(.func (.func 156) #[] [(Value.pointer (some ⟨bn,0,none⟩)),(Value.pointer (some ⟨bo,0,none⟩)),(Value.pointer (some ⟨bg,0,none⟩)),(Value.pointer (some ⟨bv,0,none⟩))].toArray)].toArray 87 (0,0))]):=by
 intro f
 induction f with
 |zero=>intro o i ov _ _ _ h;omega
 |succ f ih=> ?_
 intro o i ov hov ho hi hu;refine dt.body (args:=[iv i]++ [(Value.pointer (some ⟨bn,0,none⟩)),(Value.pointer (some ⟨bo,0,none⟩)),(Value.pointer (some ⟨bg,0,none⟩)),(Value.pointer (some ⟨bv,0,none⟩))]) 38 Tryz.func156 rfl Tryz.ntmps156 rfl (λc=> ?_);refine g6 ?_;refine St.ee (Ev.cB (.mk rfl) eN trivial (by omega) (fF (xJ hi))) ?_;refine g3 ?_;refine St.cond _ rfl (λQT=> ?_) (λQT=> ?_)
 ·skip
  have W6:i∈o:=by by_cases c:i∈o;exact c;rw[aA c]at QT;exact absurd (eS QT) (by decide)
  have hvs:kL (ar g) (f+1) o i=o:=by rw[jr,aB W6]
  refine g2 ?_;refine St.rV [] [aX bn (.cells [nv].toArray 58 (0,0)),row nv 3 1 g.nodes.length (rows aL (pW g.nodes.length (o))),aX bo (.cells [ov].toArray 58 (0,0)),row ov 3 1 (o).length (rows aL (cA (o))),aX bg (.cells [g.nv.1].toArray 30 (0,0)),aX bv (.cells [(.func (.func 156) #[] [(Value.pointer (some ⟨bn,0,none⟩)),(Value.pointer (some ⟨bo,0,none⟩)),(Value.pointer (some ⟨bg,0,none⟩)),(Value.pointer (some ⟨bv,0,none⟩))].toArray)].toArray 87 (0,0))] ?_;exact⟨ov,hov,by rw[hvs]⟩
 ·skip
  have W6:i∉o:=λc=>by rw[aB c]at QT;exact absurd (iT QT) (by omega)
  have hvs:kL (ar g) (f+1) o i=mP (ar g) f (o++ [i]) ((ar g).getD i gH).2:=by rw[jr,aA W6]
  have QU:=js ho.nd (n:=g.nodes.length) (λj hj=>by have:=ho.lt j hj;omega)
  have Gh:=FV hi W6
  obtain⟨t,ht⟩:=aE (show i<g.nodes.length by omega)
  have rz:=ab ht
  have rO:(ar g).getD i gH=lN t:=by rw[ak,jq ht];rfl
  have UB:((ar g).getD i gH).2=t.ah.map eR:=by rw[rO];rfl
  refine St.cL bX g.nodes (x:=t) rz ?_;refine St.eT (sl aq t.lv.1 t.ah) [bX t] (λρ h=>h _ (aU ..)) ?_;refine St.wf t.lv.1 (λSK nU=> ?_)
  have ho1:DB (ar g) (o++ [i]):=⟨by rw[List.nodup_append];exact⟨ho.nd,by simp,by intro a ha b hb;rw[bJ.1 hb];rintro rfl;exact W6 ha⟩,λj hj=>by rcases ba.1 hj with hj|hj;exact ho.lt j hj;rw[bJ.1 hj,A5];exact hi⟩
  refine g9 ?_;refine St.bj (.mk rfl) (.mk rfl) eJ rfl (by omega) (by decide) ?_;refine St.aO nv rfl (show _=rows aL (pW g.nodes.length (o++ [i])) by rw[gN,QR hi W6]) ?_;refine g6 ?_;refine St.gb rfl (.bB rfl) cI eJ jA rfl rfl (by simp[Value.cells]) rfl rfl (λYi=> ?_);refine St.aj (.mk rfl) (.mk rfl) cI eJ jA wO (by simp[Value.oneCell',Value.cells]) (by omega) (by omega) rfl rfl rfl rfl (λv21 al0=> ?_);refine St.aO v21 (show _=(o++ [i]).length from cV) (show _=rows aL (cA (o++ [i]))from uu (Int.natCast_nonneg i)) ?_;refine St.bS v21 (λAJ _=> ?_);refine St.cO (.mk rfl) (.mk rfl) kY AJ (by rfl) ?_;refine g15 ?_;refine St.aO nv rfl (show _=rows aL (pW g.nodes.length (mP (ar g) f (o++ [i]) ((((ar g).getD i gH).2).take (0))))from rfl) ?_;refine St.aO v21 (show _=(mP (ar g) f (o++ [i]) ((((ar g).getD i gH).2).take (0))).length from rfl) (show _=rows aL (cA (mP (ar g) f (o++ [i]) ((((ar g).getD i gH).2).take (0))))from rfl) ?_;refine St.vo (ι:=Nat) (κ:=Value) (λk z T=>(29,iv k)::T) (λk z=>[aX bn (.cells [nv].toArray 58 (0,0)),row nv 3 1 g.nodes.length (rows aL (pW g.nodes.length (mP (ar g) f (o++ [i]) ((((ar g).getD i gH).2).take (k))))),aX bo (.cells [z].toArray 58 (0,0)),row z 3 1 (mP (ar g) f (o++ [i]) ((((ar g).getD i gH).2).take (k))).length (rows aL (cA (mP (ar g) f (o++ [i]) ((((ar g).getD i gH).2).take (k))))),aX bg (.cells [g.nv.1].toArray 30 (0,0)),aX bv (.cells [(.func (.func 156) #[] [(Value.pointer (some ⟨bn,0,none⟩)),(Value.pointer (some ⟨bo,0,none⟩)),(Value.pointer (some ⟨bg,0,none⟩)),(Value.pointer (some ⟨bv,0,none⟩))].toArray)].toArray 87 (0,0)),aF (sl aq t.lv.1 t.ah),aF (sl bW g.nv.1 g.nodes),aF (aI bX g.nodes)]) (λk z=>k≤t.ah.length∧z.oneCell'=true∧DB (ar g) (mP (ar g) f (o++ [i]) ((((ar g).getD i gH).2).take (k)))) (λk z=>t.ah.length-k) 0 v21 (aC.cons 4 rfl (aC.cons 27 rfl (aC.cons 28 rfl aC.nil))) ⟨aR _,AJ,ho1⟩ ?_;rintro k z ⟨hk,hz,wS⟩;refine g6 ?_;refine St.cq (λw6=> ?_) (λw6=> ?_)
  ·obtain⟨p,hp⟩:=aE (show k<t.ah.length by omega)
   have Dq:((ar g).getD i gH).2[k]?=some (eR p):=by rw[UB];show(t.ah.map eR)[k]?=_;rw[bE,hp];rfl
   obtain⟨_,rP,IH⟩:=hg.at_ (ab Dq)
   replace rP:0≤p.tqo:=rP
   replace IH:p.tqo.toNat<(ar g).length:=IH
   have nS:(((ar g).getD i gH).2).take (k+1)=(((ar g).getD i gH).2).take k++ [eR p]:=ai Dq
   obtain⟨j,hj⟩:∃j:Nat,j=p.tqo.toNat:=⟨_,rfl⟩
   have hpj:p.tqo=(j:Int):=by omega
   have al1:MI g.nodes.length (mP (ar g) f (o++ [i]) ((((ar g).getD i gH).2).take (k)))≤MI g.nodes.length (o++ [i]):=FU (λx hx=>(qD (ar g) f _ _).subset hx)
   refine g7 ?_;refine St.ee (Ev.jj (.mk rfl) hp kG trivial dE iY.eq) ?_;refine St.al (λb7=> ?_);refine g3 ?_;refine St.dup (sl bW g.nv.1 g.nodes) ?_;refine St.dup (aI bX g.nodes) ?_;refine g4 ?_;refine St.slot 35 (iv (j:Nat)) rfl (congrArg iv hpj) ?_;refine St.j5 (ih (mP (ar g) f (o++ [i]) ((((ar g).getD i gH).2).take (k))) j z hz wS (by omega) (by omega)) Wa (.mk rfl) (.bB rfl) rfl ?_;rintro v36 _ ⟨tY,ai4,rfl⟩;refine St.ab1 ?_
   have hvk:kL (ar g) f (mP (ar g) f (o++ [i]) ((((ar g).getD i gH).2).take (k))) j=mP (ar g) f (o++ [i]) ((((ar g).getD i gH).2).take (k+1)):=by rw[nS,Bh];show _=kL (ar g) f _ p.tqo.toNat;rw[←hj]
   rw[hvk];refine g8 ?_;refine St.wo (k+1) tY ⟨by omega,ai4,by rw[nS,Bh];exact QF hg _ _ _ wS IH⟩
  ·obtain rfl:k=t.ah.length:=by omega
   have ig:(((ar g).getD i gH).2).take t.ah.length=((ar g).getD i gH).2:=fZ (by rw[UB,aQ];exact aW _)
   rw[ig,←hvs];refine g4 ?_;refine St.dg ?_;refine St.rV [] [aX bn (.cells [nv].toArray 58 (0,0)),row nv 3 1 g.nodes.length (rows aL (pW g.nodes.length (kL (ar g) (f+1) o i))),aX bo (.cells [z].toArray 58 (0,0)),row z 3 1 (kL (ar g) (f+1) o i).length (rows aL (cA (kL (ar g) (f+1) o i))),aX bg (.cells [g.nv.1].toArray 30 (0,0)),aX bv (.cells [(.func (.func 156) #[] [(Value.pointer (some ⟨bn,0,none⟩)),(Value.pointer (some ⟨bo,0,none⟩)),(Value.pointer (some ⟨bg,0,none⟩)),(Value.pointer (some ⟨bv,0,none⟩))].toArray)].toArray 87 (0,0))] ?_;exact⟨z,hz,rfl⟩
def UZ:dW:=⟨0,bK,[]⟩
theorem QV {N:List dW}{k:Nat}{x:dW}(h:N[k]?=some x)(t:Int):(rows bW N).set (k*2+0) (iv t)=rows bW (N.set k ⟨t,x.lv,x.ah⟩):=by
 induction N generalizing k with
 |nil=>cases h
 |cons a N ih=>
  cases k with
  |zero=>obtain rfl:=Option.some.inj h;rfl
  |succ k=>
   have:=ih (k:=k) h
   show(bW.cells a++rows bW N).set ((k+1)*2+0) (iv t)=bW.cells a++rows bW (N.set k _)
   rw[←this,kn _ _ (by show 2≤_;omega)]
   congr 2
   show(k+1)*2+0-2=_
   omega
theorem QW {N:List dW}{k:Nat}{x:dW}(h:N[k]?=some x)(v:aY)(L:List dL):(rows bW N).set (k*2+1) v.1=rows bW (N.set k ⟨x.type,v,L⟩):=by
 induction N generalizing k with
 |nil=>cases h
 |cons a N ih=>
  cases k with
  |zero=>obtain rfl:=Option.some.inj h;rfl
  |succ k=>
   have:=ih (k:=k) h
   show(bW.cells a++rows bW N).set ((k+1)*2+1) v.1=bW.cells a++rows bW (N.set k _)
   rw[←this,kn _ _ (by show 2≤_;omega)]
   congr 2
   show(k+1)*2+1-2=_
   omega
def QX (g:dF)(o:List Nat)(i:Nat):My:=((g.getD i gH).1,(g.getD i gH).2.map λx=>(x.1,(o.idxOf x.2.toNat:Int)))
theorem QY (g:dF)(r:Nat):ff g r=(wW g r).map (QX g (wW g r)):=rfl
theorem vF (g:cU)(hg:tL (ar g))(hn:g.nodes.length≤120)(hL:∀t∈g.nodes,t.ah.length≤1000000)(r:Nat)(hr:r<g.nodes.length):dt Tryz.prog 136 #[au g,iv r] ([aG g].map aF) (λv H'=>H'=[aF (cF (ff (ar g) r) v)]):=by
 refine dt.body (args:=[au g,iv r]) 88 Tryz.func136 rfl Tryz.ntmps136 rfl (λc=> ?_);refine St.cast (H':=[aF (aG g)]) rfl ?_;refine go ?_
 refine St.j7 (aG g) (λ_:Unit=>jm g) (λρ h=>⟨(),h⟩) λ_=> ?_
 refine St.cast (H':=[aF (sl bW g.nv.1 g.nodes),aF (aI bX g.nodes),aF (aG g)]) rfl ?_
 have A5:=cP g
 refine go ?_;refine St.cz (.mk rfl) rfl (λb2=> ?_);refine St.al (λb4=> ?_);refine g7 ?_;refine St.pg (m:=g.nodes.length) (.mk rfl) (.mk rfl) cI eJ jA wO rfl rfl (by omega) rfl rfl (λFa=> ?_);refine St.aO (.slice (some ⟨Fa,0,none⟩) g.nodes.length g.nodes.length) rfl (tX _) ?_;refine St.al (λb5=> ?_);refine St.cO (.mk rfl) (.mk rfl) kY rfl (by rfl) ?_;refine g11 ?_;refine St.vo (ι:=Nat) (κ:=List Int) (λk U T=>(20,iv k)::T) (λk U=>[row (.slice (some ⟨Fa,0,none⟩) g.nodes.length g.nodes.length) 3 1 g.nodes.length (rows aL (U)),aX b5 (.cells [(.slice (some ⟨Fa,0,none⟩) g.nodes.length g.nodes.length)].toArray 58 (0,0)),aX b2 (.cells [g.nv.1].toArray 30 (0,0)),aX b4 (.cells [(.slice none 0 0)].toArray 30 (0,0)),aF (sl bW g.nv.1 g.nodes),aF (aI bX g.nodes),aF (aG g)]) (λk U=>k≤g.nodes.length∧U.length=g.nodes.length∧∀i,i<k→U[i]?=some (-1)) (λk U=>g.nodes.length-k) 0 (List.replicate g.nodes.length 0) (aC.cons 1 rfl (aC.cons 2 rfl (aC.cons 4 rfl (aC.cons 5 rfl (aC.cons 19 rfl aC.nil))))) ⟨aR _,by simp,λi hi=>by omega⟩ ?_;rintro k U ⟨hk,hUl,hU⟩;refine g6 ?_;refine St.cq (λAJ=> ?_) (λAJ=> ?_)
 ·refine g14 ?_
  refine St.bj (.mk rfl) (.mk rfl) eJ rfl (by omega) (by decide) ?_;refine St.aO (.slice (some ⟨Fa,0,none⟩) g.nodes.length g.nodes.length) rfl (gN _ _ _) ?_;refine g8 ?_;refine St.wo (k+1) (U.set k (-1)) ⟨by omega,by rw[cG];exact hUl,λi hi=>by by_cases e:i=k;(rw[e,eP (by omega)]);(rw[gX (λh=>e h.symm)];exact hU i (by omega))⟩
 ·obtain rfl:k=g.nodes.length:=by omega
  have hUe:U=pW g.nodes.length []:=by rw[QS];refine nV λj=> ?_;rw[r9];rcases e7 j g.nodes.length with hj|hj;(rw[hU j hj,aB hj]);(rw[fY (by omega),aA (by omega)])
  subst hUe;refine g7 ?_;refine St.al (λb7=> ?_);refine g4 ?_;refine St.al (λb8=> ?_);refine g4 ?_;refine St.ee (Ev.func (.om rfl rfl rfl rfl)) ?_;refine St.cO (.mk rfl) (.mk rfl) ah8 rfl (by rfl) ?_;refine g3 ?_;refine St.dc 3 1 ?_;refine St.aO (.slice none 0 0) (show _=([]:List Nat).length from rfl) (show _=rows aL (cA [])from rfl) ?_;refine St.dup (sl bW g.nv.1 g.nodes) ?_;refine St.dup (aI bX g.nodes) ?_;refine g3 ?_;refine St.j5 (Ib b5 b7 b2 b8 (.slice (some ⟨Fa,0,none⟩) g.nodes.length g.nodes.length) g hg hn A5 ((ar g).length+1) [] r (.slice none 0 0) rfl ⟨List.nodup_nil,λj hj=>by cases hj⟩ hr (by rw[KP];omega)) Wa (.mk rfl) (.bB rfl) rfl ?_;rintro v30 _ ⟨ov,hov,rfl⟩;refine St.ab1 ?_
  obtain⟨o,hoe⟩:∃o,o=kL (ar g) ((ar g).length+1) [] r:=⟨_,rfl⟩
  rw[←hoe]
  have hoF:wW (ar g) r=o:=hoe.symm
  obtain⟨QZ,aeY,_⟩:=QG hg (r:=r) (by omega);rw[hoF]at QZ aeY
  have QU:=js QZ.nd (n:=g.nodes.length) (λj hj=>by have:=QZ.lt j hj;omega)
  refine g6 ?_;refine St.ot (Rr:=bW) (g:=UZ) (m:=o.length) (sz:=2) rfl (.mk rfl) (.mk rfl) pS jR OM WL rfl rfl (by omega) rfl rfl (λIc=> ?_);refine St.ee (Ev.build (bF.bB rfl) (λw=>Ti rfl w)) ?_;refine St.al (λb9=> ?_);refine g12 ?_;refine St.fact (aI bX (List.replicate o.length UZ)) (λρ _ _ x hx=>by rw[vZ hx];exact uN _ _) ?_;refine St.vo (ι:=Nat) (κ:=List dW) (λk N T=>(37,iv k)::T) (λk N=>[row (.slice (some ⟨Ic,0,none⟩) o.length o.length) 163 2 o.length (rows bW (N)),aX b9 (.cells [(.slice (some ⟨Ic,0,none⟩) o.length o.length)].toArray 30 (0,0)),aX b7 (.cells [ov].toArray 58 (0,0)),row ov 3 1 o.length (rows aL (cA o)),aX b2 (.cells [g.nv.1].toArray 30 (0,0)),aX b4 (.cells [(.slice none 0 0)].toArray 30 (0,0)),aX b5 (.cells [(.slice (some ⟨Fa,0,none⟩) g.nodes.length g.nodes.length)].toArray 58 (0,0)),row (.slice (some ⟨Fa,0,none⟩) g.nodes.length g.nodes.length) 3 1 g.nodes.length (rows aL (pW g.nodes.length o)),aF (aI bX N),aF (sl bW g.nv.1 g.nodes),aF (aI bX g.nodes),aF (aG g)]) (λk N=>k≤o.length∧N.length=o.length∧(N.take k).map lN=(o.take k).map (QX (ar g) o)∧(∀j,k≤j→j<o.length→N[j]?=some UZ)∧∀x∈N,bW.wf x) (λk N=>o.length-k) 0 (List.replicate o.length UZ) (aC.cons 2 rfl (aC.cons 4 rfl (aC.cons 5 rfl (aC.cons 9 rfl (aC.cons 35 rfl (aC.cons 36 rfl aC.nil)))))) ⟨aR _,by simp,rfl,λj _ hj=>by rw[List.getElem?_replicate,if_pos hj],λx hx=>by rw[vZ hx];exact⟨by decide,by decide⟩⟩ ?_;rintro k N ⟨hk,hNl,Wz,hN0,hNw⟩;refine g6 ?_;refine St.cq (λHu=> ?_) (λHu=> ?_)
  ·obtain⟨i,hi⟩:=aE (show k<o.length by omega)
   have pb:=QZ.lt i (ab hi)
   obtain⟨t,ht⟩:=aE (show i<g.nodes.length by omega)
   have rz:=ab ht
   have rO:(ar g).getD i gH=lN t:=by rw[ak,jq ht];rfl
   have hNk:=hN0 k (aW _) (by omega)
   have xi:=aeY i (ab hi)
   rw[rO]at xi
   have htL:=hL t rz
   refine St.wf g.nv.1 (λhgw _=> ?_)
   have Wt:bP t.type:=hgw t rz
   refine St.cL bX g.nodes (x:=t) rz ?_;refine St.eT (sl aq t.lv.1 t.ah) [bX t] (λρ h=>h _ (aU ..)) ?_;refine St.wf t.lv.1 (λSK nU=> ?_);refine g8 ?_;refine St.ee (Ev.cB (.mk rfl) eN trivial (by omega) (fF (show(cA o)[k]?=some (i:Int) by rw[bE,hi];rfl))) ?_;refine g5 ?_;refine St.cx [row (.slice (some ⟨Ic,0,none⟩) o.length o.length) 163 2 o.length (rows bW (N))] mixed (λnp ns=> ?_);refine SW.gd 0 ?_;refine SW.gd 1 ?_;refine SW.gd 2 ?_;refine SW.gd 3 ?_;refine SW.gd 4 ?_;refine SW.gd 5 ?_;refine SW.gd 6 ?_;refine SW.gd 7 ?_;refine SW.gd 8 ?_;refine SW.dd 9 rfl (λ_=>Ev.mN (k:=k) rfl (.mk rfl) (.mk rfl) pS jR (by omega) (by omega)) ?_;refine SW.dd 10 rfl (λ_=>Ev.j3 rfl (.mk rfl) ss) ?_;refine SW.t1 11 ?_;refine St.bj (.mk rfl) (.mk rfl) eJ rfl (by omega) (by decide) ?_;refine g2 ?_;refine SW.go ?_;refine SW.dn ?_;refine g2 ?_;refine St.aO (.slice (some ⟨Ic,0,none⟩) o.length o.length) rfl (show _=rows bW (N.set k ⟨t.type,bK,[]⟩)from QV hNk _) ?_;refine g12 ?_;refine St.dc 165 2 ?_;refine St.aO (.slice none 0 0) (show _=([]:List dL).length from rfl) (show _=rows aq []from rfl) ?_;refine St.vo (ι:=Nat) (κ:=aY×List dL) (λq z T=>(60,iv q)::T) (λq z=>[row (.slice (some ⟨Ic,0,none⟩) o.length o.length) 163 2 o.length (rows bW (N.set k ⟨t.type,z.1,z.2⟩)),row z.1.1 165 2 (z.2).length (rows aq (z.2)),aX b9 (.cells [(.slice (some ⟨Ic,0,none⟩) o.length o.length)].toArray 30 (0,0)),aX b7 (.cells [ov].toArray 58 (0,0)),row ov 3 1 o.length (rows aL (cA o)),aX b2 (.cells [g.nv.1].toArray 30 (0,0)),aX b4 (.cells [(.slice none 0 0)].toArray 30 (0,0)),aX b5 (.cells [(.slice (some ⟨Fa,0,none⟩) g.nodes.length g.nodes.length)].toArray 58 (0,0)),row (.slice (some ⟨Fa,0,none⟩) g.nodes.length g.nodes.length) 3 1 g.nodes.length (rows aL (pW g.nodes.length o)),aF (sl aq t.lv.1 t.ah),aF (aI bX N),aF (sl bW g.nv.1 g.nodes),aF (aI bX g.nodes),aF (aG g)]) (λq z=>q≤t.ah.length∧z.2.length=q∧z.2.map eR=(t.ah.take q).map (λp=>(p.cT,(o.idxOf p.tqo.toNat:Int)))∧∀x∈z.2,aq.wf x) (λq z=>t.ah.length-q) 0 (bK,[]) (aC.cons 2 rfl (aC.cons 4 rfl (aC.cons 5 rfl (aC.cons 9 rfl (aC.cons 10 rfl (aC.cons 35 rfl (aC.cons 36 rfl (aC.cons 37 rfl (aC.cons 58 rfl (aC.cons 59 rfl aC.nil)))))))))) ⟨aR _,rfl,rfl,λx hx=>by cases hx⟩ ?_;rintro q ⟨lv,L⟩ ⟨hq,N7,Qb,Z4⟩
   dsimp only at N7 Qb Z4⊢
   have hNq:(N.set k ⟨t.type,lv,L⟩)[k]?=some ⟨t.type,lv,L⟩:=eP (by omega)
   refine g6 ?_;refine St.cq (λh61=> ?_) (λh61=> ?_)
   ·obtain⟨p,hp⟩:=aE (show q<t.ah.length by omega)
    have hpo:p.tqo.toNat∈o:=xi (eR p) (dq (ab hp))
    have hpi:=List.idxOf_lt_length_iff.2 hpo
    have hpn:=QZ.lt _ hpo
    have Pb:0≤p.tqo:=by have h0:=hg.at_ (i:=i) (x:=eR p) (by rw[rO];exact dq (ab hp));exact h0.2.1
    refine g7 ?_;refine St.ee (Ev.jj (.mk rfl) hp kG trivial dE iY.eq) ?_;refine St.al (λQA=> ?_);refine g3 ?_;refine St.cx [row (.slice (some ⟨Ic,0,none⟩) o.length o.length) 163 2 o.length (rows bW (N.set k ⟨t.type,lv,L⟩)),row lv.1 165 2 (L).length (rows aq (L))] mixed (λnp ns=> ?_);refine SW.gd 0 ?_;refine SW.gd 1 ?_;refine SW.gd 2 ?_;refine SW.gd 3 ?_;refine SW.gd 4 ?_;refine SW.gd 5 ?_;refine SW.dd 6 rfl (λ_=>Ev.mN (k:=k) rfl (.mk rfl) (.mk rfl) pS jR (by omega) (by omega)) ?_;refine SW.dd 7 rfl (λ_=>Ev.j3 rfl (.mk rfl) sk) ?_;refine SW.gd 9 ?_;refine SW.gd 10 ?_;refine SW.gd 11 ?_;refine SW.gd 12 ?_;refine SW.gd 13 ?_;refine SW.dd 14 rfl (λ_=>Ev.dT (k:=p.tqo.toNat) (.mk rfl) (.mk rfl) cI eJ (by omega) (by omega)) ?_;refine SW.dd 15 rfl (λ_=>Ev.cB (.mk rfl) eN trivial (by omega) (fF (xJ (by omega)))) ?_;refine SW.slot 79 (iv ((o.idxOf p.tqo.toNat:Nat):Int)) rfl (by rw[aB hpo]) ?_;refine SW.dd 16 rfl (λ_=>Ev.build (ps:=[(0,(.tmp 74)),(1,(.tmp 79))]) (bF.bH rfl rfl) (λw=>rj rfl rfl w)) ?_;refine SW.slot 80 (.agg #[iv p.cT,iv ((o.idxOf p.tqo.toNat:Nat):Int)]) rfl rfl ?_;refine SW.t2 8 17 ?_ ?_
    focus
     refine St.ee (Ev.cB (.mk rfl) eA trivial (by omega) (db bW _ k 1 _ hNq (by decide))) ?_;refine g2 ?_;refine SW.go ?_;refine SW.t1 17 ?_;refine St.gb rfl (.bB rfl) eA dE mA rfl rfl (by simp[Value.cells]) rfl rfl (λb81=> ?_);refine g2 ?_;refine SW.go ?_;refine SW.t1 18 ?_;refine St.aj (.mk rfl) (.mk rfl) eA dE mA sm (by simp[Value.oneCell',Value.cells]) (by omega) (by omega) rfl rfl rfl rfl (λv82 ai5=> ?_);refine St.aO v82 (show _=(L++ [(⟨p.cT,o.idxOf p.tqo.toNat⟩:dL)]).length from cV) (show _=rows aq (L++ [(⟨p.cT,o.idxOf p.tqo.toNat⟩:dL)]) by rw[aw];rfl) ?_;refine St.bS v82 (λSQ _=> ?_);refine g2 ?_;refine SW.go ?_;refine SW.dd 19 rfl (λ_=>Ev.mN (k:=k) rfl (.mk rfl) (.mk rfl) pS jR (by omega) (by omega)) ?_;refine SW.dd 20 rfl (λ_=>Ev.j3 rfl (.mk rfl) sk) ?_;refine SW.t1 21 ?_;refine St.bj (.mk rfl) (.mk rfl) rL SQ (by omega) (by decide) ?_;refine g2 ?_;refine SW.go ?_;refine SW.dn ?_
    rotate_left
    focus
     refine St.gb rfl (.bB rfl) eA dE mA rfl rfl (by simp[Value.cells]) rfl rfl (λb81=> ?_);refine g2 ?_;refine SW.go ?_;refine SW.t1 8 ?_;refine St.ee (Ev.cB (.mk rfl) eA trivial (by omega) (db bW _ k 1 _ hNq (by decide))) ?_;refine g2 ?_;refine SW.go ?_;refine SW.t1 18 ?_;refine St.aj (.mk rfl) (.mk rfl) eA dE mA sm (by simp[Value.oneCell',Value.cells]) (by omega) (by omega) rfl rfl rfl rfl (λv82 ai5=> ?_);refine St.aO v82 (show _=(L++ [(⟨p.cT,o.idxOf p.tqo.toNat⟩:dL)]).length from cV) (show _=rows aq (L++ [(⟨p.cT,o.idxOf p.tqo.toNat⟩:dL)]) by rw[aw];rfl) ?_;refine St.bS v82 (λSQ _=> ?_);refine g2 ?_;refine SW.go ?_;refine SW.dd 19 rfl (λ_=>Ev.mN (k:=k) rfl (.mk rfl) (.mk rfl) pS jR (by omega) (by omega)) ?_;refine SW.dd 20 rfl (λ_=>Ev.j3 rfl (.mk rfl) sk) ?_;refine SW.t1 21 ?_;refine St.bj (.mk rfl) (.mk rfl) rL SQ (by omega) (by decide) ?_;refine g2 ?_;refine SW.go ?_;refine SW.dn ?_
    all_goals
     refine g2 ?_;refine St.aO (.slice (some ⟨Ic,0,none⟩) o.length o.length) rfl (show _=rows bW (N.set k ⟨t.type,⟨v82,SQ⟩,L++ [⟨p.cT,o.idxOf p.tqo.toNat⟩]⟩)from(QW hNq ⟨v82,SQ⟩ (L++ [⟨p.cT,o.idxOf p.tqo.toNat⟩])).trans (congrArg (rows bW) (List.set_set ..))) ?_;refine g5 ?_;refine St.wo (q+1) (⟨v82,SQ⟩,L++ [⟨p.cT,o.idxOf p.tqo.toNat⟩]) ⟨by omega,by dsimp only;rw[bA,N7];rfl,by dsimp only;rw[cC,Qb,ai hp,cC];rfl,λx hx=>by rcases ba.1 hx with hx|hx;exact Z4 x hx;rw[bJ.1 hx];exact⟨(SK p (ab hp)).1,by show bP ((o.idxOf p.tqo.toNat:Nat):Int);unfold bP;omega⟩⟩
   ·obtain rfl:q=t.ah.length:=by omega
    rw[fZ (aW _)]at Qb;refine St.bZ lv.1 aq L rfl rfl Z4 ?_;refine St.eT (aI bX (N.set k ⟨t.type,lv,L⟩)) [aI bX N,sl aq lv.1 L] (λρ h x hx=>by rcases jx hx with hx|rfl;exact h _ (aU ..) x hx;exact h _ (cE _ (aU ..))) ?_
    have ai6:((N.set k ⟨t.type,lv,L⟩).take (k+1)).map lN=(o.take (k+1)).map (QX (ar g) o):=by rw[ai (eP (by omega)),ai hi,List.take_set_of_le (aW _),cC,cC,Wz];congr 1;show [(t.type,L.map eR)]=[QX (ar g) o i];rw[Qb,QX,rO];show _=[(t.type,(t.ah.map eR).map _)];rw[kh];rfl
    refine g11 ?_;refine St.wo (k+1) (N.set k ⟨t.type,lv,L⟩) ⟨by omega,by rw[cG];exact hNl,ai6,λj h1 h2=>by rw[gX (by omega)];exact hN0 j (by omega) h2,λx hx=>by rcases jx hx with hx|rfl;exact hNw x hx;exact Wt⟩
  ·obtain rfl:k=o.length:=by omega
   have FM:N.map lN=ff (ar g) r:=by rw[QY,hoF];rw[fZ (by omega),fZ (by omega)]at Wz;exact Wz
   refine St.bZ (.slice (some ⟨Ic,0,none⟩) o.length o.length) bW N rfl hNl.symm hNw ?_;refine St.eT (aG ⟨⟨(.slice (some ⟨Ic,0,none⟩) o.length o.length),rfl⟩,N⟩) [sl bW (.slice (some ⟨Ic,0,none⟩) o.length o.length) N,aI bX N] (λρ h=>h) ?_;refine St.eT (cF (ff (ar g) r) (.agg #[(.slice (some ⟨Ic,0,none⟩) o.length o.length)])) [aG ⟨⟨(.slice (some ⟨Ic,0,none⟩) o.length o.length),rfl⟩,N⟩] (λρ h=>⟨⟨⟨(.slice (some ⟨Ic,0,none⟩) o.length o.length),rfl⟩,N⟩,rfl,FM,h _ (aU ..)⟩) ?_;refine g12 ?_;refine St.rV [_] [aF (cF (ff (ar g) r) (.agg #[(.slice (some ⟨Ic,0,none⟩) o.length o.length)]))] ?_;exact rfl
theorem Ua {T:List dz}{a b:Nat}(h:both T a b=0):fg T a b=none:=by
 unfold fg
 cases e:comm T a b with
 |nil=>rfl
 |cons m r=>
  have:m∈comm T a b:=by rw[e];exact aU ..
  rw[kK,h,Nat.zero_testBit]at this;cases this
theorem aeZ {T:List dz}{a b m:Nat}(h:(both T a b).testBit m=true)(hl:∀i,i<m→(both T a b).testBit i=false):fg T a b=if jO T a b=true then none else some m:=by
 have hm:=kK.2 h
 unfold fg
 cases e:comm T a b with
 |nil=>rw[e]at hm;cases hm
 |cons m' r=>
  have hp:(comm T a b).Pairwise (· < ·):=by unfold comm;exact List.Pairwise.filter _ List.pairwise_lt_range
  rw[e]at hp
  have jc:m'∈comm T a b:=by rw[e];exact aU ..
  have e2:m'=m:=by
   rw[e]at hm
   rcases cD.1 hm with h2|h2
   ·exact h2.symm
   ·have h3:=(ib.1 hp).1 m h2
    have h4:=hl m' h3
    rw[kK.1 jc]at h4;cases h4
  subst e2;rfl
theorem Bl (T:List dz):yn T.length (fg T):=λa b m h=>by
 unfold fg at h
 split at h
 ·cases h
 ·rename_i m' r e
  split at h
  ·cases h
  ·obtain rfl:=Option.some.inj h
   have:m'∈comm T a b:=by rw[e];exact aU ..
   unfold comm at this;exact cy.1 (List.mem_filter.1 this).1
def mtV (o:Option Nat)(wr:Bool):Value:= .tuple #[iv ((o.getD 0:Nat):Int),.bool o.isSome,.bool wr]
theorem z7 (w1 w2:aY)(T:List dz)(hT:gy T)(a b:Nat)(ha:a<T.length)(hb:b<T.length):dt Tryz.prog 80 #[jS w1 w2,iv a,iv b] ([sl ay w1.1 (cn T),sl ay w2.1 (cr T),tz].map aF) (λv H'=>v=mtV (fg T a b) (jO T a b)∧H'=[]):=by
 refine dt.body (args:=[jS w1 w2,iv a,iv b]) 33 Tryz.func80 rfl Tryz.ntmps80 rfl (λc=> ?_);refine St.cast (H':=[aF (sl ay w1.1 (cn T)),aF (sl ay w2.1 (cr T)),aF (tz)]) rfl ?_;refine go ?_
 have yb:=hT.len
 have I7:=FF T
 refine go ?_;refine St.cz (.mk rfl) rfl (λb3=> ?_);refine g6 ?_;refine St.rq mixed (by kernel_rfl) (Mm.drawn _ _) ?_;refine g4 ?_;refine Sq.ee (Ev.ld1 (.mk rfl) (o5 ha) l5 trivial rfl) ?_;refine g4 ?_;refine Sq.ee (Ev.ld1 (.mk rfl) (o5 hb) l5 trivial rfl) ?_;refine Sq.ee (Ev.aeS (.mk rfl) (.mk rfl) ⟨mw _ _ yb,mw _ _ yb⟩) ?_;refine g5 ?_;refine St.slot 9 (uv (both T a b)) rfl rfl ?_
 have I8:both T a b<18446744073709551616:=uG Nat.and_le_left (mw _ _ yb)
 refine g5 ?_;refine St.cq (λyU=> ?_) (λyU=> ?_)
 ·have h0:both T a b=0:=by omega
  refine g9 ?_;refine St.rV [_,_,_] [] ?_;exact⟨by rw[ya h0,Ua h0];rfl,rfl⟩
 ·have h0:both T a b≠0:=by omega
  obtain⟨kV,kS⟩:=FI h0 I8
  have xi:Lib.ctz 64 (both T a b)<T.length:=by rw[o6,wF,fS]at kV;exact kV.1
  have M7:=FG hT kV kS
  have qC:=aeZ kV kS
  refine g5 ?_;refine St.ee (Ev.call (KI (both T a b) I8) WU (.bB rfl)) ?_;refine g9 ?_;refine St.ee (Ev.cZ (k:=(Lib.ctz 64 (both T a b))) (.mk rfl) (.mk rfl) uY kH (by omega) (by omega)) ?_;refine St.ee (Ev.ld1 (.mk rfl) (o5 xi) l5 trivial rfl) ?_;refine g4 ?_;refine St.cq (λuq=> ?_) (λuq=> ?_)
  ·rw[dH (by omega)]at M7
   rw[aB M7]at qC;refine g9 ?_;refine St.rV [_,_,_] [] ?_;exact⟨by rw[M7,qC];rfl,rfl⟩
  ·rw[eL (by omega)]at M7
   rw[aA (by rw[M7];decide)]at qC;refine g11 ?_;refine St.rV [_,_,_] [] ?_;exact⟨by rw[M7,qC];rfl,rfl⟩
theorem find_spec (bp:Nat)(w1 w2:aY)(pv tv lv:Value)(rk:Nat→Nat)(B:Nat)(R:List Nat)(hR:R.length≤1000000)(P0:List Nat)(h0:UR rk B P0 R)(i0:Nat)(hi0:i0<R.length):dt Tryz.prog 150 #[.pointer (some ⟨bp,0,none⟩),iv i0] [aX bp (.cells [w1.1,w2.1,pv,tv,lv].toArray 245 (0,0)),row pv 3 1 R.length (rows aL (cA (P0)))] (λv H'=>∃P2,v=iv ((R.getD i0 0:Nat):Int)∧UR rk B P2 R∧H'=[aX bp (.cells [w1.1,w2.1,pv,tv,lv].toArray 245 (0,0)),row pv 3 1 R.length (rows aL (cA (P2)))]):=by
 refine dt.body (args:=[.pointer (some ⟨bp,0,none⟩),iv i0]) 41 Tryz.func150 rfl Tryz.ntmps150 rfl (λc=> ?_);refine g7 ?_;refine St.vo (ι:=Nat) (κ:=List Nat) (λi Q T=>(1,iv i)::T) (λi Q=>[aX bp (.cells [w1.1,w2.1,pv,tv,lv].toArray 245 (0,0)),row pv 3 1 R.length (rows aL (cA (Q)))]) (λi Q=>i<R.length∧UR rk B Q R∧R.getD i 0=R.getD i0 0) (λi Q=>B-rk i) i0 P0 (aC.cons 0 rfl (aC.cons 4 rfl aC.nil)) ⟨hi0,h0,rfl⟩ ?_;rintro i Q ⟨hi,hQ,hri⟩
 have X0:=hQ.len
 obtain⟨a,ha⟩:=aE (show i<Q.length by omega)
 have hga:Q.getD i 0=a:=by rw[ak,ha];rfl
 have SR:=hQ.lt i hi
 rw[hga]at SR;refine St.kA pv (by omega) (λbs cs qJ=> ?_);refine g9 ?_;refine St.ee (Ev.cB (.mk rfl) eN trivial (by omega) (fF (show(cA Q)[i]?=some (a:Int) by rw[bE,ha];rfl))) ?_;refine g4 ?_;refine St.cq (λh13=> ?_) (λh13=> ?_)
 ·have fP:Q.getD i 0≠i:=by rw[hga];omega
  obtain⟨b,hb⟩:=aE (show a<Q.length by omega)
  have hgb:Q.getD a 0=b:=by rw[ak,hb];rfl
  obtain⟨uB,wR,PM,hq4⟩:=hQ.aeX hi fP;rw[hga,hgb]at uB wR PM hq4;refine g4 ?_;refine St.cx [row pv 3 1 R.length (rows aL (cA (Q)))] mixed (λnp ns=> ?_);refine SW.gd 0 ?_;refine SW.gd 1 ?_;refine SW.gd 2 ?_;refine SW.gd 3 ?_;refine SW.gd 4 ?_;refine SW.gd 5 ?_;refine SW.gd 6 ?_;refine SW.gd 7 ?_;refine SW.gd 8 ?_;refine SW.gd 9 ?_;refine SW.gd 10 ?_;refine SW.gd 11 ?_;refine SW.gd 12 ?_;refine SW.gd 13 ?_;refine SW.dd 14 rfl (λ_=>Ev.mN (k:=i) qJ (.mk rfl) (.mk rfl) cI eJ (by omega) (by omega)) ?_;refine SW.t1 15 ?_;refine St.ee (Ev.cB (.mk rfl) eN trivial (by omega) (fF (show(cA Q)[i]?=some (a:Int) by rw[bE,ha];rfl))) ?_;refine g2 ?_;refine SW.go ?_;refine SW.dd 16 rfl (λ_=>Ev.mN (k:=a) qJ (.mk rfl) (.mk rfl) cI eJ (by omega) (by omega)) ?_;refine SW.t1 17 ?_;refine St.ee (Ev.cB (.mk rfl) eN trivial (by omega) (fF (show(cA Q)[a]?=some (b:Int) by rw[bE,hb];rfl))) ?_;refine g2 ?_;refine SW.go ?_;refine SW.dd 18 rfl (λ_=>Ev.mN (k:=i) qJ (.mk rfl) (.mk rfl) cI eJ (by omega) (by omega)) ?_;refine SW.t1 19 ?_;refine St.bj (.mk rfl) (.mk rfl) eJ rfl (by omega) (by decide) ?_;refine g2 ?_;refine SW.go ?_;refine SW.dn ?_;refine go ?_;refine St.aO pv rfl (show _=rows aL (cA (Q.set i b)) by rw[gN,cA,cA,ia]) ?_
  have hbb:(Q.set i b)[i]?=some b:=eP (by omega)
  refine g7 ?_;refine St.ee (Ev.cB (.mk rfl) eN trivial (by omega) (fF (show(cA (Q.set i b))[i]?=some (b:Int) by rw[bE,hbb];rfl))) ?_;refine g4 ?_;refine St.mf b (Q.set i b) ⟨by omega,uB,by omega⟩ (by have:=hQ.le b (by omega);omega) (by repeat(first|exact Sub.nil|refine Sub.cons (by first|rfl|exact congrArg (λz=>some (iv z)) (by first|omega|(dsimp only;omega))|exact congrArg (λz=>some (Value.bool z)) (by first|assumption|exact iZ (by assumption))) ?_)) (λ_ hw=>hw.sub)
 ·have hme:Q.getD i 0=i:=by rw[hga];omega
  have ak2:=(hQ.me i hi).1 hme
  have FM:R.getD i0 0=i:=by omega
  refine g12 ?_;refine St.rV [_] [aX bp (.cells [w1.1,w2.1,pv,tv,lv].toArray 245 (0,0)),row pv 3 1 R.length (rows aL (cA (Q)))] ?_;exact⟨Q,by rw[FM];rfl,hQ,rfl⟩
abbrev DF:=aY×List dL
def pX (q:DF):df:=sl aq q.1.1 q.2
def z8 (q:DF):jw:=q.2.map eR
def shf (n:Nat)(p:dL):dL:=⟨p.cT,(n:Int)+p.tqo⟩
theorem Bm (p:dL):∀(l:List dL) (k:Nat),((rows aq l).set (k*2) (iv p.cT)).set (k*2+1) (iv p.tqo)=rows aq (l.set k p)
 | [],k=>by simp[rows]
 |a::l,0=>rfl
 |a::l,k+1=>by
  have:=Bm p l k
  show((aq.cells a++rows aq l).set ((k+1)*2) _).set ((k+1)*2+1) _=aq.cells a++rows aq (l.set k p)
  rw[←this,show(k+1)*2=2+k*2 by omega,kn _ _ (by show 2≤_;omega),kn _ _ (by show 2≤_;omega)]
  congr 2
  ·congr 1;show 2+k*2-2=_;omega
  ·show 2+k*2+1-2=_;omega
theorem Fb (n:Nat):rows aL (cA (List.range n))++ [iv (n:Nat)]=rows aL (cA (List.range (n+1))):=by
 rw[vc];exact uu (Int.natCast_nonneg n)
theorem tZ (bp:Nat)(w1 w2:aY)(g:cU)(hg:tL (ar g))(hn:g.nodes.length≤120)(hL:∀t∈g.nodes,t.ah.length≤1000000)(n0:Nat)(Sm:n0≤120)(A0:List Int)(ht0:A0.length=n0)(Ds:List DF)(Tk:Ds.length=n0)(pv0 Z5 lv0:Value)(ho:pv0.oneCell'=true∧Z5.oneCell'=true∧lv0.oneCell'=true):dt Tryz.prog 128 #[.pointer (some ⟨bp,0,none⟩),au g] [aX bp (.cells [w1.1,w2.1,pv0,Z5,lv0].toArray 245 (0,0)),row pv0 3 1 (List.range n0).length (rows aL (cA (List.range n0))),row Z5 3 1 (A0).length (rows aL (A0)),row lv0 161 1 (Ds).length (rows cN ((Ds).map Prod.fst)),aF (aI pX (Ds)),aF (aG g)] (λv H'=>∃(pv tv lv:Value) (ls:List DF),v=iv (n0:Nat)∧(pv.oneCell'=true∧tv.oneCell'=true∧lv.oneCell'=true)∧ls.map z8=Ds.map z8++(ar g).map (λn=>n.2.map λx=>(x.1,(n0:Int)+x.2))∧H'=[aX bp (.cells [w1.1,w2.1,pv,tv,lv].toArray 245 (0,0)),row pv 3 1 (List.range (n0+g.nodes.length)).length (rows aL (cA (List.range (n0+g.nodes.length)))),row tv 3 1 (A0++g.nodes.map dW.type).length (rows aL (A0++g.nodes.map dW.type)),row lv 161 1 (ls).length (rows cN ((ls).map Prod.fst)),aF (aI pX (ls))]):=by
 refine dt.body (args:=[.pointer (some ⟨bp,0,none⟩),au g]) 82 Tryz.func128 rfl Tryz.ntmps128 rfl (λc=> ?_);refine go ?_
 refine St.j7 (aG g) (λ_:Unit=>jm g) (λρ h=>⟨(),h⟩) λ_=> ?_
 refine St.cast (H':=[aF (sl bW g.nv.1 g.nodes),aF (aI bX g.nodes),aX bp (.cells [w1.1,w2.1,pv0,Z5,lv0].toArray 245 (0,0)),row pv0 3 1 (List.range n0).length (rows aL (cA (List.range n0))),row Z5 3 1 (A0).length (rows aL (A0)),row lv0 161 1 (Ds).length (rows cN ((Ds).map Prod.fst)),aF (aI pX (Ds)),aF (aG g)]) rfl ?_
 have A5:=cP g
 obtain⟨ho1,Z6,ho3⟩:=ho;refine go ?_;refine St.cz (.mk rfl) rfl (λb3=> ?_);refine g10 ?_;refine St.slot 15 (iv (n0:Nat)) rfl (congrArg iv (by omega)) ?_;refine g13 ?_;refine St.aO Z5 (show _=(A0++(g.nodes.take (0)).map dW.type).length by rw[List.take_zero,lV,fj]) (show _=rows aL (A0++(g.nodes.take (0)).map dW.type) by rw[List.take_zero,lV,fj]) ?_;refine St.vo (ι:=Nat) (κ:=Value×Value×Value×List DF) (λk z T=>(19,iv k)::T) (λk z=>[aX bp (.cells [w1.1,w2.1,z.1,z.2.1,z.2.2.1].toArray 245 (0,0)),row z.1 3 1 (List.range (n0+k)).length (rows aL (cA (List.range (n0+k)))),row z.2.1 3 1 (A0++(g.nodes.take (k)).map dW.type).length (rows aL (A0++(g.nodes.take (k)).map dW.type)),row z.2.2.1 161 1 (z.2.2.2).length (rows cN ((z.2.2.2).map Prod.fst)),aF (aI pX (z.2.2.2)),aX b3 (.cells [g.nv.1].toArray 30 (0,0)),aF (sl bW g.nv.1 g.nodes),aF (aI bX g.nodes)]) (λk z=>k≤g.nodes.length∧(z.1.oneCell'=true∧z.2.1.oneCell'=true∧z.2.2.1.oneCell'=true)∧z.2.2.2.length=n0+k∧z.2.2.2.map z8=Ds.map z8++((ar g).take k).map (λn=>n.2.map λx=>(x.1,(n0:Int)+x.2))) (λk z=>g.nodes.length-k) 0 (pv0,Z5,lv0,Ds) (aC.cons 0 rfl (aC.cons 4 rfl (aC.cons 5 rfl (aC.cons 17 rfl (aC.cons 18 rfl aC.nil))))) ⟨aR _,⟨ho1,Z6,ho3⟩,Tk,by rw[List.take_zero,lV,fj]⟩ ?_;rintro k ⟨pv,tv,lv,ls⟩ ⟨hk,⟨h1,h2,h3⟩,UE,hlm⟩
 dsimp only at h1 h2 h3 UE hlm⊢
 have M9:(A0++(g.nodes.take (k)).map dW.type).length=n0+k:=by rw[bA,aQ,e9];omega
 have hRl:(List.range (n0+k)).length=n0+k:=iJ
 refine g6 ?_;refine St.cq (λh20=> ?_) (λh20=> ?_)
 ·obtain⟨t,ht⟩:=aE (show k<g.nodes.length by omega)
  have rz:=ab ht
  have htL:=hL t rz
  have k9:=jq ht
  refine St.cL bX g.nodes (x:=t) rz ?_;refine St.eT (sl aq t.lv.1 t.ah) [bX t] (λρ h=>h _ (aU ..)) ?_;refine St.wf t.lv.1 (λSK nU=> ?_);refine g8 ?_;refine St.ee (Ev.jj (.mk rfl) ht vq trivial jR iY.eq) ?_;refine St.al (λb7=> ?_);refine g9 ?_;refine St.ot (Rr:=aq) (g:=(⟨0,0⟩:dL)) (m:=t.ah.length) (sz:=2) rfl (.mk rfl) (.mk rfl) eA dE mA sm rfl rfl (by omega) rfl rfl (λDt=> ?_);refine g13 ?_;refine St.vo (ι:=Nat) (κ:=List dL) (λq M T=>(31,iv q)::T) (λq M=>[row (.slice (some ⟨Dt,0,none⟩) t.ah.length t.ah.length) 165 2 t.ah.length (rows aq (M)),aX b7 (.cells [iv t.type,t.lv.1].toArray 163 (0,0)),aX bp (.cells [w1.1,w2.1,pv,tv,lv].toArray 245 (0,0)),row pv 3 1 (List.range (n0+k)).length (rows aL (cA (List.range (n0+k)))),row tv 3 1 (A0++(g.nodes.take (k)).map dW.type).length (rows aL (A0++(g.nodes.take (k)).map dW.type)),row lv 161 1 (ls).length (rows cN ((ls).map Prod.fst)),aF (aI pX (ls)),aX b3 (.cells [g.nv.1].toArray 30 (0,0)),aF (sl bW g.nv.1 g.nodes),aF (aI bX g.nodes),aF (sl aq t.lv.1 t.ah)]) (λq M=>q≤t.ah.length∧M.length=t.ah.length∧M.take q=(t.ah.take q).map (shf n0)∧∀x∈M,aq.wf x) (λq M=>t.ah.length-q) 0 (List.replicate t.ah.length (⟨0,0⟩:dL)) (aC.cons 0 rfl (aC.cons 4 rfl (aC.cons 5 rfl (aC.cons 6 rfl (aC.cons 7 rfl (aC.cons 8 rfl (aC.cons 17 rfl (aC.cons 18 rfl (aC.cons 19 rfl (aC.cons 29 rfl (aC.cons 30 rfl aC.nil))))))))))) ⟨aR _,by simp,rfl,λx hx=>by rw[List.eq_of_mem_replicate hx];exact⟨by unfold bP;decide,by unfold bP;decide⟩⟩ ?_;rintro q M ⟨hq,hMl,hMt,hMw⟩;refine g6 ?_;refine St.cq (λWE=> ?_) (λWE=> ?_)
  ·obtain⟨p,hp⟩:=aE (show q<t.ah.length by omega)
   have hpm:=ab hp
   obtain⟨_,Pb,vG⟩:=hg.at_ (i:=k) (x:=eR p) (by rw[ak,k9];exact dq hpm)
   replace Pb:0≤p.tqo:=Pb
   replace vG:p.tqo.toNat<(ar g).length:=vG
   have hpw:aq.wf (shf n0 p):=⟨(SK p hpm).1,by show bP ((n0:Int)+p.tqo);unfold bP;omega⟩
   refine g8 ?_;refine St.ee (Ev.jj (.mk rfl) hp kG trivial dE iY.eq) ?_;refine St.al (λX2=> ?_);refine g13 ?_;refine St.ee (Ev.build (bF.bH rfl rfl) (λw=>rj rfl rfl w)) ?_;refine St.slot 44 (.agg #[iv p.cT,iv ((n0:Int)+p.tqo)]) rfl rfl ?_;refine go ?_;refine St.Lf (k:=q) (.mk rfl) (.mk rfl) dE rfl rfl (by omega) ?_;refine St.aO (.slice (some ⟨Dt,0,none⟩) t.ah.length t.ah.length) rfl (Bm (shf n0 p) M q) ?_;refine g8 ?_;refine St.wo (q+1) (M.set q (shf n0 p)) ⟨by omega,by rw[cG];exact hMl,by rw[ai (eP (by omega)),List.take_set_of_le (aW _),hMt,ai hp,cC];rfl,λx hx=>by rcases jx hx with hx|rfl;exact hMw x hx;exact hpw⟩
  ·obtain rfl:q=t.ah.length:=by omega
   rw[fZ (by omega),fZ (aW _)]at hMt;refine St.bZ (.slice (some ⟨Dt,0,none⟩) t.ah.length t.ah.length) aq M rfl hMl.symm hMw ?_;refine St.eT (aI pX (ls++ [(⟨(.slice (some ⟨Dt,0,none⟩) t.ah.length t.ah.length),rfl⟩,M)])) [aI pX ls,sl aq (.slice (some ⟨Dt,0,none⟩) t.ah.length t.ah.length) M] (λρ h x hx=>by rcases ba.1 hx with hx|hx;exact h _ (aU ..) x hx;rw[bJ.1 hx];exact h _ (cE _ (aU ..))) ?_
   have ai7:(ls++ [((⟨(.slice (some ⟨Dt,0,none⟩) t.ah.length t.ah.length),rfl⟩:aY),M)]).map z8=Ds.map z8++((ar g).take (k+1)).map (λn=>n.2.map λx=>(x.1,(n0:Int)+x.2)):=by rw[cC,hlm,ai k9,cC,cg];congr 2;show [M.map eR]=[(t.ah.map eR).map _];rw[hMt,kh,kh];rfl
   refine g15 ?_;refine St.slot 54 (iv ((n0+k:Nat):Int)) rfl (congrArg iv (by omega)) ?_;refine St.gb rfl (.bB rfl) cI eJ jA rfl rfl (by simp[Value.cells]) rfl rfl (λb55=> ?_);refine St.aj (.mk rfl) (.mk rfl) cI eJ jA wO (by simp[Value.oneCell',Value.cells]) (by omega) (by omega) rfl rfl rfl rfl (λv56 al2=> ?_);refine St.aO v56 (show _=(List.range (n0+(k+1))).length by rw[iJ,iJ];omega) (show _=rows aL (cA (List.range (n0+(k+1))))from Fb (n0+k)) ?_;refine St.bS v56 (λh56 _=> ?_);refine g2 ?_;refine St.cO (.mk rfl) (.mk rfl) kY h56 (by rfl) ?_;refine g3 ?_;refine St.cx [row tv 3 1 (A0++(g.nodes.take (k)).map dW.type).length (rows aL (A0++(g.nodes.take (k)).map dW.type)),aX bp (.cells [w1.1,w2.1,v56,tv,lv].toArray 245 (0,0))] mixed (λnp ns=> ?_);refine SW.gd 0 ?_;refine SW.gd 1 ?_;refine SW.gd 2 ?_;refine SW.gd 3 ?_;refine SW.gd 5 ?_;refine SW.gd 6 ?_;refine SW.t2 4 7 ?_ ?_
   focus
    refine g3 ?_;refine SW.go ?_;refine SW.t1 7 ?_;refine St.gb rfl (.bB rfl) cI eJ jA rfl rfl (by simp[Value.cells]) rfl rfl (λb66=> ?_);refine g2 ?_;refine SW.go ?_;refine SW.t1 8 ?_;refine St.aj (.mk rfl) (.mk rfl) cI eJ jA wO (by simp[Value.oneCell',Value.cells]) (by omega) (by omega) rfl rfl rfl rfl (λv67 ai8=> ?_);refine St.aO v67 (show _=(A0++(g.nodes.take (k+1)).map dW.type).length by rw[ai ht,cC,←cg];exact cV) (show _=rows aL (A0++(g.nodes.take (k+1)).map dW.type) by rw[ai ht,cC,←cg];exact(aw aL _ t.type).symm) ?_;refine St.bS v67 (λh67 _=> ?_);refine g2 ?_;refine SW.go ?_;refine SW.gd 9 ?_;refine SW.gd 10 ?_;refine SW.t1 11 ?_;refine St.cO (.mk rfl) (.mk rfl) kY h67 (by rfl) ?_;refine g2 ?_;refine SW.go ?_;refine SW.dn ?_
   rotate_left
   focus
    refine St.gb rfl (.bB rfl) cI eJ jA rfl rfl (by simp[Value.cells]) rfl rfl (λb66=> ?_);refine g2 ?_;refine SW.go ?_;refine SW.t1 4 ?_;refine g3 ?_;refine SW.go ?_;refine SW.t1 8 ?_;refine St.aj (.mk rfl) (.mk rfl) cI eJ jA wO (by simp[Value.oneCell',Value.cells]) (by omega) (by omega) rfl rfl rfl rfl (λv67 ai8=> ?_);refine St.aO v67 (show _=(A0++(g.nodes.take (k+1)).map dW.type).length by rw[ai ht,cC,←cg];exact cV) (show _=rows aL (A0++(g.nodes.take (k+1)).map dW.type) by rw[ai ht,cC,←cg];exact(aw aL _ t.type).symm) ?_;refine St.bS v67 (λh67 _=> ?_);refine g2 ?_;refine SW.go ?_;refine SW.gd 9 ?_;refine SW.gd 10 ?_;refine SW.t1 11 ?_;refine St.cO (.mk rfl) (.mk rfl) kY h67 (by rfl) ?_;refine g2 ?_;refine SW.go ?_;refine SW.dn ?_
   all_goals
    refine g8 ?_;refine St.gb rfl (.bB rfl) BM rL Ob rfl rfl (by simp[Value.cells]) rfl rfl (λb76=> ?_);refine St.aj (.mk rfl) (.mk rfl) BM rL Ob acU (by simp[Value.oneCell',Value.cells]) (by omega) (by omega) rfl rfl rfl rfl (λv77 al3=> ?_);refine St.aO v77 (show _=(ls++ [((⟨(.slice (some ⟨Dt,0,none⟩) t.ah.length t.ah.length),rfl⟩:aY),M)]).length from cV) (show _=rows cN ((ls++ [((⟨(.slice (some ⟨Dt,0,none⟩) t.ah.length t.ah.length),rfl⟩:aY),M)]).map Prod.fst) by rw[cC];exact(aw cN _ (⟨(.slice (some ⟨Dt,0,none⟩) t.ah.length t.ah.length),rfl⟩:aY)).symm) ?_;refine St.bS v77 (λSJ _=> ?_);refine g2 ?_;refine St.cO (.mk rfl) (.mk rfl) acV SJ (by rfl) ?_;refine g8 ?_;refine St.wo (k+1) (v56,v67,v77,ls++ [(⟨(.slice (some ⟨Dt,0,none⟩) t.ah.length t.ah.length),rfl⟩,M)]) ⟨by omega,⟨h56,h67,SJ⟩,by dsimp only;rw[bA,UE];rfl,ai7⟩
 ·obtain rfl:k=g.nodes.length:=by omega
  have ig:(ar g).take g.nodes.length=ar g:=fZ (by omega)
  rw[ig]at hlm;rw[fZ (aW _)];refine g12 ?_;refine St.rV [_] [aX bp (.cells [w1.1,w2.1,pv,tv,lv].toArray 245 (0,0)),row pv 3 1 (List.range (n0+g.nodes.length)).length (rows aL (cA (List.range (n0+g.nodes.length)))),row tv 3 1 (A0++g.nodes.map dW.type).length (rows aL (A0++g.nodes.map dW.type)),row lv 161 1 (ls).length (rows cN ((ls).map Prod.fst)),aF (aI pX (ls))] ?_;exact⟨pv,tv,lv,ls,rfl,⟨h1,h2,h3⟩,hlm,rfl⟩
theorem Ie {α:Type}(R:Rp α)(a b:List α):rows R (a++b)=rows R a++rows R b:=Am
theorem ML (n:Nat)(hn:n≤100000000):dt Tryz.prog 174 #[.slice none 0 0,iv n] [] (λv H'=>v.oneCell'=true∧H'=[row v 165 2 0 []]):=by
 intro w ρ hs
 have h0:eQ ⟨w,ρ,kT [],True⟩ [] ρ w:=hs
 by_cases hz:n=0
 ·subst hz
  refine(Any8.slices_Grow_room Tryz.QQ none 0 0 0 w (aW _) (by decide) (by decide) (aW _)).mono ?_;rintro e w' ⟨rfl,rfl⟩;refine⟨_,_,rfl,⟨rfl,rfl⟩,Mm.mk (ρ:=ρ) ?_⟩;refine⟨h0.os,h0.tape,h0.output,h0.size,h0.A2,h0.fits,h0.le,h0.new,λE hE=> ?_,λE hE b hb=> ?_,Dy _ _⟩
  ·rw[bJ.1 hE];exact dZ.2 ⟨rfl,.inl ⟨rfl,rfl⟩⟩
  ·rw[bJ.1 hE,dV]at hb;cases hb
 ·obtain⟨i0,hi0,gQ⟩:=dG.1 dE
  obtain⟨i1,NM,hby⟩:=dG.1 sm;obtain⟨i2,Xp,Xi⟩:=oT.1 mA;rw[hi0]at NM Xp;obtain rfl:=Option.some.inj NM;obtain rfl:=Option.some.inj Xp;refine(Any8.slices_Grow_grow Tryz.QQ i0 _ hi0 Xi (by omega) none 0 0 n [] w (aW _) (by omega) (by rw[hby];omega) (by omega) (by simp) (λ_=>rfl) (λa h=>by cases h)).mono ?_;rintro e w' ⟨rfl,rfl⟩;rw[gP,Nat.sub_zero]
  have hge:=grownCap_ge w n 0 165
  have hle:=grownCap_le_maxLen w n 0 165 (by unfold maxLen;omega)
  refine⟨_,_,rfl,⟨rfl,rfl⟩,Mm.mk (ρ:=ρ) ?_⟩;refine h0.drawn.A4 rfl ⟨rfl,aW _⟩ rfl (by show w.heap.size≤(w.heap.push _).size;simp) (λk hk=>RowKit.Below.heap_alloc w.drew _ k hk) (dZ.2 ⟨rfl,.inr ⟨w.heap.size,_,_,rfl,aR _,heap_alloc_new w.drew _,aR _,hle,?_,by simp⟩⟩) ?_
  ·simp only[Array.size_append,List.size_toArray,List.length_nil,size_zeroCells]
   show 0+n*2+(grownCap w n 0 165-n)*2=grownCap w n 0 165*2
   omega
  ·intro b hb;rw[dV]at hb;simp[Value.ownBlock]at hb;show w.heap.size≤b;omega
theorem Fc (vv:Value)(vs:List DF)(hvs:vs.length≤10)(hl:∀q∈vs,q.2.length≤2000000):dt Tryz.prog 151 #[vv] ([sl cN vv (vs.map Prod.fst),aI pX vs].map aF) (λv H'=>v.oneCell'=true∧H'=[row v 165 2 ((vs.map Prod.snd).flatten).length (rows aq (vs.map Prod.snd).flatten)]):=by
 refine dt.body (args:=[vv]) 36 Tryz.func151 rfl Tryz.ntmps151 rfl (λc=> ?_);refine St.cast (H':=[aF (sl cN vv (vs.map Prod.fst)),aF (aI pX vs)]) rfl ?_;refine go ?_
 have hml:(vs.map Prod.fst).length=vs.length:=aQ _
 refine g18 ?_;refine St.lH (ι:=Nat) (λk T=>(11,iv k)::(3,iv ((((vs.take k).map Prod.snd).flatten).length:Nat))::T) (λk=>[aF (sl cN vv (vs.map Prod.fst)),aF (aI pX vs)]) (λk=>k≤vs.length∧(((vs.take k).map Prod.snd).flatten).length≤2000000*k) (λk=>vs.length-k) 0 (aC.cons 0 rfl (aC.cons 2 rfl (aC.cons 9 rfl (aC.cons 10 rfl aC.nil)))) ⟨aR _,aR _⟩ ?_;rintro k ⟨hk,hs⟩;refine g6 ?_;refine St.cq (λQT=> ?_) (λQT=> ?_)
 ·obtain⟨q,hq⟩:=aE (show k<vs.length by omega)
  have Ub:=ab hq
  have Gr:=hl q Ub
  have hfs:(((vs.take (k+1)).map Prod.snd).flatten).length=(((vs.take k).map Prod.snd).flatten).length+q.2.length:=by rw[ai hq,cC,List.flatten_append,bA];simp
  refine St.cL pX vs (x:=q) Ub ?_;refine St.eT (sl aq q.1.1 q.2) [pX q] (λρ h=>h _ (aU ..)) ?_;refine g7 ?_;refine St.ee (Ev.ld1 (.mk rfl) (show(vs.map Prod.fst)[k]?=some q.1 by rw[bE,hq];rfl) eA trivial rfl) ?_;refine g9 ?_;refine St.slot 18 (iv ((((vs.take (k+1)).map Prod.snd).flatten).length:Nat)) rfl (congrArg iv (by omega)) ?_;refine g9 ?_;refine St.pF _ rfl (eL (by omega)) ?_;refine g8 ?_;refine St.aH (k+1) ⟨by omega,by omega⟩
 ·obtain rfl:k=vs.length:=by omega
  rw[fZ (aW _)]at hs⊢
  obtain⟨fl,Ck⟩:∃fl,fl=(vs.map Prod.snd).flatten:=⟨_,rfl⟩
  rw[←Ck]at hs⊢;refine g8 ?_;refine St.call (ML fl.length (by omega)) acW (.bH rfl rfl) rfl ?_;rintro v24 _ ⟨ai9,rfl⟩;refine St.fk ?_;refine St.aO v24 (show _=([]:List dL).length from rfl) (show _=rows aq []from rfl) ?_;refine g12 ?_;refine St.aO v24 (show _=(((vs.take 0).map Prod.snd).flatten).length from rfl) (show _=rows aq (((vs.take 0).map Prod.snd).flatten)from rfl) ?_;refine St.vo (ι:=Nat) (κ:=Value) (λk z T=>(27,iv k)::(6,z)::T) (λk z=>[row z 165 2 (((vs.take k).map Prod.snd).flatten).length (rows aq (((vs.take k).map Prod.snd).flatten)),aF (sl cN vv (vs.map Prod.fst)),aF (aI pX vs)]) (λk z=>k≤vs.length∧z.oneCell'=true∧(((vs.take k).map Prod.snd).flatten).length≤2000000*k) (λk z=>vs.length-k) 0 v24 (aC.cons 2 rfl (aC.cons 25 rfl (aC.cons 26 rfl aC.nil))) ⟨aR _,ai9,aR _⟩ ?_;rintro k z ⟨hk,hz,zA⟩;refine g6 ?_;refine St.cq (λN2=> ?_) (λN2=> ?_)
  ·obtain⟨q,hq⟩:=aE (show k<vs.length by omega)
   have Ub:=ab hq
   have Gr:=hl q Ub
   have Ys:((vs.take (k+1)).map Prod.snd).flatten=((vs.take k).map Prod.snd).flatten++q.2:=by rw[ai hq,cC,List.flatten_append];simp
   have hfs:=congrArg List.length Ys
   rw[bA]at hfs;refine St.cL pX vs (x:=q) Ub ?_;refine St.eT (sl aq q.1.1 q.2) [pX q] (λρ h=>h _ (aU ..)) ?_;refine g7 ?_;refine St.ee (Ev.ld1 (.mk rfl) (show(vs.map Prod.fst)[k]?=some q.1 by rw[bE,hq];rfl) eA trivial rfl) ?_;refine g6 ?_;refine St.xX (.mk rfl) (.mk rfl) eA dE mA sm (xY aq _) (by omega) (by omega) rfl rfl trivial rfl (λv33 al4=> ?_);refine St.aO v33 (show _=(((vs.take (k+1)).map Prod.snd).flatten).length by rw[Ys,bA]) (show _=rows aq (((vs.take (k+1)).map Prod.snd).flatten) by rw[Ys,Ie]) ?_;rw[show aq.size=2 from rfl];refine St.bS v33 (λD1 _=> ?_);refine g9 ?_;refine St.wo (k+1) v33 ⟨by omega,D1,by omega⟩
  ·obtain rfl:k=vs.length:=by omega
   rw[fZ (aW _)];refine g12 ?_;refine St.rV [_] [row z 165 2 ((vs.map Prod.snd).flatten).length (rows aq (vs.map Prod.snd).flatten)] ?_;exact⟨hz,by rw[Ck];rfl⟩
theorem MM {α:Type}(R:Rp α){l:List α}{x:α}{j:Nat}(h:j<R.size):(rows R (l++ [x]))[l.length*R.size+j]?=(R.cells x)[j]?:=
 db R (l++ [x]) l.length j x (by rw[mW (aW _),fJ];rfl) h
theorem zB {α:Type}(R:Rp α){l:List α}{x:α}{j k:Nat}(hk:l.length=k)(h:j<R.size):(rows R (l++ [x]))[k*R.size+j]?=(R.cells x)[j]?:=by subst hk;exact MM R h
theorem Qc {p:Pl}{i:Nat}(h:i<p.ty.length):p.ty[i]?=some (p.tt i):=by
 unfold Pl.tt;rw[ak,bO h];rfl
theorem zC (l:List aY)(k:Nat)(v:aY):(rows cN l).set (k*1+0) v.1=rows cN (l.set k v):=by
 rw[fR,jK,uO,uO,ia]
theorem qe {l:List aY}{k:Nat}{v:aY}(h:l[k]?=some v):(rows cN l)[k*1+0]?=some v.1:=by
 rw[fR,jK,uO,bE,h];rfl
theorem Uc {a b:Int}(h:o8 a b<0):a<b:=by unfold o8 at h;split at h<;>first|assumption|(split at h<;>omega)
theorem Ud {a b:Int}(h:0<o8 a b):b<a:=by unfold o8 at h;split at h<;>first|omega|(split at h<;>first|assumption|omega)
theorem Ue {a b:Int}(h1:¬o8 a b<0)(h2:¬0<o8 a b):a=b:=by unfold o8 at h1 h2;split at h1<;>first|omega|(split at h2<;>omega)
theorem Ig {ls:List DF}{lk:List jw}(h:ls.map z8=lk){i:Nat}{q:DF}(hq:ls[i]?=some q):lk.getD i []=z8 q:=by
 subst h;rw[ak,bE,hq];rfl
structure ae0 (T:List dz)(nf n Z7:Nat)(R:Option Pl)(W:List (Int×Int))(P0:List Nat)(p:Pl)(ls:List DF):Prop where
 pl:mG T.length nf n p
 wk:D9 n W
 uf:UF P0 p.ro
 lse:ls.map z8=p.lk
 lw:∀q∈ls,∀x∈q.2,aq.wf x
 eq:iQ (fg T) (p.mu W) p W=R
 mu:p.mu W≤Z7
theorem MN (bp:Nat)(w1 w2:aY)(pv tv lv:Value)(ho:pv.oneCell'=true∧tv.oneCell'=true∧lv.oneCell'=true)(T:List dz)(hT:gy T)(nf n Z7:Nat)(hn:n≤240)(Gi:Z7≤1000000)(P0:List Nat)(p0:Pl)(Ds:List DF)(a0 b0:Int)(ha0:0≤a0∧a0<n)(FO:0≤b0∧b0<n)(yW:mG T.length nf n p0)(huf:UF P0 p0.ro)(SS:Ds.map z8=p0.lk)(hlw:∀q∈Ds,∀x∈q.2,aq.wf x)(hmu:p0.mu [(a0,b0)]≤Z7):dt Tryz.prog 129 #[.pointer (some ⟨bp,0,none⟩),iv a0,iv b0] [aX bp (.cells [w1.1,w2.1,pv,tv,lv].toArray 245 (0,0)),row pv 3 1 p0.ro.length (rows aL (cA (P0))),row tv 3 1 p0.ty.length (rows aL p0.ty),row lv 161 1 (Ds).length (rows cN ((Ds).map Prod.fst)),aF (aI pX (Ds)),aF (sl ay w1.1 (cn T)),aF (sl ay w2.1 (cr T)),aF tz] (λv H'=>∃(r:Bool) (P1:List Nat) (p:Pl) (ls:List DF),v= .bool r∧(r=false→iQ (fg T) (p0.mu [(a0,b0)]) p0 [(a0,b0)]=none)∧(r=true→iQ (fg T) (p0.mu [(a0,b0)]) p0 [(a0,b0)]=some p∧mG T.length nf n p∧UF P1 p.ro∧ls.map z8=p.lk∧∀q∈ls,∀x∈q.2,aq.wf x)∧H'=[aX bp (.cells [w1.1,w2.1,pv,tv,lv].toArray 245 (0,0)),row pv 3 1 p.ro.length (rows aL (cA (P1))),row tv 3 1 p.ty.length (rows aL p.ty),row lv 161 1 (ls).length (rows cN ((ls).map Prod.fst)),aF (aI pX (ls))]):=by
 refine dt.body (args:=[.pointer (some ⟨bp,0,none⟩),iv a0,iv b0]) 175 Tryz.func129 rfl Tryz.ntmps129 rfl (λc=> ?_);refine g10 ?_;refine St.ee (Ev.build (bF.bH rfl rfl) (λw=>yK rfl rfl w)) ?_;refine St.gb rfl (.bB rfl) vr BR Oc rfl rfl (by simp[Value.cells]) rfl rfl (λYi=> ?_);refine St.aO (.slice (some ⟨Yi,0,none⟩) 1 1) (show _=([(a0,b0)]:List (Int×Int)).reverse.length from rfl) (show _=rows N5 ([(a0,b0)]:List (Int×Int)).reverse from rfl) ?_;refine g4 ?_;refine St.vo (ι:=Unit) (κ:=Value×List (Int×Int)×List Nat×Pl×List DF) (λu z T=>(7,z.1)::T) (λu z=>[row z.1 270 2 (z.2.1.reverse).length (rows N5 (z.2.1.reverse)),aX bp (.cells [w1.1,w2.1,pv,tv,lv].toArray 245 (0,0)),row pv 3 1 z.2.2.2.1.ro.length (rows aL (cA (z.2.2.1))),row tv 3 1 z.2.2.2.1.ty.length (rows aL z.2.2.2.1.ty),row lv 161 1 (z.2.2.2.2).length (rows cN ((z.2.2.2.2).map Prod.fst)),aF (aI pX (z.2.2.2.2)),aF (sl ay w1.1 (cn T)),aF (sl ay w2.1 (cr T)),aF tz]) (λu z=>z.1.oneCell'=true∧ae0 T nf n Z7 (iQ (fg T) (p0.mu [(a0,b0)]) p0 [(a0,b0)]) z.2.1 z.2.2.1 z.2.2.2.1 z.2.2.2.2) (λu z=>z.2.2.2.1.mu z.2.1) () ((.slice (some ⟨Yi,0,none⟩) 1 1),[(a0,b0)],P0,p0,Ds) (aC.cons 0 rfl aC.nil) ⟨rfl,yW,λx hx=>by rw[bJ.1 hx];exact⟨ha0,FO⟩,huf,SS,hlw,rfl,hmu⟩ ?_;rintro u ⟨wz,W,P1,p,ls⟩ ⟨hwz,hJ⟩
 dsimp only at hwz hJ⊢
 have hWl:=hJ.mu
 unfold Pl.mu at hWl
 have hRl:=hJ.pl.lr
 have M9:=hJ.pl.lt
 have N7:=hJ.pl.ll
 have UE:ls.length=n:=by rw[←N7,←hJ.lse,aQ]
 have al5:W.reverse.length=W.length:=Aq
 refine g8 ?_;refine St.cq (λKT=> ?_) (λKT=> ?_)
 ·obtain⟨x,w,rfl⟩:∃x w,W=x::w:=by cases W with|nil=>(rw[List.reverse_nil]at KT;exact absurd KT (by simp))|cons x w=>exact⟨x,w,rfl⟩
  rw[List.reverse_cons]
  have hrv:(w.reverse++ [x]).length=w.length+1:=by rw[bA,Aq];rfl
  have MO:w.reverse.length=w.length:=Aq
  have al6:(x::w).length=w.length+1:=rfl
  have hx:=hJ.wk.rt
  obtain⟨⟨qf,mH⟩,hx3,hx4⟩:=hJ.wk x (by simp);refine St.kA wz (by omega) (λbs cs ae1=> ?_);obtain⟨rk,B,hUF⟩:=hJ.uf
  obtain⟨xa,hxa⟩:∃xa,xa=x.1.toNat:=⟨_,rfl⟩
  obtain⟨xb,hxb⟩:∃xb,xb=x.2.toNat:=⟨_,rfl⟩
  rw[←hxa,←hxb]at hx
  have hea:x.1=(xa:Int):=by omega
  have heb:x.2=(xb:Int):=by omega
  refine g4 ?_;refine St.cx [aX bp (.cells [w1.1,w2.1,pv,tv,lv].toArray 245 (0,0)),row pv 3 1 p.ro.length (rows aL (cA P1))] mixed (λnp ns=> ?_);refine SW.gd 0 ?_;refine SW.gd 1 ?_;refine SW.gd 2 ?_;refine SW.gd 3 ?_;refine SW.gd 4 ?_;refine SW.dd 5 rfl (λ_=>Ev.dT (k:=w.length) (.mk rfl) (.mk rfl) vr BR (by omega) (by omega)) ?_;refine SW.dd 6 rfl (λ_=>Ev.xE (j:=0) ae1 (.mk rfl) (.mk rfl) Tryz.underlying270 eJ rfl (by decide)) ?_;refine SW.dd 7 rfl (λ_=>Ev.cB (.mk rfl) eN trivial (by omega) (zB N5 (j:=0) MO (by decide))) ?_;refine SW.slot 31 (iv (xa:Nat)) rfl (congrArg iv hea) ?_;refine SW.gd 9 ?_;refine SW.gd 10 ?_;refine SW.gd 11 ?_;refine SW.gd 12 ?_;refine SW.gd 13 ?_;refine SW.dd 14 rfl (λ_=>Ev.dT (k:=w.length) (.mk rfl) (.mk rfl) vr BR (by omega) (by omega)) ?_;refine SW.dd 15 rfl (λ_=>Ev.xE (j:=1) ae1 (.mk rfl) (.mk rfl) Tryz.underlying270 eJ rfl (by decide)) ?_;refine SW.dd 16 rfl (λ_=>Ev.cB (.mk rfl) eN trivial (by omega) (zB N5 (j:=1) MO (by decide))) ?_;refine SW.slot 40 (iv (xb:Nat)) rfl (congrArg iv heb) ?_;refine SW.t1 8 ?_;refine St.call (find_spec bp w1 w2 pv tv lv rk B p.ro (by omega) P1 hUF xa (by omega)) El (.bH rfl rfl) rfl ?_;rintro v32 _ ⟨P2,rfl,hP2,rfl⟩;refine St.lZ ?_;refine g2 ?_;refine SW.go ?_;refine SW.t1 17 ?_;refine St.call (find_spec bp w1 w2 pv tv lv rk B p.ro (by omega) P2 hP2 xb (by omega)) El (.bH rfl rfl) rfl ?_;rintro v41 _ ⟨P3,rfl,hP3,rfl⟩;refine St.lZ ?_;refine g2 ?_;refine SW.go ?_;refine SW.gd 18 ?_;refine SW.gd 19 ?_;refine SW.dn ?_;refine g2 ?_
  obtain⟨a,hA⟩:∃a,a=p.ro.getD xa 0:=⟨_,rfl⟩
  obtain⟨b,hB⟩:∃b,b=p.ro.getD xb 0:=⟨_,rfl⟩
  rw[←hA,←hB]
  have hRa:p.rt x.1.toNat=a:=by rw[←hxa];exact hA.symm
  have hRb:p.rt x.2.toNat=b:=by rw[←hxb];exact hB.symm
  have ha:a<n:=by rw[←hRa];exact hJ.pl.xS _ (by omega)
  have hb:b<n:=by rw[←hRb];exact hJ.pl.xS _ (by omega)
  have FT:p.rt a=a:=by rw[←hRa];exact hJ.pl.Ww _ (by omega)
  have w8:p.rt b=b:=by rw[←hRb];exact hJ.pl.Ww _ (by omega)
  have Uf:D9 n w:=λz hz=>hJ.wk z (by simp[hz])
  refine g5 ?_;refine St.ee (Ev.oY (h:=w.length) (.mk rfl) (.mk rfl) vr BR (by omega) (by omega)) ?_;refine St.CP wz w.length (by omega) ?_;refine St.aO (pR wz 2 0 w.length) MO.symm (show(rows N5 (w.reverse++ [x])).take (w.length*2)=rows N5 w.reverse by rw[←MO];exact tE N5 _ _) ?_;refine St.bS (pR wz 2 0 w.length) (λOB _=> ?_);refine g11 ?_;refine St.cq (λh49=> ?_) (λh49=> ?_)
  ·have ae2:p.rt x.1.toNat=p.rt x.2.toNat:=by omega
   refine g4 ?_;refine St.mf () (pR wz 2 0 w.length,w,P3,p,ls) ⟨OB,hJ.pl,Uf,⟨rk,B,hP3⟩,hJ.lse,hJ.lw,by rw[←hJ.eq,MG ae2],eH (show p.mu w≤p.mu (x::w) by unfold Pl.mu;rw[dy];omega) hJ.mu⟩ (by dsimp only;unfold Pl.mu;rw[dy];omega) (by repeat(first|exact Sub.nil|refine Sub.cons (by first|rfl|exact congrArg (λz=>some (iv z)) (by first|omega|(dsimp only;omega))|exact congrArg (λz=>some (Value.bool z)) (by first|assumption|exact iZ (by assumption))) ?_)) (λ_ hw=>hw.sub)
  ·have fP:p.rt x.1.toNat≠p.rt x.2.toNat:=by omega
   have Gq:a≠b:=by omega
   obtain⟨ta,Q6⟩:∃ta:Nat,p.tt a=(ta:Int):=⟨(p.tt a).toNat,by have:=(hJ.pl.tt ha).1;omega⟩
   obtain⟨tb,htb⟩:∃tb:Nat,p.tt b=(tb:Int):=⟨(p.tt b).toNat,by have:=(hJ.pl.tt hb).1;omega⟩
   have ae3:=(hJ.pl.tt ha).2
   have ae4:=(hJ.pl.tt hb).2
   refine g3 ?_;refine St.cx [] mixed (λnp ns=> ?_);refine SW.gd 0 ?_;refine SW.gd 1 ?_;refine SW.gd 2 ?_;refine SW.dd 3 rfl (λ_=>Ev.gh 2 (.mk rfl) vp trivial vt rfl rfl) ?_;refine SW.slot 54 (jS w1 w2) rfl rfl ?_;refine SW.gd 4 ?_;refine SW.gd 5 ?_;refine SW.gd 6 ?_;refine SW.gd 7 ?_;refine SW.gd 8 ?_;refine SW.gd 9 ?_;refine SW.dd 10 rfl (λ_=>Ev.cB (.mk rfl) eN trivial (by omega) (fF (Qc (by omega)))) ?_;refine SW.slot 61 (iv (ta:Nat)) rfl (congrArg iv Q6) ?_;refine SW.gd 11 ?_;refine SW.gd 12 ?_;refine SW.gd 13 ?_;refine SW.gd 14 ?_;refine SW.gd 15 ?_;refine SW.gd 16 ?_;refine SW.dd 17 rfl (λ_=>Ev.cB (.mk rfl) eN trivial (by omega) (fF (Qc (by omega)))) ?_;refine SW.slot 68 (iv (tb:Nat)) rfl (congrArg iv htb) ?_;refine SW.dd 18 rfl (λ_=>Ev.call ((z7 w1 w2 T hT ta tb (by omega) (by omega)).mono λ_ _ h=>h.1) YN (.eZ rfl rfl rfl)) ?_;refine SW.gd 19 ?_;refine SW.gd 20 ?_;refine SW.gd 21 ?_;refine SW.gd 22 ?_;refine SW.gd 23 ?_;refine SW.gd 24 ?_;refine SW.gd 25 ?_;refine SW.dn ?_;refine g8 ?_;refine St.cq (λh74=> ?_) (λh74=> ?_)
   ·have hm:fg T (p.tt (p.rt x.1.toNat)).toNat (p.tt (p.rt x.2.toNat)).toNat=none:=by rw[hRa,hRb,Q6,htb];simpa using h74
    have A7:=KO (w:=w) fP hm
    rw[hJ.eq]at A7;refine g11 ?_;refine St.rV [_] [aX bp (.cells [w1.1,w2.1,pv,tv,lv].toArray 245 (0,0)),row pv 3 1 p.ro.length (rows aL (cA (P3))),row tv 3 1 p.ty.length (rows aL p.ty),row lv 161 1 (ls).length (rows cN ((ls).map Prod.fst)),aF (aI pX (ls))] ?_;exact⟨false,P3,p,ls,rfl,λ_=>A7,λh=>(by cases h),rfl⟩
   ·obtain⟨m,Gi⟩:=Option.isSome_iff_exists.1 (show(fg T ta tb).isSome=true from by simpa using h74)
    have hm:fg T (p.tt (p.rt x.1.toNat)).toNat (p.tt (p.rt x.2.toNat)).toNat=some m:=by rw[hRa,hRb,Q6,htb];exact Gi
    have hmT:=Bl T _ _ _ Gi
    have ae5:=QD (nt:=T.length) (nf:=nf) (n:=n) hJ.pl (w:=w) ⟨by omega,by omega⟩ fP hm
    rw[hRa,hRb]at ae5;refine St.slot 10 (iv (m:Nat)) rfl (by rw[Gi];rfl) ?_;refine g11 ?_;refine St.bj (.mk rfl) (.mk rfl) eJ rfl (by omega) (by decide) ?_;refine St.aO pv rfl (show _=rows aL (cA (P3.set b a)) by rw[gN,cA,cA,ia]) ?_;refine g11 ?_;refine St.bj (.mk rfl) (.mk rfl) eJ rfl (by omega) (by decide) ?_;refine St.aO tv rfl (gN p.ty a (m:Int)) ?_;refine g3 ?_;obtain⟨qa,hqa⟩:=aE (show a<ls.length by omega);obtain⟨qb,hqb⟩:=aE (show b<ls.length by omega);refine St.cL pX ls (x:=qa) (ab hqa) ?_;refine St.eT (sl aq qa.1.1 qa.2) [pX qa] (λρ h=>h _ (aU ..)) ?_;refine St.cL pX ls (x:=qb) (ab hqb) ?_;refine St.eT (sl aq qb.1.1 qb.2) [pX qb] (λρ h=>h _ (aU ..)) ?_
    have hla:p.ll a=qa.2.map eR:=Ig hJ.lse hqa
    have hlb:p.ll b=qb.2.map eR:=Ig hJ.lse hqb
    have hsa:(p.ll a).length≤p.left:=by have h1:=o9 (f:=λi=>if p.rt i=i then(p.ll i).length else 0) (show a<p.ro.length by omega);rw[aB FT]at h1;exact h1
    have hsb:(p.ll b).length≤p.left:=by have h1:=o9 (f:=λi=>if p.rt i=i then(p.ll i).length else 0) (show b<p.ro.length by omega);rw[aB w8]at h1;exact h1
    rw[hla,aQ]at hsa;rw[hlb,aQ]at hsb;refine g5 ?_;refine St.cx [] mixed (λnp ns=> ?_);refine SW.gd 0 ?_;refine SW.gd 1 ?_;refine SW.gd 2 ?_;refine SW.gd 3 ?_;refine SW.gd 4 ?_;refine SW.gd 5 ?_;refine SW.dd 6 rfl (λ_=>Ev.cB (.mk rfl) eA trivial (by omega) (qe (show(ls.map Prod.fst)[a]?=some qa.1 by rw[bE,hqa];rfl))) ?_;refine SW.gd 7 ?_;refine SW.gd 8 ?_;refine SW.gd 9 ?_;refine SW.gd 10 ?_;refine SW.gd 11 ?_;refine SW.gd 12 ?_;refine SW.dd 13 rfl (λ_=>Ev.cB (.mk rfl) eA trivial (by omega) (qe (show(ls.map Prod.fst)[b]?=some qb.1 by rw[bE,hqb];rfl))) ?_;refine SW.gd 14 ?_;refine SW.gd 15 ?_;refine SW.dn ?_;refine g3 ?_;refine St.dc 165 2 ?_;refine St.aO (.slice none 0 0) (show _=([]:List dL).length from rfl) (show _=rows aq []from rfl) ?_;refine St.aO (pR wz 2 0 w.length) (show _=(w.reverse++([]:List (Int×Int))).length by rw[fj]) (show _=rows N5 (w.reverse++ []) by rw[fj]) ?_;refine St.vo (ι:=Unit) (κ:=Value×List dL×Value×List dL×Value×List dL×Value×List (Int×Int)) (λu2 z T=>(13,z.1)::(14,z.2.2.1)::(15,z.2.2.2.2.1)::(7,z.2.2.2.2.2.2.1)::T) (λu2 z=>[row z.1 165 2 (z.2.1).length (rows aq (z.2.1)),row z.2.2.2.2.2.2.1 270 2 (w.reverse++z.2.2.2.2.2.2.2).length (rows N5 (w.reverse++z.2.2.2.2.2.2.2)),aX bp (.cells [w1.1,w2.1,pv,tv,lv].toArray 245 (0,0)),row pv 3 1 p.ro.length (rows aL (cA (P3.set b a))),row tv 3 1 p.ty.length (rows aL (p.ty.set a (m:Int))),row lv 161 1 ls.length (rows cN (ls.map Prod.fst)),aF (aI pX ls),aF (sl aq z.2.2.1 z.2.2.2.1),aF (sl aq z.2.2.2.2.1 z.2.2.2.2.2.1),aF (sl ay w1.1 (cn T)),aF (sl ay w2.1 (cr T)),aF tz]) (λu2 z=>(z.1.oneCell'=true∧z.2.2.2.2.2.2.1.oneCell'=true)∧Dr (p.ll a) (p.ll b) (z.2.1.map eR) (z.2.2.2.1.map eR) (z.2.2.2.2.2.1.map eR) z.2.2.2.2.2.2.2∧((∀x∈z.2.1,aq.wf x)∧(∀x∈z.2.2.2.1,aq.wf x)∧∀x∈z.2.2.2.2.2.1,aq.wf x)∧z.2.1.length+z.2.2.2.1.length+z.2.2.2.2.2.1.length≤2000000∧z.2.2.2.2.2.2.2.length+z.2.2.2.1.length≤1000000) (λu2 z=>z.2.2.2.1.length+z.2.2.2.2.2.1.length) () ((.slice none 0 0),[],qa.1.1,qa.2,qb.1.1,qb.2,pR wz 2 0 w.length,[]) (aC.cons 0 rfl (aC.cons 8 rfl aC.nil)) ⟨⟨rfl,OB⟩,by rw[hla,hlb];exact Dr.start _ _,⟨λx hx=>(by cases hx),hJ.lw _ (ab hqa),hJ.lw _ (ab hqb)⟩,by show 0+qa.2.length+qb.2.length≤_;omega,by show 0+qa.2.length≤_;omega⟩ ?_;rintro u2 ⟨lz,L,xv,X,yv,Y,vz,V⟩ ⟨⟨hz,hvz⟩,hM,⟨hwL,Z8,hwY⟩,N4,BO⟩
    dsimp only at hz hvz hM hwL Z8 hwY N4 BO⊢
    have al7:(w.reverse++V).length=w.length+V.length:=by rw[bA,Aq]
    refine g7 ?_;refine St.gt _ rfl rfl (λhg=>Ev.move (.mk rfl)) rfl ?_;refine St.gt _ rfl rfl (λhg=>Ev.fm (aZ.gv rfl hg) eA) rfl ?_;refine St.gt _ rfl rfl (λhg=>Ev.gtr (aZ.gv rfl hg) (.mk rfl)) rfl ?_;refine g3 ?_;refine St.cq (λqv=> ?_) (λqv=> ?_)
    ·obtain⟨xl,X1,rfl⟩:∃xl X1,X=xl::X1:=by cases X with|nil=>exact absurd qv.1 (by simp)|cons a b=>exact⟨a,b,rfl⟩
     obtain⟨yl,Y1,rfl⟩:∃yl Y1,Y=yl::Y1:=by cases Y with|nil=>exact absurd qv.2 (by simp)|cons a b=>exact⟨a,b,rfl⟩
     rw[dy]at N4 BO;rw[dy]at N4;refine g4 ?_;refine St.cx [] mixed (λnp ns=> ?_);refine SW.gd 0 ?_;refine SW.dd 1 rfl (λ_=>Ev.cZ (k:=0) (.mk rfl) (.mk rfl) eA dE (by omega) (by simp)) ?_;refine SW.gd 2 ?_;refine SW.dd 3 rfl (λ_=>Ev.ld1 (.mk rfl) (show(xl::X1)[0]?=some xl from rfl) eN trivial rfl) ?_;refine SW.gd 4 ?_;refine SW.dd 5 rfl (λ_=>Ev.cZ (k:=0) (.mk rfl) (.mk rfl) eA dE (by omega) (by simp)) ?_;refine SW.gd 6 ?_;refine SW.dd 7 rfl (λ_=>Ev.ld1 (.mk rfl) (show(yl::Y1)[0]?=some yl from rfl) eN trivial rfl) ?_;refine SW.dd 8 rfl (λ_=>Ev.call (dw xl.cT yl.cT) pt (.bH rfl rfl)) ?_;refine SW.gd 9 ?_;refine SW.dn ?_;refine g9 ?_;refine St.cq (λae6=> ?_) (λae6=> ?_)
     ·have iX:=Uc ae6
      have hM2:=Dr.lt (a:=eR xl) (b:=eR yl) hM iX
      refine g4 ?_;refine St.ee (Ev.cZ (k:=0) (.mk rfl) (.mk rfl) eA dE (by omega) (by simp)) ?_;refine St.ee (Ev.jj (.mk rfl) (show(xl::X1)[0]?=some xl from rfl) kG trivial dE iY.eq) ?_;refine St.slot 148 (.agg #[iv xl.cT,iv xl.tqo]) rfl rfl ?_;refine St.gb rfl (.bB rfl) eA dE mA rfl rfl (by simp[Value.cells]) rfl rfl (λal8=> ?_);refine St.aj (.mk rfl) (.mk rfl) eA dE mA sm (by simp[Value.oneCell',Value.cells]) (by omega) (by omega) rfl rfl rfl rfl (λZ9 ak3=> ?_);refine St.aO Z9 (show _=(L++ [xl]).length from cV) (show _=rows aq (L++ [xl]) by rw[aw];rfl) ?_;refine St.bS Z9 (λZA _=> ?_);refine g5 ?_;refine St.ee (Ev.qP (l:=1) (.mk rfl) (.mk rfl) eA dE rfl (by simp)) ?_;refine St.part (Rr:=aq) (xs:=(xl::X1)) xv 1 ((xl::X1)).length (by simp) (aW _) ?_;refine St.eT (sl aq (pR xv aq.size 1 ((xl::X1)).length) X1) [sl aq (pR xv aq.size 1 ((xl::X1)).length) ((((xl::X1)).drop 1).take (((xl::X1)).length-1))] (λρ h=>by have:=h _ (aU ..);rwa[show(((xl::X1)).drop 1).take (((xl::X1)).length-1)=X1 from fZ (aW _)]at this) ?_;refine g5 ?_;refine St.mf () (Z9,L++ [xl],pR xv aq.size 1 (xl::X1).length,X1,yv,yl::Y1,vz,V) ⟨⟨ZA,hvz⟩,by rw[cC];exact hM2,⟨λu hu=>by rcases ba.1 hu with h|h;exact hwL u h;rw[bJ.1 h];exact Z8 xl (by simp),λu hu=>Z8 u (by simp[hu]),hwY⟩,by dsimp only;rw[bA,dy];simp only[List.length_cons,List.length_nil];omega,by dsimp only;omega⟩ (by dsimp only;simp only[List.length_cons];omega) (by repeat(first|exact Sub.nil|refine Sub.cons (by first|rfl|exact congrArg (λz=>some (iv z)) (by first|omega|(dsimp only;omega))|exact congrArg (λz=>some (Value.bool z)) (by first|assumption|exact iZ (by assumption))) ?_)) (λ_ hw=>hw.sub)
     ·refine g7 ?_
      refine St.cq (λae7=> ?_) (λae7=> ?_)
      ·have k9:=Ud ae7
       have hM2:=Dr.gt (a:=eR xl) (b:=eR yl) hM k9
       refine g4 ?_;refine St.ee (Ev.cZ (k:=0) (.mk rfl) (.mk rfl) eA dE (by omega) (by simp)) ?_;refine St.ee (Ev.jj (.mk rfl) (show(yl::Y1)[0]?=some yl from rfl) kG trivial dE iY.eq) ?_;refine St.slot 159 (.agg #[iv yl.cT,iv yl.tqo]) rfl rfl ?_;refine St.gb rfl (.bB rfl) eA dE mA rfl rfl (by simp[Value.cells]) rfl rfl (λal9=> ?_);refine St.aj (.mk rfl) (.mk rfl) eA dE mA sm (by simp[Value.oneCell',Value.cells]) (by omega) (by omega) rfl rfl rfl rfl (λZB ak4=> ?_);refine St.aO ZB (show _=(L++ [yl]).length from cV) (show _=rows aq (L++ [yl]) by rw[aw];rfl) ?_;refine St.bS ZB (λajA _=> ?_);refine g5 ?_;refine St.ee (Ev.qP (l:=1) (.mk rfl) (.mk rfl) eA dE rfl (by simp)) ?_;refine St.part (Rr:=aq) (xs:=(yl::Y1)) yv 1 ((yl::Y1)).length (by simp) (aW _) ?_;refine St.eT (sl aq (pR yv aq.size 1 ((yl::Y1)).length) Y1) [sl aq (pR yv aq.size 1 ((yl::Y1)).length) ((((yl::Y1)).drop 1).take (((yl::Y1)).length-1))] (λρ h=>by have:=h _ (aU ..);rwa[show(((yl::Y1)).drop 1).take (((yl::Y1)).length-1)=Y1 from fZ (aW _)]at this) ?_;refine g5 ?_;refine St.mf () (ZB,L++ [yl],xv,xl::X1,pR yv aq.size 1 (yl::Y1).length,Y1,vz,V) ⟨⟨ajA,hvz⟩,by rw[cC];exact hM2,⟨λu hu=>by rcases ba.1 hu with h|h;exact hwL u h;rw[bJ.1 h];exact hwY yl (by simp),Z8,λu hu=>hwY u (by simp[hu])⟩,by dsimp only;rw[bA,dy];simp only[List.length_cons,List.length_nil];omega,by dsimp only;rw[dy];omega⟩ (by dsimp only;simp only[List.length_cons];omega) (by repeat(first|exact Sub.nil|refine Sub.cons (by first|rfl|exact congrArg (λz=>some (iv z)) (by first|omega|(dsimp only;omega))|exact congrArg (λz=>some (Value.bool z)) (by first|assumption|exact iZ (by assumption))) ?_)) (λ_ hw=>hw.sub)
      ·have heq:=Ue (by omega) (by omega:¬0<o8 xl.cT yl.cT)
       have hM2:=Dr.eq (a:=eR xl) (b:=eR yl) hM heq
       refine g4 ?_;refine St.ee (Ev.cZ (k:=0) (.mk rfl) (.mk rfl) eA dE (by omega) (by simp)) ?_;refine St.ee (Ev.jj (.mk rfl) (show(xl::X1)[0]?=some xl from rfl) kG trivial dE iY.eq) ?_;refine St.slot 123 (.agg #[iv xl.cT,iv xl.tqo]) rfl rfl ?_;refine St.gb rfl (.bB rfl) eA dE mA rfl rfl (by simp[Value.cells]) rfl rfl (λamA=> ?_);refine St.aj (.mk rfl) (.mk rfl) eA dE mA sm (by simp[Value.oneCell',Value.cells]) (by omega) (by omega) rfl rfl rfl rfl (λZC ak5=> ?_);refine St.aO ZC (show _=(L++ [xl]).length from cV) (show _=rows aq (L++ [xl]) by rw[aw];rfl) ?_;refine St.bS ZC (λajB _=> ?_);refine g4 ?_;refine St.cx [row vz 270 2 (w.reverse++V).length (rows N5 (w.reverse++V))] mixed (λnp ns=> ?_);refine SW.gd 0 ?_;refine SW.gd 1 ?_;refine SW.dd 2 rfl (λ_=>Ev.cZ (k:=0) (.mk rfl) (.mk rfl) eA dE (by omega) (by simp)) ?_;refine SW.gd 3 ?_;refine SW.dd 4 rfl (λ_=>Ev.ld1 (.mk rfl) (show(xl::X1)[0]?=some xl from rfl) eN trivial rfl) ?_;refine SW.gd 5 ?_;refine SW.dd 6 rfl (λ_=>Ev.cZ (k:=0) (.mk rfl) (.mk rfl) eA dE (by omega) (by simp)) ?_;refine SW.gd 7 ?_;refine SW.dd 8 rfl (λ_=>Ev.ld1 (.mk rfl) (show(yl::Y1)[0]?=some yl from rfl) eN trivial rfl) ?_;refine SW.dd 9 rfl (λ_=>Ev.build (ps:=[(0,(.tmp 130)),(1,(.tmp 134))]) (bF.bH rfl rfl) (λw=>yK rfl rfl w)) ?_;refine SW.t1 10 ?_;refine St.gb rfl (.bB rfl) vr BR Oc rfl rfl (by simp[Value.cells]) rfl rfl (λamB=> ?_);refine g2 ?_;refine SW.go ?_;refine SW.t1 11 ?_;refine St.aj (.mk rfl) (.mk rfl) vr BR Oc acY (by simp[Value.oneCell',Value.cells]) (by omega) (by omega) rfl rfl rfl rfl (λZD ak6=> ?_);refine St.aO ZD (show _=(w.reverse++(V++ [(xl.tqo,yl.tqo)])).length by rw[←cg];exact cV) (show _=rows N5 (w.reverse++(V++ [(xl.tqo,yl.tqo)])) by rw[←cg,aw];rfl) ?_;refine St.bS ZD (λQd _=> ?_);refine g2 ?_;refine SW.go ?_;refine SW.gd 12 ?_;refine SW.dn ?_;refine go ?_;refine St.cx [] mixed (λnp ns=> ?_);refine SW.gd 0 ?_;refine SW.dd 1 rfl (λ_=>Ev.qP (l:=1) (.mk rfl) (.mk rfl) eA dE rfl (by simp)) ?_;refine SW.gd 2 ?_;refine SW.dd 3 rfl (λ_=>Ev.qP (l:=1) (.mk rfl) (.mk rfl) eA dE rfl (by simp)) ?_;refine SW.gd 4 ?_;refine SW.gd 5 ?_;refine SW.dn ?_;refine g3 ?_;refine St.part (Rr:=aq) (xs:=(xl::X1)) xv 1 ((xl::X1)).length (by simp) (aW _) ?_;refine St.eT (sl aq (pR xv aq.size 1 ((xl::X1)).length) X1) [sl aq (pR xv aq.size 1 ((xl::X1)).length) ((((xl::X1)).drop 1).take (((xl::X1)).length-1))] (λρ h=>by have:=h _ (aU ..);rwa[show(((xl::X1)).drop 1).take (((xl::X1)).length-1)=X1 from fZ (aW _)]at this) ?_;refine St.part (Rr:=aq) (xs:=(yl::Y1)) yv 1 ((yl::Y1)).length (by simp) (aW _) ?_;refine St.eT (sl aq (pR yv aq.size 1 ((yl::Y1)).length) Y1) [sl aq (pR yv aq.size 1 ((yl::Y1)).length) ((((yl::Y1)).drop 1).take (((yl::Y1)).length-1))] (λρ h=>by have:=h _ (aU ..);rwa[show(((yl::Y1)).drop 1).take (((yl::Y1)).length-1)=Y1 from fZ (aW _)]at this) ?_;refine St.mf () (ZC,L++ [xl],pR xv aq.size 1 (xl::X1).length,X1,pR yv aq.size 1 (yl::Y1).length,Y1,ZD,V++ [(xl.tqo,yl.tqo)]) ⟨⟨ajB,Qd⟩,by rw[cC];exact hM2,⟨λu hu=>by rcases ba.1 hu with h|h;exact hwL u h;rw[bJ.1 h];exact Z8 xl (by simp),λu hu=>Z8 u (by simp[hu]),λu hu=>hwY u (by simp[hu])⟩,by dsimp only;rw[bA];simp only[List.length_cons,List.length_nil];omega,by dsimp only;rw[bA];simp only[List.length_cons,List.length_nil];omega⟩ (by dsimp only;simp only[List.length_cons];omega) (by repeat(first|exact Sub.nil|refine Sub.cons (by first|rfl|exact congrArg (λz=>some (iv z)) (by first|omega|(dsimp only;omega))|exact congrArg (λz=>some (Value.bool z)) (by first|assumption|exact iZ (by assumption))) ?_)) (λ_ hw=>hw.sub)
    ·have X3:X=[]∨Y=[]:=by rcases qv with h|h;exact .inl (kf (by omega));exact .inr (kf (by omega))
     obtain⟨hf1,hf2⟩:=hM.fin (by rcases X3 with rfl|rfl;exact .inl rfl;exact .inr rfl);refine St.bZ lz aq L rfl rfl hwL ?_;refine St.Wv xv (λUg=> ?_);refine St.Wv yv (λUh=> ?_)
     obtain⟨fl,Ck⟩:∃fl,fl=L++(X++Y):=⟨_,rfl⟩
     have ajC:fl.map eR=AN (p.ll a) (p.ll b):=by rw[Ck,cC,cC];exact hf1
     have ae8:∀x∈fl,aq.wf x:=λx hx=>by rw[Ck]at hx;rcases ba.1 hx with hx|hx;exact hwL x hx;rcases ba.1 hx with hx|hx;exact Z8 x hx;exact hwY x hx
     have ajD:(([((⟨lz,hz⟩:aY),L),((⟨xv,Ug⟩:aY),X),((⟨yv,Uh⟩:aY),Y)]).map Prod.snd).flatten=fl:=by rw[Ck];simp
     refine St.eT (aI pX [((⟨lz,hz⟩:aY),L),((⟨xv,Ug⟩:aY),X),((⟨yv,Uh⟩:aY),Y)]) [sl aq lz L,sl aq xv X,sl aq yv Y] (λρ h x hx=>by simp only[List.mem_cons,List.not_mem_nil,or_false]at hx;rcases hx with rfl|rfl|rfl;exact h _ (aU ..);exact h _ (cE _ (aU ..));exact h _ (cE _ (cE _ (aU ..)))) ?_;refine St.kA lv (by omega) (λbs2 oQ ajE=> ?_);refine g5 ?_;refine St.cx [row lv 161 1 ls.length (rows cN (ls.map Prod.fst)),aF (aI pX [((⟨lz,hz⟩:aY),L),((⟨xv,Ug⟩:aY),X),((⟨yv,Uh⟩:aY),Y)])] mixed (λnp ns=> ?_);refine SW.gd 0 ?_;refine SW.gd 1 ?_;refine SW.gd 2 ?_;refine SW.gd 3 ?_;refine SW.gd 4 ?_;refine SW.gd 5 ?_;refine SW.gd 6 ?_;refine SW.gd 7 ?_;refine SW.t1 8 ?_;refine St.gb rfl (.eZ rfl rfl rfl) BM rL Ob rfl rfl (λu hu=>by simp only[List.mem_cons,List.not_mem_nil,or_false]at hu;rcases hu with rfl|rfl|rfl;rw[cells_one hz];rfl;rw[cells_one Ug];rfl;rw[cells_one Uh];rfl) rfl rfl (λZE=> ?_);refine St.aO (.slice (some ⟨ZE,0,none⟩) 3 3) (show _=([((⟨lz,hz⟩:aY),L),((⟨xv,Ug⟩:aY),X),((⟨yv,Uh⟩:aY),Y)].map Prod.fst).length from rfl) (show _=rows cN ([((⟨lz,hz⟩:aY),L),((⟨xv,Ug⟩:aY),X),((⟨yv,Uh⟩:aY),Y)].map Prod.fst) by simp only[List.flatMap_cons,List.flatMap_nil,cells_one hz,cells_one Ug,cells_one Uh];rfl) ?_;refine St.bZ (.slice (some ⟨ZE,0,none⟩) 3 3) cN ([((⟨lz,hz⟩:aY),L),((⟨xv,Ug⟩:aY),X),((⟨yv,Uh⟩:aY),Y)].map Prod.fst) rfl rfl (λ_ _=>trivial) ?_;refine g2 ?_;refine SW.go ?_;refine SW.t1 9 ?_;refine St.fE (Fc (.slice (some ⟨ZE,0,none⟩) 3 3) [((⟨lz,hz⟩:aY),L),((⟨xv,Ug⟩:aY),X),((⟨yv,Uh⟩:aY),Y)] (by simp) (λq hq=>by simp only[List.mem_cons,List.not_mem_nil,or_false]at hq;rcases hq with rfl|rfl|rfl<;>dsimp only<;>omega)) acZ (.bB rfl) rfl ?_;rintro v173 _ ⟨Ih,rfl⟩;refine St.fk ?_;rw[ajD];refine St.bZ v173 aq fl rfl rfl ae8 ?_;refine g2 ?_;refine SW.go ?_;refine SW.dd 10 rfl (λ_=>Ev.mN (k:=a) ajE (.mk rfl) (.mk rfl) BM rL (by omega) (by omega)) ?_;refine SW.t1 11 ?_;refine St.bj (.mk rfl) (.mk rfl) rL Ih (by omega) (by decide) ?_;refine g2 ?_;refine SW.go ?_;refine SW.dn ?_;refine g2 ?_
     have ak7:=hJ.pl.left (m:=m) ha hb FT w8 Gq
     have hJ2:ae0 T nf n Z7 (iQ (fg T) (p0.mu [(a0,b0)]) p0 [(a0,b0)]) (V.reverse++w) (P3.set b a) (p.put a b m) (ls.set a (⟨v173,Ih⟩,fl)):=⟨hJ.pl.put ha hb FT hmT Gq,by rw[hf2];exact Uf.put hJ.pl ha hb,hP3.put (by omega) (by omega) FT w8 Gq,by rw[ia,hJ.lse];show p.lk.set a (fl.map eR)=_;rw[ajC];rfl,λq hq=>by rcases jx hq with hq|rfl;exact hJ.lw q hq;exact ae8,by rw[hf2,←ae5,hJ.eq],by have h0:=hJ.mu;have h1:p.mu (x::w)=p.left+(w.length+1)+1:=rfl;show(p.put a b m).left+(V.reverse++w).length+1≤Z7;rw[bA,Aq,hf2];omega⟩
     refine St.aO vz (show _=((V.reverse++w).reverse).length by rw[List.reverse_append,List.reverse_reverse]) (show _=rows N5 ((V.reverse++w).reverse) by rw[List.reverse_append,List.reverse_reverse]) ?_;refine St.aO pv (show _=(p.put a b m).ro.length by simp[Pl.put]) rfl ?_;refine St.aO tv (show _=(p.put a b m).ty.length by simp[Pl.put]) (show _=rows aL (p.put a b m).ty from rfl) ?_;refine St.aO lv (show _=(ls.set a (⟨v173,Ih⟩,fl)).length by rw[cG]) (show _=rows cN ((ls.set a (⟨v173,Ih⟩,fl)).map Prod.fst) by rw[ia];exact zC _ _ ⟨v173,Ih⟩) ?_;refine St.eT (aI pX (ls.set a (⟨v173,Ih⟩,fl))) [aI pX ls,sl aq v173 fl] (λρ h x hx=>by rcases jx hx with hx|rfl;exact h _ (aU ..) x hx;exact h _ (cE _ (aU ..))) ?_;refine St.mf () (vz,V.reverse++w,P3.set b a,p.put a b m,ls.set a (⟨v173,Ih⟩,fl)) ⟨hvz,hJ2⟩ (by dsimp only;unfold Pl.mu;rw[bA,Aq,dy,hf2];omega) (by repeat(first|exact Sub.nil|refine Sub.cons (by first|rfl|exact congrArg (λz=>some (iv z)) (by first|omega|(dsimp only;omega))|exact congrArg (λz=>some (Value.bool z)) (by first|assumption|exact iZ (by assumption))) ?_)) (λ_ hw=>hw.sub)
 ·obtain rfl:W=[]:=kf (by omega)
  have FM:=hJ.eq
  rw[MH]at FM;refine g11 ?_;refine St.rV [_] [aX bp (.cells [w1.1,w2.1,pv,tv,lv].toArray 245 (0,0)),row pv 3 1 p.ro.length (rows aL (cA (P1))),row tv 3 1 p.ty.length (rows aL p.ty),row lv 161 1 (ls).length (rows cN ((ls).map Prod.fst)),aF (aI pX (ls))] ?_;exact⟨true,P1,p,ls,rfl,λh=>(by cases h),λ_=>⟨FM.symm,hJ.pl,hJ.uf,hJ.lse,hJ.lw⟩,rfl⟩
end Go.Proofs.YtblifkgpebebmaaGreatDoor
