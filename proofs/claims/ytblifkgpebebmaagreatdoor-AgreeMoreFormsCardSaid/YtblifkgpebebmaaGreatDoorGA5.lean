/-
  Laws of walks through programs, and facts on grammars, trees and queries.
  Conditions: none.
-/
import Derived.Test.YtblifkgpebebmaaGreatDoorGA4
import Derived.Shelf.Spec.SlicesGrow
set_option maxHeartbeats 1000000
set_option maxRecDepth 20000
set_option linter.unusedVariables false
set_option linter.unusedSimpArgs false
namespace Go.Proofs.YtblifkgpebebmaaGreatDoor
open Go Go.J Tryz
structure e7 (nt nf:Nat)(g:dz):Prop where
 pos:0<g.length
 nd:∀n∈g,(0≤n.1∧n.1<nt)∧sF n.2∧∀x∈n.2,(0≤x.1∧x.1<nf)∧0≤x.2∧x.2<g.length
theorem e7.at_ {nt nf:Nat}{g:dz}(h:e7 nt nf g){i:Nat}(a:i<g.length):(0≤(g.getD i iK).1∧(g.getD i iK).1<nt)∧sF (g.getD i iK).2∧∀x∈(g.getD i iK).2,(0≤x.1∧x.1<nf)∧0≤x.2∧x.2<g.length:=by
 refine h.nd _ ?_;rw[aw,bU a];exact gz a
theorem e7.lk {nt nf:Nat}{g:dz}(h:e7 nt nf g):sk g:=⟨h.pos,λn a x hx=>by
 obtain⟨_,_,b⟩:=h.nd n a;obtain⟨c,d,e⟩:=b x hx
 exact⟨c.1,d,by omega⟩⟩
theorem CP (F:Int×Int→Int){l:ko}(h:sF l):sF (l.map λx=>(x.1,F x)):=by
 unfold sF at h⊢;rw[sC];exact h
theorem TJ {n i:Nat}(h:i<n):(List.range n).getD i 0=i:=by
 rw[aw,nV h];rfl
theorem Pl.OZ {nt nf:Nat}{x y:dz}(hx:e7 nt nf x)(hy:e7 nt nf y):mJ nt nf (x.length+y.length) (Pl.of x y):=by
 refine⟨by simp[Pl.of],by simp[Pl.of],by simp[Pl.of],λi b=> ?_,λi b=> ?_,λt ht=> ?_,λl c=> ?_,λl c=> ?_⟩
 ·show(List.range _).getD i 0<_;rw[TJ b];exact b
 ·show(List.range _).getD ((List.range _).getD i 0) 0=(List.range _).getD i 0;rw[TJ b,TJ b]
 ·rcases cD.1 ht with h|h<;>obtain⟨n,a,rfl⟩:=cy.1 h
  ·exact(hx.nd n a).1
  ·exact(hy.nd n a).1
 ·rcases cD.1 c with h|h<;>obtain⟨n,a,rfl⟩:=cy.1 h<;>intro z hz
  ·obtain⟨h1,d,e⟩:=(hx.nd n a).2.2 z hz
   exact⟨h1,d,by omega⟩
  ·obtain⟨u,hu,rfl⟩:=cy.1 hz
   obtain⟨h1,d,e⟩:=(hy.nd n a).2.2 u hu;exact⟨h1,by dsimp only;omega,by dsimp only;omega⟩
 ·rcases cD.1 c with h|h<;>obtain⟨n,a,rfl⟩:=cy.1 h
  ·exact(hx.nd n a).2.1
  ·exact CP _ (hy.nd n a).2.1
def CH (n:Nat)(w:List (Int×Int)):Prop:=∀x∈w,(0≤x.1∧x.1<n)∧0≤x.2∧x.2<n
theorem CH.rt {n:Nat}{x:Int×Int}{w:List (Int×Int)}(h:CH n (x::w)):x.1.toNat<n∧x.2.toNat<n:=by
 obtain⟨h1,a⟩:=h x (by simp);exact⟨by omega,by omega⟩
theorem CH.put {nt nf n:Nat}{p:Pl}(hp:mJ nt nf n p){a b:Nat}(c:a<n)(d:b<n){w:List (Int×Int)}(h:CH n w):CH n ((DC (p.ll a) (p.ll b)).reverse++w):=λz hz=>by
 rcases cD.1 hz with hz|hz
 ·obtain⟨⟨u,hu,e⟩,⟨v,f,e2⟩⟩:=Sy _ _ (List.mem_reverse.1 hz)
  have h1:=(hp.Qi _ (hp.lm c) u hu).2
  have g:=(hp.Qi _ (hp.lm d) v f).2
  exact⟨by rw[e];exact h1,by rw[e2];exact g⟩
 ·exact h z hz
def y8 (nt:Nat)(mt:Nat→Nat→Option Nat):Prop:=∀a b m,mt a b=some m→m<nt
theorem L0 {mt:Nat→Nat→Option Nat}{p:Pl}{x:Int×Int}{w:List (Int×Int)}(h:p.rt x.1.toNat=p.rt x.2.toNat):jB mt (p.mu (x::w)) p (x::w)=jB mt (p.mu w) p w:=by
 have e:p.mu (x::w)=p.mu w+1:=by unfold Pl.mu;simp only[List.length_cons];omega
 rw[e,jB,aC h]
theorem J5 {mt:Nat→Nat→Option Nat}{p:Pl}{x:Int×Int}{w:List (Int×Int)}(h:p.rt x.1.toNat≠p.rt x.2.toNat)(hm:mt (p.tt (p.rt x.1.toNat)).toNat (p.tt (p.rt x.2.toNat)).toNat=none):jB mt (p.mu (x::w)) p (x::w)=none:=by
 have e:p.mu (x::w)=p.mu w+1:=by unfold Pl.mu;simp only[List.length_cons];omega
 rw[e,jB,aA h,hm]
theorem Nw {nt nf n:Nat}{mt:Nat→Nat→Option Nat}{p:Pl}(hp:mJ nt nf n p){x:Int×Int}{w:List (Int×Int)}{m:Nat}(hx:x.1.toNat<n∧x.2.toNat<n)(h:p.rt x.1.toNat≠p.rt x.2.toNat)(hm:mt (p.tt (p.rt x.1.toNat)).toNat (p.tt (p.rt x.2.toNat)).toNat=some m):
 jB mt (p.mu (x::w)) p (x::w)=jB mt ((p.put (p.rt x.1.toNat) (p.rt x.2.toNat) m).mu ((DC (p.ll (p.rt x.1.toNat)) (p.ll (p.rt x.2.toNat))).reverse++w)) (p.put (p.rt x.1.toNat) (p.rt x.2.toNat) m) ((DC (p.ll (p.rt x.1.toNat)) (p.ll (p.rt x.2.toNat))).reverse++w):=by
 have a:=hp.left (m:=m) (hp.AB _ hx.1) (hp.AB _ hx.2) (hp.V5 _ hx.1) (hp.V5 _ hx.2) h
 have e:p.mu (x::w)=(p.put (p.rt x.1.toNat) (p.rt x.2.toNat) m).mu ((DC (p.ll (p.rt x.1.toNat)) (p.ll (p.rt x.2.toNat))).reverse++w)+1:=by
  unfold Pl.mu;simp only[List.length_cons,List.length_append,List.length_reverse];omega
 rw[e,jB,aA h,hm]
theorem Kz {mt:Nat→Nat→Option Nat}{p:Pl}:jB mt (p.mu []) p []=some p:=by
 show jB mt (p.left+0+1) p []=_;rw[jB]
theorem D3 {nt nf n:Nat}{mt:Nat→Nat→Option Nat}(a:y8 nt mt):∀(f:Nat) (p:Pl) (w:List (Int×Int)) (q:Pl),mJ nt nf n p→CH n w→jB mt f p w=some q→mJ nt nf n q∧∀i,i<n→∀k∈lp (p.ll (p.rt i)),k∈lp (q.ll (q.rt i))
 |0,_,_,_,_,_,h=>by cases h
 |f+1,p,[],q,hp,_,h=>by
  rw[jB]at h;obtain rfl:=Option.some.inj h;exact⟨hp,λ_ _ _ h=>h⟩
 |f+1,p,x::w,q,hp,hw,h=>by
  have hx:=hw.rt
  have d:CH n w:=λz hz=>hw z (by simp[hz])
  rw[jB]at h
  split at h
  ·exact D3 a f p w q hp d h
  ·rename_i l
   split at h
   ·cases h
   ·rename_i m hm
    have c:=hp.AB _ hx.1
    have g:=hp.AB _ hx.2
    have o:=hp.V5 _ hx.1
    have t:=hp.V5 _ hx.2
    have r:=hp.put (b:=p.rt x.2.toNat) c g o (a _ _ _ hm) l
    obtain⟨h1,s⟩:=D3 a f _ _ q r (d.put hp c g) h;refine⟨h1,λi j k hk=>s i j k ?_⟩;rw[Pl.HZ (by rw[hp.lr];exact j),Pl.Ox (by rw[hp.ll];exact c)]
    by_cases e:p.rt i=p.rt x.2.toNat
    ·rw[aC e,aC rfl];rw[e]at hk;exact Iw _ _ (.inr hk)
    ·rw[aA e]
     split
     ·rename_i e2;rw[e2]at hk;exact Iw _ _ (.inl hk)
     ·exact hk
theorem tZ (p:Pl):(pg p).length=p.ro.length:=by simp[pg]
theorem WD {p:Pl}{i:Nat}(h:i<p.ro.length):(pg p).getD i iK=(p.tt i,if p.rt i=i then(p.ll i).map (λl=>(l.1,(p.rt l.2.toNat:Int)))else []):=by
 unfold pg
 rw[aw,bQ,nV h];rfl
theorem NM {nt nf n:Nat}{p:Pl}(hp:mJ nt nf n p)(b:0<n):e7 nt nf (pg p):=by
 refine⟨by rw[tZ,hp.lr];exact b,λd hd=> ?_⟩;unfold pg at hd;obtain⟨i,a,rfl⟩:=cy.1 hd;rw[dq,hp.lr]at a;rw[tZ,hp.lr];refine⟨hp.tt a,?_,λx hx=> ?_⟩
 ·dsimp only;split
  ·exact CP _ (hp.Y9 _ (hp.lm a))
  ·exact List.Pairwise.nil
 ·dsimp only at hx
  split at hx
  ·obtain⟨u,hu,rfl⟩:=cy.1 hx
   obtain⟨h1,c,e⟩:=hp.Qi _ (hp.lm a) u hu
   have:=hp.AB u.2.toNat (by omega)
   exact⟨h1,by dsimp only;omega,by dsimp only;omega⟩
  ·cases hx
def Lk (n:Nat)(o:List Nat):Nat:=((List.range n).filter λj=>decide (j∉o)).length
theorem Fy {n:Nat}{o o':List Nat}(h:∀j∈o,j∈o'):Lk n o'≤Lk n o:=by
 unfold Lk;rw[←K6,←K6]
 refine List.countP_mono_left λj _ a=> ?_
 rw[fz]at a⊢
 exact λb=>a (h j b)
theorem Fz {n:Nat}{o:List Nat}{i:Nat}(b:i<n)(c:i∉o):Lk n (o++ [i])<Lk n o:=by
 unfold Lk;rw[←K6,←K6]
 have key:∀l:List Nat,i∈l→l.Nodup→l.countP (λj=>decide (j∉o++ [i]))+1≤l.countP (λj=>decide (j∉o)):=by
  intro l
  induction l with
  |nil=>intro h;cases h
  |cons x l d=>
   intro hm hd;obtain⟨hx,hd⟩:=List.nodup_cons.1 hd;rw[rz,rz]
   by_cases e:x=i
   ·subst e
    rw[aA (by simp),aC (by simpa using c)]
    have:=List.countP_mono_left (l:=l) (p:=λj=>decide (j∉o++ [x])) (q:=λj=>decide (j∉o)) (λj _ a=>by
     rw[fz]at a⊢;exact λf=>a (by simp[f]))
    omega
   ·have:=d ((cH.1 hm).resolve_left λh=>e h.symm) hd
    have e2:decide (x∉o++ [i])=decide (x∉o):=by rw[decide_eq_decide];simp[e]
    rw[e2];omega
 have:=key (List.range n) (dq.2 b) List.nodup_range
 omega
theorem Jr (n:Nat):Lk n []=n:=by
 unfold Lk;rw[List.filter_eq_self.2 (by simp),jV]
def n5 (g:dz)(f:Nat)(o:List Nat)(l:ko):List Nat:=l.foldl (λo x=>lC g f o x.2.toNat) o
theorem km (g:dz)(f:Nat)(o:List Nat)(i:Nat):lC g (f+1) o i=if i∈o then o else n5 g f (o++ [i]) (g.getD i iK).2:=rfl
theorem Bs (g:dz)(f:Nat)(o:List Nat)(l:ko)(x:Int×Int):n5 g f o (l++ [x])=lC g f (n5 g f o l) x.2.toNat:=by
 unfold n5;rw[wc];rfl
structure CF (g:dz)(o:List Nat):Prop where
 nd:o.Nodup
 lt:∀j∈o,j<g.length
theorem Jx (g:dz):∀(f:Nat) (o:List Nat) (i:Nat),o<+:lC g f o i:=by
 intro f
 induction f with
 |zero=>intro o i;exact List.prefix_refl _
 |succ f b=>
  intro o i;rw[km]
  split
  ·exact List.prefix_refl _
  ·have:∀(l:ko) (o:List Nat),o<+:n5 g f o l:=by
    intro l
    induction l with
    |nil=>intro o;exact List.prefix_refl _
    |cons x l a=>intro o;exact(b o _).trans (a _)
   exact(List.prefix_append o [i]).trans (this _ _)
theorem qf (g:dz)(f:Nat):∀(l:ko) (o:List Nat),o<+:n5 g f o l
 | [],o=>List.prefix_refl _
 |x::l,o=>(Jx g f o _).trans (qf g f l _)
theorem Tq (g:dz)(f:Nat)(o:List Nat)(i:Nat){j:Nat}(h:j∈o):j∈lC g f o i:=(Jx g f o i).subset h
theorem QG {g:dz}(k:sk g):∀(f:Nat) (o:List Nat) (i:Nat),CF g o→i<g.length→CF g (lC g f o i):=by
 intro f
 induction f with
 |zero=>intro o i h _;exact h
 |succ f m=>
  intro o i h n;rw[km]
  split
  ·exact h
  ·rename_i p
   have h1:CF g (o++ [i]):=⟨by rw[List.nodup_append];exact⟨h.nd,by simp,by intro a q b r;rw[bO.1 r];rintro rfl;exact p q⟩,λj c=>by
    rcases cD.1 c with c|c
    ·exact h.lt j c
    ·rw[bO.1 c];exact n⟩
   have:∀(l:ko) (o:List Nat),(∀x∈l,x.2.toNat<g.length)→CF g o→CF g (n5 g f o l):=by
    intro l
    induction l with
    |nil=>intro o _ h;exact h
    |cons x l d=>intro o e h;exact d _ (λy hy=>e y (by simp[hy])) (m _ _ h (e x (by simp)))
   exact this _ _ (λx hx=>(k.at_ hx).2.2) h1
theorem Xz {g:dz}{f:Nat}{o:List Nat}{i:Nat}:i∈lC g (f+1) o i:=by
 rw[km]
 split
 ·rename_i h;exact h
 ·exact(qf g f _ _).subset (by simp)
theorem Tp {g:dz}(k:sk g):∀(f:Nat) (o:List Nat) (i:Nat),i<g.length→Lk g.length o<f→∀j∈lC g f o i,j∈o∨∀x∈(g.getD j iK).2,x.2.toNat∈lC g f o i:=by
 intro f
 induction f with
 |zero=>intro o i _ h;omega
 |succ f m=>
  intro o i p hu j a;rw[km]at a⊢
  split at a
  ·exact .inl a
  ·rename_i d
   rw[aA d]
   have q:=Fz p d
   have step:∀(l:ko) (o:List Nat),(∀x∈l,x.2.toNat<g.length)→Lk g.length o<f→(∀j∈n5 g f o l,j∈o∨∀x∈(g.getD j iK).2,x.2.toNat∈n5 g f o l)∧∀x∈l,x.2.toNat∈n5 g f o l:=by
    intro l
    induction l with
    |nil=>intro o _ _;exact⟨λj a=> .inl a,λx hx=>by cases hx⟩
    |cons x l b=>
     intro o e hu
     have hm:=Fy (n:=g.length) (o:=o) (o':=lC g f o x.2.toNat) λj a=>Tq g f o _ a
     obtain⟨c,a2⟩:=b (lC g f o x.2.toNat) (λy hy=>e y (by simp[hy])) (by omega)
     have hp:=(qf g f l (lC g f o x.2.toNat)).subset
     refine⟨λj a=> ?_,λy hy=> ?_⟩
     ·rcases c j a with h|h
      ·rcases m o x.2.toNat (e x (by simp)) hu j h with h|h
       ·exact .inl h
       ·exact .inr λy hy=>hp (h y hy)
      ·exact .inr h
     ·rcases cH.1 hy with rfl|hy
      ·cases f with
       |zero=>omega
       |succ f=>exact hp Xz
      ·exact a2 y hy
   obtain⟨c,a2⟩:=step (g.getD i iK).2 (o++ [i]) (λx hx=>(k.at_ hx).2.2) (by omega)
   rcases c j a with h|h
   ·rcases cD.1 h with h|h
    ·exact .inl h
    ·rw[bO.1 h];exact .inr a2
   ·exact .inr h
def xE (g:dz)(r:Nat):List Nat:=lC g (g.length+1) [] r
theorem Og {g:dz}(b:sk g){r:Nat}(c:r<g.length):CF g (xE g r)∧(∀j∈xE g r,∀x∈(g.getD j iK).2,x.2.toNat∈xE g r)∧(xE g r)[0]?=some r:=by
 refine⟨QG b _ _ _ ⟨List.nodup_nil,λj a=>by cases a⟩ c,λj a=> ?_,?_⟩
 ·rcases Tp b _ _ _ c (by rw[Jr];omega) j a with h|h
  ·cases h
  ·exact h
 ·unfold xE
  rw[km,aA (by simp)];obtain⟨t,ht⟩:=qf g g.length (g.getD r iK).2 ([]++ [r])
  rw[←ht];rfl
theorem kg {o:List Nat}{n:Nat}(h:o.Nodup)(a:∀j∈o,j<n):o.length≤n:=by
 have:o.length≤(List.range n).length:=h.length_le_of_subset λj b=>dq.2 (a j b)
 rwa[jV]at this
theorem tX (g:dz)(r:Nat):gl g r=(xE g r).map λi=>((g.getD i iK).1,(g.getD i iK).2.map λx=>(x.1,((xE g r).idxOf x.2.toNat:Int))):=rfl
theorem tY {nt nf:Nat}{g:dz}(b:e7 nt nf g){r:Nat}(f:r<g.length):e7 nt nf (gl g r)∧(gl g r).length≤g.length∧lp ((gl g r).getD 0 iK).2=lp (g.getD r iK).2:=by
 obtain⟨h1,h,a⟩:=Og b.lk f
 have j:0<(xE g r).length:=by
  cases e:xE g r with
  |nil=>rw[e]at a;cases a
  |cons=>simp
 refine⟨⟨by rw[tX,aN];exact j,λd hd=> ?_⟩,by rw[tX,aN];exact kg h1.nd h1.lt,?_⟩
 ·rw[tX]at hd
  obtain⟨i,c,rfl⟩:=cy.1 hd;obtain⟨k,a2,a3⟩:=b.at_ (h1.lt i c);refine⟨k,CP _ a2,λx hx=> ?_⟩;obtain⟨u,hu,rfl⟩:=cy.1 hx
  have:=List.idxOf_lt_length_iff.2 (h i c u hu)
  rw[tX,aN];exact⟨(a3 u hu).1,by dsimp only;omega,by dsimp only;omega⟩
 ·rw[tX,aw,bQ,a]
  simp[lp,List.map_map,Function.comp_def]
theorem Sd {nt nf:Nat}{mt:Nat→Nat→Option Nat}(b:y8 nt mt){x y z:dz}(hx:e7 nt nf x)(hy:e7 nt nf y){node:Nat}(l:node<x.length)(h:dT mt x node y=some z):
 e7 nt nf z∧z.length≤x.length+y.length∧∀k∈lp (x.getD 0 iK).2,k∈lp (z.getD 0 iK).2:=by
 have c:=hx.pos
 have f:=hy.pos
 obtain⟨p,hp,rfl⟩:=di.1 h;obtain⟨h1,g⟩:=D3 b _ _ _ p (Pl.OZ hx hy) (λu hu=>by rw[bO.1 hu];exact⟨⟨by dsimp only;omega,by dsimp only;omega⟩,by dsimp only;omega,by dsimp only;omega⟩) hp
 have i:=NM h1 (by omega)
 have a:=h1.AB 0 (by omega)
 obtain⟨f1,f2,f3⟩:=tY i (r:=p.rt 0) (by rw[tZ,h1.lr];exact a);rw[tZ,h1.lr]at f2;refine⟨f1,f2,λk hk=> ?_⟩;rw[f3,WD (by rw[h1.lr];exact a),aC (h1.V5 0 (by omega))]
 have j:=g 0 (by omega) k (by
  show k∈lp ((Pl.of x y).lk.getD ((List.range _).getD 0 0) [])
  rw[TJ (by omega)]
  show k∈lp ((x.map (·.2)++_).getD 0 [])
  rw[aw,ob (by simpa using c),bQ];rw[aw]at hk
  cases e:x[0]? with
  |none=>rw[e]at hk;exact hk
  |some d=>rw[e]at hk;exact hk)
 simpa[lp,List.map_map,Function.comp_def]using j
structure Qz (rk:Nat→Nat)(B:Nat)(P R:List Nat):Prop where
 len:P.length=R.length
 lt:∀i,i<R.length→P.getD i 0<R.length
 rt:∀i,i<R.length→R.getD (P.getD i 0) 0=R.getD i 0
 me:∀i,i<R.length→(P.getD i 0=i↔R.getD i 0=i)
 up:∀i,i<R.length→P.getD i 0≠i→rk i<rk (P.getD i 0)
 le:∀i,i<R.length→rk i≤B
def UF (P R:List Nat):Prop:=∃rk B,Qz rk B P R
theorem EO {α:Type}{l:List α}{i j:Nat}{x d:α}(h:i<l.length):(l.set i x).getD j d=if j=i then x else l.getD j d:=by
 rw[aw,aw]
 by_cases e:j=i
 ·subst e;rw[fU h,aC rfl];rfl
 ·rw[ig (λh=>e h.symm),aA e]
theorem Qz.abP {rk:Nat→Nat}{B:Nat}{P R:List Nat}(h:Qz rk B P R){i:Nat}(b:i<R.length)(g:P.getD i 0≠i):
 Qz rk B (P.set i (P.getD (P.getD i 0) 0)) R∧rk i<rk (P.getD (P.getD i 0) 0)∧R.getD (P.getD (P.getD i 0) 0) 0=R.getD i 0∧P.getD (P.getD i 0) 0<R.length:=by
 have h1:=h.lt i b
 have k:=h.lt _ h1
 have m:=h.up i b g
 have l:R.getD (P.getD (P.getD i 0) 0) 0=R.getD i 0:=by rw[h.rt _ h1,h.rt i b]
 have d:rk i<rk (P.getD (P.getD i 0) 0):=by
  by_cases e:P.getD (P.getD i 0) 0=P.getD i 0
  ·rw[e];exact m
  ·have:=h.up _ h1 e;omega
 have c:∀j,(P.set i (P.getD (P.getD i 0) 0)).getD j 0=if j=i then P.getD (P.getD i 0) 0 else P.getD j 0:=λj=>EO (by rw[h.len];exact b)
 refine⟨⟨by rw[cn];exact h.len,λj a=> ?_,λj a=> ?_,λj a=> ?_,λj a f=> ?_,h.le⟩,d,l,k⟩
 ·rw[c];split
  ·exact k
  ·exact h.lt j a
 ·rw[c];split
  ·rename_i e;rw[e];exact l
  ·exact h.rt j a
 ·rw[c];split
  ·rename_i e;subst e
   refine⟨λe=> ?_,λe=>absurd ((h.me j a).2 e) g⟩
   rw[e]at d;omega
  ·exact h.me j a
 ·rw[c]at f⊢
  split
  ·rename_i e;subst e;exact d
  ·rename_i e;rw[aA e]at f;exact h.up j a f
theorem Qz.put {rk:Nat→Nat}{B:Nat}{P R:List Nat}(h:Qz rk B P R){a b:Nat}(f:a<R.length)(o:b<R.length)(i:R.getD a 0=a)(p:R.getD b 0=b)(k:a≠b):
 UF (P.set b a) (R.map λx=>if x=b then a else x):=by
 have g:∀j,(P.set b a).getD j 0=if j=b then a else P.getD j 0:=λj=>EO (by rw[h.len];exact o)
 have hm:∀j,j<R.length→(R.map λx=>if x=b then a else x).getD j 0=if R.getD j 0=b then a else R.getD j 0:=λj c=>by
  simp only[List.getD_eq_getElem?_getD,List.getElem?_map,List.getElem?_eq_getElem c,Option.map_some,Option.getD_some]
 have l:=(h.me a f).2 i
 refine⟨λx=>if x=a then rk a+rk b+1 else rk x,B+B+1,by rw[cn,aN];exact h.len,λj c=> ?_,λj c=> ?_,λj c=> ?_,λj c d=> ?_,λj c=> ?_⟩<;>rw[aN]at c
 ·rw[g,aN];split
  ·exact f
  ·exact h.lt j c
 ·rw[g,hm j c];split
  ·rename_i e;subst e
   rw[hm a f,i,aA k,p,aC rfl]
  ·rw[hm _ (h.lt j c),h.rt j c]
 ·rw[g,hm j c]
  by_cases e:j=b
  ·subst e;rw[aC rfl,p,aC rfl]
  ·rw[aA e]
   by_cases e2:R.getD j 0=b
   ·rw[aC e2]
    refine⟨λm=> ?_,λm=> ?_⟩
    ·have:=(h.me j c).1 m;rw[this]at e2;exact absurd e2 e
    ·subst m;rw[i]at e2;exact absurd e2 k
   ·rw[aA e2];exact h.me j c
 ·rw[g]at d⊢
  by_cases e:j=b
  ·subst e
   rw[aC rfl,aA (λx=>k x.symm),aC rfl];omega
  ·rw[aA e]at d⊢
   have hu:=h.up j c d
   have n:j≠a:=λx=>by rw[x]at d;exact d l
   rw[aA n]
   split
   ·rename_i e2;rw[e2]at hu;omega
   ·exact hu
 ·have:=h.le j c
  have:=h.le a f
  have:=h.le b o
  split<;>omega
theorem UF.range (n:Nat):UF (List.range n) (List.range n):=
 ⟨λ_=>0,0,rfl,λi a=>by rw[jV]at a⊢;rw[TJ a];exact a,λi a=>by rw[jV]at a;rw[TJ a,TJ a],λi a=>Iff.rfl,λi a h=>by rw[jV]at a;exact absurd (TJ a) h,λi a=>aR _⟩
structure Dg (x0 y0 l x y:ko)(w:List (Int×Int)):Prop where
 l:l++Af x y=Af x0 y0
 w:w++DC x y=DC x0 y0
theorem Dg.start (x y:ko):Dg x y [] x y []:=⟨rfl,rfl⟩
theorem Dg.lt {x0 y0 l x y:ko}{w:List (Int×Int)}{a b:Int×Int}(h:Dg x0 y0 l (a::x) (b::y) w)(c:a.1<b.1):Dg x0 y0 (l++ [a]) x (b::y) w:=by
 obtain⟨h1,d⟩:=h;rw[fb,aC c]at h1;rw[jz,aC c]at d;exact⟨by rw[dp];exact h1,d⟩
theorem Dg.gt {x0 y0 l x y:ko}{w:List (Int×Int)}{a b:Int×Int}(h:Dg x0 y0 l (a::x) (b::y) w)(c:b.1<a.1):Dg x0 y0 (l++ [b]) (a::x) y w:=by
 obtain⟨h1,d⟩:=h
 have e:¬a.1<b.1:=by omega
 rw[fb,aA e,aC c]at h1;rw[jz,aA e,aC c]at d;exact⟨by rw[dp];exact h1,d⟩
theorem Dg.eq {x0 y0 l x y:ko}{w:List (Int×Int)}{a b:Int×Int}(h:Dg x0 y0 l (a::x) (b::y) w)(f:a.1=b.1):Dg x0 y0 (l++ [a]) x y (w++ [(a.2,b.2)]):=by
 obtain⟨h1,c⟩:=h
 have d:¬a.1<b.1:=by omega
 have e:¬b.1<a.1:=by omega
 rw[fb,aA d,aA e]at h1;rw[jz,aA d,aA e]at c;exact⟨by rw[dp];exact h1,by rw[dp];exact c⟩
theorem Dg.fin {x0 y0 l x y:ko}{w:List (Int×Int)}(h:Dg x0 y0 l x y w)(he:x=[]∨y=[]):l++(x++y)=Af x0 y0∧w=DC x0 y0:=by
 obtain⟨h1,a⟩:=h
 rcases he with rfl|rfl
 ·rw[tu]at h1;rw[DD,gq]at a;exact⟨h1,a⟩
 ·rw[qO]at h1;rw[zJ,gq]at a;exact⟨by rw[gq];exact h1,a⟩
def hC (T:List ej)(a b:Nat):Option Nat:=match comm T a b with
 | []=>none
 |m::_=>if kF T a b=true then none else some m
def lu (x:dz):dz:=gl x (rR x 0).toNat
def mw (mt:Nat→Nat→Option Nat)(x:dz)(a:Int)(y:dz):Option dz:=match dT mt x (rR x a).toNat y with
 |some z=>if z.length≤60 then some z else none
 |none=>none
structure oh where
 frm:Nat
 tqo:Nat
 cw:Nat
 gr:dz
structure ud where
 rule:Int
 lex:Int
 kids:List Nat
structure lJ where
 ed:oh
 cV:List ud
 ba:List Int
def ed0:oh:=⟨0,0,0,[]⟩
def gh:lJ:=⟨ed0,[],[]⟩
structure Cs where
 its:List lJ
 sp:List (List Nat)
def jw (i:Int):UInt8:=UInt8.ofNat (i%256).toNat
def vF (l:ko):bB:=l.flatMap λx=>[jw x.1,jw x.2]
def yt (g:dz):bB:=g.flatMap λn=>jw n.1::jw (n.2.length:Nat)::vF n.2
def fZ (e:oh):bB:=jw (e.frm:Nat)::jw (e.tqo:Nat)::jw (e.cw:Nat)::yt e.gr
def xX (its:List lJ)(k:bB):Option Nat:=its.findIdx? λit=>decide (fZ it.ed=k)
def sb (w:ud):Int:=if w.rule<0 then 1000+w.lex else w.rule
def lJ.put (it:lJ)(w:ud):lJ:=⟨it.ed,it.cV++ [w],if sb w∈it.ba then it.ba else it.ba++ [sb w]⟩
def kZ (n:Nat)(cs:Cs)(e:oh)(w:ud):Cs:=match xX cs.its (fZ e)with
 |some i=>⟨cs.its.modify i λit=>it.put w,cs.sp⟩
 |none=>⟨cs.its++ [(⟨e,[],[]⟩:lJ).put w],cs.sp.modify (e.frm*(n+1)+e.tqo) λl=>l++ [cs.its.length]⟩
structure Qr where
 n:Nat
 mt:Nat→Nat→Option Nat
 adm:Nat→Nat→Int→Bool
 rules:List sg
 aL:List Dn
def Cs.at_ (cs:Cs)(n i j:Nat):List Nat:=cs.sp.getD (i*(n+1)+j) []
def Cs.ed (cs:Cs)(e:Nat):oh:=(cs.its.getD e gh).ed
def VZ (Q:Qr)(cs:Cs)(rule a e:Nat):Bool:=(cs.its.getD e gh).ba.any (Q.adm rule a)
def lO (Q:Qr)(cs:Cs)(rule:Nat)(x:dz)(a e:Nat):Option dz:=if VZ Q cs rule a e=true then mw Q.mt x a (cs.ed e).gr else none
def uw (Q:Qr)(rule frm tqo:Nat):Nat→Cs→dz→List Nat→Nat→Cs
 |0,cs,x,kids,a=>(cs.at_ Q.n a tqo).foldl (λcs e=>match lO Q cs rule x (kids.length+1) e with
  |none=>cs
  |some y=>kZ Q.n cs ⟨frm,tqo,0,lu y⟩ ⟨rule,0,kids++ [e]⟩) cs
 |l+1,cs,x,kids,a=>(List.range' (a+1) (tqo-(l+1)-a)).foldl (λcs en=>(cs.at_ Q.n a en).foldl (λcs e=>match lO Q cs rule x (kids.length+1) e with
  |none=>cs
  |some y=>uw Q rule frm tqo l cs y (kids++ [e]) en) cs) cs
def qd (Q:Qr)(frm tqo e:Nat)(cs:Cs)(i:Nat):Cs:=
 if(Q.rules.getD i oQ).kids≠1 then cs else match lO Q cs i (Q.rules.getD i oQ).graph 1 e with
  |none=>cs
  |some x=>kZ Q.n cs ⟨frm,tqo,(cs.ed e).cw+1,lu x⟩ ⟨i,0,[e]⟩
def qe (Q:Qr)(frm tqo:Nat):Nat→Nat→Cs→Cs
 |0,_,cs=>cs
 |f+1,k,cs=>if k<(cs.at_ Q.n frm tqo).length then
   (if(cs.ed ((cs.at_ Q.n frm tqo).getD k 0)).cw=3 then qe Q frm tqo f (k+1) cs
    else qe Q frm tqo f (k+1) ((List.range Q.rules.length).foldl (qd Q frm tqo ((cs.at_ Q.n frm tqo).getD k 0)) cs))
  else cs
def hP (Q:Qr):Nat:=Q.rules.countP λr=>decide (r.kids=1)
def jy (r:Nat):Nat→Nat
 |0=>0
 |k+1=>r*(1+jy r k)
def qT (Q:Qr)(cs:Cs)(l:List Nat):Nat:=(l.map λe=>1+jy (hP Q) (3-(cs.ed e).cw)).sum
def rL (Q:Qr)(w:bB)(frm tqo:Nat)(cs:Cs)(i:Nat):Cs:=if(Q.aL.getD i Qj).word=w then kZ Q.n cs ⟨frm,tqo,0,gl (Q.aL.getD i Qj).graph 0⟩ ⟨-1,i,[]⟩else cs
def rP (Q:Qr)(frm tqo:Nat)(cs:Cs)(i:Nat):Cs:=if 1<(Q.rules.getD i oQ).kids∧(Q.rules.getD i oQ).kids≤(tqo:Int)-frm then uw Q i frm tqo ((Q.rules.getD i oQ).kids.toNat-1) cs (Q.rules.getD i oQ).graph [] frm else cs
def mm (Q:Qr)(words:List bB)(frm tqo:Nat)(cs:Cs):Cs:=
 if tqo=frm+1 then(List.range Q.aL.length).foldl (rL Q (words.getD frm []) frm tqo) cs else(List.range Q.rules.length).foldl (rP Q frm tqo) cs
def pJ (Q:Qr)(words:List bB)(frm tqo:Nat)(cs:Cs):Cs:=
 qe Q frm tqo (qT Q (mm Q words frm tqo cs) ((mm Q words frm tqo cs).at_ Q.n frm tqo)+1) 0 (mm Q words frm tqo cs)
def Ab (Q:Qr)(words:List bB)(len:Nat):Nat→Nat→Cs→Option Cs
 |0,_,cs=>some cs
 |m+1,frm,cs=>if 300<(pJ Q words frm (frm+len) cs).its.length then none else Ab Q words len m (frm+1) (pJ Q words frm (frm+len) cs)
def yG (Q:Qr)(words:List bB):Nat→Nat→Cs→Option Cs
 |0,_,cs=>some cs
 |m+1,len,cs=>(Ab Q words len (Q.n+1-len) 0 cs).bind λcs=>yG Q words m (len+1) cs
def lg (a b:Int):Int:=if a<b then-1 else if b<a then 1 else 0
def si (a b:Int):Int:=if a=0 then b else a
def kO {α:Type}(f:α→α→Int):List α→List α→Int
 | [],[]=>0
 | [],_::_=> -1
 |_::_,[]=>1
 |a::l,b::m=>if f a b≠0 then f a b else kO f l m
def EC (p q:Int×Int):Int:=si (lg p.1 q.1) (lg p.2 q.2)
def wq (x y:KF):Int:=si (lg x.1 y.1) (si (lg x.2.length y.2.length) (kO EC x.2 y.2))
def xP (x y:oh):Int:=si (lg x.frm y.frm) (si (lg x.tqo y.tqo) (si (lg x.cw y.cw) (kO wq x.gr y.gr)))
def Kw {α:Type}(f:α→α→Int)(a:α):List α→List α
 | []=>[a]
 |b::l=>if f a b<0 then a::b::l else b::Kw f a l
def TU {α:Type}(f:α→α→Int):List α→List α
 | []=>[]
 |a::l=>Kw f a (TU f l)
def l7 (its:List lJ):List Nat:=TU (λi j=>xP (its.getD i gh).ed (its.getD j gh).ed) (List.range its.length)
def pB (o:List Nat)(i:Nat):Nat:=o.idxOf i
def gn (its:List lJ):List lJ:=(l7 its).map λi=>⟨(its.getD i gh).ed,(its.getD i gh).cV.map λw=>⟨w.rule,w.lex,w.kids.map (pB (l7 its))⟩,(its.getD i gh).ba⟩
def Gs (mt:Nat→Nat→Option Nat)(n:Nat)(start:dz)(its:List lJ):List Nat:=(List.range its.length).filter λi=>decide ((its.getD i gh).ed.frm=0)&&decide ((its.getD i gh).ed.tqo=n)&&(dT mt (its.getD i gh).ed.gr 0 start).isSome
def HR (g:gB):List dz:=g.rules.map (λr=>lu r.graph)++g.aL.map (·.graph)
def HX (g:gB)(top:Int):Int:=if 0≤top∧top<g.rules.length then top else if 1000≤top∧top<1000+g.aL.length then g.rules.length+top-1000 else-1
def Va (g:gB)(mt:Nat→Nat→Option Nat)(rule a:Nat)(top:Int):Bool:=
 decide (0≤HX g top)&&decide (rule<g.rules.length)&&decide (1≤a)&&decide ((a:Int)≤(g.rules.getD rule oQ).kids)&&(dT mt (g.rules.getD rule oQ).graph (rR (g.rules.getD rule oQ).graph a).toNat ((HR g).getD (HX g top).toNat [])).isSome
def qrG (g:gB)(words:List bB):Qr:=⟨words.length,hC g.types,Va g (hC g.types),g.rules,g.aL⟩
def xJ:Nat→List bB→Int×Int
 |_,[]=>(0,0)
 |i,w::l=>if isWord w=false then(10,(i:Int))else xJ (i+1) l
def AV (aL:List Dn):Nat→List bB→Int×Int
 |_,[]=>(0,0)
 |i,w::l=>if w∈aL.map (·.word)then AV aL (i+1) l else(6,(i:Int))
def ph (g:gB)(words:List bB):Int×Int:=if words.length=0∨12<words.length then(9,-2)else if(xJ 0 words).1≠0 then xJ 0 words else AV g.aL 0 words
def wo (g:gB)(words:List bB):Option (List lJ):=(yG (qrG g words) words words.length 1 ⟨[],List.replicate (words.length*(words.length+1)) []⟩).map λcs=>gn cs.its
def dS (g:gB)(words:List bB):(List lJ×List Nat)×(Int×Int):=
 if(jN g).1≠0 then(([],[]),jN g)else if(ph g words).1≠0 then(([],[]),ph g words)else match wo g words with
  |none=>(([],[]),(17,-2))
  |some its=>((its,Gs (hC g.types) words.length g.start its),(0,0))
theorem lf {a b:Nat}(c:a<256)(d:b<256)(h:jw (a:Int)=jw (b:Int)):a=b:=by
 have:=congrArg UInt8.toNat h
 unfold jw at this
 simp only[UInt8.toNat_ofNat']at this
 omega
theorem Ny {e d:oh}(he:e.frm<256∧e.tqo<256)(hd:d.frm<256∧d.tqo<256)(h:fZ e=fZ d):e.frm=d.frm∧e.tqo=d.tqo:=by
 unfold fZ at h
 simp only[List.cons.injEq]at h
 exact⟨lf he.1 hd.1 h.1,lf he.2 hd.2 h.2.1⟩
theorem yu {its:List lJ}{k:bB}{i:Nat}(h:xX its k=some i):∃it,its[i]?=some it∧fZ it.ed=k:=by
 obtain⟨a,h1,_⟩:=List.findIdx?_eq_some_iff_getElem.1 h;exact⟨_,bU a,ei h1⟩
theorem O1 {its:List lJ}{k:bB}(h:xX its k=none):∀it∈its,fZ it.ed≠k:=λit hit=>by
 have:=List.findIdx?_eq_none_iff.1 h it hit
 exact iX (by simpa using this)
def slt (n i j:Nat):Nat:=i*(n+1)+j
theorem DN {n i j a b:Nat}(e:j≤n)(f:b≤n)(h:slt n i j=slt n a b):i=a∧j=b:=by
 unfold slt at h
 have h1:(i*(n+1)+j)/(n+1)=i:=by rw[Nat.mul_comm,Nat.mul_add_div (by omega),Nat.div_eq_of_lt (by omega),j4]
 have c:(a*(n+1)+b)/(n+1)=a:=by rw[Nat.mul_comm,Nat.mul_add_div (by omega),Nat.div_eq_of_lt (by omega),j4]
 have d:i=a:=by rw[←h1,←c,h]
 subst d;exact⟨rfl,by omega⟩
theorem sW {n i j:Nat}(a:i<n)(b:j≤n):slt n i j<n*(n+1):=by
 unfold slt
 have:(i+1)*(n+1)≤n*(n+1):=iW _ a
 rw[jd]at this;omega
structure Grow (n frm tqo:Nat)(cs fg:Cs)(a:Nat):Prop where
 more:cs.its.length≤fg.its.length
 most:fg.its.length≤cs.its.length+a
 GF:fg.sp.length=cs.sp.length
 XO:∀k,k≠slt n frm tqo→fg.sp.getD k []=cs.sp.getD k []
 own:(fg.sp.getD (slt n frm tqo) []).length≤(cs.sp.getD (slt n frm tqo) []).length+a
 ed:∀i,i<cs.its.length→fg.ed i=cs.ed i
 new:∀i,cs.its.length≤i→i<fg.its.length→(fg.ed i).frm=frm∧(fg.ed i).tqo=tqo
 far:∀i,i<cs.its.length→¬((cs.ed i).frm=frm∧(cs.ed i).tqo=tqo)→fg.its.getD i gh=cs.its.getD i gh
 cV:∀i,i<fg.its.length→(fg.its.getD i gh).cV.length≤(cs.its.getD i gh).cV.length+a
theorem Grow.refl (n frm tqo:Nat)(cs:Cs):Grow n frm tqo cs cs 0:=
 ⟨aR _,aR _,rfl,λ_ _=>rfl,aR _,λ_ _=>rfl,λi h1 a=>by omega,λ_ _ _=>rfl,λ_ _=>aR _⟩
theorem Grow.trans {n frm tqo:Nat}{x y z:Cs}{a b:Nat}(h:Grow n frm tqo x y a)(k:Grow n frm tqo y z b):Grow n frm tqo x z (a+b):=by
 refine⟨dY h.more k.more,by have:=h.most;have:=k.most;omega,k.GF.trans h.GF,λi d=>(k.XO i d).trans (h.XO i d),by have:=h.own;have:=k.own;omega,λi d=> ?_,λi h1 f=> ?_,λi d g=> ?_,λi d=> ?_⟩
 ·rw[k.ed i (fQ d h.more),h.ed i d]
 ·by_cases c:i<y.its.length
  ·rw[k.ed i c];exact h.new i h1 c
  ·exact k.new i (by omega) f
 ·rw[k.far i (fQ d h.more) (by rw[h.ed i d];exact g),h.far i d g]
 ·have h1:=k.cV i d
  by_cases c:i<y.its.length
  ·have f:=h.cV i c;omega
  ·have e:y.its.getD i gh=gh:=by rw[aw,ic (by omega)];rfl
   rw[e]at h1
   have:gh.cV.length=0:=rfl
   omega
theorem Grow.mono {n frm tqo:Nat}{x y:Cs}{a b:Nat}(h:Grow n frm tqo x y a)(d:a≤b):Grow n frm tqo x y b:=
 ⟨h.more,by have:=h.most;omega,h.GF,h.XO,by have:=h.own;omega,h.ed,h.new,h.far,λi c=>by have:=h.cV i c;omega⟩
structure gi (nt nf n:Nat)(cs:Cs):Prop where
 GF:cs.sp.length=n*(n+1)
 idx:∀l∈cs.sp,∀e∈l,e<cs.its.length
 tot:(cs.sp.map List.length).sum=cs.its.length
 prt:∀i j e,j≤n→e∈cs.sp.getD (slt n i j) []→(cs.ed e).frm=i∧(cs.ed e).tqo=j
 gr:∀it∈cs.its,it.ed.frm<it.ed.tqo∧it.ed.tqo≤n∧it.ed.cw≤3∧e7 nt nf it.ed.gr∧it.ed.gr.length≤60
 ba:∀it∈cs.its,it.ba.length≤it.cV.length
 kids:∀it∈cs.its,∀w∈it.cV,∀k∈w.kids,k<cs.its.length
theorem gi.GW {nt nf n:Nat}{cs:Cs}(h:gi nt nf n cs){k e:Nat}(he:e∈cs.sp.getD k []):e<cs.its.length:=by
 rw[aw]at he
 cases c:cs.sp[k]? with
 |none=>rw[c]at he;cases he
 |some l=>rw[c]at he;exact h.idx l (ae c) e he
theorem lJ.DG (it:lJ)(w:ud):(it.put w).cV=it.cV++ [w]:=rfl
theorem I1 {l:List (List Nat)}{k:Nat}(x:Nat)(h:k<l.length):((l.modify k λm=>m++ [x]).map List.length).sum=(l.map List.length).sum+1:=by
 induction l generalizing k with
 |nil=>cases h
 |cons a l b=>
  cases k with
  |zero=>simp;omega
  |succ k=>
   rw[List.modify_succ_cons,fL,fL,oc,oc,b (by simpa using h)];omega
theorem getD_modify {α:Type}{l:List α}{f:α→α}{i j:Nat}{d:α}(h:j<l.length):(l.modify i f).getD j d=if i=j then f (l.getD j d)else l.getD j d:=by
 simp only[List.getD_eq_getElem?_getD,List.getElem?_modify,List.getElem?_eq_getElem h,Option.map_some,Option.getD_some]
 split<;>simp_all
theorem yF {nt nf n:Nat}(I:n≤12){cs:Cs}(h:gi nt nf n cs){e:oh}{w:ud}(he:e.frm<e.tqo∧e.tqo≤n∧e.cw≤3∧e7 nt nf e.gr∧e.gr.length≤60)(hk:∀k∈w.kids,k<cs.its.length):
 gi nt nf n (kZ n cs e w)∧Grow n e.frm e.tqo cs (kZ n cs e w) 1:=by
 have A:slt n e.frm e.tqo<cs.sp.length:=by rw[h.GF];exact sW (by omega) he.2.1
 unfold kZ
 cases D:xX cs.its (fZ e)with
 |some i=>
  dsimp only
  obtain⟨it,hit,E⟩:=yu D
  have hm:=ae hit
  obtain⟨g1,g2,g3,g4,g5⟩:=h.gr it hm;obtain⟨s1,s2⟩:=Ny (e:=it.ed) (d:=e) ⟨by omega,by omega⟩ ⟨by omega,by omega⟩ E
  have J:i<cs.its.length:=(ez.1 hit).1
  have s:cs.its.getD i gh=it:=by rw[aw,hit];rfl
  have t:∀x∈cs.its.modify i (λit=>it.put w),x∈cs.its∨x=it.put w:=λx hx=>by
   obtain⟨j,a⟩:=List.mem_iff_getElem?.1 hx;rw[List.getElem?_modify]at a
   split at a
   ·rename_i e2;subst e2;rw[hit]at a;exact .inr (Option.some.inj a).symm
   ·simp at a;exact .inl (ae a)
  have B:∀j,j<cs.its.length→(⟨cs.its.modify i λit=>it.put w,cs.sp⟩:Cs).ed j=cs.ed j:=λj a=>by
   unfold Cs.ed;rw[getD_modify a]
   split<;>rfl
  refine⟨⟨h.GF,λl u x hx=>by rw[pb];exact h.idx l u x hx,by rw[pb];exact h.tot,λo p g q b=> ?_,λx hx=> ?_,λx hx=> ?_,λx hx v f k m=> ?_⟩,⟨by rw[pb];exact aR _,by rw[pb];omega,rfl,λ_ _=>rfl,Nat.le_succ _,λj a=> ?_,λj h1 y=>by rw[pb]at y;omega,λj a C=> ?_,λj a=> ?_⟩⟩
  ·rw[B g (h.GW b)]
   exact h.prt o p g q b
  ·rcases t x hx with hx|rfl
   ·exact h.gr x hx
   ·exact h.gr it hm
  ·rcases t x hx with hx|rfl
   ·exact h.ba x hx
   ·have:=h.ba it hm
    show(if sb w∈it.ba then it.ba else it.ba++ [sb w]).length≤(it.cV++ [w]).length
    rw[bN]
    split
    ·simp;omega
    ·rw[bN];simp;omega
  ·rw[pb]
   rcases t x hx with hx|rfl
   ·exact h.kids x hx v f k m
   ·rcases cD.1 f with f|f
    ·exact h.kids it hm v f k m
    ·rw[bO.1 f]at m;exact hk k m
  ·exact B j a
  ·rw[getD_modify a,aA]
   rintro rfl;exact C (by unfold Cs.ed;rw[s];exact⟨s1,s2⟩)
  ·rw[pb]at a
   rw[getD_modify a]
   split
   ·rw[lJ.DG,bN];simp
   ·omega
 |none=>
  dsimp only
  have hlen:(cs.its++ [(⟨e,[],[]⟩:lJ).put w]).length=cs.its.length+1:=by simp
  have hold:∀j,j<cs.its.length→(cs.its++ [(⟨e,[],[]⟩:lJ).put w]).getD j gh=cs.its.getD j gh:=λj a=>by
   rw[aw,ob a,←aw]
  have z:(cs.its++ [(⟨e,[],[]⟩:lJ).put w]).getD cs.its.length gh=(⟨e,[],[]⟩:lJ).put w:=by
   rw[aw,lZ (aR _),ff];rfl
  refine⟨⟨by rw[pb];exact h.GF,λl u x hx=> ?_,by rw[hlen,←h.tot];exact I1 _ A,λo p g q b=> ?_,λx hx=> ?_,λx hx=> ?_,λx hx v f k m=> ?_⟩,⟨by rw[hlen];omega,by rw[hlen];omega,by rw[pb],λk F=> ?_,?_,λj a=> ?_,λj h1 y=> ?_,λj a C=>hold j a,λj a=> ?_⟩⟩
  ·rw[hlen]
   obtain⟨j,a⟩:=List.mem_iff_getElem?.1 u;rw[List.getElem?_modify]at a
   split at a
   ·obtain⟨l0,h1,rfl⟩:=di.1 a
    rcases cD.1 hx with hx|hx
    ·have:=h.idx l0 (ae h1) x hx;omega
    ·rw[bO.1 hx];omega
   ·simp at a
    have:=h.idx l (ae a) x hx;omega
  ·have r:∀l0,g∈cs.sp.getD (slt n o p) []→(⟨cs.its++ [(⟨e,[],[]⟩:lJ).put w],l0⟩:Cs).ed g=cs.ed g:=λl0 hx=>by unfold Cs.ed;rw[hold g (h.GW hx)]
   by_cases c:slt n o p<cs.sp.length
   ·dsimp only at b
    rw[getD_modify c]at b
    split at b
    ·rename_i e2
     obtain⟨G,H⟩:=DN he.2.1 q e2
     rcases cD.1 b with hx|hx
     ·rw[r _ hx];exact h.prt o p g q hx
     ·rw[bO.1 hx];unfold Cs.ed;dsimp only;rw[z];exact⟨G,H⟩
    ·rw[r _ b];exact h.prt o p g q b
   ·dsimp only at b
    rw[aw,ic (by rw[pb];omega)]at b
    cases b
  ·rcases cD.1 hx with hx|hx
   ·exact h.gr x hx
   ·rw[bO.1 hx];exact he
  ·rcases cD.1 hx with hx|hx
   ·exact h.ba x hx
   ·rw[bO.1 hx]
    show(if sb w∈([]:List Int)then([]:List Int)else []++ [sb w]).length≤(([]:List ud)++ [w]).length
    rw[aA (by simp)];exact aR _
  ·rw[hlen]
   rcases cD.1 hx with hx|hx
   ·have:=h.kids x hx v f k m;omega
   ·rw[bO.1 hx]at f
    rw[lJ.DG,A6]at f;rw[bO.1 f]at m
    have:=hk k m;omega
  ·by_cases c:k<cs.sp.length
   ·rw[getD_modify c,aA (λe2=>F e2.symm)]
   ·rw[aw,aw,ic (by rw[pb];omega),ic (by omega)]
  ·rw[getD_modify A,aC (show e.frm*(n+1)+e.tqo=slt n e.frm e.tqo from rfl),bN];simp
  ·unfold Cs.ed;rw[hold j a]
  ·rw[hlen]at y
   obtain rfl:j=cs.its.length:=by omega
   unfold Cs.ed;rw[z];exact⟨rfl,rfl⟩
  ·rw[hlen]at a
   by_cases c:j<cs.its.length
   ·rw[hold j c];omega
   ·obtain rfl:j=cs.its.length:=by omega
    rw[z,lJ.DG];simp
structure Room (cs:Cs)(m:Nat):Prop where
 its:cs.its.length+m≤1400000000000
 cV:∀it∈cs.its,it.cV.length+m≤3000000000000
theorem Room.at_ {cs:Cs}{m i:Nat}(h:Room cs m):(cs.its.getD i gh).cV.length+m≤3000000000000:=by
 by_cases c:i<cs.its.length
 ·rw[aw,bU c];exact h.cV _ (gz c)
 ·rw[aw,ic (by omega)]
  show 0+m≤_
  have:=h.its;omega
theorem Room.grow {n frm tqo:Nat}{cs fg:Cs}{a b:Nat}(h:Room cs (a+b))(k:Grow n frm tqo cs fg a):Room fg b:=by
 refine⟨by have:=k.most;have:=h.its;omega,λit hit=> ?_⟩;obtain⟨i,c,rfl⟩:=G8.1 hit
 have h1:=k.cV i c
 have d:=h.at_ (i:=i)
 rw[aw,bU c]at h1
 have h1:(fg.its[i]).cV.length≤_:=h1
 omega
theorem Room.mono {cs:Cs}{a b:Nat}(h:Room cs b)(c:a≤b):Room cs a:=⟨by have:=h.its;omega,λit hit=>by have:=h.cV it hit;omega⟩
theorem iJ {β:Type}{n frm tqo:Nat}(f:Cs→β→Cs)(b:β→Nat)(I:Cs→Prop):∀(l:List β) (cs:Cs),I cs→(∀cs x,x∈l→I cs→I (f cs x)∧Grow n frm tqo cs (f cs x) (b x))→I (l.foldl f cs)∧Grow n frm tqo cs (l.foldl f cs) ((l.map b).sum)
 | [],cs,h,_=>⟨h,Grow.refl ..⟩
 |x::l,cs,h,a=>by
  obtain⟨h1,c⟩:=a cs x (by simp) h
  obtain⟨d,e⟩:=iJ f b I l (f cs x) h1 λcs y hy=>a cs y (by simp[hy])
  exact⟨d,c.trans e⟩
def Qp (n frm tqo:Nat)(c:Nat→Nat→Nat)(cs:Cs):Prop:=∀i j,j≤n→¬(i=frm∧j=tqo)→(cs.at_ n i j).length=c i j
theorem Qp.grow {n frm tqo:Nat}{c:Nat→Nat→Nat}{cs fg:Cs}{a:Nat}(h:Qp n frm tqo c cs)(k:Grow n frm tqo cs fg a)(ht:tqo≤n):Qp n frm tqo c fg:=λi j b d=>by
 rw[←h i j b d]
 show(fg.sp.getD (slt n i j) []).length=(cs.sp.getD (slt n i j) []).length
 rw[k.XO _ λe=>d (DN b ht e)]
def lT (c:Nat→Nat→Nat)(tqo:Nat):Nat→Nat→Nat
 |0,a=>c a tqo
 |l+1,a=>((List.range' (a+1) (tqo-(l+1)-a)).map λen=>c a en*lT c tqo l en).sum
theorem jh {β:Type}(l:List β)(k:Nat):(l.map λ_=>k).sum=l.length*k:=by
 induction l with
 |nil=>simp
 |cons x l a=>rw[fL,oc,a,fA,jd];omega
structure ik (nt nf n frm tqo:Nat)(c:Nat→Nat→Nat)(m:Nat)(cs:Cs):Prop where
 ok:gi nt nf n cs
 len:Qp n frm tqo c cs
 BF:m≤cs.its.length
theorem ik.grow {nt nf n frm tqo:Nat}{c:Nat→Nat→Nat}{m a:Nat}{cs fg:Cs}(h:ik nt nf n frm tqo c m cs)(b:gi nt nf n fg)(k:Grow n frm tqo cs fg a)(ht:tqo≤n):ik nt nf n frm tqo c m fg:=
 ⟨b,h.len.grow k ht,dY h.BF k.more⟩
theorem zm {nt nf:Nat}{x:dz}(h:e7 nt nf x)(k:Int):(rR x k).toNat<x.length:=by
 unfold rR
 split
 ·rename_i y e
  have:=(h.at_ h.pos).2.2 y (List.mem_of_find?_eq_some e)
  omega
 ·exact h.pos
theorem Hy {nt nf:Nat}{mt:Nat→Nat→Option Nat}(c:y8 nt mt){x y z:dz}{k:Int}(hx:e7 nt nf x)(hy:e7 nt nf y)(h:mw mt x k y=some z):e7 nt nf z∧z.length≤60∧∀j∈lp (x.getD 0 iK).2,j∈lp (z.getD 0 iK).2:=by
 unfold mw at h
 split at h
 ·rename_i u e
  split at h
  ·obtain rfl:=Option.some.inj h
   obtain⟨a,_,b⟩:=Sd c hx hy (zm hx k) e;exact⟨a,by assumption,b⟩
  ·cases h
 ·cases h
theorem qP {nt nf:Nat}{x:dz}(hx:e7 nt nf x)(c:x.length≤60):e7 nt nf (lu x)∧(lu x).length≤60:=by
 obtain⟨a,b,_⟩:=tY hx (zm hx 0);exact⟨a,dY b c⟩
theorem vp {nt nf n:Nat}{Q:Qr}(a:y8 nt Q.mt){cs:Cs}(h:gi nt nf n cs){rule b e:Nat}{x y:dz}(hx:e7 nt nf x)(he:e<cs.its.length)(hy:lO Q cs rule x b e=some y):e7 nt nf y∧y.length≤60∧∀j∈lp (x.getD 0 iK).2,j∈lp (y.getD 0 iK).2:=by
 unfold lO at hy
 split at hy
 ·refine Hy a hx ?_ hy
  unfold Cs.ed;rw[aw,bU he];exact(h.gr _ (gz he)).2.2.2.1
 ·cases hy
theorem gi.q8 {nt nf n:Nat}{cs:Cs}(h:gi nt nf n cs){i j e:Nat}(he:e∈cs.at_ n i j):e<cs.its.length:=by
 unfold Cs.at_ at he;rw[aw]at he
 cases c:cs.sp[i*(n+1)+j]? with
 |none=>rw[c]at he;cases he
 |some l=>rw[c]at he;exact h.idx l (ae c) e he
theorem yh {nt nf:Nat}{Q:Qr}(s:Q.n≤12)(j:y8 nt Q.mt){rule frm tqo:Nat}(t:frm<tqo)(ht:tqo≤Q.n)(c:Nat→Nat→Nat):∀(l:Nat) (cs:Cs) (x:dz) (kids:List Nat) (a m:Nat),ik nt nf Q.n frm tqo c m cs→e7 nt nf x→(frm<a∨(a=frm∧1≤l))→a<tqo→(∀k∈kids,k<m)→
 ik nt nf Q.n frm tqo c m (uw Q rule frm tqo l cs x kids a)∧Grow Q.n frm tqo cs (uw Q rule frm tqo l cs x kids a) (lT c tqo l a)
 |0,cs,x,kids,a,m,g,hx,z,A,hk=>by
  have o:∀e∈cs.at_ Q.n a tqo,e<cs.its.length:=λe he=>g.ok.q8 he
  have:=iJ (n:=Q.n) (frm:=frm) (tqo:=tqo) (λcs e=>match lO Q cs rule x (kids.length+1) e with
   |none=>cs
   |some y=>kZ Q.n cs ⟨frm,tqo,0,lu y⟩ ⟨rule,0,kids++ [e]⟩) (λ_=>1) (λfg=>ik nt nf Q.n frm tqo c m fg∧cs.its.length≤fg.its.length) (cs.at_ Q.n a tqo) cs ⟨g,aR _⟩ (λd e he ⟨h1,f⟩=>by
    have h:=fQ (o e he) f
    cases hy:lO Q d rule x (kids.length+1) e with
    |none=>exact⟨⟨h1,f⟩,(Grow.refl ..).mono (aO _)⟩
    |some y=>
     dsimp only
     obtain⟨p,u,_⟩:=vp j h1.ok hx h hy;obtain⟨m1,m2⟩:=qP p u
     obtain⟨B,a2⟩:=yF s h1.ok (e:=⟨frm,tqo,0,lu y⟩) (w:=⟨rule,0,kids++ [e]⟩) ⟨t,ht,aO _,m1,m2⟩ (λk b=>by
      rcases cD.1 b with b|b
      ·have:=hk k b;have:=h1.BF;omega
      ·rw[bO.1 b];exact h)
     exact⟨⟨h1.grow B a2 ht,dY f a2.more⟩,a2⟩)
  rw[jh,gX,g.len a tqo ht (by omega)]at this;exact⟨this.1.1,this.2⟩
 |l+1,cs,x,kids,a,m,g,hx,z,A,hk=>by
  refine iJ (n:=Q.n) (frm:=frm) (tqo:=tqo) (λcs en=>(cs.at_ Q.n a en).foldl (λcs e=>match lO Q cs rule x (kids.length+1) e with
   |none=>cs
   |some y=>uw Q rule frm tqo l cs y (kids++ [e]) en) cs) (λen=>c a en*lT c tqo l en) (ik nt nf Q.n frm tqo c m) (List.range' (a+1) (tqo-(l+1)-a)) cs g (λd en C h1=> ?_)
  obtain⟨i,D,rfl⟩:=List.mem_range'.1 C
  have q:a+1+1*i<tqo:=by omega
  have o:∀e∈d.at_ Q.n a (a+1+1*i),e<d.its.length:=λe he=>h1.ok.q8 he
  have:=iJ (n:=Q.n) (frm:=frm) (tqo:=tqo) (λcs e=>match lO Q cs rule x (kids.length+1) e with
   |none=>cs
   |some y=>uw Q rule frm tqo l cs y (kids++ [e]) (a+1+1*i)) (λ_=>lT c tqo l (a+1+1*i)) (ik nt nf Q.n frm tqo c (max m d.its.length)) (d.at_ Q.n a (a+1+1*i)) d ⟨h1.ok,h1.len,by have:=h1.BF;omega⟩ (λv e he f=>by
    have h:e<max m d.its.length:=by have:=o e he;omega
    have r:=fQ h f.BF
    cases hy:lO Q v rule x (kids.length+1) e with
    |none=>exact⟨f,(Grow.refl ..).mono (aO _)⟩
    |some y=>
     dsimp only
     obtain⟨p,u,_⟩:=vp j f.ok hx r hy
     exact yh s j t ht c l v y (kids++ [e]) (a+1+1*i) _ f p (.inl (by omega)) q (λk b=>by
      rcases cD.1 b with b|b
      ·have:=hk k b;omega
      ·rw[bO.1 b];exact h))
  rw[jh,h1.len a _ (by omega) (by omega)]at this;exact⟨⟨this.1.ok,this.1.len,by have:=this.1.BF;omega⟩,this.2⟩
theorem Fe (f:Nat→Nat)(a:Nat):∀b:Nat,fx f (a+b)=fx f a+fx (λj=>f (a+j)) b
 |0=>rfl
 |b+1=>by rw[←qi,fx,fx,Fe f a b];omega
theorem ze (f:Nat→Nat)(b:Nat):∀a:Nat,fx f (a*b)=fx (λi=>fx (λj=>f (i*b+j)) b) a
 |0=>by rw[Nat.zero_mul];rfl
 |a+1=>by rw[jd,Nat.one_mul,Fe,ze f b a];rfl
theorem Bd (f:Nat→Nat)(a:Nat):∀b:Nat,fx f a≤fx f (a+b)
 |0=>aR _
 |b+1=>by rw[←qi,fx];have:=Bd f a b;omega
theorem xh {f:Nat→Nat}{a b:Nat}(h:a≤b):fx f a≤fx f b:=by
 obtain⟨k,rfl⟩:=Nat.exists_eq_add_of_le h;exact Bd f a k
theorem oS {f:Nat→Nat}{i n:Nat}(h:i<n):f i≤fx f n:=by
 have:=xh (f:=f) (show i+1≤n from h)
 rw[fx]at this;omega
theorem Pc {f:Nat→Nat}{i j n:Nat}(b:i<n)(d:j<n)(e:i≠j):f i+f j≤fx f n:=by
 rcases Nat.lt_or_gt_of_ne e with c|c
 ·have h1:=oS (f:=f) c
  have a:=xh (f:=f) (show j+1≤n from d)
  rw[fx]at a;omega
 ·have h1:=oS (f:=f) c
  have a:=xh (f:=f) (show i+1≤n from b)
  rw[fx]at a;omega
theorem sum_range' (f:Nat→Nat):∀(k s:Nat),((List.range' s k).map f).sum+fx f s=fx f (s+k)
 |0,s=>by simp
 |k+1,s=>by
  rw[List.range'_succ,fL,oc]
  have:=sum_range' f k (s+1)
  rw[fx]at this
  rw[show s+(k+1)=s+1+k by omega];omega
theorem vj (f:Nat→Nat):∀n:Nat,fx f (n+1)=f 0+fx (λi=>f (i+1)) n
 |0=>by simp[fx]
 |n+1=>by rw[fx,vj f n,fx];omega
theorem Fg {α:Type}(f:α→Nat)(d:α):∀l:List α,(l.map f).sum=fx (λk=>f (l.getD k d)) l.length
 | []=>rfl
 |a::l=>by
  rw[fL,oc,fA,vj,Fg f d l];rfl
theorem I0 {β:Type}{f g:β→Nat}:∀{l:List β},(∀x∈l,f x≤g x)→(l.map f).sum≤(l.map g).sum
 | [],_=>aR _
 |x::l,h=>by
  rw[fL,fL,oc,oc]
  have:=h x (by simp)
  have:=I0 (f:=f) (g:=g) (l:=l) λy hy=>h y (by simp[hy])
  omega
theorem Jg {β:Type}(f:β→Nat)(k:Nat):∀l:List β,(l.map λx=>f x*k).sum=(l.map f).sum*k
 | []=>by simp
 |x::l=>by rw[fL,fL,oc,oc,Jg f k l,jd]
def Am (c:Nat→Nat→Nat)(n i:Nat):Nat:=fx (c i) (n+1)
theorem PI {nt nf n:Nat}{cs:Cs}(h:gi nt nf n cs):fx (Am (λi j=>(cs.at_ n i j).length) n) n=cs.its.length:=by
 have:=Fg List.length [] cs.sp
 rw[h.tot,h.GF,ze]at this;exact this.symm
theorem PG {c:Nat→Nat→Nat}{n a s k:Nat}(h:s+k≤n+1):((List.range' s k).map (c a)).sum≤Am c n a:=by
 have h1:=sum_range' (c a) k s
 have b:=xh (f:=c a) h
 unfold Am;omega
theorem yc {c:Nat→Nat→Nat}{n tqo l a K:Nat}(ht:tqo≤n)(b:∀en,a<en→en<tqo→lT c tqo l en≤K):lT c tqo (l+1) a≤Am c n a*K:=by
 show((List.range' (a+1) (tqo-(l+1)-a)).map λen=>c a en*lT c tqo l en).sum≤_
 refine dY (I0 (g:=λen=>c a en*K) λen d=> ?_) ?_
 ·obtain⟨i,f,rfl⟩:=List.mem_range'.1 d
  exact A2 _ (b _ (by omega) (by omega))
 ·rw[Jg]
  by_cases e:tqo-(l+1)-a=0
  ·rw[e];simp
  ·exact iW _ (PG (by omega))
theorem Rf {c:Nat→Nat→Nat}{n frm tqo A M:Nat}(ht:tqo≤n)(d:Am c n frm≤A)(g:∀i,frm<i→i<n→Am c n i≤M):lT c tqo 1 frm≤A*M∧lT c tqo 2 frm≤A*(M*M):=by
 have h:∀en,frm<en→en<tqo→lT c tqo 0 en≤M:=λen h1 j=>dY (oS (f:=c en) (show tqo<n+1 by omega)) (g en h1 (by omega))
 have h1:∀en,frm<en→en<tqo→lT c tqo 1 en≤M*M:=λen h1 j=>dY (yc (l:=0) ht λe a b=>h e (by omega) b) (iW _ (g en h1 (by omega)))
 exact⟨dY (yc (l:=0) ht h) (iW _ d),dY (yc (l:=1) ht h1) (iW _ d)⟩
theorem Rg:∀A,A≤300→A*((300-A)*(300-A))≤4000000:=by decide+kernel
theorem TD:∀A,A≤300→A*(300-A)≤4000000:=by decide+kernel
theorem BC {nt nf n:Nat}{cs:Cs}(h:gi nt nf n cs)(o:cs.its.length≤300){frm tqo l:Nat}(p:frm<tqo)(ht:tqo≤n)(h1:1≤l)(b:l≤2):lT (λi j=>(cs.at_ n i j).length) tqo l frm≤4000000:=by
 obtain⟨c,e⟩:∃c:Nat→Nat→Nat,c=λi j=>(cs.at_ n i j).length:=⟨_,rfl⟩
 have a:=PI h
 rw[←e]at a⊢
 have d:frm<n:=by omega
 have q:=oS (f:=Am c n) d
 have g:∀i,frm<i→i<n→Am c n i≤300-Am c n frm:=λi h1 b=>by
  have:=Pc (f:=Am c n) d b (by omega);omega
 obtain⟨k,m⟩:=Rf (c:=c) ht (aR _) g
 rcases(show l=1∨l=2 by omega)with rfl|rfl
 ·exact dY k (TD _ (by omega))
 ·exact dY m (Rg _ (by omega))
structure qq (nt nf:Nat)(Q:Qr):Prop where
 n:Q.n≤12
 mt:y8 nt Q.mt
 rn:Q.rules.length≤40
 xn:Q.aL.length≤100
 rule:∀r∈Q.rules,(1≤r.kids∧r.kids≤3)∧e7 nt nf r.graph∧r.graph.length≤60
 lex:∀x∈Q.aL,e7 nt nf x.graph∧x.graph.length≤60
theorem qq.vY {nt nf:Nat}{Q:Qr}(h:qq nt nf Q){i:Nat}(a:i<Q.rules.length):(1≤(Q.rules.getD i oQ).kids∧(Q.rules.getD i oQ).kids≤3)∧e7 nt nf (Q.rules.getD i oQ).graph∧(Q.rules.getD i oQ).graph.length≤60:=by
 rw[aw,bU a];exact h.rule _ (gz a)
theorem qq.Uo {nt nf:Nat}{Q:Qr}(h:qq nt nf Q){i:Nat}(a:i<Q.aL.length):e7 nt nf (Q.aL.getD i Qj).graph∧(Q.aL.getD i Qj).graph.length≤60:=by
 rw[aw,bU a];exact h.lex _ (gz a)
theorem rE {α:Type}(p:α→Bool)(d:α)(k:Nat)(l:List α):((List.range l.length).map λi=>if p (l.getD i d)=true then k else 0).sum=l.countP p*k:=by
 have h1:((List.range l.length).map λi=>if p (l.getD i d)=true then k else 0).sum=fx (λi=>if p (l.getD i d)=true then k else 0) l.length:=by
  have:=sum_range' (λi=>if p (l.getD i d)=true then k else 0) l.length 0
  rw[←List.range_eq_range',jG]at this;exact this
 rw[h1]
 induction l with
 |nil=>simp[fx]
 |cons a l b=>
  rw[fA,vj,rz]
  have c:((List.range l.length).map λi=>if p (l.getD i d)=true then k else 0).sum=fx (λi=>if p (l.getD i d)=true then k else 0) l.length:=by
   have:=sum_range' (λi=>if p (l.getD i d)=true then k else 0) l.length 0
   rw[←List.range_eq_range',jG]at this;exact this
  have e:=b c
  show(if p a=true then k else 0)+fx (λi=>if p (l.getD i d)=true then k else 0) l.length=_
  rw[e]
  split
  ·rw[jd];omega
  ·simp
def OI (Q:Qr):Nat:=Q.rules.countP λr=>decide (1<r.kids)
theorem Oa {nt nf:Nat}{Q:Qr}(h:qq nt nf Q):hP Q+OI Q=Q.rules.length:=by
 unfold hP OI
 have:=h.rule
 generalize Q.rules=l at this
 induction l with
 |nil=>rfl
 |cons a l b=>
  have d:=(this a (by simp)).1
  have:=b λr c=>this r (by simp[c])
  rw[rz,rz,fA]
  by_cases e:a.kids=1
  ·rw[aC (dt e),aA (by simp;omega)];omega
  ·rw[aA (by simp[e]),aC (dt (by omega))];omega
def CT (Q:Qr)(frm tqo:Nat):Nat:=if tqo=frm+1 then 100 else OI Q*4000000
theorem zT {nt nf:Nat}{Q:Qr}(d:qq nt nf Q){frm tqo m:Nat}(e:frm<tqo)(ht:tqo≤Q.n){c cs:Cs}(f:gi nt nf Q.n c)(g:c.its.length≤300)(h:ik nt nf Q.n frm tqo (λi j=>(c.at_ Q.n i j).length) m cs){i:Nat}(l:i<Q.rules.length):
 ik nt nf Q.n frm tqo (λi j=>(c.at_ Q.n i j).length) m (rP Q frm tqo cs i)∧Grow Q.n frm tqo cs (rP Q frm tqo cs i) (if decide (1<(Q.rules.getD i oQ).kids)=true then 4000000 else 0):=by
 obtain⟨⟨q,k3⟩,o,_⟩:=d.vY l;unfold rP
 split
 ·rename_i p
  obtain⟨hk,r⟩:=p;rw[aC (dt hk)];obtain⟨a,b⟩:=yh d.n d.mt e ht _ ((Q.rules.getD i oQ).kids.toNat-1) cs _ [] frm m h o (.inr ⟨rfl,by omega⟩) e (λk hk=>by cases hk);exact⟨a,b.mono (BC f g e ht (by omega) (by omega))⟩
 ·exact⟨h,(Grow.refl ..).mono (aO _)⟩
theorem yx {nt nf:Nat}{Q:Qr}(d:qq nt nf Q){w:bB}{frm tqo m:Nat}{c:Nat→Nat→Nat}(g:frm<tqo)(ht:tqo≤Q.n){cs:Cs}(h:ik nt nf Q.n frm tqo c m cs){i:Nat}(j:i<Q.aL.length):
 ik nt nf Q.n frm tqo c m (rL Q w frm tqo cs i)∧Grow Q.n frm tqo cs (rL Q w frm tqo cs i) 1:=by
 obtain⟨f,l⟩:=d.Uo j;unfold rL
 split
 ·obtain⟨f1,f2,_⟩:=tY f f.pos
  obtain⟨a,b⟩:=yF d.n h.ok (e:=⟨frm,tqo,0,gl (Q.aL.getD i Qj).graph 0⟩) (w:=⟨-1,i,[]⟩) ⟨g,ht,aO _,f1,dY f2 l⟩ (λk hk=>by cases hk);exact⟨h.grow a b ht,b⟩
 ·exact⟨h,(Grow.refl ..).mono (aO _)⟩
theorem MP {nt nf:Nat}{Q:Qr}(c:qq nt nf Q){words:List bB}{frm tqo:Nat}(e:frm<tqo)(ht:tqo≤Q.n){cs:Cs}(h:gi nt nf Q.n cs)(g:cs.its.length≤300):
 ik nt nf Q.n frm tqo (λi j=>(cs.at_ Q.n i j).length) 0 (mm Q words frm tqo cs)∧Grow Q.n frm tqo cs (mm Q words frm tqo cs) (CT Q frm tqo):=by
 have f:ik nt nf Q.n frm tqo (λi j=>(cs.at_ Q.n i j).length) 0 cs:=⟨h,λ_ _ _ _=>rfl,aO _⟩
 unfold mm CT
 split
 ·obtain⟨a,b⟩:=iJ (n:=Q.n) (frm:=frm) (tqo:=tqo) (rL Q (words.getD frm []) frm tqo) (λ_=>1) _ (List.range Q.aL.length) cs f (λk i d h1=>yx c e ht h1 (dq.1 d))
  rw[jh,jV,gX]at b;exact⟨a,b.mono c.xn⟩
 ·obtain⟨a,b⟩:=iJ (n:=Q.n) (frm:=frm) (tqo:=tqo) (rP Q frm tqo) _ _ (List.range Q.rules.length) cs f (λk i d h1=>zT c e ht h g h1 (dq.1 d))
  rw[rE (λr:sg=>decide (1<r.kids)) oQ 4000000 Q.rules]at b;exact⟨a,b⟩
end Go.Proofs.YtblifkgpebebmaaGreatDoor
namespace Go.Proofs
open Go.Shelf
def Tryz.HE:Go.Shelf.Ren:=⟨λ|4=>174|n=>n,λ|0=>0|3=>3|4=>4|9=>9|20=>20|22=>161|25=>165|n=>n,λ|n=>n⟩
theorem Tryz.O7:Go.Proofs.Lays8.n4 Tryz.prog Tryz.HE:={
 mixed:=by kernel_rfl
 f4:=⟨Tryz.f174.name,by decide,Tryz.func174.trans (congrArg some (by kernel_rfl))⟩
 t0:=YW
 a0:=Tryz.isAgg0
 z0:=Tryz.sizeOf0
 v0:=Tryz.zeroValue0
 t3:=gG
 a3:=Tryz.isAgg3
 z3:=Tryz.sizeOf3
 v3:=Tryz.zeroValue3
 t4:=IA
 a4:=Tryz.isAgg4
 z4:=Tryz.sizeOf4
 v4:=Tryz.zeroValue4
 t9:=wW
 a9:=Tryz.isAgg9
 z9:=Tryz.sizeOf9
 v9:=Tryz.zeroValue9
 t20:=Tryz.underlying20
 a20:=Tryz.isAgg20
 z20:=Tryz.sizeOf20
 v20:=Tryz.zeroValue20
 t22:=eV
 a22:=Tryz.isAgg161
 z22:=Tryz.sizeOf161
 v22:=Tryz.zeroValue161}
end Go.Proofs
namespace Go.Proofs.YtblifkgpebebmaaGreatDoor
open Go Go.J Tryz
theorem UN:aJ prog 156:=⟨_,func156,rfl,by kernel_rfl⟩
instance:rf prog 58 #[.slice none 0 0]:=⟨by kernel_rfl⟩
instance:rf prog 87 #[.nilFunc]:=⟨by kernel_rfl⟩
theorem alT:(prog.info? 87).map (·.size)=some 1:=by kernel_rfl
theorem aeT (w:World):cu prog 30 w= .ok #[(0,1)] w:=by kernel_rfl
instance:gu prog 245 1 2:=⟨by kernel_rfl⟩
instance:gu prog 245 2 3:=⟨by kernel_rfl⟩
instance:gu prog 245 3 4:=⟨by kernel_rfl⟩
theorem QX:(prog.info? 161).bind (·.zero)=some (Value.slice none 0 0):=by kernel_rfl
theorem Z6:(prog.info? 161).map (·.bytes)=some 24:=by kernel_rfl
theorem ae7:(prog.info? 243).map (·.size)=some 1:=by kernel_rfl
theorem Zi:aJ prog 174:=⟨_,func174,rfl,by kernel_rfl⟩
theorem afK:(prog.info? 270).bind (λi=>i.zero.map Value.cells)=some #[.int .i64 0,.int .i64 0]:=by kernel_rfl
theorem Bi:(prog.info? 270).map (·.size)=some 2:=by kernel_rfl
theorem QY:(prog.info? 270).bind (·.zero)=some (Value.agg #[.int .i64 0,.int .i64 0]):=by kernel_rfl
theorem E6:aJ prog 150:=⟨_,func150,rfl,by kernel_rfl⟩
instance:gu prog 245 0 0:=⟨by kernel_rfl⟩
theorem ZB:(prog.info? 270).map (·.bytes)=some 16:=by kernel_rfl
theorem ZZ:aJ prog 151:=⟨_,func151,rfl,by kernel_rfl⟩
theorem Mk:aJ prog 136:=⟨_,func136,rfl,by kernel_rfl⟩
theorem aeS (w:World):cu prog 245 w= .ok #[(0,2),(2,1),(3,1),(4,1)] w:=by kernel_rfl
theorem afJ:(prog.info? 245).bind (λi=>i.zero.map Value.cells)=some #[.slice none 0 0,.slice none 0 0,.slice none 0 0,.slice none 0 0,.slice none 0 0]:=by kernel_rfl
theorem UH:aJ prog 128:=⟨_,func128,rfl,by kernel_rfl⟩
theorem ZO:aJ prog 129:=⟨_,func129,rfl,by kernel_rfl⟩
theorem ZP:aJ prog 130:=⟨_,func130,rfl,by kernel_rfl⟩
theorem RJ:aJ prog 92:=⟨_,func92,rfl,by kernel_rfl⟩
instance:gu prog 183 0 0:=⟨by kernel_rfl⟩
theorem Cq:bf prog 183 1=some 1:=by kernel_rfl
instance:type_of%(gu.mk Cq):=⟨Cq⟩
instance:gu prog 183 2 2:=⟨by kernel_rfl⟩
theorem sz5:(prog.info? 5).map (·.size)=some 1:=by kernel_rfl
theorem zv5:(prog.info? 5).bind (·.zero)=some (Value.int .u8 0):=by kernel_rfl
theorem xU:bf prog 183 3=some 3:=by kernel_rfl
instance:type_of%(gu.mk xU):=⟨xU⟩
theorem by5:(prog.info? 5).map (·.bytes)=some 1:=by kernel_rfl
instance:gu prog 177 1 1:=⟨by kernel_rfl⟩
instance:gu prog 177 0 0:=⟨by kernel_rfl⟩
theorem Cp:bf prog 174 0=some 0:=by kernel_rfl
instance:type_of%(gu.mk Cp):=⟨Cp⟩
theorem Rz:bf prog 174 1=some 1:=by kernel_rfl
theorem Jh:(prog.info? 174).map (·.size)=some 6:=by kernel_rfl
instance:type_of%(pd.mk Jh):=⟨Jh⟩
theorem Zc:aJ prog 159:=⟨_,func159,rfl,by kernel_rfl⟩
instance:gu prog 174 2 2:=⟨by kernel_rfl⟩
instance:gu prog 174 3 3:=⟨by kernel_rfl⟩
theorem Jj:(prog.info? 234).map (·.size)=some 3:=by kernel_rfl
instance:type_of%(pd.mk Jj):=⟨Jj⟩
theorem qW:(prog.info? 171).map (·.size)=some 1:=by kernel_rfl
theorem Za:aJ prog 157:=⟨_,func157,rfl,by kernel_rfl⟩
theorem Zb:aJ prog 158:=⟨_,func158,rfl,by kernel_rfl⟩
instance:gu prog 180 2 7:=⟨by kernel_rfl⟩
theorem ZX:aJ prog 146:=⟨_,func146,rfl,by kernel_rfl⟩
theorem ZW:aJ prog 145:=⟨_,func145,rfl,by kernel_rfl⟩
instance:gu prog 180 3 13:=⟨by kernel_rfl⟩
theorem oX:(prog.info? 186).map (·.size)=some 6:=by kernel_rfl
instance:type_of%(pd.mk oX):=⟨oX⟩
theorem tV:bf prog 186 2=some 5:=by kernel_rfl
instance:type_of%(gu.mk tV):=⟨tV⟩
theorem ZV:aJ prog 144:=⟨_,func144,rfl,by kernel_rfl⟩
instance:gu prog 200 0 0:=⟨by kernel_rfl⟩
instance:gu prog 200 1 1:=⟨by kernel_rfl⟩
theorem zj:(prog.info? 183).map (·.size)=some 4:=by kernel_rfl
instance:type_of%(pd.mk zj):=⟨zj⟩
theorem ZS:aJ prog 141:=⟨_,func141,rfl,by kernel_rfl⟩
instance:gu prog 180 5 16:=⟨by kernel_rfl⟩
theorem aeR (w:World):cu prog 186 w= .ok #[(0,4),(4,1),(5,1)] w:=by kernel_rfl
theorem QS:(prog.info? 186).bind (λi=>i.zero.map Value.cells)=some #[.int .i64 0,.int .i64 0,.int .i64 0,.slice none 0 0,.slice none 0 0,.slice none 0 0]:=by kernel_rfl
instance:type_of%(rf.mk QS):=⟨QS⟩
theorem GC:(prog.info? 186).bind (·.zero)=some (Value.agg #[.int .i64 0,.int .i64 0,.int .i64 0,.slice none 0 0,.slice none 0 0,.slice none 0 0]):=by kernel_rfl
theorem Me:(prog.info? 186).map (·.bytes)=some 96:=by kernel_rfl
theorem Pe:(prog.info? 118).map (·.size)=some 1:=by kernel_rfl
instance:gu prog 180 4 14:=⟨by kernel_rfl⟩
theorem Bh:(prog.info? 177).map (·.size)=some 2:=by kernel_rfl
instance:type_of%(pd.mk Bh):=⟨Bh⟩
theorem ZT:aJ prog 142:=⟨_,func142,rfl,by kernel_rfl⟩
theorem tU:bf prog 186 1=some 4:=by kernel_rfl
instance:type_of%(gu.mk tU):=⟨tU⟩
theorem wR:(prog.info? 200).map (·.size)=some 3:=by kernel_rfl
instance:type_of%(pd.mk wR):=⟨wR⟩
theorem K9:(prog.info? 200).bind (·.zero)=some (Value.agg #[.int .i64 0,.int .i64 0,.slice none 0 0]):=by kernel_rfl
theorem U8:(prog.info? 200).map (·.bytes)=some 40:=by kernel_rfl
theorem V7:(prog.info? 184).map (·.size)=some 1:=by kernel_rfl
theorem ZU:aJ prog 143:=⟨_,func143,rfl,by kernel_rfl⟩
theorem ag1:(prog.info? 58).map (·.bytes)=some 24:=by kernel_rfl
theorem QR:(prog.info? 177).bind (λi=>i.zero.map Value.cells)=some #[.int .i64 0,.slice none 0 0]:=by kernel_rfl
instance:type_of%(rf.mk QR):=⟨QR⟩
theorem aeP (w:World):cu prog 177 w= .ok #[(0,1),(1,1)] w:=by kernel_rfl
theorem UE:aJ prog 121:=⟨_,func121,rfl,by kernel_rfl⟩
theorem Mi:aJ prog 120:=⟨_,func120,rfl,by kernel_rfl⟩
instance:gu prog 180 0 0:=⟨by kernel_rfl⟩
theorem Mj:aJ prog 122:=⟨_,func122,rfl,by kernel_rfl⟩
theorem UG:aJ prog 123:=⟨_,func123,rfl,by kernel_rfl⟩
instance:gu prog 180 1 5:=⟨by kernel_rfl⟩
theorem tT:bf prog 186 0=some 0:=by kernel_rfl
instance:type_of%(gu.mk tT):=⟨tT⟩
theorem Ic:aJ prog 124:=⟨_,func124,rfl,by kernel_rfl⟩
theorem Mh:aJ prog 118:=⟨_,func118,rfl,by kernel_rfl⟩
theorem Uz (w:World):cu prog 183 w= .ok #[(0,1),(1,1),(2,1),(3,1)] w:=by kernel_rfl
theorem K3:(prog.info? 183).bind (λi=>i.zero.map Value.cells)=some #[.int .i64 0,.int .i64 0,.int .i64 0,.slice none 0 0]:=by kernel_rfl
instance:type_of%(rf.mk K3):=⟨K3⟩
theorem V1 (w:World):cu prog 200 w= .ok #[(0,1),(1,1),(2,1)] w:=by kernel_rfl
theorem K5:(prog.info? 200).bind (λi=>i.zero.map Value.cells)=some #[.int .i64 0,.int .i64 0,.slice none 0 0]:=by kernel_rfl
instance:type_of%(rf.mk K5):=⟨K5⟩
theorem U9:aJ prog 106:=⟨_,func106,rfl,by kernel_rfl⟩
theorem QQ:(prog.info? 174).bind (λi=>i.zero.map Value.cells)=some #[.int .i64 0,.int .i64 0,.slice none 0 0,.slice none 0 0,.slice none 0 0,.slice none 0 0]:=by kernel_rfl
instance:type_of%(rf.mk QQ):=⟨QQ⟩
theorem aeO (w:World):cu prog 174 w= .ok #[(0,1),(1,1),(2,1),(3,1),(4,1),(5,1)] w:=by kernel_rfl
theorem Tx:(prog.info? 30).bind (·.zero)=some (Value.agg #[.slice none 0 0]):=by kernel_rfl
theorem ZC:(prog.info? 30).map (·.bytes)=some 24:=by kernel_rfl
instance:rf prog 234 #[.slice none 0 0,.slice none 0 0,.slice none 0 0]:=⟨by kernel_rfl⟩
theorem UD:aJ prog 119:=⟨_,func119,rfl,by kernel_rfl⟩
theorem VH:(prog.info? 234).bind (·.zero)=some (Value.agg #[.slice none 0 0,.slice none 0 0,.slice none 0 0]):=by kernel_rfl
theorem ZA:(prog.info? 234).map (·.bytes)=some 72:=by kernel_rfl
theorem ae4:(prog.info? 170).map (·.size)=some 1:=by kernel_rfl
instance:gu prog 174 4 4:=⟨by kernel_rfl⟩
instance:gu prog 174 5 5:=⟨by kernel_rfl⟩
theorem VF:(prog.info? 171).bind (·.zero)=some (Value.slice none 0 0):=by kernel_rfl
theorem Z7:(prog.info? 171).map (·.bytes)=some 24:=by kernel_rfl
theorem ae5:(prog.info? 172).map (·.size)=some 1:=by kernel_rfl
theorem RM:aJ prog 99:=⟨_,func99,rfl,by kernel_rfl⟩
theorem Zh:aJ prog 173:=⟨_,func173,rfl,by kernel_rfl⟩
theorem Zg:aJ prog 172:=⟨_,func172,rfl,by kernel_rfl⟩
theorem Zf:aJ prog 171:=⟨_,func171,rfl,by kernel_rfl⟩
theorem Ze:aJ prog 170:=⟨_,func170,rfl,by kernel_rfl⟩
theorem ZY:aJ prog 149:=⟨_,func149,rfl,by kernel_rfl⟩
instance:gu prog 120 0 0:=⟨by kernel_rfl⟩
theorem ZN:aJ prog 127:=⟨_,func127,rfl,by kernel_rfl⟩
theorem ZM:aJ prog 126:=⟨_,func126,rfl,by kernel_rfl⟩
theorem ZL:aJ prog 125:=⟨_,func125,rfl,by kernel_rfl⟩
instance:gu prog 200 2 2:=⟨by kernel_rfl⟩
theorem ahR:aJ prog 90:=⟨_,func90,rfl,by kernel_rfl⟩
theorem ahS:aJ prog 91:=⟨_,func91,rfl,by kernel_rfl⟩
theorem K1:(prog.info? 120).bind (λi=>i.zero.map Value.cells)=some #[.slice none 0 0,.int .i64 0,.slice none 0 0]:=by kernel_rfl
instance:type_of%(rf.mk K1):=⟨K1⟩
theorem Vr:aJ prog 24:=⟨_,func24,rfl,by kernel_rfl⟩
theorem Uy (w:World):cu prog 120 w= .ok #[(0,1),(1,1),(2,1)] w:=by kernel_rfl
theorem Pf:(prog.info? 120).map (·.size)=some 3:=by kernel_rfl
instance:type_of%(pd.mk Pf):=⟨Pf⟩
theorem ahO:aJ prog 87:=⟨_,func87,rfl,by kernel_rfl⟩
theorem ahP:aJ prog 88:=⟨_,func88,rfl,by kernel_rfl⟩
theorem ahQ:aJ prog 89:=⟨_,func89,rfl,by kernel_rfl⟩
theorem aeQ (w:World):cu prog 180 w= .ok #[(0,5),(5,2),(7,6),(13,1),(14,2),(16,1)] w:=by kernel_rfl
theorem afI:(prog.info? 180).bind (λi=>i.zero.map Value.cells)=some #[.slice none 0 0,.slice none 0 0,.slice none 0 0,.slice none 0 0,.slice none 0 0,.slice none 0 0,.slice none 0 0,.int .i64 0,.int .i64 0,.slice none 0 0,.slice none 0 0,.slice none 0 0,.slice none 0 0,.slice none 0 0,.int .i64 0,.slice none 0 0,.map none]:=by kernel_rfl
theorem Ry:bf prog 120 1=some 1:=by kernel_rfl
instance:gu prog 120 2 2:=⟨by kernel_rfl⟩
theorem RB {a:Value}(b:a.oneCell'=true)(w:World):(Instr.build 30 #[(0,a)]).run prog w= .ok (.agg #[a]) w:=
 bM Tv (aeT w) (by simp[Instr.fill,J.bJ,J.cells_one b])
theorem yO {a b:Value}(c:a.oneCell'=true)(h1:b.oneCell'=true)(w:World):(Instr.build 270 #[(0,a),(1,b)]).run prog w= .ok (.agg #[a,b]) w:=
 Hl underlying270 afK dL (by simp[Instr.fill,J.bJ,J.cells_one c,J.cells_one h1])
theorem MX {a b:Value}(w:World):(Instr.build 245 #[(0,.agg #[a,b])]).run prog w= .ok (.agg #[a,b,.slice none 0 0,.slice none 0 0,.slice none 0 0]) w:=
 bM afJ (aeS w) (by simp[Instr.fill,J.bJ])
theorem Vg (w:World):(Instr.build 30 #[]).run prog w= .ok (.agg #[.slice none 0 0]) w:=
 bM Tv (aeT w) (by simp[Instr.fill,J.bJ])
theorem MW {a b c d:Value}(w:World):(Instr.build 186 #[(0,.agg #[a,b,c,d])]).run prog w= .ok (.agg #[a,b,c,d,.slice none 0 0,.slice none 0 0]) w:=
 bM QS (aeR w) (by simp[Instr.fill,J.bJ])
theorem Gd {a b:Value}(c:a.oneCell'=true)(h1:b.oneCell'=true)(w:World):(Instr.build 177 #[(0,a),(1,b)]).run prog w= .ok (.agg #[a,b]) w:=
 bM QR (aeP w) (by simp[Instr.fill,J.bJ,J.cells_one c,J.cells_one h1])
theorem tF {a b c:Value}(d:a.oneCell'=true)(h1:b.oneCell'=true)(w:World):(Instr.build 183 #[(0,a),(1,b),(3,.agg #[c])]).run prog w= .ok (.agg #[a,b,.int .i64 0,c]) w:=
 bM K3 (Uz w) (by simp[Instr.fill,J.bJ,J.cells_one d,J.cells_one h1])
theorem Gf {a b:Value}(c:a.oneCell'=true)(h1:b.oneCell'=true)(w:World):(Instr.build 200 #[(0,a),(1,b)]).run prog w= .ok (.agg #[a,b,.slice none 0 0]) w:=
 bM K5 (V1 w) (by simp[Instr.fill,J.bJ,J.cells_one c,J.cells_one h1])
theorem yM {a b c d:Value}(e:a.oneCell'=true)(h1:b.oneCell'=true)(f:c.oneCell'=true)(w:World):(Instr.build 183 #[(0,a),(1,b),(2,c),(3,.agg #[d])]).run prog w= .ok (.agg #[a,b,c,d]) w:=
 bM K3 (Uz w) (by simp[Instr.fill,J.bJ,J.cells_one e,J.cells_one h1,J.cells_one f])
theorem yN {a b:Value}(c:a.oneCell'=true)(d:b.oneCell'=true)(w:World):(Instr.build 200 #[(0,a),(2,b)]).run prog w= .ok (.agg #[a,.int .i64 0,b]) w:=
 bM K5 (V1 w) (by simp[Instr.fill,J.bJ,J.cells_one c,J.cells_one d])
theorem Gc {a b:Value}(c:a.oneCell'=true)(h1:b.oneCell'=true)(w:World):(Instr.build 174 #[(0,a),(1,b)]).run prog w= .ok (.agg #[a,b,.slice none 0 0,.slice none 0 0,.slice none 0 0,.slice none 0 0]) w:=
 bM QQ (aeO w) (by simp[Instr.fill,J.bJ,J.cells_one c,J.cells_one h1])
theorem uj {j k l m a n b c d e f g h o p i:Value}(q:i.oneCell'=true)(w:World):(Instr.build 180 #[(0,.agg #[j,k,l,m,a]),(1,.agg #[n,b]),(2,.agg #[c,d,e,f,g,h]),(4,.agg #[o,p]),(5,i)]).run prog w= .ok (.agg #[j,k,l,m,a,n,b,c,d,e,f,g,h,.slice none 0 0,o,p,i]) w:=
 bM afI (aeQ w) (by simp[Instr.fill,J.bJ,J.cells_one q])
theorem CX (w:World):(Instr.build 120 #[]).run prog w= .ok (.agg #[.slice none 0 0,.int .i64 0,.slice none 0 0]) w:=
 bM K1 (Uy w) (by simp[Instr.fill,J.bJ])
theorem Ga {a b:Value}(c:a.oneCell'=true)(h1:b.oneCell'=true)(w:World):(Instr.build 120 #[(0,a),(1,b)]).run prog w= .ok (.agg #[a,b,.slice none 0 0]) w:=
 bM K1 (Uy w) (by simp[Instr.fill,J.bJ,J.cells_one c,J.cells_one h1])
def pn (n:Nat)(o:List Nat):List Int:=(List.range n).map λi=>if i∈o then(o.idxOf i:Int)else-1
theorem zC (n:Nat)(o:List Nat):(pn n o).length=n:=by simp[pn]
theorem xg {n:Nat}{o:List Nat}{i:Nat}(h:i<n):(pn n o)[i]?=some (if i∈o then(o.idxOf i:Int)else-1):=by
 unfold pn;rw[bQ,nV h];rfl
theorem OW {n:Nat}{o:List Nat}{i:Nat}(h:i<n)(b:i∉o):(pn n o).set i (o.length:Int)=pn n (o++ [i]):=by
 refine pa λj=> ?_
 rcases eM j n with a|a
 ·rw[xg a]
  by_cases e:j=i
  ·subst e
   rw[fU (by rw[zC];exact a),aC (by simp),List.idxOf_append,aA b];simp
  ·rw[ig (λh=>e h.symm),xg a]
   by_cases c:j∈o
   ·rw[aC c,aC (by simp[c]),List.idxOf_append,aC c]
   ·rw[aA c,aA (by simp[c,e])]
 ·rw[ic (by rw[cn,zC];exact a),ic (by rw[zC];exact a)]
theorem OV (n:Nat):pn n []=List.replicate n (-1):=by
 unfold pn;refine pa λj=> ?_
 rw[bQ,s7]
 rcases eM j n with a|a
 ·rw[nV a,aC a];simp
 ·rw[ic (by simpa using a),aA (by omega)];rfl
theorem jA (l:List Int)(k:Nat)(x:Int):(rows aI l).set (k*1+0) (iv x)=rows aI (l.set k x):=by
 rw[gX,j4,jQ,jQ,jk]
theorem gU {l:List Int}{k:Nat}{x:Int}(h:l[k]?=some x):(rows aI l)[k*1+0]?=some (iv x):=by
 rw[gX,j4,jQ,bQ,h];rfl
theorem zN (n:Nat):List.replicate n (iv 0)=rows aI (List.replicate n 0):=by rw[jQ,s9]
theorem IE (d e bg bv:Nat)(nv:Value)(g:dD)(G:sk (ay g))(Z:g.nodes.length≤120)(N:(ay g).length=g.nodes.length):∀(f:Nat) (o:List Nat) (i:Nat) (m:Value),m.oneCell'=true→CF (ay g) o→i<g.nodes.length→Lk g.nodes.length o<f→dx prog 156 ([iv i]++ [(Value.pointer (some ⟨d,0,none⟩)),(Value.pointer (some ⟨e,0,none⟩)),(Value.pointer (some ⟨bg,0,none⟩)),(Value.pointer (some ⟨bv,0,none⟩))]).toArray [aB (sl bh g.nv.1 g.nodes),aB (aF cA g.nodes),aW d (.cells [nv].toArray 58 (0,0)),row nv 3 1 g.nodes.length (rows aI (pn g.nodes.length (o))),aW e (.cells [m].toArray 58 (0,0)),row m 3 1 (o).length (rows aI (cW (o))),aW bg (.cells [g.nv.1].toArray 30 (0,0)),aW bv (.cells [(.func (.func 156) #[] [(Value.pointer (some ⟨d,0,none⟩)),(Value.pointer (some ⟨e,0,none⟩)),(Value.pointer (some ⟨bg,0,none⟩)),(Value.pointer (some ⟨bv,0,none⟩))].toArray)].toArray 87 (0,0))] (λv H'=>∃s,s.oneCell'=true∧H'=[aW d (.cells [nv].toArray 58 (0,0)),row nv 3 1 g.nodes.length (rows aI (pn g.nodes.length (lC (ay g) f o i))),aW e (.cells [s].toArray 58 (0,0)),row s 3 1 (lC (ay g) f o i).length (rows aI (cW (lC (ay g) f o i))),aW bg (.cells [g.nv.1].toArray 30 (0,0)),aW bv (.cells [(.func (.func 156) #[] [(Value.pointer (some ⟨d,0,none⟩)),(Value.pointer (some ⟨e,0,none⟩)),(Value.pointer (some ⟨bg,0,none⟩)),(Value.pointer (some ⟨bv,0,none⟩))].toArray)].toArray 87 (0,0))]):=by
 intro f
 induction f with
 |zero=>intro o i m _ _ _ h;omega
 |succ f O=> ?_
 intro o i m A w y hu;refine dx.body (args:=[iv i]++ [(Value.pointer (some ⟨d,0,none⟩)),(Value.pointer (some ⟨e,0,none⟩)),(Value.pointer (some ⟨bg,0,none⟩)),(Value.pointer (some ⟨bv,0,none⟩))]) 38 func156 rfl ntmps156 rfl (λc=> ?_);refine g6 ?_;refine St.ee (Ev.ct (.mk rfl) gG trivial (by omega) (gU (xg y))) ?_;refine g3 ?_;refine St.cond _ rfl (λu=> ?_) (λu=> ?_)
 ·skip
  have r:i∈o:=by by_cases c:i∈o;exact c;rw[aA c]at u;exact absurd (ei u) (by decide)
  have q:lC (ay g) (f+1) o i=o:=by rw[km,aC r]
  refine g2 ?_;refine St.rV [] [aW d (.cells [nv].toArray 58 (0,0)),row nv 3 1 g.nodes.length (rows aI (pn g.nodes.length (o))),aW e (.cells [m].toArray 58 (0,0)),row m 3 1 (o).length (rows aI (cW (o))),aW bg (.cells [g.nv.1].toArray 30 (0,0)),aW bv (.cells [(.func (.func 156) #[] [(Value.pointer (some ⟨d,0,none⟩)),(Value.pointer (some ⟨e,0,none⟩)),(Value.pointer (some ⟨bg,0,none⟩)),(Value.pointer (some ⟨bv,0,none⟩))].toArray)].toArray 87 (0,0))] ?_;exact⟨m,A,by rw[q]⟩
 ·skip
  have r:i∉o:=λc=>by rw[aC c]at u;exact absurd (iX u) (by omega)
  have q:lC (ay g) (f+1) o i=n5 (ay g) f (o++ [i]) ((ay g).getD i iK).2:=by rw[km,aA r]
  have hol:=kg w.nd (n:=g.nodes.length) (λj l=>by have:=w.lt j l;omega)
  have YM:=Fz y r
  obtain⟨t,ht⟩:=aE (show i<g.nodes.length by omega)
  have P:=ae ht
  have Q:(ay g).getD i iK=lx t:=by rw[aw,ka ht];rfl
  have H:((ay g).getD i iK).2=t.aq.map fR:=by rw[Q];rfl
  refine St.cI cA g.nodes (x:=t) P ?_;refine St.eY (sl au t.lv.1 t.aq) [cA t] (λρ h=>h _ (aP ..)) ?_;refine St.wf t.lv.1 (λSM SK=> ?_)
  have B:CF (ay g) (o++ [i]):=⟨by rw[List.nodup_append];exact⟨w.nd,by simp,by intro a R b S;rw[bO.1 S];rintro rfl;exact r R⟩,λj l=>by rcases cD.1 l with l|l;exact w.lt j l;rw[bO.1 l,N];exact y⟩
  refine g9 ?_;refine St.cG (.mk rfl) (.mk rfl) dL rfl (by omega) (by decide) ?_;refine St.aM nv rfl (show _=rows aI (pn g.nodes.length (o++ [i])) by rw[jA,OW y r]) ?_;refine g6 ?_;refine St.fp rfl (.ar rfl) bI dL eQ rfl rfl (by simp[Value.cells]) rfl rfl (λU=> ?_);refine St.aj (.mk rfl) (.mk rfl) bI dL eQ xO (by simp[Value.oneCell',Value.cells]) (by omega) (by omega) rfl rfl rfl rfl (λv21 V=> ?_);refine St.aM v21 (show _=(o++ [i]).length from cR) (show _=rows aI (cW (o++ [i]))from vV (Int.natCast_nonneg i)) ?_;refine St.bZ v21 (λI _=> ?_);refine St.cJ (.mk rfl) (.mk rfl) fE I (by rfl) ?_;refine g15 ?_;refine St.aM nv rfl (show _=rows aI (pn g.nodes.length (n5 (ay g) f (o++ [i]) ((((ay g).getD i iK).2).take (0))))from rfl) ?_;refine St.aM v21 (show _=(n5 (ay g) f (o++ [i]) ((((ay g).getD i iK).2).take (0))).length from rfl) (show _=rows aI (cW (n5 (ay g) f (o++ [i]) ((((ay g).getD i iK).2).take (0))))from rfl) ?_;refine St.te (ι:=Nat) (κ:=Value) (λk z T=>(29,iv k)::T) (λk z=>[aW d (.cells [nv].toArray 58 (0,0)),row nv 3 1 g.nodes.length (rows aI (pn g.nodes.length (n5 (ay g) f (o++ [i]) ((((ay g).getD i iK).2).take (k))))),aW e (.cells [z].toArray 58 (0,0)),row z 3 1 (n5 (ay g) f (o++ [i]) ((((ay g).getD i iK).2).take (k))).length (rows aI (cW (n5 (ay g) f (o++ [i]) ((((ay g).getD i iK).2).take (k))))),aW bg (.cells [g.nv.1].toArray 30 (0,0)),aW bv (.cells [(.func (.func 156) #[] [(Value.pointer (some ⟨d,0,none⟩)),(Value.pointer (some ⟨e,0,none⟩)),(Value.pointer (some ⟨bg,0,none⟩)),(Value.pointer (some ⟨bv,0,none⟩))].toArray)].toArray 87 (0,0)),aB (sl au t.lv.1 t.aq),aB (sl bh g.nv.1 g.nodes),aB (aF cA g.nodes)]) (λk z=>k≤t.aq.length∧z.oneCell'=true∧CF (ay g) (n5 (ay g) f (o++ [i]) ((((ay g).getD i iK).2).take (k)))) (λk z=>t.aq.length-k) 0 v21 (aD.cons 4 rfl (aD.cons 27 rfl (aD.cons 28 rfl aD.nil))) ⟨aO _,I,B⟩ ?_;rintro k z ⟨hk,hz,J⟩;refine g6 ?_;refine St.cq (λW=> ?_) (λW=> ?_)
  ·obtain⟨p,hp⟩:=aE (show k<t.aq.length by omega)
   have K:((ay g).getD i iK).2[k]?=some (fR p):=by rw[H];show(t.aq.map fR)[k]?=_;rw[bQ,hp];rfl
   obtain⟨_,L,C⟩:=G.at_ (ae K)
   replace L:0≤p.tqo:=L
   replace C:p.tqo.toNat<(ay g).length:=C
   have M:(((ay g).getD i iK).2).take (k+1)=(((ay g).getD i iK).2).take k++ [fR p]:=aX K
   obtain⟨j,l⟩:∃j:Nat,j=p.tqo.toNat:=⟨_,rfl⟩
   have D:p.tqo=(j:Int):=by omega
   have X:Lk g.nodes.length (n5 (ay g) f (o++ [i]) ((((ay g).getD i iK).2).take (k)))≤Lk g.nodes.length (o++ [i]):=Fy (λx hx=>(qf (ay g) f _ _).subset hx)
   refine g7 ?_;refine St.ee (Ev.jr (.mk rfl) hp lB trivial dh j7.eq) ?_;refine St.al (λb7=> ?_);refine g3 ?_;refine St.dup (sl bh g.nv.1 g.nodes) ?_;refine St.dup (aF cA g.nodes) ?_;refine g4 ?_;refine St.slot 35 (iv (j:Nat)) rfl (congrArg iv D) ?_;refine St.ep (O (n5 (ay g) f (o++ [i]) ((((ay g).getD i iK).2).take (k))) j z hz J (by omega) (by omega)) UN (.mk rfl) (.ar rfl) rfl ?_;rintro v36 _ ⟨s,E,rfl⟩;refine St.R3 ?_
   have F:lC (ay g) f (n5 (ay g) f (o++ [i]) ((((ay g).getD i iK).2).take (k))) j=n5 (ay g) f (o++ [i]) ((((ay g).getD i iK).2).take (k+1)):=by rw[M,Bs];show _=lC (ay g) f _ p.tqo.toNat;rw[←l]
   rw[F];refine g8 ?_;refine St.ue (k+1) s ⟨by omega,E,by rw[M,Bs];exact QG G _ _ _ J C⟩
  ·obtain rfl:k=t.aq.length:=by omega
   have Y:(((ay g).getD i iK).2).take t.aq.length=((ay g).getD i iK).2:=fF (by rw[H,aN];exact aR _)
   rw[Y,←q];refine g4 ?_;refine St.eF ?_;refine St.rV [] [aW d (.cells [nv].toArray 58 (0,0)),row nv 3 1 g.nodes.length (rows aI (pn g.nodes.length (lC (ay g) (f+1) o i))),aW e (.cells [z].toArray 58 (0,0)),row z 3 1 (lC (ay g) (f+1) o i).length (rows aI (cW (lC (ay g) (f+1) o i))),aW bg (.cells [g.nv.1].toArray 30 (0,0)),aW bv (.cells [(.func (.func 156) #[] [(Value.pointer (some ⟨d,0,none⟩)),(Value.pointer (some ⟨e,0,none⟩)),(Value.pointer (some ⟨bg,0,none⟩)),(Value.pointer (some ⟨bv,0,none⟩))].toArray)].toArray 87 (0,0))] ?_;exact⟨z,hz,rfl⟩
def T6:df:=⟨0,bT,[]⟩
theorem PE {N:List df}{k:Nat}{x:df}(h:N[k]?=some x)(t:Int):(rows bh N).set (k*2+0) (iv t)=rows bh (N.set k ⟨t,x.lv,x.aq⟩):=by
 induction N generalizing k with
 |nil=>cases h
 |cons a N b=>
  cases k with
  |zero=>obtain rfl:=Option.some.inj h;rfl
  |succ k=>
   have:=b (k:=k) h
   show(bh.cells a++rows bh N).set ((k+1)*2+0) (iv t)=bh.cells a++rows bh (N.set k _)
   rw[←this,lG _ _ (by show 2≤_;omega)]
   congr 2
   show(k+1)*2+0-2=_
   omega
theorem PD {N:List df}{k:Nat}{x:df}(h:N[k]?=some x)(v:aV)(L:List dw):(rows bh N).set (k*2+1) v.1=rows bh (N.set k ⟨x.type,v,L⟩):=by
 induction N generalizing k with
 |nil=>cases h
 |cons a N b=>
  cases k with
  |zero=>obtain rfl:=Option.some.inj h;rfl
  |succ k=>
   have:=b (k:=k) h
   show(bh.cells a++rows bh N).set ((k+1)*2+1) v.1=bh.cells a++rows bh (N.set k _)
   rw[←this,lG _ _ (by show 2≤_;omega)]
   congr 2
   show(k+1)*2+1-2=_
   omega
def Oh (g:dz)(o:List Nat)(i:Nat):KF:=((g.getD i iK).1,(g.getD i iK).2.map λx=>(x.1,(o.idxOf x.2.toNat:Int)))
theorem NH (g:dz)(r:Nat):gl g r=(xE g r).map (Oh g (xE g r)):=rfl
theorem ub (g:dD)(O:sk (ay g))(hn:g.nodes.length≤120)(hL:∀t∈g.nodes,t.aq.length≤1000000)(r:Nat)(hr:r<g.nodes.length):dx prog 136 #[bA g,iv r] ([aG g].map aB) (λv H'=>H'=[aB (bK (gl (ay g) r) v)]):=by
 refine dx.body (args:=[bA g,iv r]) 88 func136 rfl ntmps136 rfl (λc=> ?_);refine St.cast (H':=[aB (aG g)]) rfl ?_;refine go ?_
 refine St.jP (aG g) (λ_:Unit=>kb g) (λρ h=>⟨(),h⟩) λ_=> ?_
 refine St.cast (H':=[aB (sl bh g.nv.1 g.nodes),aB (aF cA g.nodes),aB (aG g)]) rfl ?_
 have hgl:=cz g
 refine go ?_;refine St.dK (.mk rfl) rfl (λI=> ?_);refine St.al (λP=> ?_);refine g7 ?_;refine St.sQ (m:=g.nodes.length) (.mk rfl) (.mk rfl) bI dL eQ xO rfl rfl (by omega) rfl rfl (λb=> ?_);refine St.aM (.slice (some ⟨b,0,none⟩) g.nodes.length g.nodes.length) rfl (zN _) ?_;refine St.al (λJ=> ?_);refine St.cJ (.mk rfl) (.mk rfl) fE rfl (by rfl) ?_;refine g11 ?_;refine St.te (ι:=Nat) (κ:=List Int) (λk U T=>(20,iv k)::T) (λk U=>[row (.slice (some ⟨b,0,none⟩) g.nodes.length g.nodes.length) 3 1 g.nodes.length (rows aI (U)),aW J (.cells [(.slice (some ⟨b,0,none⟩) g.nodes.length g.nodes.length)].toArray 58 (0,0)),aW I (.cells [g.nv.1].toArray 30 (0,0)),aW P (.cells [(.slice none 0 0)].toArray 30 (0,0)),aB (sl bh g.nv.1 g.nodes),aB (aF cA g.nodes),aB (aG g)]) (λk U=>k≤g.nodes.length∧U.length=g.nodes.length∧∀i,i<k→U[i]?=some (-1)) (λk U=>g.nodes.length-k) 0 (List.replicate g.nodes.length 0) (aD.cons 1 rfl (aD.cons 2 rfl (aD.cons 4 rfl (aD.cons 5 rfl (aD.cons 19 rfl aD.nil))))) ⟨aO _,by simp,λi y=>by omega⟩ ?_;rintro k U ⟨hk,Q,hU⟩;refine g6 ?_;refine St.cq (λh21=> ?_) (λh21=> ?_)
 ·refine g14 ?_
  refine St.cG (.mk rfl) (.mk rfl) dL rfl (by omega) (by decide) ?_;refine St.aM (.slice (some ⟨b,0,none⟩) g.nodes.length g.nodes.length) rfl (jA _ _ _) ?_;refine g8 ?_;refine St.ue (k+1) (U.set k (-1)) ⟨by omega,by rw[cn];exact Q,λi y=>by by_cases e:i=k;(rw[e,fU (by omega)]);(rw[ig (λh=>e h.symm)];exact hU i (by omega))⟩
 ·obtain rfl:k=g.nodes.length:=by omega
  have R:U=pn g.nodes.length []:=by rw[OV];refine pa λj=> ?_;rw[s7];rcases eM j g.nodes.length with d|d;(rw[hU j d,aC d]);(rw[ic (by omega),aA (by omega)])
  subst R;refine g7 ?_;refine St.al (λS=> ?_);refine g4 ?_;refine St.al (λb8=> ?_);refine g4 ?_;refine St.ee (Ev.func (.gW rfl rfl rfl rfl)) ?_;refine St.cJ (.mk rfl) (.mk rfl) alT rfl (by rfl) ?_;refine g3 ?_;refine St.e9 3 1 ?_;refine St.aM (.slice none 0 0) (show _=([]:List Nat).length from rfl) (show _=rows aI (cW [])from rfl) ?_;refine St.dup (sl bh g.nv.1 g.nodes) ?_;refine St.dup (aF cA g.nodes) ?_;refine g3 ?_;refine St.ep (IE J S I b8 (.slice (some ⟨b,0,none⟩) g.nodes.length g.nodes.length) g O hn hgl ((ay g).length+1) [] r (.slice none 0 0) rfl ⟨List.nodup_nil,λj d=>by cases d⟩ hr (by rw[Jr];omega)) UN (.mk rfl) (.ar rfl) rfl ?_;rintro v30 _ ⟨K,hov,rfl⟩;refine St.R3 ?_
  obtain⟨o,B⟩:∃o,o=lC (ay g) ((ay g).length+1) [] r:=⟨_,rfl⟩
  rw[←B]
  have C:xE (ay g) r=o:=B.symm
  obtain⟨D,E,_⟩:=Og O (r:=r) (by omega);rw[C]at D E
  have hol:=kg D.nd (n:=g.nodes.length) (λj d=>by have:=D.lt j d;omega)
  refine g6 ?_;refine St.nJ (Rr:=bh) (g:=T6) (m:=o.length) (sz:=2) rfl (.mk rfl) (.mk rfl) oZ jS GB Md rfl rfl (by omega) rfl rfl (λa=> ?_);refine St.ee (Ev.build (bH.ar rfl) (λw=>RB rfl w)) ?_;refine St.al (λb9=> ?_);refine g12 ?_;refine St.fact (aF cA (List.replicate o.length T6)) (λρ _ _ x hx=>by rw[wa hx];exact sV _ _) ?_;refine St.te (ι:=Nat) (κ:=List df) (λk N T=>(37,iv k)::T) (λk N=>[row (.slice (some ⟨a,0,none⟩) o.length o.length) 163 2 o.length (rows bh (N)),aW b9 (.cells [(.slice (some ⟨a,0,none⟩) o.length o.length)].toArray 30 (0,0)),aW S (.cells [K].toArray 58 (0,0)),row K 3 1 o.length (rows aI (cW o)),aW I (.cells [g.nv.1].toArray 30 (0,0)),aW P (.cells [(.slice none 0 0)].toArray 30 (0,0)),aW J (.cells [(.slice (some ⟨b,0,none⟩) g.nodes.length g.nodes.length)].toArray 58 (0,0)),row (.slice (some ⟨b,0,none⟩) g.nodes.length g.nodes.length) 3 1 g.nodes.length (rows aI (pn g.nodes.length o)),aB (aF cA N),aB (sl bh g.nv.1 g.nodes),aB (aF cA g.nodes),aB (aG g)]) (λk N=>k≤o.length∧N.length=o.length∧(N.take k).map lx=(o.take k).map (Oh (ay g) o)∧(∀j,k≤j→j<o.length→N[j]?=some T6)∧∀x∈N,bh.wf x) (λk N=>o.length-k) 0 (List.replicate o.length T6) (aD.cons 2 rfl (aD.cons 4 rfl (aD.cons 5 rfl (aD.cons 9 rfl (aD.cons 35 rfl (aD.cons 36 rfl aD.nil)))))) ⟨aO _,by simp,rfl,λj _ d=>by rw[List.getElem?_replicate,if_pos d],λx hx=>by rw[wa hx];exact⟨by decide,by decide⟩⟩ ?_;rintro k N ⟨hk,F,f,G,H⟩;refine g6 ?_;refine St.cq (λh38=> ?_) (λh38=> ?_)
  ·obtain⟨i,y⟩:=aE (show k<o.length by omega)
   have SI:=D.lt i (ae y)
   obtain⟨t,ht⟩:=aE (show i<g.nodes.length by omega)
   have V:=ae ht
   have W:(ay g).getD i iK=lx t:=by rw[aw,ka ht];rfl
   have X:=G k (aR _) (by omega)
   have NV:=E i (ae y)
   rw[W]at NV
   have htL:=hL t V
   refine St.wf g.nv.1 (λY _=> ?_)
   have htw:aa t.type:=Y t V
   refine St.cI cA g.nodes (x:=t) V ?_;refine St.eY (sl au t.lv.1 t.aq) [cA t] (λρ h=>h _ (aP ..)) ?_;refine St.wf t.lv.1 (λSM SK=> ?_);refine g8 ?_;refine St.ee (Ev.ct (.mk rfl) gG trivial (by omega) (gU (show(cW o)[k]?=some (i:Int) by rw[bQ,y];rfl))) ?_;refine g5 ?_;refine St.da [row (.slice (some ⟨a,0,none⟩) o.length o.length) 163 2 o.length (rows bh (N))] mixed (λnp ns=> ?_);refine SW.gd 0 ?_;refine SW.gd 1 ?_;refine SW.gd 2 ?_;refine SW.gd 3 ?_;refine SW.gd 4 ?_;refine SW.gd 5 ?_;refine SW.gd 6 ?_;refine SW.gd 7 ?_;refine SW.gd 8 ?_;refine SW.dd 9 rfl (λ_=>Ev.mo (k:=k) rfl (.mk rfl) (.mk rfl) oZ jS (by omega) (by omega)) ?_;refine SW.dd 10 rfl (λ_=>Ev.jZ rfl (.mk rfl) tP) ?_;refine SW.t1 11 ?_;refine St.cG (.mk rfl) (.mk rfl) dL rfl (by omega) (by decide) ?_;refine g2 ?_;refine SW.go ?_;refine SW.dn ?_;refine g2 ?_;refine St.aM (.slice (some ⟨a,0,none⟩) o.length o.length) rfl (show _=rows bh (N.set k ⟨t.type,bT,[]⟩)from PE X _) ?_;refine g12 ?_;refine St.e9 165 2 ?_;refine St.aM (.slice none 0 0) (show _=([]:List dw).length from rfl) (show _=rows au []from rfl) ?_;refine St.te (ι:=Nat) (κ:=aV×List dw) (λq z T=>(60,iv q)::T) (λq z=>[row (.slice (some ⟨a,0,none⟩) o.length o.length) 163 2 o.length (rows bh (N.set k ⟨t.type,z.1,z.2⟩)),row z.1.1 165 2 (z.2).length (rows au (z.2)),aW b9 (.cells [(.slice (some ⟨a,0,none⟩) o.length o.length)].toArray 30 (0,0)),aW S (.cells [K].toArray 58 (0,0)),row K 3 1 o.length (rows aI (cW o)),aW I (.cells [g.nv.1].toArray 30 (0,0)),aW P (.cells [(.slice none 0 0)].toArray 30 (0,0)),aW J (.cells [(.slice (some ⟨b,0,none⟩) g.nodes.length g.nodes.length)].toArray 58 (0,0)),row (.slice (some ⟨b,0,none⟩) g.nodes.length g.nodes.length) 3 1 g.nodes.length (rows aI (pn g.nodes.length o)),aB (sl au t.lv.1 t.aq),aB (aF cA N),aB (sl bh g.nv.1 g.nodes),aB (aF cA g.nodes),aB (aG g)]) (λq z=>q≤t.aq.length∧z.2.length=q∧z.2.map fR=(t.aq.take q).map (λp=>(p.dF,(o.idxOf p.tqo.toNat:Int)))∧∀x∈z.2,au.wf x) (λq z=>t.aq.length-q) 0 (bT,[]) (aD.cons 2 rfl (aD.cons 4 rfl (aD.cons 5 rfl (aD.cons 9 rfl (aD.cons 10 rfl (aD.cons 35 rfl (aD.cons 36 rfl (aD.cons 37 rfl (aD.cons 58 rfl (aD.cons 59 rfl aD.nil)))))))))) ⟨aO _,rfl,rfl,λx hx=>by cases hx⟩ ?_;rintro q ⟨lv,L⟩ ⟨hq,hLl,M,l⟩
   dsimp only at hLl M l⊢
   have s:(N.set k ⟨t.type,lv,L⟩)[k]?=some ⟨t.type,lv,L⟩:=fU (by omega)
   refine g6 ?_;refine St.cq (λZ=> ?_) (λZ=> ?_)
   ·obtain⟨p,hp⟩:=aE (show q<t.aq.length by omega)
    have u:p.tqo.toNat∈o:=NV (fR p) (eN (ae hp))
    have hpi:=List.idxOf_lt_length_iff.2 u
    have hpn:=D.lt _ u
    have hp0:0≤p.tqo:=by have h0:=O.at_ (i:=i) (x:=fR p) (by rw[W];exact eN (ae hp));exact h0.2.1
    refine g7 ?_;refine St.ee (Ev.jr (.mk rfl) hp lB trivial dh j7.eq) ?_;refine St.al (λb13=> ?_);refine g3 ?_;refine St.da [row (.slice (some ⟨a,0,none⟩) o.length o.length) 163 2 o.length (rows bh (N.set k ⟨t.type,lv,L⟩)),row lv.1 165 2 (L).length (rows au (L))] mixed (λnp ns=> ?_);refine SW.gd 0 ?_;refine SW.gd 1 ?_;refine SW.gd 2 ?_;refine SW.gd 3 ?_;refine SW.gd 4 ?_;refine SW.gd 5 ?_;refine SW.dd 6 rfl (λ_=>Ev.mo (k:=k) rfl (.mk rfl) (.mk rfl) oZ jS (by omega) (by omega)) ?_;refine SW.dd 7 rfl (λ_=>Ev.jZ rfl (.mk rfl) tQ) ?_;refine SW.gd 9 ?_;refine SW.gd 10 ?_;refine SW.gd 11 ?_;refine SW.gd 12 ?_;refine SW.gd 13 ?_;refine SW.dd 14 rfl (λ_=>Ev.dX (k:=p.tqo.toNat) (.mk rfl) (.mk rfl) bI dL (by omega) (by omega)) ?_;refine SW.dd 15 rfl (λ_=>Ev.ct (.mk rfl) gG trivial (by omega) (gU (xg (by omega)))) ?_;refine SW.slot 79 (iv ((o.idxOf p.tqo.toNat:Nat):Int)) rfl (by rw[aC u]) ?_;refine SW.dd 16 rfl (λ_=>Ev.build (ps:=[(0,(.tmp 74)),(1,(.tmp 79))]) (bH.aY rfl rfl) (λw=>ow rfl rfl w)) ?_;refine SW.slot 80 (.agg #[iv p.dF,iv ((o.idxOf p.tqo.toNat:Nat):Int)]) rfl rfl ?_;refine SW.t2 8 17 ?_ ?_
    focus
     refine St.ee (Ev.ct (.mk rfl) eV trivial (by omega) (eL bh _ k 1 _ s (by decide))) ?_;refine g2 ?_;refine SW.go ?_;refine SW.t1 17 ?_;refine St.fp rfl (.ar rfl) eV dh kI rfl rfl (by simp[Value.cells]) rfl rfl (λb81=> ?_);refine g2 ?_;refine SW.go ?_;refine SW.t1 18 ?_;refine St.aj (.mk rfl) (.mk rfl) eV dh kI qC (by simp[Value.oneCell',Value.cells]) (by omega) (by omega) rfl rfl rfl rfl (λv82 akE=> ?_);refine St.aM v82 (show _=(L++ [(⟨p.dF,o.idxOf p.tqo.toNat⟩:dw)]).length from cR) (show _=rows au (L++ [(⟨p.dF,o.idxOf p.tqo.toNat⟩:dw)]) by rw[ax];rfl) ?_;refine St.bZ v82 (λA _=> ?_);refine g2 ?_;refine SW.go ?_;refine SW.dd 19 rfl (λ_=>Ev.mo (k:=k) rfl (.mk rfl) (.mk rfl) oZ jS (by omega) (by omega)) ?_;refine SW.dd 20 rfl (λ_=>Ev.jZ rfl (.mk rfl) tQ) ?_;refine SW.t1 21 ?_;refine St.cG (.mk rfl) (.mk rfl) pX A (by omega) (by decide) ?_;refine g2 ?_;refine SW.go ?_;refine SW.dn ?_
    rotate_left
    focus
     refine St.fp rfl (.ar rfl) eV dh kI rfl rfl (by simp[Value.cells]) rfl rfl (λb81=> ?_);refine g2 ?_;refine SW.go ?_;refine SW.t1 8 ?_;refine St.ee (Ev.ct (.mk rfl) eV trivial (by omega) (eL bh _ k 1 _ s (by decide))) ?_;refine g2 ?_;refine SW.go ?_;refine SW.t1 18 ?_;refine St.aj (.mk rfl) (.mk rfl) eV dh kI qC (by simp[Value.oneCell',Value.cells]) (by omega) (by omega) rfl rfl rfl rfl (λv82 akE=> ?_);refine St.aM v82 (show _=(L++ [(⟨p.dF,o.idxOf p.tqo.toNat⟩:dw)]).length from cR) (show _=rows au (L++ [(⟨p.dF,o.idxOf p.tqo.toNat⟩:dw)]) by rw[ax];rfl) ?_;refine St.bZ v82 (λA _=> ?_);refine g2 ?_;refine SW.go ?_;refine SW.dd 19 rfl (λ_=>Ev.mo (k:=k) rfl (.mk rfl) (.mk rfl) oZ jS (by omega) (by omega)) ?_;refine SW.dd 20 rfl (λ_=>Ev.jZ rfl (.mk rfl) tQ) ?_;refine SW.t1 21 ?_;refine St.cG (.mk rfl) (.mk rfl) pX A (by omega) (by decide) ?_;refine g2 ?_;refine SW.go ?_;refine SW.dn ?_
    all_goals
     refine g2 ?_;refine St.aM (.slice (some ⟨a,0,none⟩) o.length o.length) rfl (show _=rows bh (N.set k ⟨t.type,⟨v82,A⟩,L++ [⟨p.dF,o.idxOf p.tqo.toNat⟩]⟩)from(PD s ⟨v82,A⟩ (L++ [⟨p.dF,o.idxOf p.tqo.toNat⟩])).trans (congrArg (rows bh) (List.set_set ..))) ?_;refine g5 ?_;refine St.ue (q+1) (⟨v82,A⟩,L++ [⟨p.dF,o.idxOf p.tqo.toNat⟩]) ⟨by omega,by dsimp only;rw[bN,hLl];rfl,by dsimp only;rw[cO,M,aX hp,cO];rfl,λx hx=>by rcases cD.1 hx with hx|hx;exact l x hx;rw[bO.1 hx];exact⟨(SM p (ae hp)).1,by show aa ((o.idxOf p.tqo.toNat:Nat):Int);unfold aa;omega⟩⟩
   ·obtain rfl:q=t.aq.length:=by omega
    rw[fF (aR _)]at M;refine St.bR lv.1 au L rfl rfl l ?_;refine St.eY (aF cA (N.set k ⟨t.type,lv,L⟩)) [aF cA N,sl au lv.1 L] (λρ h x hx=>by rcases lF hx with hx|rfl;exact h _ (aP ..) x hx;exact h _ (cN _ (aP ..))) ?_
    have ah9:((N.set k ⟨t.type,lv,L⟩).take (k+1)).map lx=(o.take (k+1)).map (Oh (ay g) o):=by rw[aX (fU (by omega)),aX y,List.take_set_of_le (aR _),cO,cO,f];congr 1;show [(t.type,L.map fR)]=[Oh (ay g) o i];rw[M,Oh,W];show _=[(t.type,(t.aq.map fR).map _)];rw[kH];rfl
    refine g11 ?_;refine St.ue (k+1) (N.set k ⟨t.type,lv,L⟩) ⟨by omega,by rw[cn];exact F,ah9,λj h1 h2=>by rw[ig (by omega)];exact G j (by omega) h2,λx hx=>by rcases lF hx with hx|rfl;exact H x hx;exact htw⟩
  ·obtain rfl:k=o.length:=by omega
   have Km:N.map lx=gl (ay g) r:=by rw[NH,C];rw[fF (by omega),fF (by omega)]at f;exact f
   refine St.bR (.slice (some ⟨a,0,none⟩) o.length o.length) bh N rfl F.symm H ?_;refine St.eY (aG ⟨⟨(.slice (some ⟨a,0,none⟩) o.length o.length),rfl⟩,N⟩) [sl bh (.slice (some ⟨a,0,none⟩) o.length o.length) N,aF cA N] (λρ h=>h) ?_;refine St.eY (bK (gl (ay g) r) (.agg #[(.slice (some ⟨a,0,none⟩) o.length o.length)])) [aG ⟨⟨(.slice (some ⟨a,0,none⟩) o.length o.length),rfl⟩,N⟩] (λρ h=>⟨⟨⟨(.slice (some ⟨a,0,none⟩) o.length o.length),rfl⟩,N⟩,rfl,Km,h _ (aP ..)⟩) ?_;refine g12 ?_;refine St.rV [_] [aB (bK (gl (ay g) r) (.agg #[(.slice (some ⟨a,0,none⟩) o.length o.length)]))] ?_;exact rfl
theorem T1 {T:List ej}{a b:Nat}(h:both T a b=0):hC T a b=none:=by
 unfold hC
 cases e:comm T a b with
 |nil=>rfl
 |cons m r=>
  have:m∈comm T a b:=by rw[e];exact aP ..
  rw[l5,h,Nat.zero_testBit]at this;cases this
theorem aeC {T:List ej}{a b m:Nat}(h:(both T a b).testBit m=true)(g:∀i,i<m→(both T a b).testBit i=false):hC T a b=if kF T a b=true then none else some m:=by
 have hm:=l5.2 h
 unfold hC
 cases e:comm T a b with
 |nil=>rw[e]at hm;cases hm
 |cons c r=>
  have hp:(comm T a b).Pairwise (· < ·):=by unfold comm;exact List.Pairwise.filter _ List.pairwise_lt_range
  rw[e]at hp
  have j:c∈comm T a b:=by rw[e];exact aP ..
  have e2:c=m:=by
   rw[e]at hm
   rcases cH.1 hm with d|d
   ·exact d.symm
   ·have k:=(jW.1 hp).1 m d
    have f:=g c k
    rw[l5.1 j]at f;cases f
  subst e2;rfl
theorem zB (T:List ej):y8 T.length (hC T):=λa b m h=>by
 unfold hC at h
 split at h
 ·cases h
 ·rename_i c r e
  split at h
  ·cases h
  ·obtain rfl:=Option.some.inj h
   have:c∈comm T a b:=by rw[e];exact aP ..
   unfold comm at this;exact dq.1 (List.mem_filter.1 this).1
def mtV (o:Option Nat)(wr:Bool):Value:= .tuple #[iv ((o.getD 0:Nat):Int),.bool o.isSome,.bool wr]
theorem xz (e f:aV)(T:List ej)(l:im T)(a b:Nat)(o:a<T.length)(p:b<T.length):dx prog 80 #[kC e f,iv a,iv b] ([sl bF e.1 (de T),sl bF f.1 (db T),tz].map aB) (λv H'=>v=mtV (hC T a b) (kF T a b)∧H'=[]):=by
 refine dx.body (args:=[kC e f,iv a,iv b]) 33 func80 rfl ntmps80 rfl (λc=> ?_);refine St.cast (H':=[aB (sl bF e.1 (de T)),aB (sl bF f.1 (db T)),aB (tz)]) rfl ?_;refine go ?_
 have j:=l.len
 have t:=EH T
 refine go ?_;refine St.dK (.mk rfl) rfl (λu=> ?_);refine g6 ?_;refine St.rq mixed (by kernel_rfl) (Mm.drawn _ _) ?_;refine g4 ?_;refine Sq.ee (Ev.ld1 (.mk rfl) (oD o) lY trivial rfl) ?_;refine g4 ?_;refine Sq.ee (Ev.ld1 (.mk rfl) (oD p) lY trivial rfl) ?_;refine Sq.ee (Ev.Yl (.mk rfl) (.mk rfl) ⟨nG _ _ j,nG _ _ j⟩) ?_;refine g5 ?_;refine St.slot 9 (uv (both T a b)) rfl rfl ?_
 have m:both T a b<18446744073709551616:=vy Nat.and_le_left (nG _ _ j)
 refine g5 ?_;refine St.cq (λq=> ?_) (λq=> ?_)
 ·have g:both T a b=0:=by omega
  refine g9 ?_;refine St.rV [_,_,_] [] ?_;exact⟨by rw[A0 g,T1 g];rfl,rfl⟩
 ·have g:both T a b≠0:=by omega
  obtain⟨h,n⟩:=EF g m
  have r:Lib.ctz 64 (both T a b)<T.length:=by rw[o9,qj,fz]at h;exact h.1
  have d:=G2 l h n
  have i:=aeC h n
  refine g5 ?_;refine St.ee (Ev.call (Jo (both T a b) m) UA (.ar rfl)) ?_;refine g9 ?_;refine St.ee (Ev.cL (k:=(Lib.ctz 64 (both T a b))) (.mk rfl) (.mk rfl) vr l9 (by omega) (by omega)) ?_;refine St.ee (Ev.ld1 (.mk rfl) (oD r) lY trivial rfl) ?_;refine g4 ?_;refine St.cq (λs=> ?_) (λs=> ?_)
  ·rw[dt (by omega)]at d
   rw[aC d]at i;refine g9 ?_;refine St.rV [_,_,_] [] ?_;exact⟨by rw[d,i];rfl,rfl⟩
  ·rw[fK (by omega)]at d
   rw[aA (by rw[d];decide)]at i;refine g11 ?_;refine St.rV [_,_,_] [] ?_;exact⟨by rw[d,i];rfl,rfl⟩
theorem find_spec (e:Nat)(g h:aV)(pv tv lv:Value)(rk:Nat→Nat)(B:Nat)(R:List Nat)(I:R.length≤1000000)(P0:List Nat)(x:Qz rk B P0 R)(i0:Nat)(j:i0<R.length):dx prog 150 #[.pointer (some ⟨e,0,none⟩),iv i0] [aW e (.cells [g.1,h.1,pv,tv,lv].toArray 245 (0,0)),row pv 3 1 R.length (rows aI (cW (P0)))] (λv H'=>∃t,v=iv ((R.getD i0 0:Nat):Int)∧Qz rk B t R∧H'=[aW e (.cells [g.1,h.1,pv,tv,lv].toArray 245 (0,0)),row pv 3 1 R.length (rows aI (cW (t)))]):=by
 refine dx.body (args:=[.pointer (some ⟨e,0,none⟩),iv i0]) 41 func150 rfl ntmps150 rfl (λc=> ?_);refine g7 ?_;refine St.te (ι:=Nat) (κ:=List Nat) (λi Q T=>(1,iv i)::T) (λi Q=>[aW e (.cells [g.1,h.1,pv,tv,lv].toArray 245 (0,0)),row pv 3 1 R.length (rows aI (cW (Q)))]) (λi Q=>i<R.length∧Qz rk B Q R∧R.getD i 0=R.getD i0 0) (λi Q=>B-rk i) i0 P0 (aD.cons 0 rfl (aD.cons 4 rfl aD.nil)) ⟨j,x,rfl⟩ ?_;rintro i Q ⟨l,f,y⟩
 have A:=f.len
 obtain⟨a,m⟩:=aE (show i<Q.length by omega)
 have d:Q.getD i 0=a:=by rw[aw,m];rfl
 have C:=f.lt i l
 rw[d]at C;refine St.l8 pv (by omega) (λbs cs n=> ?_);refine g9 ?_;refine St.ee (Ev.ct (.mk rfl) gG trivial (by omega) (gU (show(cW Q)[i]?=some (a:Int) by rw[bQ,m];rfl))) ?_;refine g4 ?_;refine St.cq (λo=> ?_) (λo=> ?_)
 ·have D:Q.getD i 0≠i:=by rw[d];omega
  obtain⟨b,u⟩:=aE (show a<Q.length by omega)
  have p:Q.getD a 0=b:=by rw[aw,u];rfl
  obtain⟨w,E,F,q⟩:=f.abP l D;rw[d,p]at w E F q;refine g4 ?_;refine St.da [row pv 3 1 R.length (rows aI (cW (Q)))] mixed (λJ K=> ?_);refine SW.gd 0 ?_;refine SW.gd 1 ?_;refine SW.gd 2 ?_;refine SW.gd 3 ?_;refine SW.gd 4 ?_;refine SW.gd 5 ?_;refine SW.gd 6 ?_;refine SW.gd 7 ?_;refine SW.gd 8 ?_;refine SW.gd 9 ?_;refine SW.gd 10 ?_;refine SW.gd 11 ?_;refine SW.gd 12 ?_;refine SW.gd 13 ?_;refine SW.dd 14 rfl (λ_=>Ev.mo (k:=i) n (.mk rfl) (.mk rfl) bI dL (by omega) (by omega)) ?_;refine SW.t1 15 ?_;refine St.ee (Ev.ct (.mk rfl) gG trivial (by omega) (gU (show(cW Q)[i]?=some (a:Int) by rw[bQ,m];rfl))) ?_;refine g2 ?_;refine SW.go ?_;refine SW.dd 16 rfl (λ_=>Ev.mo (k:=a) n (.mk rfl) (.mk rfl) bI dL (by omega) (by omega)) ?_;refine SW.t1 17 ?_;refine St.ee (Ev.ct (.mk rfl) gG trivial (by omega) (gU (show(cW Q)[a]?=some (b:Int) by rw[bQ,u];rfl))) ?_;refine g2 ?_;refine SW.go ?_;refine SW.dd 18 rfl (λ_=>Ev.mo (k:=i) n (.mk rfl) (.mk rfl) bI dL (by omega) (by omega)) ?_;refine SW.t1 19 ?_;refine St.cG (.mk rfl) (.mk rfl) dL rfl (by omega) (by decide) ?_;refine g2 ?_;refine SW.go ?_;refine SW.dn ?_;refine go ?_;refine St.aM pv rfl (show _=rows aI (cW (Q.set i b)) by rw[jA,cW,cW,jk]) ?_
  have r:(Q.set i b)[i]?=some b:=fU (by omega)
  refine g7 ?_;refine St.ee (Ev.ct (.mk rfl) gG trivial (by omega) (gU (show(cW (Q.set i b))[i]?=some (b:Int) by rw[bQ,r];rfl))) ?_;refine g4 ?_;refine St.nC b (Q.set i b) ⟨by omega,w,by omega⟩ (by have:=f.le b (by omega);omega) (by repeat(first|exact Sub.nil|refine Sub.cons (by first|rfl|exact congrArg (λz=>some (iv z)) (by first|omega|(dsimp only;omega))|exact congrArg (λz=>some (Value.bool z)) (by first|assumption|exact j5 (by assumption))) ?_)) (λ_ hw=>hw.sub)
 ·have s:Q.getD i 0=i:=by rw[d];omega
  have G:=(f.me i l).1 s
  have H:R.getD i0 0=i:=by omega
  refine g12 ?_;refine St.rV [_] [aW e (.cells [g.1,h.1,pv,tv,lv].toArray 245 (0,0)),row pv 3 1 R.length (rows aI (cW (Q)))] ?_;exact⟨Q,by rw[H];rfl,f,rfl⟩
abbrev CE:=aV×List dw
def pj (q:CE):du:=sl au q.1.1 q.2
def z7 (q:CE):ko:=q.2.map fR
def shf (n:Nat)(p:dw):dw:=⟨p.dF,(n:Int)+p.tqo⟩
theorem BV (p:dw):∀(l:List dw) (k:Nat),((rows au l).set (k*2) (iv p.dF)).set (k*2+1) (iv p.tqo)=rows au (l.set k p)
 | [],k=>by simp[rows]
 |a::l,0=>rfl
 |a::l,k+1=>by
  have:=BV p l k
  show((au.cells a++rows au l).set ((k+1)*2) _).set ((k+1)*2+1) _=au.cells a++rows au (l.set k p)
  rw[←this,show(k+1)*2=2+k*2 by omega,lG _ _ (by show 2≤_;omega),lG _ _ (by show 2≤_;omega)]
  congr 2
  ·congr 1;show 2+k*2-2=_;omega
  ·show 2+k*2+1-2=_;omega
theorem FK (n:Nat):rows aI (cW (List.range n))++ [iv (n:Nat)]=rows aI (cW (List.range (n+1))):=by
 rw[uW];exact vV (Int.natCast_nonneg n)
theorem uB (l:Nat)(u y:aV)(g:dD)(Y:sk (ay g))(hn:g.nodes.length≤120)(Z:∀t∈g.nodes,t.aq.length≤1000000)(n0:Nat)(hn0:n0≤120)(a:List Int)(ht0:a.length=n0)(f:List CE)(hl0:f.length=n0)(d b e:Value)(ho:d.oneCell'=true∧b.oneCell'=true∧e.oneCell'=true):dx prog 128 #[.pointer (some ⟨l,0,none⟩),bA g] [aW l (.cells [u.1,y.1,d,b,e].toArray 245 (0,0)),row d 3 1 (List.range n0).length (rows aI (cW (List.range n0))),row b 3 1 (a).length (rows aI (a)),row e 161 1 (f).length (rows bS ((f).map Prod.fst)),aB (aF pj (f)),aB (aG g)] (λv H'=>∃(pv tv lv:Value) (ls:List CE),v=iv (n0:Nat)∧(pv.oneCell'=true∧tv.oneCell'=true∧lv.oneCell'=true)∧ls.map z7=f.map z7++(ay g).map (λn=>n.2.map λx=>(x.1,(n0:Int)+x.2))∧H'=[aW l (.cells [u.1,y.1,pv,tv,lv].toArray 245 (0,0)),row pv 3 1 (List.range (n0+g.nodes.length)).length (rows aI (cW (List.range (n0+g.nodes.length)))),row tv 3 1 (a++g.nodes.map df.type).length (rows aI (a++g.nodes.map df.type)),row lv 161 1 (ls).length (rows bS ((ls).map Prod.fst)),aB (aF pj (ls))]):=by
 refine dx.body (args:=[.pointer (some ⟨l,0,none⟩),bA g]) 82 func128 rfl ntmps128 rfl (λc=> ?_);refine go ?_
 refine St.jP (aG g) (λ_:Unit=>kb g) (λρ h=>⟨(),h⟩) λ_=> ?_
 refine St.cast (H':=[aB (sl bh g.nv.1 g.nodes),aB (aF cA g.nodes),aW l (.cells [u.1,y.1,d,b,e].toArray 245 (0,0)),row d 3 1 (List.range n0).length (rows aI (cW (List.range n0))),row b 3 1 (a).length (rows aI (a)),row e 161 1 (f).length (rows bS ((f).map Prod.fst)),aB (aF pj (f)),aB (aG g)]) rfl ?_
 have hgl:=cz g
 obtain⟨F,G,H⟩:=ho;refine go ?_;refine St.dK (.mk rfl) rfl (λP=> ?_);refine g10 ?_;refine St.slot 15 (iv (n0:Nat)) rfl (congrArg iv (by omega)) ?_;refine g13 ?_;refine St.aM b (show _=(a++(g.nodes.take (0)).map df.type).length by rw[A7,lE,gq]) (show _=rows aI (a++(g.nodes.take (0)).map df.type) by rw[A7,lE,gq]) ?_;refine St.te (ι:=Nat) (κ:=Value×Value×Value×List CE) (λk z T=>(19,iv k)::T) (λk z=>[aW l (.cells [u.1,y.1,z.1,z.2.1,z.2.2.1].toArray 245 (0,0)),row z.1 3 1 (List.range (n0+k)).length (rows aI (cW (List.range (n0+k)))),row z.2.1 3 1 (a++(g.nodes.take (k)).map df.type).length (rows aI (a++(g.nodes.take (k)).map df.type)),row z.2.2.1 161 1 (z.2.2.2).length (rows bS ((z.2.2.2).map Prod.fst)),aB (aF pj (z.2.2.2)),aW P (.cells [g.nv.1].toArray 30 (0,0)),aB (sl bh g.nv.1 g.nodes),aB (aF cA g.nodes)]) (λk z=>k≤g.nodes.length∧(z.1.oneCell'=true∧z.2.1.oneCell'=true∧z.2.2.1.oneCell'=true)∧z.2.2.2.length=n0+k∧z.2.2.2.map z7=f.map z7++((ay g).take k).map (λn=>n.2.map λx=>(x.1,(n0:Int)+x.2))) (λk z=>g.nodes.length-k) 0 (d,b,e,f) (aD.cons 0 rfl (aD.cons 4 rfl (aD.cons 5 rfl (aD.cons 17 rfl (aD.cons 18 rfl aD.nil))))) ⟨aO _,⟨F,G,H⟩,hl0,by rw[A7,lE,gq]⟩ ?_;rintro k ⟨pv,tv,lv,ls⟩ ⟨hk,⟨h1,Q,R⟩,S,o⟩
 dsimp only at h1 Q R S o⊢
 have hTl:(a++(g.nodes.take (k)).map df.type).length=n0+k:=by rw[bN,aN,eR];omega
 have hRl:(List.range (n0+k)).length=n0+k:=jV
 refine g6 ?_;refine St.cq (λI=> ?_) (λI=> ?_)
 ·obtain⟨t,ht⟩:=aE (show k<g.nodes.length by omega)
  have U:=ae ht
  have htL:=Z t U
  have l3:=ka ht
  refine St.cI cA g.nodes (x:=t) U ?_;refine St.eY (sl au t.lv.1 t.aq) [cA t] (λρ h=>h _ (aP ..)) ?_;refine St.wf t.lv.1 (λSM SK=> ?_);refine g8 ?_;refine St.ee (Ev.jr (.mk rfl) ht wU trivial jS j7.eq) ?_;refine St.al (λb7=> ?_);refine g9 ?_;refine St.nJ (Rr:=au) (g:=(⟨0,0⟩:dw)) (m:=t.aq.length) (sz:=2) rfl (.mk rfl) (.mk rfl) eV dh kI qC rfl rfl (by omega) rfl rfl (λj=> ?_);refine g13 ?_;refine St.te (ι:=Nat) (κ:=List dw) (λq M T=>(31,iv q)::T) (λq M=>[row (.slice (some ⟨j,0,none⟩) t.aq.length t.aq.length) 165 2 t.aq.length (rows au (M)),aW b7 (.cells [iv t.type,t.lv.1].toArray 163 (0,0)),aW l (.cells [u.1,y.1,pv,tv,lv].toArray 245 (0,0)),row pv 3 1 (List.range (n0+k)).length (rows aI (cW (List.range (n0+k)))),row tv 3 1 (a++(g.nodes.take (k)).map df.type).length (rows aI (a++(g.nodes.take (k)).map df.type)),row lv 161 1 (ls).length (rows bS ((ls).map Prod.fst)),aB (aF pj (ls)),aW P (.cells [g.nv.1].toArray 30 (0,0)),aB (sl bh g.nv.1 g.nodes),aB (aF cA g.nodes),aB (sl au t.lv.1 t.aq)]) (λq M=>q≤t.aq.length∧M.length=t.aq.length∧M.take q=(t.aq.take q).map (shf n0)∧∀x∈M,au.wf x) (λq M=>t.aq.length-q) 0 (List.replicate t.aq.length (⟨0,0⟩:dw)) (aD.cons 0 rfl (aD.cons 4 rfl (aD.cons 5 rfl (aD.cons 6 rfl (aD.cons 7 rfl (aD.cons 8 rfl (aD.cons 17 rfl (aD.cons 18 rfl (aD.cons 19 rfl (aD.cons 29 rfl (aD.cons 30 rfl aD.nil))))))))))) ⟨aO _,by simp,rfl,λx hx=>by rw[List.eq_of_mem_replicate hx];exact⟨by unfold aa;decide,by unfold aa;decide⟩⟩ ?_;rintro q M ⟨hq,B,A,C⟩;refine g6 ?_;refine St.cq (λJ=> ?_) (λJ=> ?_)
  ·obtain⟨p,hp⟩:=aE (show q<t.aq.length by omega)
   have D:=ae hp
   obtain⟨_,V,W⟩:=Y.at_ (i:=k) (x:=fR p) (by rw[aw,l3];exact eN D)
   replace V:0≤p.tqo:=V
   replace W:p.tqo.toNat<(ay g).length:=W
   have K:au.wf (shf n0 p):=⟨(SM p D).1,by show aa ((n0:Int)+p.tqo);unfold aa;omega⟩
   refine g8 ?_;refine St.ee (Ev.jr (.mk rfl) hp lB trivial dh j7.eq) ?_;refine St.al (λb10=> ?_);refine g13 ?_;refine St.ee (Ev.build (bH.aY rfl rfl) (λw=>ow rfl rfl w)) ?_;refine St.slot 44 (.agg #[iv p.dF,iv ((n0:Int)+p.tqo)]) rfl rfl ?_;refine go ?_;refine St.Le (k:=q) (.mk rfl) (.mk rfl) dh rfl rfl (by omega) ?_;refine St.aM (.slice (some ⟨j,0,none⟩) t.aq.length t.aq.length) rfl (BV (shf n0 p) M q) ?_;refine g8 ?_;refine St.ue (q+1) (M.set q (shf n0 p)) ⟨by omega,by rw[cn];exact B,by rw[aX (fU (by omega)),List.take_set_of_le (aR _),A,aX hp,cO];rfl,λx hx=>by rcases lF hx with hx|rfl;exact C x hx;exact K⟩
  ·obtain rfl:q=t.aq.length:=by omega
   rw[fF (by omega),fF (aR _)]at A;refine St.bR (.slice (some ⟨j,0,none⟩) t.aq.length t.aq.length) au M rfl B.symm C ?_;refine St.eY (aF pj (ls++ [(⟨(.slice (some ⟨j,0,none⟩) t.aq.length t.aq.length),rfl⟩,M)])) [aF pj ls,sl au (.slice (some ⟨j,0,none⟩) t.aq.length t.aq.length) M] (λρ h x hx=>by rcases cD.1 hx with hx|hx;exact h _ (aP ..) x hx;rw[bO.1 hx];exact h _ (cN _ (aP ..))) ?_
   have L:(ls++ [((⟨(.slice (some ⟨j,0,none⟩) t.aq.length t.aq.length),rfl⟩:aV),M)]).map z7=f.map z7++((ay g).take (k+1)).map (λn=>n.2.map λx=>(x.1,(n0:Int)+x.2)):=by rw[cO,o,aX l3,cO,dp];congr 2;show [M.map fR]=[(t.aq.map fR).map _];rw[A,kH,kH];rfl
   refine g15 ?_;refine St.slot 54 (iv ((n0+k:Nat):Int)) rfl (congrArg iv (by omega)) ?_;refine St.fp rfl (.ar rfl) bI dL eQ rfl rfl (by simp[Value.cells]) rfl rfl (λb55=> ?_);refine St.aj (.mk rfl) (.mk rfl) bI dL eQ xO (by simp[Value.oneCell',Value.cells]) (by omega) (by omega) rfl rfl rfl rfl (λr anV=> ?_);refine St.aM r (show _=(List.range (n0+(k+1))).length by rw[jV,jV];omega) (show _=rows aI (cW (List.range (n0+(k+1))))from FK (n0+k)) ?_;refine St.bZ r (λE _=> ?_);refine g2 ?_;refine St.cJ (.mk rfl) (.mk rfl) fE E (by rfl) ?_;refine g3 ?_;refine St.da [row tv 3 1 (a++(g.nodes.take (k)).map df.type).length (rows aI (a++(g.nodes.take (k)).map df.type)),aW l (.cells [u.1,y.1,r,tv,lv].toArray 245 (0,0))] mixed (λnp ns=> ?_);refine SW.gd 0 ?_;refine SW.gd 1 ?_;refine SW.gd 2 ?_;refine SW.gd 3 ?_;refine SW.gd 5 ?_;refine SW.gd 6 ?_;refine SW.t2 4 7 ?_ ?_
   focus
    refine g3 ?_;refine SW.go ?_;refine SW.t1 7 ?_;refine St.fp rfl (.ar rfl) bI dL eQ rfl rfl (by simp[Value.cells]) rfl rfl (λN=> ?_);refine g2 ?_;refine SW.go ?_;refine SW.t1 8 ?_;refine St.aj (.mk rfl) (.mk rfl) bI dL eQ xO (by simp[Value.oneCell',Value.cells]) (by omega) (by omega) rfl rfl rfl rfl (λv67 O=> ?_);refine St.aM v67 (show _=(a++(g.nodes.take (k+1)).map df.type).length by rw[aX ht,cO,←dp];exact cR) (show _=rows aI (a++(g.nodes.take (k+1)).map df.type) by rw[aX ht,cO,←dp];exact(ax aI _ t.type).symm) ?_;refine St.bZ v67 (λs _=> ?_);refine g2 ?_;refine SW.go ?_;refine SW.gd 9 ?_;refine SW.gd 10 ?_;refine SW.t1 11 ?_;refine St.cJ (.mk rfl) (.mk rfl) fE s (by rfl) ?_;refine g2 ?_;refine SW.go ?_;refine SW.dn ?_
   rotate_left
   focus
    refine St.fp rfl (.ar rfl) bI dL eQ rfl rfl (by simp[Value.cells]) rfl rfl (λN=> ?_);refine g2 ?_;refine SW.go ?_;refine SW.t1 4 ?_;refine g3 ?_;refine SW.go ?_;refine SW.t1 8 ?_;refine St.aj (.mk rfl) (.mk rfl) bI dL eQ xO (by simp[Value.oneCell',Value.cells]) (by omega) (by omega) rfl rfl rfl rfl (λv67 O=> ?_);refine St.aM v67 (show _=(a++(g.nodes.take (k+1)).map df.type).length by rw[aX ht,cO,←dp];exact cR) (show _=rows aI (a++(g.nodes.take (k+1)).map df.type) by rw[aX ht,cO,←dp];exact(ax aI _ t.type).symm) ?_;refine St.bZ v67 (λs _=> ?_);refine g2 ?_;refine SW.go ?_;refine SW.gd 9 ?_;refine SW.gd 10 ?_;refine SW.t1 11 ?_;refine St.cJ (.mk rfl) (.mk rfl) fE s (by rfl) ?_;refine g2 ?_;refine SW.go ?_;refine SW.dn ?_
   all_goals
    refine g8 ?_;refine St.fp rfl (.ar rfl) Bp pX QX rfl rfl (by simp[Value.cells]) rfl rfl (λb76=> ?_);refine St.aj (.mk rfl) (.mk rfl) Bp pX QX Z6 (by simp[Value.oneCell',Value.cells]) (by omega) (by omega) rfl rfl rfl rfl (λv77 an0=> ?_);refine St.aM v77 (show _=(ls++ [((⟨(.slice (some ⟨j,0,none⟩) t.aq.length t.aq.length),rfl⟩:aV),M)]).length from cR) (show _=rows bS ((ls++ [((⟨(.slice (some ⟨j,0,none⟩) t.aq.length t.aq.length),rfl⟩:aV),M)]).map Prod.fst) by rw[cO];exact(ax bS _ (⟨(.slice (some ⟨j,0,none⟩) t.aq.length t.aq.length),rfl⟩:aV)).symm) ?_;refine St.bZ v77 (λX _=> ?_);refine g2 ?_;refine St.cJ (.mk rfl) (.mk rfl) ae7 X (by rfl) ?_;refine g8 ?_;refine St.ue (k+1) (r,v67,v77,ls++ [(⟨(.slice (some ⟨j,0,none⟩) t.aq.length t.aq.length),rfl⟩,M)]) ⟨by omega,⟨E,s,X⟩,by dsimp only;rw[bN,S];rfl,L⟩
 ·obtain rfl:k=g.nodes.length:=by omega
  have Kj:(ay g).take g.nodes.length=ay g:=fF (by omega)
  rw[Kj]at o;rw[fF (aR _)];refine g12 ?_;refine St.rV [_] [aW l (.cells [u.1,y.1,pv,tv,lv].toArray 245 (0,0)),row pv 3 1 (List.range (n0+g.nodes.length)).length (rows aI (cW (List.range (n0+g.nodes.length)))),row tv 3 1 (a++g.nodes.map df.type).length (rows aI (a++g.nodes.map df.type)),row lv 161 1 (ls).length (rows bS ((ls).map Prod.fst)),aB (aF pj (ls))] ?_;exact⟨pv,tv,lv,ls,rfl,⟨h1,Q,R⟩,o,rfl⟩
theorem Hj {α:Type}(R:Rp α)(a b:List α):rows R (a++b)=rows R a++rows R b:=Bx
theorem Ki (n:Nat)(q:n≤100000000):dx prog 174 #[.slice none 0 0,iv n] [] (λv H'=>v.oneCell'=true∧H'=[row v 165 2 0 []]):=by
 intro w ρ o
 have c:eu ⟨w,ρ,jn [],True⟩ [] ρ w:=o
 by_cases hz:n=0
 ·subst hz
  refine(Any8.slices_Grow_room Tryz.O7 none 0 0 0 w (aR _) (by decide) (by decide) (aR _)).mono ?_;rintro e w' ⟨rfl,rfl⟩;refine⟨_,_,rfl,⟨rfl,rfl⟩,Mm.mk (ρ:=ρ) ?_⟩;refine⟨c.os,c.tape,c.output,c.size,c.AA,c.fits,c.le,c.new,λE i=> ?_,λE i b d=> ?_,GA _ _⟩
  ·rw[bO.1 i];exact eK.2 ⟨rfl,.inl ⟨rfl,rfl⟩⟩
  ·rw[bO.1 i,eG]at d;cases d
 ·obtain⟨i0,f,r⟩:=di.1 dh
  obtain⟨i1,m,j⟩:=di.1 qC;obtain⟨i2,g,l⟩:=pO.1 kI;rw[f]at m g;obtain rfl:=Option.some.inj m;obtain rfl:=Option.some.inj g;refine(Any8.slices_Grow_grow Tryz.O7 i0 _ f l (by omega) none 0 0 n [] w (aR _) (by omega) (by rw[j];omega) (by omega) (by simp) (λ_=>rfl) (λa h=>by cases h)).mono ?_;rintro e w' ⟨rfl,rfl⟩;rw[jG,Nat.sub_zero]
  have p:=grownCap_ge w n 0 165
  have hle:=grownCap_le_maxLen w n 0 165 (by unfold maxLen;omega)
  refine⟨_,_,rfl,⟨rfl,rfl⟩,Mm.mk (ρ:=ρ) ?_⟩;refine c.drawn.Ag rfl ⟨rfl,aR _⟩ rfl (by show w.heap.size≤(w.heap.push _).size;simp) (λk hk=>RowKit.Below.heap_alloc w.drew _ k hk) (eK.2 ⟨rfl,.inr ⟨w.heap.size,_,_,rfl,aO _,heap_alloc_new w.drew _,aO _,hle,?_,by simp⟩⟩) ?_
  ·simp only[Array.size_append,List.size_toArray,List.length_nil,size_zeroCells]
   show 0+n*2+(grownCap w n 0 165-n)*2=grownCap w n 0 165*2
   omega
  ·intro b d;rw[eG]at d;simp[Value.ownBlock]at d;show w.heap.size≤b;omega
theorem ED (d:Value)(vs:List CE)(n:vs.length≤10)(j:∀q∈vs,q.2.length≤2000000):dx prog 151 #[d] ([sl bS d (vs.map Prod.fst),aF pj vs].map aB) (λv H'=>v.oneCell'=true∧H'=[row v 165 2 ((vs.map Prod.snd).flatten).length (rows au (vs.map Prod.snd).flatten)]):=by
 refine dx.body (args:=[d]) 36 func151 rfl ntmps151 rfl (λc=> ?_);refine St.cast (H':=[aB (sl bS d (vs.map Prod.fst)),aB (aF pj vs)]) rfl ?_;refine go ?_
 have o:(vs.map Prod.fst).length=vs.length:=aN _
 refine g18 ?_;refine St.lH (ι:=Nat) (λk T=>(11,iv k)::(3,iv ((((vs.take k).map Prod.snd).flatten).length:Nat))::T) (λk=>[aB (sl bS d (vs.map Prod.fst)),aB (aF pj vs)]) (λk=>k≤vs.length∧(((vs.take k).map Prod.snd).flatten).length≤2000000*k) (λk=>vs.length-k) 0 (aD.cons 0 rfl (aD.cons 2 rfl (aD.cons 9 rfl (aD.cons 10 rfl aD.nil)))) ⟨aO _,aO _⟩ ?_;rintro k ⟨hk,l⟩;refine g6 ?_;refine St.cq (λp=> ?_) (λp=> ?_)
 ·obtain⟨q,a⟩:=aE (show k<vs.length by omega)
  have e:=ae a
  have r:=j q e
  have f:(((vs.take (k+1)).map Prod.snd).flatten).length=(((vs.take k).map Prod.snd).flatten).length+q.2.length:=by rw[aX a,cO,List.flatten_append,bN];simp
  refine St.cI pj vs (x:=q) e ?_;refine St.eY (sl au q.1.1 q.2) [pj q] (λρ h=>h _ (aP ..)) ?_;refine g7 ?_;refine St.ee (Ev.ld1 (.mk rfl) (show(vs.map Prod.fst)[k]?=some q.1 by rw[bQ,a];rfl) eV trivial rfl) ?_;refine g9 ?_;refine St.slot 18 (iv ((((vs.take (k+1)).map Prod.snd).flatten).length:Nat)) rfl (congrArg iv (by omega)) ?_;refine g9 ?_;refine St.tG _ rfl (fK (by omega)) ?_;refine g8 ?_;refine St.aH (k+1) ⟨by omega,by omega⟩
 ·obtain rfl:k=vs.length:=by omega
  rw[fF (aR _)]at l⊢
  obtain⟨g,m⟩:∃g,g=(vs.map Prod.snd).flatten:=⟨_,rfl⟩
  rw[←m]at l⊢;refine g8 ?_;refine St.call (Ki g.length (by omega)) Zi (.aY rfl rfl) rfl ?_;rintro v24 _ ⟨i,rfl⟩;refine St.ao ?_;refine St.aM v24 (show _=([]:List dw).length from rfl) (show _=rows au []from rfl) ?_;refine g12 ?_;refine St.aM v24 (show _=(((vs.take 0).map Prod.snd).flatten).length from rfl) (show _=rows au (((vs.take 0).map Prod.snd).flatten)from rfl) ?_;refine St.te (ι:=Nat) (κ:=Value) (λk z T=>(27,iv k)::(6,z)::T) (λk z=>[row z 165 2 (((vs.take k).map Prod.snd).flatten).length (rows au (((vs.take k).map Prod.snd).flatten)),aB (sl bS d (vs.map Prod.fst)),aB (aF pj vs)]) (λk z=>k≤vs.length∧z.oneCell'=true∧(((vs.take k).map Prod.snd).flatten).length≤2000000*k) (λk z=>vs.length-k) 0 v24 (aD.cons 2 rfl (aD.cons 25 rfl (aD.cons 26 rfl aD.nil))) ⟨aO _,i,aO _⟩ ?_;rintro k z ⟨hk,hz,w⟩;refine g6 ?_;refine St.cq (λs=> ?_) (λs=> ?_)
  ·obtain⟨q,a⟩:=aE (show k<vs.length by omega)
   have e:=ae a
   have r:=j q e
   have b:((vs.take (k+1)).map Prod.snd).flatten=((vs.take k).map Prod.snd).flatten++q.2:=by rw[aX a,cO,List.flatten_append];simp
   have f:=congrArg List.length b
   rw[bN]at f;refine St.cI pj vs (x:=q) e ?_;refine St.eY (sl au q.1.1 q.2) [pj q] (λρ h=>h _ (aP ..)) ?_;refine g7 ?_;refine St.ee (Ev.ld1 (.mk rfl) (show(vs.map Prod.fst)[k]?=some q.1 by rw[bQ,a];rfl) eV trivial rfl) ?_;refine g6 ?_;refine St.yI (.mk rfl) (.mk rfl) eV dh kI qC (zR au _) (by omega) (by omega) rfl rfl trivial rfl (λv33 t=> ?_);refine St.aM v33 (show _=(((vs.take (k+1)).map Prod.snd).flatten).length by rw[b,bN]) (show _=rows au (((vs.take (k+1)).map Prod.snd).flatten) by rw[b,Hj]) ?_;rw[show au.size=2 from rfl];refine St.bZ v33 (λu _=> ?_);refine g9 ?_;refine St.ue (k+1) v33 ⟨by omega,u,by omega⟩
  ·obtain rfl:k=vs.length:=by omega
   rw[fF (aR _)];refine g12 ?_;refine St.rV [_] [row z 165 2 ((vs.map Prod.snd).flatten).length (rows au (vs.map Prod.snd).flatten)] ?_;exact⟨hz,by rw[m];rfl⟩
theorem LR {α:Type}(R:Rp α){l:List α}{x:α}{j:Nat}(h:j<R.size):(rows R (l++ [x]))[l.length*R.size+j]?=(R.cells x)[j]?:=
 eL R (l++ [x]) l.length j x (by rw[lZ (aR _),ff];rfl) h
theorem zP {α:Type}(R:Rp α){l:List α}{x:α}{j k:Nat}(hk:l.length=k)(h:j<R.size):(rows R (l++ [x]))[k*R.size+j]?=(R.cells x)[j]?:=by subst hk;exact LR R h
theorem Pv {p:Pl}{i:Nat}(h:i<p.ty.length):p.ty[i]?=some (p.tt i):=by
 unfold Pl.tt;rw[aw,bU h];rfl
theorem zQ (l:List aV)(k:Nat)(v:aV):(rows bS l).set (k*1+0) v.1=rows bS (l.set k v):=by
 rw[gX,j4,vX,vX,jk]
theorem r7 {l:List aV}{k:Nat}{v:aV}(h:l[k]?=some v):(rows bS l)[k*1+0]?=some v.1:=by
 rw[gX,j4,vX,bQ,h];rfl
theorem Rb {a b:Int}(h:oC a b<0):a<b:=by unfold oC at h;split at h<;>first|assumption|(split at h<;>omega)
theorem Ra {a b:Int}(h:0<oC a b):b<a:=by unfold oC at h;split at h<;>first|omega|(split at h<;>first|assumption|omega)
theorem RZ {a b:Int}(h1:¬oC a b<0)(c:¬0<oC a b):a=b:=by unfold oC at h1 c;split at h1<;>first|omega|(split at c<;>omega)
theorem HI {ls:List CE}{lk:List ko}(h:ls.map z7=lk){i:Nat}{q:CE}(a:ls[i]?=some q):lk.getD i []=z7 q:=by
 subst h;rw[aw,bQ,a];rfl
structure Yg (T:List ej)(nf n XH:Nat)(R:Option Pl)(W:List (Int×Int))(P0:List Nat)(p:Pl)(ls:List CE):Prop where
 pl:mJ T.length nf n p
 wk:CH n W
 uf:UF P0 p.ro
 YR:ls.map z7=p.lk
 lw:∀q∈ls,∀x∈q.2,au.wf x
 eq:jB (hC T) (p.mu W) p W=R
 mu:p.mu W≤XH
theorem L6 (H:Nat)(C D:aV)(pv tv lv:Value)(ho:pv.oneCell'=true∧tv.oneCell'=true∧lv.oneCell'=true)(T:List ej)(hT:im T)(nf n XH:Nat)(hn:n≤240)(Nf:XH≤1000000)(P0:List Nat)(p0:Pl)(YQ:List CE)(a0 y:Int)(ha0:0≤a0∧a0<n)(hb0:0≤y∧y<n)(hpl:mJ T.length nf n p0)(huf:UF P0 p0.ro)(Uh:YQ.map z7=p0.lk)(hlw:∀q∈YQ,∀x∈q.2,au.wf x)(hmu:p0.mu [(a0,y)]≤XH):dx prog 129 #[.pointer (some ⟨H,0,none⟩),iv a0,iv y] [aW H (.cells [C.1,D.1,pv,tv,lv].toArray 245 (0,0)),row pv 3 1 p0.ro.length (rows aI (cW (P0))),row tv 3 1 p0.ty.length (rows aI p0.ty),row lv 161 1 (YQ).length (rows bS ((YQ).map Prod.fst)),aB (aF pj (YQ)),aB (sl bF C.1 (de T)),aB (sl bF D.1 (db T)),aB tz] (λv H'=>∃(r:Bool) (P1:List Nat) (p:Pl) (ls:List CE),v= .bool r∧(r=false→jB (hC T) (p0.mu [(a0,y)]) p0 [(a0,y)]=none)∧(r=true→jB (hC T) (p0.mu [(a0,y)]) p0 [(a0,y)]=some p∧mJ T.length nf n p∧UF P1 p.ro∧ls.map z7=p.lk∧∀q∈ls,∀x∈q.2,au.wf x)∧H'=[aW H (.cells [C.1,D.1,pv,tv,lv].toArray 245 (0,0)),row pv 3 1 p.ro.length (rows aI (cW (P1))),row tv 3 1 p.ty.length (rows aI p.ty),row lv 161 1 (ls).length (rows bS ((ls).map Prod.fst)),aB (aF pj (ls))]):=by
 refine dx.body (args:=[.pointer (some ⟨H,0,none⟩),iv a0,iv y]) 175 func129 rfl ntmps129 rfl (λc=> ?_);refine g10 ?_;refine St.ee (Ev.build (bH.aY rfl rfl) (λw=>yO rfl rfl w)) ?_;refine St.fp rfl (.ar rfl) wV Bi QY rfl rfl (by simp[Value.cells]) rfl rfl (λb20=> ?_);refine St.aM (.slice (some ⟨b20,0,none⟩) 1 1) (show _=([(a0,y)]:List (Int×Int)).reverse.length from rfl) (show _=rows Lx ([(a0,y)]:List (Int×Int)).reverse from rfl) ?_;refine g4 ?_;refine St.te (ι:=Unit) (κ:=Value×List (Int×Int)×List Nat×Pl×List CE) (λu z T=>(7,z.1)::T) (λu z=>[row z.1 270 2 (z.2.1.reverse).length (rows Lx (z.2.1.reverse)),aW H (.cells [C.1,D.1,pv,tv,lv].toArray 245 (0,0)),row pv 3 1 z.2.2.2.1.ro.length (rows aI (cW (z.2.2.1))),row tv 3 1 z.2.2.2.1.ty.length (rows aI z.2.2.2.1.ty),row lv 161 1 (z.2.2.2.2).length (rows bS ((z.2.2.2.2).map Prod.fst)),aB (aF pj (z.2.2.2.2)),aB (sl bF C.1 (de T)),aB (sl bF D.1 (db T)),aB tz]) (λu z=>z.1.oneCell'=true∧Yg T nf n XH (jB (hC T) (p0.mu [(a0,y)]) p0 [(a0,y)]) z.2.1 z.2.2.1 z.2.2.2.1 z.2.2.2.2) (λu z=>z.2.2.2.1.mu z.2.1) () ((.slice (some ⟨b20,0,none⟩) 1 1),[(a0,y)],P0,p0,YQ) (aD.cons 0 rfl aD.nil) ⟨rfl,hpl,λx hx=>by rw[bO.1 hx];exact⟨ha0,hb0⟩,huf,Uh,hlw,rfl,hmu⟩ ?_;rintro u ⟨wz,W,P1,p,ls⟩ ⟨hwz,e⟩
 dsimp only at hwz e⊢
 have hWl:=e.mu
 unfold Pl.mu at hWl
 have hRl:=e.pl.lr
 have hTl:=e.pl.lt
 have hLl:=e.pl.ll
 have hll:ls.length=n:=by rw[←hLl,←e.YR,aN]
 have anL:W.reverse.length=W.length:=C0
 refine g8 ?_;refine St.cq (λh23=> ?_) (λh23=> ?_)
 ·obtain⟨x,w,rfl⟩:∃x w,W=x::w:=by cases W with|nil=>(rw[List.reverse_nil]at h23;exact absurd h23 (by simp))|cons x w=>exact⟨x,w,rfl⟩
  rw[List.reverse_cons]
  have hrv:(w.reverse++ [x]).length=w.length+1:=by rw[bN,C0];rfl
  have Nr:w.reverse.length=w.length:=C0
  have an8:(x::w).length=w.length+1:=rfl
  have hx:=e.wk.rt
  obtain⟨⟨hx1,SV⟩,hx3,hx4⟩:=e.wk x (by simp);refine St.l8 wz (by omega) (λbs cs acZ=> ?_);obtain⟨rk,B,hUF⟩:=e.uf
  obtain⟨xa,YN⟩:∃xa,xa=x.1.toNat:=⟨_,rfl⟩
  obtain⟨xb,hxb⟩:∃xb,xb=x.2.toNat:=⟨_,rfl⟩
  rw[←YN,←hxb]at hx
  have hea:x.1=(xa:Int):=by omega
  have heb:x.2=(xb:Int):=by omega
  refine g4 ?_;refine St.da [aW H (.cells [C.1,D.1,pv,tv,lv].toArray 245 (0,0)),row pv 3 1 p.ro.length (rows aI (cW P1))] mixed (λnp ns=> ?_);refine SW.gd 0 ?_;refine SW.gd 1 ?_;refine SW.gd 2 ?_;refine SW.gd 3 ?_;refine SW.gd 4 ?_;refine SW.dd 5 rfl (λ_=>Ev.dX (k:=w.length) (.mk rfl) (.mk rfl) wV Bi (by omega) (by omega)) ?_;refine SW.dd 6 rfl (λ_=>Ev.xV (j:=0) acZ (.mk rfl) (.mk rfl) underlying270 dL rfl (by decide)) ?_;refine SW.dd 7 rfl (λ_=>Ev.ct (.mk rfl) gG trivial (by omega) (zP Lx (j:=0) Nr (by decide))) ?_;refine SW.slot 31 (iv (xa:Nat)) rfl (congrArg iv hea) ?_;refine SW.gd 9 ?_;refine SW.gd 10 ?_;refine SW.gd 11 ?_;refine SW.gd 12 ?_;refine SW.gd 13 ?_;refine SW.dd 14 rfl (λ_=>Ev.dX (k:=w.length) (.mk rfl) (.mk rfl) wV Bi (by omega) (by omega)) ?_;refine SW.dd 15 rfl (λ_=>Ev.xV (j:=1) acZ (.mk rfl) (.mk rfl) underlying270 dL rfl (by decide)) ?_;refine SW.dd 16 rfl (λ_=>Ev.ct (.mk rfl) gG trivial (by omega) (zP Lx (j:=1) Nr (by decide))) ?_;refine SW.slot 40 (iv (xb:Nat)) rfl (congrArg iv heb) ?_;refine SW.t1 8 ?_;refine St.call (find_spec H C D pv tv lv rk B p.ro (by omega) P1 hUF xa (by omega)) E6 (.aY rfl rfl) rfl ?_;rintro v32 _ ⟨P2,rfl,hP2,rfl⟩;refine St.dQ ?_;refine g2 ?_;refine SW.go ?_;refine SW.t1 17 ?_;refine St.call (find_spec H C D pv tv lv rk B p.ro (by omega) P2 hP2 xb (by omega)) E6 (.aY rfl rfl) rfl ?_;rintro v41 _ ⟨P3,rfl,hP3,rfl⟩;refine St.dQ ?_;refine g2 ?_;refine SW.go ?_;refine SW.gd 18 ?_;refine SW.gd 19 ?_;refine SW.dn ?_;refine g2 ?_
  obtain⟨a,hA⟩:∃a,a=p.ro.getD xa 0:=⟨_,rfl⟩
  obtain⟨b,hB⟩:∃b,b=p.ro.getD xb 0:=⟨_,rfl⟩
  rw[←hA,←hB]
  have I:p.rt x.1.toNat=a:=by rw[←YN];exact hA.symm
  have J:p.rt x.2.toNat=b:=by rw[←hxb];exact hB.symm
  have ha:a<n:=by rw[←I];exact e.pl.AB _ (by omega)
  have hb:b<n:=by rw[←J];exact e.pl.AB _ (by omega)
  have Wb:p.rt a=a:=by rw[←I];exact e.pl.V5 _ (by omega)
  have hrb:p.rt b=b:=by rw[←J];exact e.pl.V5 _ (by omega)
  have hww:CH n w:=λz hz=>e.wk z (by simp[hz])
  refine g5 ?_;refine St.ee (Ev.pG (h:=w.length) (.mk rfl) (.mk rfl) wV Bi (by omega) (by omega)) ?_;refine St.DH wz w.length (by omega) ?_;refine St.aM (pH wz 2 0 w.length) Nr.symm (show(rows Lx (w.reverse++ [x])).take (w.length*2)=rows Lx w.reverse by rw[←Nr];exact uE Lx _ _) ?_;refine St.bZ (pH wz 2 0 w.length) (λabW _=> ?_);refine g11 ?_;refine St.cq (λh49=> ?_) (λh49=> ?_)
  ·have acX:p.rt x.1.toNat=p.rt x.2.toNat:=by omega
   refine g4 ?_;refine St.nC () (pH wz 2 0 w.length,w,P3,p,ls) ⟨abW,e.pl,hww,⟨rk,B,hP3⟩,e.YR,e.lw,by rw[←e.eq,L0 acX],dY (show p.mu w≤p.mu (x::w) by unfold Pl.mu;rw[fA];omega) e.mu⟩ (by dsimp only;unfold Pl.mu;rw[fA];omega) (by repeat(first|exact Sub.nil|refine Sub.cons (by first|rfl|exact congrArg (λz=>some (iv z)) (by first|omega|(dsimp only;omega))|exact congrArg (λz=>some (Value.bool z)) (by first|assumption|exact j5 (by assumption))) ?_)) (λ_ hw=>hw.sub)
  ·have hne:p.rt x.1.toNat≠p.rt x.2.toNat:=by omega
   have hab:a≠b:=by omega
   obtain⟨ta,hta⟩:∃ta:Nat,p.tt a=(ta:Int):=⟨(p.tt a).toNat,by have:=(e.pl.tt ha).1;omega⟩
   obtain⟨tb,htb⟩:∃tb:Nat,p.tt b=(tb:Int):=⟨(p.tt b).toNat,by have:=(e.pl.tt hb).1;omega⟩
   have anP:=(e.pl.tt ha).2
   have anQ:=(e.pl.tt hb).2
   refine g3 ?_;refine St.da [] mixed (λnp ns=> ?_);refine SW.gd 0 ?_;refine SW.gd 1 ?_;refine SW.gd 2 ?_;refine SW.dd 3 rfl (λ_=>Ev.iV 2 (.mk rfl) wT trivial wQ rfl rfl) ?_;refine SW.slot 54 (kC C D) rfl rfl ?_;refine SW.gd 4 ?_;refine SW.gd 5 ?_;refine SW.gd 6 ?_;refine SW.gd 7 ?_;refine SW.gd 8 ?_;refine SW.gd 9 ?_;refine SW.dd 10 rfl (λ_=>Ev.ct (.mk rfl) gG trivial (by omega) (gU (Pv (by omega)))) ?_;refine SW.slot 61 (iv (ta:Nat)) rfl (congrArg iv hta) ?_;refine SW.gd 11 ?_;refine SW.gd 12 ?_;refine SW.gd 13 ?_;refine SW.gd 14 ?_;refine SW.gd 15 ?_;refine SW.gd 16 ?_;refine SW.dd 17 rfl (λ_=>Ev.ct (.mk rfl) gG trivial (by omega) (gU (Pv (by omega)))) ?_;refine SW.slot 68 (iv (tb:Nat)) rfl (congrArg iv htb) ?_;refine SW.dd 18 rfl (λ_=>Ev.call ((xz C D T hT ta tb (by omega) (by omega)).mono λ_ _ h=>h.1) Vw (.eh rfl rfl rfl)) ?_;refine SW.gd 19 ?_;refine SW.gd 20 ?_;refine SW.gd 21 ?_;refine SW.gd 22 ?_;refine SW.gd 23 ?_;refine SW.gd 24 ?_;refine SW.gd 25 ?_;refine SW.dn ?_;refine g8 ?_;refine St.cq (λh74=> ?_) (λh74=> ?_)
   ·have hm:hC T (p.tt (p.rt x.1.toNat)).toNat (p.tt (p.rt x.2.toNat)).toNat=none:=by rw[I,J,hta,htb];simpa using h74
    have WW:=J5 (w:=w) hne hm
    rw[e.eq]at WW;refine g11 ?_;refine St.rV [_] [aW H (.cells [C.1,D.1,pv,tv,lv].toArray 245 (0,0)),row pv 3 1 p.ro.length (rows aI (cW (P3))),row tv 3 1 p.ty.length (rows aI p.ty),row lv 161 1 (ls).length (rows bS ((ls).map Prod.fst)),aB (aF pj (ls))] ?_;exact⟨false,P3,p,ls,rfl,λ_=>WW,λh=>(by cases h),rfl⟩
   ·obtain⟨m,Nf⟩:=Option.isSome_iff_exists.1 (show(hC T ta tb).isSome=true from by simpa using h74)
    have hm:hC T (p.tt (p.rt x.1.toNat)).toNat (p.tt (p.rt x.2.toNat)).toNat=some m:=by rw[I,J,hta,htb];exact Nf
    have hmT:=zB T _ _ _ Nf
    have Ks:=Nw (nt:=T.length) (nf:=nf) (n:=n) e.pl (w:=w) ⟨by omega,by omega⟩ hne hm
    rw[I,J]at Ks;refine St.slot 10 (iv (m:Nat)) rfl (by rw[Nf];rfl) ?_;refine g11 ?_;refine St.cG (.mk rfl) (.mk rfl) dL rfl (by omega) (by decide) ?_;refine St.aM pv rfl (show _=rows aI (cW (P3.set b a)) by rw[jA,cW,cW,jk]) ?_;refine g11 ?_;refine St.cG (.mk rfl) (.mk rfl) dL rfl (by omega) (by decide) ?_;refine St.aM tv rfl (jA p.ty a (m:Int)) ?_;refine g3 ?_;obtain⟨M,N⟩:=aE (show a<ls.length by omega);obtain⟨O,P⟩:=aE (show b<ls.length by omega);refine St.cI pj ls (x:=M) (ae N) ?_;refine St.eY (sl au M.1.1 M.2) [pj M] (λρ h=>h _ (aP ..)) ?_;refine St.cI pj ls (x:=O) (ae P) ?_;refine St.eY (sl au O.1.1 O.2) [pj O] (λρ h=>h _ (aP ..)) ?_
    have hla:p.ll a=M.2.map fR:=HI e.YR N
    have hlb:p.ll b=O.2.map fR:=HI e.YR P
    have hsa:(p.ll a).length≤p.left:=by have h1:=oS (f:=λi=>if p.rt i=i then(p.ll i).length else 0) (show a<p.ro.length by omega);rw[aC Wb]at h1;exact h1
    have hsb:(p.ll b).length≤p.left:=by have h1:=oS (f:=λi=>if p.rt i=i then(p.ll i).length else 0) (show b<p.ro.length by omega);rw[aC hrb]at h1;exact h1
    rw[hla,aN]at hsa;rw[hlb,aN]at hsb;refine g5 ?_;refine St.da [] mixed (λnp ns=> ?_);refine SW.gd 0 ?_;refine SW.gd 1 ?_;refine SW.gd 2 ?_;refine SW.gd 3 ?_;refine SW.gd 4 ?_;refine SW.gd 5 ?_;refine SW.dd 6 rfl (λ_=>Ev.ct (.mk rfl) eV trivial (by omega) (r7 (show(ls.map Prod.fst)[a]?=some M.1 by rw[bQ,N];rfl))) ?_;refine SW.gd 7 ?_;refine SW.gd 8 ?_;refine SW.gd 9 ?_;refine SW.gd 10 ?_;refine SW.gd 11 ?_;refine SW.gd 12 ?_;refine SW.dd 13 rfl (λ_=>Ev.ct (.mk rfl) eV trivial (by omega) (r7 (show(ls.map Prod.fst)[b]?=some O.1 by rw[bQ,P];rfl))) ?_;refine SW.gd 14 ?_;refine SW.gd 15 ?_;refine SW.dn ?_;refine g3 ?_;refine St.e9 165 2 ?_;refine St.aM (.slice none 0 0) (show _=([]:List dw).length from rfl) (show _=rows au []from rfl) ?_;refine St.aM (pH wz 2 0 w.length) (show _=(w.reverse++([]:List (Int×Int))).length by rw[gq]) (show _=rows Lx (w.reverse++ []) by rw[gq]) ?_;refine St.te (ι:=Unit) (κ:=Value×List dw×Value×List dw×Value×List dw×Value×List (Int×Int)) (λu2 z T=>(13,z.1)::(14,z.2.2.1)::(15,z.2.2.2.2.1)::(7,z.2.2.2.2.2.2.1)::T) (λu2 z=>[row z.1 165 2 (z.2.1).length (rows au (z.2.1)),row z.2.2.2.2.2.2.1 270 2 (w.reverse++z.2.2.2.2.2.2.2).length (rows Lx (w.reverse++z.2.2.2.2.2.2.2)),aW H (.cells [C.1,D.1,pv,tv,lv].toArray 245 (0,0)),row pv 3 1 p.ro.length (rows aI (cW (P3.set b a))),row tv 3 1 p.ty.length (rows aI (p.ty.set a (m:Int))),row lv 161 1 ls.length (rows bS (ls.map Prod.fst)),aB (aF pj ls),aB (sl au z.2.2.1 z.2.2.2.1),aB (sl au z.2.2.2.2.1 z.2.2.2.2.2.1),aB (sl bF C.1 (de T)),aB (sl bF D.1 (db T)),aB tz]) (λu2 z=>(z.1.oneCell'=true∧z.2.2.2.2.2.2.1.oneCell'=true)∧Dg (p.ll a) (p.ll b) (z.2.1.map fR) (z.2.2.2.1.map fR) (z.2.2.2.2.2.1.map fR) z.2.2.2.2.2.2.2∧((∀x∈z.2.1,au.wf x)∧(∀x∈z.2.2.2.1,au.wf x)∧∀x∈z.2.2.2.2.2.1,au.wf x)∧z.2.1.length+z.2.2.2.1.length+z.2.2.2.2.2.1.length≤2000000∧z.2.2.2.2.2.2.2.length+z.2.2.2.1.length≤1000000) (λu2 z=>z.2.2.2.1.length+z.2.2.2.2.2.1.length) () ((.slice none 0 0),[],M.1.1,M.2,O.1.1,O.2,pH wz 2 0 w.length,[]) (aD.cons 0 rfl (aD.cons 8 rfl aD.nil)) ⟨⟨rfl,abW⟩,by rw[hla,hlb];exact Dg.start _ _,⟨λx hx=>(by cases hx),e.lw _ (ae N),e.lw _ (ae P)⟩,by show 0+M.2.length+O.2.length≤_;omega,by show 0+M.2.length≤_;omega⟩ ?_;rintro u2 ⟨Q,L,xv,X,t,Y,vz,V⟩ ⟨⟨hz,R⟩,hM,⟨E,A,F⟩,Iz,Di⟩
    dsimp only at hz R hM E A F Iz Di⊢
    have an2:(w.reverse++V).length=w.length+V.length:=by rw[bN,C0]
    refine g7 ?_;refine St.gt _ rfl rfl (λhg=>Ev.move (.mk rfl)) rfl ?_;refine St.gt _ rfl rfl (λhg=>Ev.fj (ai.gv rfl hg) eV) rfl ?_;refine St.gt _ rfl rfl (λhg=>Ev.gtr (ai.gv rfl hg) (.mk rfl)) rfl ?_;refine g3 ?_;refine St.cq (λS5=> ?_) (λS5=> ?_)
    ·obtain⟨d,o,rfl⟩:∃d o,X=d::o:=by cases X with|nil=>exact absurd S5.1 (by simp)|cons a b=>exact⟨a,b,rfl⟩
     obtain⟨g,s,rfl⟩:∃g s,Y=g::s:=by cases Y with|nil=>exact absurd S5.2 (by simp)|cons a b=>exact⟨a,b,rfl⟩
     rw[fA]at Iz Di;rw[fA]at Iz;refine g4 ?_;refine St.da [] mixed (λnp ns=> ?_);refine SW.gd 0 ?_;refine SW.dd 1 rfl (λ_=>Ev.cL (k:=0) (.mk rfl) (.mk rfl) eV dh (by omega) (by simp)) ?_;refine SW.gd 2 ?_;refine SW.dd 3 rfl (λ_=>Ev.ld1 (.mk rfl) (show(d::o)[0]?=some d from rfl) gG trivial rfl) ?_;refine SW.gd 4 ?_;refine SW.dd 5 rfl (λ_=>Ev.cL (k:=0) (.mk rfl) (.mk rfl) eV dh (by omega) (by simp)) ?_;refine SW.gd 6 ?_;refine SW.dd 7 rfl (λ_=>Ev.ld1 (.mk rfl) (show(g::s)[0]?=some g from rfl) gG trivial rfl) ?_;refine SW.dd 8 rfl (λ_=>Ev.call (ea d.dF g.dF) qE (.aY rfl rfl)) ?_;refine SW.gd 9 ?_;refine SW.dn ?_;refine g9 ?_;refine St.cq (λaaG=> ?_) (λaaG=> ?_)
     ·have YI:=Rb aaG
      have K:=Dg.lt (a:=fR d) (b:=fR g) hM YI
      refine g4 ?_;refine St.ee (Ev.cL (k:=0) (.mk rfl) (.mk rfl) eV dh (by omega) (by simp)) ?_;refine St.ee (Ev.jr (.mk rfl) (show(d::o)[0]?=some d from rfl) lB trivial dh j7.eq) ?_;refine St.slot 148 (.agg #[iv d.dF,iv d.tqo]) rfl rfl ?_;refine St.fp rfl (.ar rfl) eV dh kI rfl rfl (by simp[Value.cells]) rfl rfl (λamW=> ?_);refine St.aj (.mk rfl) (.mk rfl) eV dh kI qC (by simp[Value.oneCell',Value.cells]) (by omega) (by omega) rfl rfl rfl rfl (λQE amN=> ?_);refine St.aM QE (show _=(L++ [d]).length from cR) (show _=rows au (L++ [d]) by rw[ax];rfl) ?_;refine St.bZ QE (λWJ _=> ?_);refine g5 ?_;refine St.ee (Ev.rB (l:=1) (.mk rfl) (.mk rfl) eV dh rfl (by simp)) ?_;refine St.part (Rr:=au) (xs:=(d::o)) xv 1 ((d::o)).length (by simp) (aR _) ?_;refine St.eY (sl au (pH xv au.size 1 ((d::o)).length) o) [sl au (pH xv au.size 1 ((d::o)).length) ((((d::o)).drop 1).take (((d::o)).length-1))] (λρ h=>by have:=h _ (aP ..);rwa[show(((d::o)).drop 1).take (((d::o)).length-1)=o from fF (aR _)]at this) ?_;refine g5 ?_;refine St.nC () (QE,L++ [d],pH xv au.size 1 (d::o).length,o,t,g::s,vz,V) ⟨⟨WJ,R⟩,by rw[cO];exact K,⟨λu hu=>by rcases cD.1 hu with h|h;exact E u h;rw[bO.1 h];exact A d (by simp),λu hu=>A u (by simp[hu]),F⟩,by dsimp only;rw[bN,fA];simp only[List.length_cons,List.length_nil];omega,by dsimp only;omega⟩ (by dsimp only;simp only[List.length_cons];omega) (by repeat(first|exact Sub.nil|refine Sub.cons (by first|rfl|exact congrArg (λz=>some (iv z)) (by first|omega|(dsimp only;omega))|exact congrArg (λz=>some (Value.bool z)) (by first|assumption|exact j5 (by assumption))) ?_)) (λ_ hw=>hw.sub)
     ·refine g7 ?_
      refine St.cq (λaaI=> ?_) (λaaI=> ?_)
      ·have l3:=Ra aaI
       have K:=Dg.gt (a:=fR d) (b:=fR g) hM l3
       refine g4 ?_;refine St.ee (Ev.cL (k:=0) (.mk rfl) (.mk rfl) eV dh (by omega) (by simp)) ?_;refine St.ee (Ev.jr (.mk rfl) (show(g::s)[0]?=some g from rfl) lB trivial dh j7.eq) ?_;refine St.slot 159 (.agg #[iv g.dF,iv g.tqo]) rfl rfl ?_;refine St.fp rfl (.ar rfl) eV dh kI rfl rfl (by simp[Value.cells]) rfl rfl (λYv=> ?_);refine St.aj (.mk rfl) (.mk rfl) eV dh kI qC (by simp[Value.oneCell',Value.cells]) (by omega) (by omega) rfl rfl rfl rfl (λTn amO=> ?_);refine St.aM Tn (show _=(L++ [g]).length from cR) (show _=rows au (L++ [g]) by rw[ax];rfl) ?_;refine St.bZ Tn (λah4 _=> ?_);refine g5 ?_;refine St.ee (Ev.rB (l:=1) (.mk rfl) (.mk rfl) eV dh rfl (by simp)) ?_;refine St.part (Rr:=au) (xs:=(g::s)) t 1 ((g::s)).length (by simp) (aR _) ?_;refine St.eY (sl au (pH t au.size 1 ((g::s)).length) s) [sl au (pH t au.size 1 ((g::s)).length) ((((g::s)).drop 1).take (((g::s)).length-1))] (λρ h=>by have:=h _ (aP ..);rwa[show(((g::s)).drop 1).take (((g::s)).length-1)=s from fF (aR _)]at this) ?_;refine g5 ?_;refine St.nC () (Tn,L++ [g],xv,d::o,pH t au.size 1 (g::s).length,s,vz,V) ⟨⟨ah4,R⟩,by rw[cO];exact K,⟨λu hu=>by rcases cD.1 hu with h|h;exact E u h;rw[bO.1 h];exact F g (by simp),A,λu hu=>F u (by simp[hu])⟩,by dsimp only;rw[bN,fA];simp only[List.length_cons,List.length_nil];omega,by dsimp only;rw[fA];omega⟩ (by dsimp only;simp only[List.length_cons];omega) (by repeat(first|exact Sub.nil|refine Sub.cons (by first|rfl|exact congrArg (λz=>some (iv z)) (by first|omega|(dsimp only;omega))|exact congrArg (λz=>some (Value.bool z)) (by first|assumption|exact j5 (by assumption))) ?_)) (λ_ hw=>hw.sub)
      ·have heq:=RZ (by omega) (by omega:¬0<oC d.dF g.dF)
       have K:=Dg.eq (a:=fR d) (b:=fR g) hM heq
       refine g4 ?_;refine St.ee (Ev.cL (k:=0) (.mk rfl) (.mk rfl) eV dh (by omega) (by simp)) ?_;refine St.ee (Ev.jr (.mk rfl) (show(d::o)[0]?=some d from rfl) lB trivial dh j7.eq) ?_;refine St.slot 123 (.agg #[iv d.dF,iv d.tqo]) rfl rfl ?_;refine St.fp rfl (.ar rfl) eV dh kI rfl rfl (by simp[Value.cells]) rfl rfl (λYt=> ?_);refine St.aj (.mk rfl) (.mk rfl) eV dh kI qC (by simp[Value.oneCell',Value.cells]) (by omega) (by omega) rfl rfl rfl rfl (λXw amL=> ?_);refine St.aM Xw (show _=(L++ [d]).length from cR) (show _=rows au (L++ [d]) by rw[ax];rfl) ?_;refine St.bZ Xw (λah1 _=> ?_);refine g4 ?_;refine St.da [row vz 270 2 (w.reverse++V).length (rows Lx (w.reverse++V))] mixed (λnp ns=> ?_);refine SW.gd 0 ?_;refine SW.gd 1 ?_;refine SW.dd 2 rfl (λ_=>Ev.cL (k:=0) (.mk rfl) (.mk rfl) eV dh (by omega) (by simp)) ?_;refine SW.gd 3 ?_;refine SW.dd 4 rfl (λ_=>Ev.ld1 (.mk rfl) (show(d::o)[0]?=some d from rfl) gG trivial rfl) ?_;refine SW.gd 5 ?_;refine SW.dd 6 rfl (λ_=>Ev.cL (k:=0) (.mk rfl) (.mk rfl) eV dh (by omega) (by simp)) ?_;refine SW.gd 7 ?_;refine SW.dd 8 rfl (λ_=>Ev.ld1 (.mk rfl) (show(g::s)[0]?=some g from rfl) gG trivial rfl) ?_;refine SW.dd 9 rfl (λ_=>Ev.build (ps:=[(0,(.tmp 130)),(1,(.tmp 134))]) (bH.aY rfl rfl) (λw=>yO rfl rfl w)) ?_;refine SW.t1 10 ?_;refine St.fp rfl (.ar rfl) wV Bi QY rfl rfl (by simp[Value.cells]) rfl rfl (λamV=> ?_);refine g2 ?_;refine SW.go ?_;refine SW.t1 11 ?_;refine St.aj (.mk rfl) (.mk rfl) wV Bi QY ZB (by simp[Value.oneCell',Value.cells]) (by omega) (by omega) rfl rfl rfl rfl (λXx amM=> ?_);refine St.aM Xx (show _=(w.reverse++(V++ [(d.tqo,g.tqo)])).length by rw[←dp];exact cR) (show _=rows Lx (w.reverse++(V++ [(d.tqo,g.tqo)])) by rw[←dp,ax];rfl) ?_;refine St.bZ Xx (λNR _=> ?_);refine g2 ?_;refine SW.go ?_;refine SW.gd 12 ?_;refine SW.dn ?_;refine go ?_;refine St.da [] mixed (λnp ns=> ?_);refine SW.gd 0 ?_;refine SW.dd 1 rfl (λ_=>Ev.rB (l:=1) (.mk rfl) (.mk rfl) eV dh rfl (by simp)) ?_;refine SW.gd 2 ?_;refine SW.dd 3 rfl (λ_=>Ev.rB (l:=1) (.mk rfl) (.mk rfl) eV dh rfl (by simp)) ?_;refine SW.gd 4 ?_;refine SW.gd 5 ?_;refine SW.dn ?_;refine g3 ?_;refine St.part (Rr:=au) (xs:=(d::o)) xv 1 ((d::o)).length (by simp) (aR _) ?_;refine St.eY (sl au (pH xv au.size 1 ((d::o)).length) o) [sl au (pH xv au.size 1 ((d::o)).length) ((((d::o)).drop 1).take (((d::o)).length-1))] (λρ h=>by have:=h _ (aP ..);rwa[show(((d::o)).drop 1).take (((d::o)).length-1)=o from fF (aR _)]at this) ?_;refine St.part (Rr:=au) (xs:=(g::s)) t 1 ((g::s)).length (by simp) (aR _) ?_;refine St.eY (sl au (pH t au.size 1 ((g::s)).length) s) [sl au (pH t au.size 1 ((g::s)).length) ((((g::s)).drop 1).take (((g::s)).length-1))] (λρ h=>by have:=h _ (aP ..);rwa[show(((g::s)).drop 1).take (((g::s)).length-1)=s from fF (aR _)]at this) ?_;refine St.nC () (Xw,L++ [d],pH xv au.size 1 (d::o).length,o,pH t au.size 1 (g::s).length,s,Xx,V++ [(d.tqo,g.tqo)]) ⟨⟨ah1,NR⟩,by rw[cO];exact K,⟨λu hu=>by rcases cD.1 hu with h|h;exact E u h;rw[bO.1 h];exact A d (by simp),λu hu=>A u (by simp[hu]),λu hu=>F u (by simp[hu])⟩,by dsimp only;rw[bN];simp only[List.length_cons,List.length_nil];omega,by dsimp only;rw[bN];simp only[List.length_cons,List.length_nil];omega⟩ (by dsimp only;simp only[List.length_cons];omega) (by repeat(first|exact Sub.nil|refine Sub.cons (by first|rfl|exact congrArg (λz=>some (iv z)) (by first|omega|(dsimp only;omega))|exact congrArg (λz=>some (Value.bool z)) (by first|assumption|exact j5 (by assumption))) ?_)) (λ_ hw=>hw.sub)
    ·have hem:X=[]∨Y=[]:=by rcases S5 with h|h;exact .inl (lD (by omega));exact .inr (lD (by omega))
     obtain⟨hf1,S⟩:=hM.fin (by rcases hem with rfl|rfl;exact .inl rfl;exact .inr rfl);refine St.bR Q au L rfl rfl E ?_;refine St.V6 xv (λU=> ?_);refine St.V6 t (λZ=> ?_)
     obtain⟨G,SC⟩:∃G,G=L++(X++Y):=⟨_,rfl⟩
     have ajM:G.map fR=Af (p.ll a) (p.ll b):=by rw[SC,cO,cO];exact hf1
     have abY:∀x∈G,au.wf x:=λx hx=>by rw[SC]at hx;rcases cD.1 hx with hx|hx;exact E x hx;rcases cD.1 hx with hx|hx;exact A x hx;exact F x hx
     have ajN:(([((⟨Q,hz⟩:aV),L),((⟨xv,U⟩:aV),X),((⟨t,Z⟩:aV),Y)]).map Prod.snd).flatten=G:=by rw[SC];simp
     refine St.eY (aF pj [((⟨Q,hz⟩:aV),L),((⟨xv,U⟩:aV),X),((⟨t,Z⟩:aV),Y)]) [sl au Q L,sl au xv X,sl au t Y] (λρ h x hx=>by simp only[List.mem_cons,List.not_mem_nil,or_false]at hx;rcases hx with rfl|rfl|rfl;exact h _ (aP ..);exact h _ (cN _ (aP ..));exact h _ (cN _ (cN _ (aP ..)))) ?_;refine St.l8 lv (by omega) (λbs2 cs2 akB=> ?_);refine g5 ?_;refine St.da [row lv 161 1 ls.length (rows bS (ls.map Prod.fst)),aB (aF pj [((⟨Q,hz⟩:aV),L),((⟨xv,U⟩:aV),X),((⟨t,Z⟩:aV),Y)])] mixed (λnp ns=> ?_);refine SW.gd 0 ?_;refine SW.gd 1 ?_;refine SW.gd 2 ?_;refine SW.gd 3 ?_;refine SW.gd 4 ?_;refine SW.gd 5 ?_;refine SW.gd 6 ?_;refine SW.gd 7 ?_;refine SW.t1 8 ?_;refine St.fp rfl (.eh rfl rfl rfl) Bp pX QX rfl rfl (λu hu=>by simp only[List.mem_cons,List.not_mem_nil,or_false]at hu;rcases hu with rfl|rfl|rfl;rw[cells_one hz];rfl;rw[cells_one U];rfl;rw[cells_one Z];rfl) rfl rfl (λMM=> ?_);refine St.aM (.slice (some ⟨MM,0,none⟩) 3 3) (show _=([((⟨Q,hz⟩:aV),L),((⟨xv,U⟩:aV),X),((⟨t,Z⟩:aV),Y)].map Prod.fst).length from rfl) (show _=rows bS ([((⟨Q,hz⟩:aV),L),((⟨xv,U⟩:aV),X),((⟨t,Z⟩:aV),Y)].map Prod.fst) by simp only[List.flatMap_cons,List.flatMap_nil,cells_one hz,cells_one U,cells_one Z];rfl) ?_;refine St.bR (.slice (some ⟨MM,0,none⟩) 3 3) bS ([((⟨Q,hz⟩:aV),L),((⟨xv,U⟩:aV),X),((⟨t,Z⟩:aV),Y)].map Prod.fst) rfl rfl (λ_ _=>trivial) ?_;refine g2 ?_;refine SW.go ?_;refine SW.t1 9 ?_;refine St.ag (ED (.slice (some ⟨MM,0,none⟩) 3 3) [((⟨Q,hz⟩:aV),L),((⟨xv,U⟩:aV),X),((⟨t,Z⟩:aV),Y)] (by simp) (λq hq=>by simp only[List.mem_cons,List.not_mem_nil,or_false]at hq;rcases hq with rfl|rfl|rfl<;>dsimp only<;>omega)) ZZ (.ar rfl) rfl ?_;rintro v173 _ ⟨Gw,rfl⟩;refine St.ao ?_;rw[ajN];refine St.bR v173 au G rfl rfl abY ?_;refine g2 ?_;refine SW.go ?_;refine SW.dd 10 rfl (λ_=>Ev.mo (k:=a) akB (.mk rfl) (.mk rfl) Bp pX (by omega) (by omega)) ?_;refine SW.t1 11 ?_;refine St.cG (.mk rfl) (.mk rfl) pX Gw (by omega) (by decide) ?_;refine g2 ?_;refine SW.go ?_;refine SW.dn ?_;refine g2 ?_
     have amD:=e.pl.left (m:=m) ha hb Wb hrb hab
     have hJ2:Yg T nf n XH (jB (hC T) (p0.mu [(a0,y)]) p0 [(a0,y)]) (V.reverse++w) (P3.set b a) (p.put a b m) (ls.set a (⟨v173,Gw⟩,G)):=⟨e.pl.put ha hb Wb hmT hab,by rw[S];exact hww.put e.pl ha hb,hP3.put (by omega) (by omega) Wb hrb hab,by rw[jk,e.YR];show p.lk.set a (G.map fR)=_;rw[ajM];rfl,λq hq=>by rcases lF hq with hq|rfl;exact e.lw q hq;exact abY,by rw[S,←Ks,e.eq],by have h0:=e.mu;have h1:p.mu (x::w)=p.left+(w.length+1)+1:=rfl;show(p.put a b m).left+(V.reverse++w).length+1≤XH;rw[bN,C0,S];omega⟩
     refine St.aM vz (show _=((V.reverse++w).reverse).length by rw[List.reverse_append,List.reverse_reverse]) (show _=rows Lx ((V.reverse++w).reverse) by rw[List.reverse_append,List.reverse_reverse]) ?_;refine St.aM pv (show _=(p.put a b m).ro.length by simp[Pl.put]) rfl ?_;refine St.aM tv (show _=(p.put a b m).ty.length by simp[Pl.put]) (show _=rows aI (p.put a b m).ty from rfl) ?_;refine St.aM lv (show _=(ls.set a (⟨v173,Gw⟩,G)).length by rw[cn]) (show _=rows bS ((ls.set a (⟨v173,Gw⟩,G)).map Prod.fst) by rw[jk];exact zQ _ _ ⟨v173,Gw⟩) ?_;refine St.eY (aF pj (ls.set a (⟨v173,Gw⟩,G))) [aF pj ls,sl au v173 G] (λρ h x hx=>by rcases lF hx with hx|rfl;exact h _ (aP ..) x hx;exact h _ (cN _ (aP ..))) ?_;refine St.nC () (vz,V.reverse++w,P3.set b a,p.put a b m,ls.set a (⟨v173,Gw⟩,G)) ⟨R,hJ2⟩ (by dsimp only;unfold Pl.mu;rw[bN,C0,fA,S];omega) (by repeat(first|exact Sub.nil|refine Sub.cons (by first|rfl|exact congrArg (λz=>some (iv z)) (by first|omega|(dsimp only;omega))|exact congrArg (λz=>some (Value.bool z)) (by first|assumption|exact j5 (by assumption))) ?_)) (λ_ hw=>hw.sub)
 ·obtain rfl:W=[]:=lD (by omega)
  have Km:=e.eq
  rw[Kz]at Km;refine g11 ?_;refine St.rV [_] [aW H (.cells [C.1,D.1,pv,tv,lv].toArray 245 (0,0)),row pv 3 1 p.ro.length (rows aI (cW (P1))),row tv 3 1 p.ty.length (rows aI p.ty),row lv 161 1 (ls).length (rows bS ((ls).map Prod.fst)),aB (aF pj (ls))] ?_;exact⟨true,P1,p,ls,rfl,λh=>(by cases h),λ_=>⟨Km.symm,e.pl,e.uf,e.YR,e.lw⟩,rfl⟩
end Go.Proofs.YtblifkgpebebmaaGreatDoor
