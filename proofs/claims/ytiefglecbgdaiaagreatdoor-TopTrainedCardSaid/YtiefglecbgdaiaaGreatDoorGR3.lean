/-
  Laws of walks through programs, and facts on grammars, trees and queries.
  Conditions: none.
-/
import Derived.Test.YtiefglecbgdaiaaGreatDoorGR2
set_option linter.unusedVariables false
set_option linter.unusedSimpArgs false
namespace Go.Proofs.YtiefglecbgdaiaaGreatDoor
open Go Go.J Tryz
structure eG (nt nf:Nat)(g:eB):Prop where
 pos:0<g.length
 nd:∀n∈g,(0≤n.1∧n.1<nt)∧sx n.2∧∀x∈n.2,(0≤x.1∧x.1<nf)∧0≤x.2∧x.2<g.length
theorem eG.at_ {nt nf:Nat}{g:eB}(h:eG nt nf g){i:Nat}(hi:i<g.length):(0≤(g.getD i gq).1∧(g.getD i gq).1<nt)∧sx (g.getD i gq).2∧∀x∈(g.getD i gq).2,(0≤x.1∧x.1<nf)∧0≤x.2∧x.2<g.length:=by
 refine h.nd _ ?_;rw[ax,bT hi];exact gl hi
theorem eG.lk {nt nf:Nat}{g:eB}(h:eG nt nf g):tu g:=⟨h.pos,λn a x hx=>by
 obtain⟨_,_,b⟩:=h.nd n a;obtain⟨c,d,e⟩:=b x hx
 exact⟨c.1,d,by omega⟩⟩
theorem DN (F:Int×Int→Int){l:lE}(h:sx l):sx (l.map λx=>(x.1,F x)):=by
 unfold sx at h⊢;rw[su];exact h
theorem Uz {n i:Nat}(h:i<n):(List.range n).getD i 0=i:=by
 rw[ax,nP h];rfl
theorem Pl.QD {nt nf:Nat}{x y:eB}(hx:eG nt nf x)(hy:eG nt nf y):mc nt nf (x.length+y.length) (Pl.of x y):=by
 refine⟨by simp[Pl.of],by simp[Pl.of],by simp[Pl.of],λi hi=> ?_,λi hi=> ?_,λt ht=> ?_,λl b=> ?_,λl b=> ?_⟩
 ·show(List.range _).getD i 0<_;rw[Uz hi];exact hi
 ·show(List.range _).getD ((List.range _).getD i 0) 0=(List.range _).getD i 0;rw[Uz hi,Uz hi]
 ·rcases ca.1 ht with h|h<;>obtain⟨n,a,rfl⟩:=cS.1 h
  ·exact(hx.nd n a).1
  ·exact(hy.nd n a).1
 ·rcases ca.1 b with h|h<;>obtain⟨n,a,rfl⟩:=cS.1 h<;>intro z hz
  ·obtain⟨h1,c,d⟩:=(hx.nd n a).2.2 z hz
   exact⟨h1,c,by omega⟩
  ·obtain⟨u,hu,rfl⟩:=cS.1 hz
   obtain⟨h1,c,d⟩:=(hy.nd n a).2.2 u hu;exact⟨h1,by dsimp only;omega,by dsimp only;omega⟩
 ·rcases ca.1 b with h|h<;>obtain⟨n,a,rfl⟩:=cS.1 h
  ·exact(hx.nd n a).2.1
  ·exact DN _ (hy.nd n a).2.1
def DE (n:Nat)(w:List (Int×Int)):Prop:=∀x∈w,(0≤x.1∧x.1<n)∧0≤x.2∧x.2<n
theorem DE.rt {n:Nat}{x:Int×Int}{w:List (Int×Int)}(h:DE n (x::w)):x.1.toNat<n∧x.2.toNat<n:=by
 obtain⟨h1,a⟩:=h x (by simp);exact⟨by omega,by omega⟩
theorem DE.put {nt nf n:Nat}{p:Pl}(hp:mc nt nf n p){a b:Nat}(c:a<n)(d:b<n){w:List (Int×Int)}(h:DE n w):DE n ((EH (p.ll a) (p.ll b)).reverse++w):=λz hz=>by
 rcases ca.1 hz with hz|hz
 ·obtain⟨⟨u,hu,e⟩,⟨v,f,e2⟩⟩:=Uf _ _ (List.mem_reverse.1 hz)
  have h1:=(hp.SR _ (hp.lm c) u hu).2
  have g:=(hp.SR _ (hp.lm d) v f).2
  exact⟨by rw[e];exact h1,by rw[e2];exact g⟩
 ·exact h z hz
def xW (nt:Nat)(mt:Nat→Nat→Option Nat):Prop:=∀a b m,mt a b=some m→m<nt
theorem MM {mt:Nat→Nat→Option Nat}{p:Pl}{x:Int×Int}{w:List (Int×Int)}(h:p.rt x.1.toNat=p.rt x.2.toNat):jT mt (p.mu (x::w)) p (x::w)=jT mt (p.mu w) p w:=by
 have e:p.mu (x::w)=p.mu w+1:=by unfold Pl.mu;simp only[List.length_cons];omega
 rw[e,jT,aB h]
theorem KV {mt:Nat→Nat→Option Nat}{p:Pl}{x:Int×Int}{w:List (Int×Int)}(h:p.rt x.1.toNat≠p.rt x.2.toNat)(hm:mt (p.tt (p.rt x.1.toNat)).toNat (p.tt (p.rt x.2.toNat)).toNat=none):jT mt (p.mu (x::w)) p (x::w)=none:=by
 have e:p.mu (x::w)=p.mu w+1:=by unfold Pl.mu;simp only[List.length_cons];omega
 rw[e,jT,aA h,hm]
theorem PQ {nt nf n:Nat}{mt:Nat→Nat→Option Nat}{p:Pl}(hp:mc nt nf n p){x:Int×Int}{w:List (Int×Int)}{m:Nat}(hx:x.1.toNat<n∧x.2.toNat<n)(h:p.rt x.1.toNat≠p.rt x.2.toNat)(hm:mt (p.tt (p.rt x.1.toNat)).toNat (p.tt (p.rt x.2.toNat)).toNat=some m):
 jT mt (p.mu (x::w)) p (x::w)=jT mt ((p.put (p.rt x.1.toNat) (p.rt x.2.toNat) m).mu ((EH (p.ll (p.rt x.1.toNat)) (p.ll (p.rt x.2.toNat))).reverse++w)) (p.put (p.rt x.1.toNat) (p.rt x.2.toNat) m) ((EH (p.ll (p.rt x.1.toNat)) (p.ll (p.rt x.2.toNat))).reverse++w):=by
 have a:=hp.left (m:=m) (hp.Ay _ hx.1) (hp.Ay _ hx.2) (hp.Wp _ hx.1) (hp.Wp _ hx.2) h
 have e:p.mu (x::w)=(p.put (p.rt x.1.toNat) (p.rt x.2.toNat) m).mu ((EH (p.ll (p.rt x.1.toNat)) (p.ll (p.rt x.2.toNat))).reverse++w)+1:=by
  unfold Pl.mu;simp only[List.length_cons,List.length_append,List.length_reverse];omega
 rw[e,jT,aA h,hm]
theorem ML {mt:Nat→Nat→Option Nat}{p:Pl}:jT mt (p.mu []) p []=some p:=by
 show jT mt (p.left+0+1) p []=_;rw[jT]
theorem E9 {nt nf n:Nat}{mt:Nat→Nat→Option Nat}(a:xW nt mt):∀(f:Nat) (p:Pl) (w:List (Int×Int)) (q:Pl),mc nt nf n p→DE n w→jT mt f p w=some q→mc nt nf n q∧∀i,i<n→∀k∈mN (p.ll (p.rt i)),k∈mN (q.ll (q.rt i))
 |0,_,_,_,_,_,h=>by cases h
 |f+1,p,[],q,hp,_,h=>by
  rw[jT]at h;obtain rfl:=Option.some.inj h;exact⟨hp,λ_ _ _ h=>h⟩
 |f+1,p,x::w,q,hp,hw,h=>by
  have hx:=hw.rt
  have d:DE n w:=λz hz=>hw z (by simp[hz])
  rw[jT]at h
  split at h
  ·exact E9 a f p w q hp d h
  ·rename_i j
   split at h
   ·cases h
   ·rename_i m hm
    have c:=hp.Ay _ hx.1
    have g:=hp.Ay _ hx.2
    have l:=hp.Wp _ hx.1
    have s:=hp.Wp _ hx.2
    have o:=hp.put (b:=p.rt x.2.toNat) c g l (a _ _ _ hm) j
    obtain⟨h1,r⟩:=E9 a f _ _ q o (d.put hp c g) h;refine⟨h1,λi hi k hk=>r i hi k ?_⟩;rw[Pl.J6 (by rw[hp.lr];exact hi),Pl.QQ (by rw[hp.ll];exact c)]
    by_cases e:p.rt i=p.rt x.2.toNat
    ·rw[aB e,aB rfl];rw[e]at hk;exact KM _ _ (.inr hk)
    ·rw[aA e]
     split
     ·rename_i e2;rw[e2]at hk;exact KM _ _ (.inl hk)
     ·exact hk
theorem uT (p:Pl):(qN p).length=p.ro.length:=by simp[qN]
theorem YA {p:Pl}{i:Nat}(h:i<p.ro.length):(qN p).getD i gq=(p.tt i,if p.rt i=i then(p.ll i).map (λl=>(l.1,(p.rt l.2.toNat:Int)))else []):=by
 unfold qN
 rw[ax,bJ,nP h];rfl
theorem Ov {nt nf n:Nat}{p:Pl}(hp:mc nt nf n p)(a:0<n):eG nt nf (qN p):=by
 refine⟨by rw[uT,hp.lr];exact a,λd hd=> ?_⟩;unfold qN at hd;obtain⟨i,hi,rfl⟩:=cS.1 hd;rw[dM,hp.lr]at hi;rw[uT,hp.lr];refine⟨hp.tt hi,?_,λx hx=> ?_⟩
 ·dsimp only;split
  ·exact DN _ (hp.Zv _ (hp.lm hi))
  ·exact List.Pairwise.nil
 ·dsimp only at hx
  split at hx
  ·obtain⟨u,hu,rfl⟩:=cS.1 hx
   obtain⟨h1,b,c⟩:=hp.SR _ (hp.lm hi) u hu
   have:=hp.Ay u.2.toNat zE
   exact⟨h1,by dsimp only;omega,by dsimp only;omega⟩
  ·cases hx
def N0 (n:Nat)(o:List Nat):Nat:=((List.range n).filter λj=>decide (j∉o)).length
theorem H4 {n:Nat}{o o':List Nat}(h:∀j∈o,j∈o'):N0 n o'≤N0 n o:=by
 unfold N0;rw[←LN,←LN]
 refine List.countP_mono_left λj _ a=> ?_
 rw[gD]at a⊢
 exact λb=>a (h j b)
theorem H5 {n:Nat}{o:List Nat}{i:Nat}(hi:i<n)(b:i∉o):N0 n (o++ [i])<N0 n o:=by
 unfold N0;rw[←LN,←LN]
 have key:∀l:List Nat,i∈l→l.Nodup→l.countP (λj=>decide (j∉o++ [i]))+1≤l.countP (λj=>decide (j∉o)):=by
  intro l
  induction l with
  |nil=>intro h;cases h
  |cons x l c=>
   intro hm hd;obtain⟨hx,hd⟩:=List.nodup_cons.1 hd;rw[sf,sf]
   by_cases e:x=i
   ·subst e
    rw[aA (by simp),aB (by simpa using b)]
    have:=List.countP_mono_left (l:=l) (p:=λj=>decide (j∉o++ [x])) (q:=λj=>decide (j∉o)) (λj _ a=>by
     rw[gD]at a⊢;exact λd=>a (by simp[d]))
    omega
   ·have:=c ((cN.1 hm).resolve_left λh=>e h.symm) hd
    have e2:decide (x∉o++ [i])=decide (x∉o):=by rw[decide_eq_decide];simp[e]
    rw[e2];omega
 have:=key (List.range n) (dM.2 hi) List.nodup_range
 omega
theorem LC (n:Nat):N0 n []=n:=by
 unfold N0;rw[List.filter_eq_self.2 (by simp),kF]
def nb (g:eB)(f:Nat)(o:List Nat)(l:lE):List Nat:=l.foldl (λo x=>lU g f o x.2.toNat) o
theorem lD (g:eB)(f:Nat)(o:List Nat)(i:Nat):lU g (f+1) o i=if i∈o then o else nb g f (o++ [i]) (g.getD i gq).2:=rfl
theorem Cu (g:eB)(f:Nat)(o:List Nat)(l:lE)(x:Int×Int):nb g f o (l++ [x])=lU g f (nb g f o l) x.2.toNat:=by
 unfold nb;rw[rK];rfl
structure DD (g:eB)(o:List Nat):Prop where
 nd:o.Nodup
 lt:∀j∈o,j<g.length
theorem LF (g:eB):∀(f:Nat) (o:List Nat) (i:Nat),o<+:lU g f o i:=by
 intro f
 induction f with
 |zero=>intro o i;exact List.prefix_refl _
 |succ f b=>
  intro o i;rw[lD]
  split
  ·exact List.prefix_refl _
  ·have:∀(l:lE) (o:List Nat),o<+:nb g f o l:=by
    intro l
    induction l with
    |nil=>intro o;exact List.prefix_refl _
    |cons x l a=>intro o;exact(b o _).trans (a _)
   exact(List.prefix_append o [i]).trans (this _ _)
theorem rF (g:eB)(f:Nat):∀(l:lE) (o:List Nat),o<+:nb g f o l
 | [],o=>List.prefix_refl _
 |x::l,o=>(LF g f o _).trans (rF g f l _)
theorem VR (g:eB)(f:Nat)(o:List Nat)(i:Nat){j:Nat}(h:j∈o):j∈lU g f o i:=(LF g f o i).subset h
theorem Rx {g:eB}(k:tu g):∀(f:Nat) (o:List Nat) (i:Nat),DD g o→i<g.length→DD g (lU g f o i):=by
 intro f
 induction f with
 |zero=>intro o i h _;exact h
 |succ f m=>
  intro o i h hi;rw[lD]
  split
  ·exact h
  ·rename_i n
   have h1:DD g (o++ [i]):=⟨by rw[List.nodup_append];exact⟨h.nd,by simp,by intro a p b q;rw[ba.1 q];rintro rfl;exact n p⟩,λj c=>by
    rcases ca.1 c with c|c
    ·exact h.lt j c
    ·rw[ba.1 c];exact hi⟩
   have:∀(l:lE) (o:List Nat),(∀x∈l,x.2.toNat<g.length)→DD g o→DD g (nb g f o l):=by
    intro l
    induction l with
    |nil=>intro o _ h;exact h
    |cons x l d=>intro o e h;exact d _ (λy hy=>e y (by simp[hy])) (m _ _ h (e x (by simp)))
   exact this _ _ (λx hx=>(k.at_ hx).2.2) h1
theorem Zl {g:eB}{f:Nat}{o:List Nat}{i:Nat}:i∈lU g (f+1) o i:=by
 rw[lD]
 split
 ·rename_i h;exact h
 ·exact(rF g f _ _).subset (by simp)
theorem VQ {g:eB}(k:tu g):∀(f:Nat) (o:List Nat) (i:Nat),i<g.length→N0 g.length o<f→∀j∈lU g f o i,j∈o∨∀x∈(g.getD j gq).2,x.2.toNat∈lU g f o i:=by
 intro f
 induction f with
 |zero=>intro o i _ h;omega
 |succ f m=>
  intro o i hi hu j a;rw[lD]at a⊢
  split at a
  ·exact .inl a
  ·rename_i d
   rw[aA d]
   have p:=H5 hi d
   have step:∀(l:lE) (o:List Nat),(∀x∈l,x.2.toNat<g.length)→N0 g.length o<f→(∀j∈nb g f o l,j∈o∨∀x∈(g.getD j gq).2,x.2.toNat∈nb g f o l)∧∀x∈l,x.2.toNat∈nb g f o l:=by
    intro l
    induction l with
    |nil=>intro o _ _;exact⟨λj a=> .inl a,λx hx=>by cases hx⟩
    |cons x l b=>
     intro o e hu
     have hm:=H4 (n:=g.length) (o:=o) (o':=lU g f o x.2.toNat) λj a=>VR g f o _ a
     obtain⟨c,a2⟩:=b (lU g f o x.2.toNat) (λy hy=>e y (by simp[hy])) zE
     have hp:=(rF g f l (lU g f o x.2.toNat)).subset
     refine⟨λj a=> ?_,λy hy=> ?_⟩
     ·rcases c j a with h|h
      ·rcases m o x.2.toNat (e x (by simp)) hu j h with h|h
       ·exact .inl h
       ·exact .inr λy hy=>hp (h y hy)
      ·exact .inr h
     ·rcases cN.1 hy with rfl|hy
      ·cases f with
       |zero=>omega
       |succ f=>exact hp Zl
      ·exact a2 y hy
   obtain⟨c,a2⟩:=step (g.getD i gq).2 (o++ [i]) (λx hx=>(k.at_ hx).2.2) zE
   rcases c j a with h|h
   ·rcases ca.1 h with h|h
    ·exact .inl h
    ·rw[ba.1 h];exact .inr a2
   ·exact .inr h
def xx (g:eB)(r:Nat):List Nat:=lU g (g.length+1) [] r
theorem QJ {g:eB}(b:tu g){r:Nat}(c:r<g.length):DD g (xx g r)∧(∀j∈xx g r,∀x∈(g.getD j gq).2,x.2.toNat∈xx g r)∧(xx g r)[0]?=some r:=by
 refine⟨Rx b _ _ _ ⟨List.nodup_nil,λj a=>by cases a⟩ c,λj a=> ?_,?_⟩
 ·rcases VQ b _ _ _ c (by rw[LC];omega) j a with h|h
  ·cases h
  ·exact h
 ·unfold xx
  rw[lD,aA (by simp)];obtain⟨t,ht⟩:=rF g g.length (g.getD r gq).2 ([]++ [r])
  rw[←ht];rfl
theorem l8 {o:List Nat}{n:Nat}(h:o.Nodup)(a:∀j∈o,j<n):o.length≤n:=by
 have:o.length≤(List.range n).length:=h.length_le_of_subset λj b=>dM.2 (a j b)
 rwa[kF]at this
theorem uR (g:eB)(r:Nat):iH g r=(xx g r).map λi=>((g.getD i gq).1,(g.getD i gq).2.map λx=>(x.1,((xx g r).idxOf x.2.toNat:Int))):=rfl
theorem uS {nt nf:Nat}{g:eB}(b:eG nt nf g){r:Nat}(c:r<g.length):eG nt nf (iH g r)∧(iH g r).length≤g.length∧mN ((iH g r).getD 0 gq).2=mN (g.getD r gq).2:=by
 obtain⟨h1,f,a⟩:=QJ b.lk c
 have h:0<(xx g r).length:=by
  cases e:xx g r with
  |nil=>rw[e]at a;cases a
  |cons=>simp
 refine⟨⟨by rw[uR,aO];exact h,λd hd=> ?_⟩,by rw[uR,aO];exact l8 h1.nd h1.lt,?_⟩
 ·rw[uR]at hd
  obtain⟨i,hi,rfl⟩:=cS.1 hd;obtain⟨j,a2,a3⟩:=b.at_ (h1.lt i hi);refine⟨j,DN _ a2,λx hx=> ?_⟩;obtain⟨u,hu,rfl⟩:=cS.1 hx
  have:=List.idxOf_lt_length_iff.2 (f i hi u hu)
  rw[uR,aO];exact⟨(a3 u hu).1,by dsimp only;omega,by dsimp only;omega⟩
 ·rw[uR,ax,bJ,a]
  simp[mN,List.map_map,Function.comp_def]
theorem UO {nt nf:Nat}{mt:Nat→Nat→Option Nat}(b:xW nt mt){x y z:eB}(hx:eG nt nf x)(hy:eG nt nf y){node:Nat}(l:node<x.length)(h:dT mt x node y=some z):
 eG nt nf z∧z.length≤x.length+y.length∧∀k∈mN (x.getD 0 gq).2,k∈mN (z.getD 0 gq).2:=by
 have c:=hx.pos
 have f:=hy.pos
 obtain⟨p,hp,rfl⟩:=eE.1 h;obtain⟨h1,g⟩:=E9 b _ _ _ p (Pl.QD hx hy) (λu hu=>by rw[ba.1 hu];exact⟨⟨by dsimp only;omega,by dsimp only;omega⟩,by dsimp only;omega,by dsimp only;omega⟩) hp
 have i:=Ov h1 zE
 have a:=h1.Ay 0 zE
 obtain⟨f1,f2,f3⟩:=uS i (r:=p.rt 0) (by rw[uT,h1.lr];exact a);rw[uT,h1.lr]at f2;refine⟨f1,f2,λk hk=> ?_⟩;rw[f3,YA (by rw[h1.lr];exact a),aB (h1.Wp 0 zE)]
 have j:=g 0 zE k (by
  show k∈mN ((Pl.of x y).lk.getD ((List.range _).getD 0 0) [])
  rw[Uz zE]
  show k∈mN ((x.map (·.2)++_).getD 0 [])
  rw[ax,rL (by simpa using c),bJ];rw[ax]at hk
  cases e:x[0]? with
  |none=>rw[e]at hk;exact hk
  |some d=>rw[e]at hk;exact hk)
 simpa[mN,List.map_map,Function.comp_def]using j
structure Sl (rk:Nat→Nat)(B:Nat)(P R:List Nat):Prop where
 len:P.length=R.length
 lt:∀i,i<R.length→P.getD i 0<R.length
 rt:∀i,i<R.length→R.getD (P.getD i 0) 0=R.getD i 0
 me:∀i,i<R.length→(P.getD i 0=i↔R.getD i 0=i)
 up:∀i,i<R.length→P.getD i 0≠i→rk i<rk (P.getD i 0)
 le:∀i,i<R.length→rk i≤B
def UF (P R:List Nat):Prop:=∃rk B,Sl rk B P R
theorem Fq {α:Type}{l:List α}{i j:Nat}{x d:α}(h:i<l.length):(l.set i x).getD j d=if j=i then x else l.getD j d:=by
 rw[ax,ax]
 by_cases e:j=i
 ·subst e;rw[ic h,aB rfl];rfl
 ·rw[iz (λh=>e h.symm),aA e]
theorem Sl.aeC {rk:Nat→Nat}{B:Nat}{P R:List Nat}(h:Sl rk B P R){i:Nat}(hi:i<R.length)(f:P.getD i 0≠i):
 Sl rk B (P.set i (P.getD (P.getD i 0) 0)) R∧rk i<rk (P.getD (P.getD i 0) 0)∧R.getD (P.getD (P.getD i 0) 0) 0=R.getD i 0∧P.getD (P.getD i 0) 0<R.length:=by
 have h1:=h.lt i hi
 have g:=h.lt _ h1
 have l:=h.up i hi f
 have k:R.getD (P.getD (P.getD i 0) 0) 0=R.getD i 0:=by rw[h.rt _ h1,h.rt i hi]
 have c:rk i<rk (P.getD (P.getD i 0) 0):=by
  by_cases e:P.getD (P.getD i 0) 0=P.getD i 0
  ·rw[e];exact l
  ·have:=h.up _ h1 e;omega
 have b:∀j,(P.set i (P.getD (P.getD i 0) 0)).getD j 0=if j=i then P.getD (P.getD i 0) 0 else P.getD j 0:=λj=>Fq (by rw[h.len];exact hi)
 refine⟨⟨by rw[ep];exact h.len,λj a=> ?_,λj a=> ?_,λj a=> ?_,λj a d=> ?_,h.le⟩,c,k,g⟩
 ·rw[b];split
  ·exact g
  ·exact h.lt j a
 ·rw[b];split
  ·rename_i e;rw[e];exact k
  ·exact h.rt j a
 ·rw[b];split
  ·rename_i e;subst e
   refine⟨λe=> ?_,λe=>absurd ((h.me j a).2 e) f⟩
   rw[e]at c;omega
  ·exact h.me j a
 ·rw[b]at d⊢
  split
  ·rename_i e;subst e;exact c
  ·rename_i e;rw[aA e]at d;exact h.up j a d
theorem Sl.put {rk:Nat→Nat}{B:Nat}{P R:List Nat}(h:Sl rk B P R){a b:Nat}(f:a<R.length)(o:b<R.length)(i:R.getD a 0=a)(p:R.getD b 0=b)(k:a≠b):
 UF (P.set b a) (R.map λx=>if x=b then a else x):=by
 have g:∀j,(P.set b a).getD j 0=if j=b then a else P.getD j 0:=λj=>Fq (by rw[h.len];exact o)
 have hm:∀j,j<R.length→(R.map λx=>if x=b then a else x).getD j 0=if R.getD j 0=b then a else R.getD j 0:=λj c=>by
  simp only[List.getD_eq_getElem?_getD,List.getElem?_map,List.getElem?_eq_getElem c,Option.map_some,Option.getD_some]
 have l:=(h.me a f).2 i
 refine⟨λx=>if x=a then rk a+rk b+1 else rk x,B+B+1,by rw[ep,aO];exact h.len,λj c=> ?_,λj c=> ?_,λj c=> ?_,λj c d=> ?_,λj c=> ?_⟩<;>rw[aO]at c
 ·rw[g,aO];split
  ·exact f
  ·exact h.lt j c
 ·rw[g,hm j c];split
  ·rename_i e;subst e
   rw[hm a f,i,aA k,p,aB rfl]
  ·rw[hm _ (h.lt j c),h.rt j c]
 ·rw[g,hm j c]
  by_cases e:j=b
  ·subst e;rw[aB rfl,p,aB rfl]
  ·rw[aA e]
   by_cases e2:R.getD j 0=b
   ·rw[aB e2]
    refine⟨λm=> ?_,λm=> ?_⟩
    ·have:=(h.me j c).1 m;rw[this]at e2;exact absurd e2 e
    ·subst m;rw[i]at e2;exact absurd e2 k
   ·rw[aA e2];exact h.me j c
 ·rw[g]at d⊢
  by_cases e:j=b
  ·subst e
   rw[aB rfl,aA (λx=>k x.symm),aB rfl];omega
  ·rw[aA e]at d⊢
   have hu:=h.up j c d
   have n:j≠a:=λx=>by rw[x]at d;exact d l
   rw[aA n]
   split
   ·rename_i e2;rw[e2]at hu;omega
   ·exact hu
 ·have:=h.le j c
  have:=h.le a f
  have:=h.le b o
  split<;>omega
theorem UF.range (n:Nat):UF (List.range n) (List.range n):=
 ⟨λ_=>0,0,rfl,λi hi=>by rw[kF]at hi⊢;rw[Uz hi];exact hi,λi hi=>by rw[kF]at hi;rw[Uz hi,Uz hi],λi hi=>Iff.rfl,λi hi h=>by rw[kF]at hi;exact absurd (Uz hi) h,λi hi=>aU _⟩
structure Ej (x0 y0 l x y:lE)(w:List (Int×Int)):Prop where
 l:l++BK x y=BK x0 y0
 w:w++EH x y=EH x0 y0
theorem Ej.start (x y:lE):Ej x y [] x y []:=⟨rfl,rfl⟩
theorem Ej.lt {x0 y0 l x y:lE}{w:List (Int×Int)}{a b:Int×Int}(h:Ej x0 y0 l (a::x) (b::y) w)(c:a.1<b.1):Ej x0 y0 (l++ [a]) x (b::y) w:=by
 obtain⟨h1,d⟩:=h;rw[gB,aB c]at h1;rw[kU,aB c]at d;exact⟨by rw[dg];exact h1,d⟩
theorem Ej.gt {x0 y0 l x y:lE}{w:List (Int×Int)}{a b:Int×Int}(h:Ej x0 y0 l (a::x) (b::y) w)(c:b.1<a.1):Ej x0 y0 (l++ [b]) (a::x) y w:=by
 obtain⟨h1,d⟩:=h
 have e:¬a.1<b.1:=by omega
 rw[gB,aA e,aB c]at h1;rw[kU,aA e,aB c]at d;exact⟨by rw[dg];exact h1,d⟩
theorem Ej.eq {x0 y0 l x y:lE}{w:List (Int×Int)}{a b:Int×Int}(h:Ej x0 y0 l (a::x) (b::y) w)(f:a.1=b.1):Ej x0 y0 (l++ [a]) x y (w++ [(a.2,b.2)]):=by
 obtain⟨h1,c⟩:=h
 have d:¬a.1<b.1:=by omega
 have e:¬b.1<a.1:=by omega
 rw[gB,aA d,aA e]at h1;rw[kU,aA d,aA e]at c;exact⟨by rw[dg];exact h1,by rw[dg];exact c⟩
theorem Ej.fin {x0 y0 l x y:lE}{w:List (Int×Int)}(h:Ej x0 y0 l x y w)(he:x=[]∨y=[]):l++(x++y)=BK x0 y0∧w=EH x0 y0:=by
 obtain⟨h1,a⟩:=h
 rcases he with rfl|rfl
 ·rw[ub]at h1;rw[EI,ib]at a;exact⟨h1,a⟩
 ·rw[qv]at h1;rw[A4,ib]at a;exact⟨by rw[ib];exact h1,a⟩
theorem wZ:∀(l:List er) (U:List Nat),(oC U l).length=U.length+l.length
 | [],U=>rfl
 |t::l,U=>by rw[oC,wZ l];simp;omega
theorem vC (l:List er):(Ba l).length=l.length:=by unfold Ba;rw[wZ];simp
theorem pw:∀(l m:List er) (U:List Nat),oC U (l++m)=oC (oC U l) m
 | [],_,_=>rfl
 |t::l,m,U=>by rw[se,oC,oC,pw l m]
theorem Ct:∀(l:List er) (U:List Nat) (i:Nat),i<U.length→(oC U l)[i]?=U[i]?
 | [],_,_,_=>rfl
 |t::l,U,i,h=>by rw[oC,Ct l _ i (by simp;omega),rL h]
theorem Rs (l:List er)(t:er):Ba (l++ [t])=Ba l++ [Ri (Ba l) l.length t.2]:=by
 unfold Ba;rw[pw,oC,oC,wZ];simp
theorem Ag (l:List er)(k i:Nat)(h:i<k)(hk:k≤l.length):(Ba (l.take k)).getD i 0=(Ba l).getD i 0:=by
 have e:Ba l=oC (Ba (l.take k)) (l.drop k):=by unfold Ba;rw[←pw,nR]
 rw[e,ax,ax,Ct _ _ _ (by rw[vC,eR];omega)]
theorem Rq {l:List er}{k:Nat}{t:er}(h:l[k]?=some t):(Ba l).getD k 0=Ri (Ba (l.take k)) k t.2:=by
 have hk:=bO h
 rw[←Ag l (k+1) k (Nat.lt_succ_self _) hk,ag h,Rs]
 have e:(l.take k).length=k:=by rw[eR];omega
 rw[ax,nO (by rw[vC,e];exact aU _),vC,e,gp];rfl
theorem KF (g:Int→Nat)(j:Nat):∀(ps:List Int) (u:Nat),(ps.foldl (λu p=>u|||g p) u).testBit j=(u.testBit j||ps.any λp=>(g p).testBit j)
 | [],u=>by simp
 |p::ps,u=>by rw[jX,KF g j ps,Nat.testBit_or,List.any_cons,Bool.or_assoc]
theorem Rj (U:List Nat)(i:Nat)(ps:List Int)(j:Nat):(Ri U i ps).testBit j=(decide (i=j)||ps.any λp=>(U.getD p.toNat 0).testBit j):=by
 unfold Ri;rw[KF,Nat.testBit_two_pow]
structure j5 (l:List er):Prop where
 len:l.length≤60
 par:∀(i:Nat) (t:er),l[i]?=some t→∀p∈t.2,0≤p∧p<i
theorem Ki {i:Int}:∀{ps:List Int} {last:Int},(sJ i last ps).1=0→sJ i last ps=(0,0)∧∀p∈ps,0≤p∧p<i
 | [],_,_=>⟨rfl,λp h=>by cases h⟩
 |p::ps,last,h=>by
  rw[sJ]at h⊢
  by_cases h1:p<0∨i≤p
  ·rw[aB h1]at h;exact absurd h (by simp)
  ·rw[aA h1]at h⊢
   by_cases b:p≤last
   ·rw[aB b]at h;exact absurd h (by simp)
   ·rw[aA b]at h⊢
    obtain⟨e,k⟩:=Ki h;refine⟨e,λq a=> ?_⟩
    rcases cN.1 a with rfl|a
    ·omega
    ·exact k q a
theorem Cm:∀{l:List er} {known:List cM} {i:Nat},(lu known i l).1=0→lu known i l=(0,0)∧∀(k:Nat) (t:er),l[k]?=some t→∀p∈t.2,0≤p∧p<(i+k:Nat)
 | [],_,_,_=>⟨rfl,λk t h=>by simp at h⟩
 |t::l,known,i,h=>by
  rw[lu]at h⊢
  by_cases h1:isName t.1=false
  ·rw[aB h1]at h;exact absurd h (by simp)
  rw[aA h1]at h⊢
  by_cases c:t.1∈known
  ·rw[aB c]at h;exact absurd h (by simp)
  rw[aA c]at h⊢
  by_cases d:decide (i=0)≠decide (t.2.length=0)
  ·rw[aB d]at h;exact absurd h (by simp)
  rw[aA d]at h⊢
  by_cases a:(sJ i (-1) t.2).1≠0
  ·rw[aB a]at h;exact absurd h a
  rw[aA a]at h⊢;obtain⟨e,k⟩:=Cm h;refine⟨e,λj u b=> ?_⟩
  cases j with
  |zero=>
   simp only[List.getElem?_cons_zero,Option.some.injEq]at b
   subst b;intro p hp
   have:=(Ki (eY.1 a)).2 p hp
   omega
  |succ j=>
   rw[sg]at b;intro p hp
   have:=k j u b p hp
   omega
theorem JX {l:List er}(h:(BW l).1=0):BW l=(0,0)∧0<l.length∧j5 l:=by
 unfold BW at h⊢
 by_cases h1:l.length=0∨60<l.length
 ·rw[aB h1]at h;exact absurd h (by simp)
 ·rw[aA h1]at h⊢
  obtain⟨e,k⟩:=Cm h;refine⟨e,by omega,by omega,λi t hi p hp=> ?_⟩
  have:=k i t hi p hp
  omega
section
variable {l:List er}
theorem VD {i:Nat}(hi:l.length≤i)(j:Nat):iY l i j=false:=by
 unfold iY;rw[ax,iR (by rw[vC];exact hi)];exact Nat.zero_testBit _
theorem sub_lt {i j:Nat}(h:iY l i j=true):i<l.length:=by
 rcases dI i l.length with k|k
 ·exact k
 ·rw[VD k]at h;cases h
theorem r8 (a:j5 l){i:Nat}{t:er}(hi:l[i]?=some t)(j:Nat):iY l i j=(decide (i=j)||t.2.any λp=>iY l p.toNat j):=by
 show((Ba l).getD i 0).testBit j=_
 rw[Rq hi,Rj]
 congr 1
 rw[HG,An,An]
 have e:∀p∈t.2,(Ba (l.take i)).getD p.toNat 0=(Ba l).getD p.toNat 0:=λp hp=>by
  have:=a.par i t hi p hp
  exact Ag l i _ zE (Nat.le_of_lt (bO hi))
 constructor
 ·rintro ⟨p,hp,h⟩;rw[e p hp]at h;exact⟨p,hp,h⟩
 ·rintro ⟨p,hp,h⟩;exact⟨p,hp,by rw[e p hp];exact h⟩
theorem sub_self (a:j5 l){i:Nat}(hi:i<l.length):iY l i i=true:=by
 rw[r8 a (bT hi)];simp
theorem wN (a:j5 l){i j:Nat}(h:iY l i j=true):i=j∨∃t p,l[i]?=some t∧p∈t.2∧0≤p∧p<i∧iY l p.toNat j=true:=by
 have hi:=sub_lt h
 rw[r8 a (bT hi)]at h
 simp only[Bool.or_eq_true,decide_eq_true_eq,List.any_eq_true]at h
 rcases h with h|⟨p,hp,h⟩
 ·exact .inl h
 ·have:=a.par i _ (bT hi) p hp
  exact .inr ⟨_,p,bT hi,hp,this.1,this.2,h⟩
theorem sub_le (a:j5 l):∀{i j:Nat},iY l i j=true→j≤i:=by
 intro i
 induction i using Nat.strongRecOn with
 |ind i b=>
  intro j h
  rcases wN a h with rfl|⟨t,p,_,_,d,h1,c⟩
  ·exact aU _
  ·have:=b p.toNat zE c
   omega
theorem wO (a:j5 l):∀{i j k:Nat},iY l i j=true→iY l j k=true→iY l i k=true:=by
 intro i
 induction i using Nat.strongRecOn with
 |ind i c=>
  intro j k h1 b
  rcases wN a h1 with rfl|⟨t,p,ht,hp,e,f,d⟩
  ·exact b
  ·have:=c p.toNat zE d b
   rw[r8 a ht]
   simp only[Bool.or_eq_true,List.any_eq_true]
   exact .inr ⟨p,hp,this⟩
theorem R8 (a:j5 l):∀{i j:Nat},iY l i j=true→i≠j→∃z t,iY l i z=true∧l[z]?=some t∧(j:Int)∈t.2∧j<z:=by
 intro i
 induction i using Nat.strongRecOn with
 |ind i b=>
  intro j h c
  rcases wN a h with e|⟨t,p,ht,hp,o,q,d⟩
  ·exact absurd e c
  ·by_cases e:p.toNat=j
   ·have f:p=(j:Int):=by omega
    subst f;exact⟨i,t,sub_self a (bO ht),ht,hp,by omega⟩
   ·obtain⟨z,u,g,k,m,n⟩:=b p.toNat zE d e
    refine⟨z,u,?_,k,m,n⟩;rw[r8 a ht]
    simp only[Bool.or_eq_true,List.any_eq_true]
    exact .inr ⟨p,hp,g⟩
structure yc (l:List er)(a i:Nat)(M:List Bool):Prop where
 len:M.length=l.length
 snd:∀x,M[x]?=some true→iY l a x=true
 top:M[a]?=some true
 cls:∀(y:Nat) (t:er),i<y→M[y]?=some true→l[y]?=some t→∀p∈t.2,M[p.toNat]?=some true
theorem yc.start (c:j5 l){a:Nat}(b:a<l.length):yc l a a ((List.replicate l.length false).set a true):=by
 refine⟨by simp,λx hx=> ?_,by rw[List.getElem?_set_self (by simp;exact b)],λy t hy hm _=> ?_⟩
 ·by_cases e:a=x
  ·subst e;exact sub_self c b
  ·rw[iz e,si]at hx
   split at hx<;>simp at hx
 ·rw[iz zE,si]at hm
  split at hm<;>simp at hm
theorem yc.done (c:j5 l){a b:Nat}{M:List Bool}(h:yc l a b M):∀(n y:Nat),a-y=n→b≤y→iY l a y=true→M[y]?=some true:=by
 intro n
 induction n using Nat.strongRecOn with
 |ind n d=>
  intro y j hy f
  by_cases e:a=y
  ·subst e;exact h.top
  ·obtain⟨z,t,h1,g,i,k⟩:=R8 c f e
   have hz:=sub_le c h1
   have:=d (a-z) zE z rfl zE h1
   have:=h.cls z t zE this g _ i
   simpa using this
theorem yc.fin (d:j5 l){a b:Nat}{M:List Bool}(h:yc l a b M)(f:b<l.length):M[b]?=some (iY l a b):=by
 cases e:iY l a b with
 |true=>exact h.done d _ b rfl (aU _) e
 |false=>
  have c:b<M.length:=by rw[h.len];exact f
  rw[bT c]
  cases e2:M[b]with
  |false=>rfl
  |true=>
   have:=h.snd b (by rw[bT c,e2])
   rw[e]at this;cases this
theorem yc.skip {a i:Nat}{M:List Bool}(h:yc l a (i+1) M)(hm:M[i+1]?≠some true):yc l a i M:=
 ⟨h.len,h.snd,h.top,λy t hy b=>by
  by_cases e:y=i+1
  ·subst e;exact absurd b hm
  ·exact h.cls y t zE b⟩
structure NM (l:List er)(a i:Nat)(t:er)(k:Nat)(M:List Bool):Prop where
 ok:yc l a i M
 at_:M[i]?=some true
 upto:∀p∈t.2.take k,M[p.toNat]?=some true
theorem NM.step (c:j5 l){a i k:Nat}{t:er}{M:List Bool}{p:Int}(h:NM l a i t k M)(hi:l[i]?=some t)(hp:t.2[k]?=some p):NM l a i t (k+1) (M.set p.toNat true):=by
 have d:=c.par i t hi p (aY hp)
 have f:=bO hi
 have mono:∀x,M[x]?=some true→(M.set p.toNat true)[x]?=some true:=λx hx=>by
  by_cases e:p.toNat=x
  ·subst e;rw[ic (bO hx)]
  ·rw[iz e];exact hx
 refine⟨⟨by rw[ep];exact h.ok.len,λx hx=> ?_,mono _ h.ok.top,λy u hy hm hu q b=> ?_⟩,mono _ h.at_,λq b=> ?_⟩
 ·by_cases e:p.toNat=x
  ·subst e
   refine wO c (h.ok.snd i h.at_) ?_;rw[r8 c hi]
   simp only[Bool.or_eq_true,List.any_eq_true]
   exact .inr ⟨p,aY hp,sub_self c zE⟩
  ·rw[iz e]at hx;exact h.ok.snd x hx
 ·rw[iz zE]at hm
  exact mono _ (h.ok.cls y u hy hm hu q b)
 ·rw[ag hp]at b
  rcases ca.1 b with b|b
  ·exact mono _ (h.upto q b)
  ·rw[ba.1 b,ic (by rw[h.ok.len];omega)]
theorem NM.done {a i:Nat}{t:er}{M:List Bool}(h:NM l a (i+1) t t.2.length M)(hi:l[i+1]?=some t):yc l a i M:=
 ⟨h.ok.len,h.ok.snd,h.ok.top,λy u hy hm hu q b=>by
  by_cases e:y=i+1
  ·subst e
   rw[hi]at hu;cases hu
   exact h.upto q (by rw[iT];exact b)
  ·exact h.ok.cls y u zE hm hu q b⟩
end
def LD (T:List er)(i:Nat):Nat:=(Ba T).getD i 0
def Zf (T:List er)(k:Nat)(ps:List Int):Nat:=ps.foldl (λu p=>u|||LD T p.toNat) (2^k)
theorem Rl (T:List er)(k:Nat)(ps:List Int)(p:Int):Zf T k (ps++ [p])=Zf T k ps|||LD T p.toNat:=by unfold Zf;rw[rK];rfl
theorem Rh {T:List er}(a:j5 T){k:Nat}{t:er}(h:T[k]?=some t):LD T k=Zf T k t.2:=by
 have e:∀(ps:List Int) (u:Nat),(∀p∈ps,0≤p∧p<k)→ps.foldl (λu p=>u|||(Ba (T.take k)).getD p.toNat 0) u=ps.foldl (λu p=>u|||LD T p.toNat) u:=by
  intro ps
  induction ps with
  |nil=>intro u _;rfl
  |cons p ps b=>
   intro u hp
   have d:=hp p (aR ..)
   rw[jX,jX,Ag T k p.toNat zE (Nat.le_of_lt (bO h))]
   exact b _ λq c=>hp q (cO _ c)
 show(Ba T).getD k 0=_
 rw[Rq h];exact e t.2 _ (a.par k t h)
theorem Ze {T:List er}(b:j5 T):∀k:Nat,LD T k<2^(k+1):=by
 intro k
 induction k using Nat.strongRecOn with
 |ind k c=>
  rcases dI k T.length with h|h
  ·rw[Rh b (bT h)]
   have hp:=b.par k _ (bT h)
   generalize (T[k]).2=ps at hp
   have e:∀(ps:List Int) (u:Nat),(∀p∈ps,0≤p∧p<k)→u<2^(k+1)→ps.foldl (λu p=>u|||LD T p.toNat) u<2^(k+1):=by
    intro ps
    induction ps with
    |nil=>intro u _ h;exact h
    |cons p ps a=>
     intro u hp hu
     have f:=hp p (aR ..)
     refine a _ (λq d=>hp q (cO _ d)) (Nat.or_lt_two_pow hu ?_);exact fg (c p.toNat zE) (Al zE zE)
   exact e ps _ hp (Am zE zE)
  ·show(Ba T).getD k 0<_
   rw[ax,iR (by rw[vC];exact h)];exact Nat.pow_pos zE
theorem wY {T:List er}(a:j5 T){k:Nat}(hk:k<60):LD T k<18446744073709551616:=
 fg (Ze a k) (show 2^(k+1)≤2^64 from Al (by decide) zE)
theorem Rk {T:List er}(a:j5 T){k:Nat}(hk:k<60):∀{ps:List Int},(∀p∈ps,0≤p∧p<k)→Zf T k ps<18446744073709551616:=by
 have e:∀(ps:List Int) (u:Nat),(∀p∈ps,0≤p∧p<k)→u<18446744073709551616→ps.foldl (λu p=>u|||LD T p.toNat) u<18446744073709551616:=by
  intro ps
  induction ps with
  |nil=>intro u _ h;exact h
  |cons p ps b=>
   intro u hp hu
   have d:=hp p (aR ..)
   exact b _ (λq c=>hp q (cO _ c)) (Nat.or_lt_two_pow (n:=64) hu (wY a zE))
 intro ps hp;exact e ps _ hp (show 2^k<2^64 from Am (by decide) zE)
def lK (T:List er)(k j:Nat):Nat:=(List.range k).foldl (λa i=>if iY T i j then a|||2^i else a) 0
theorem rX (T:List er)(k j:Nat):lK T (k+1) j=if iY T k j then lK T k j|||2^k else lK T k j:=by
 unfold lK;rw[vH,rK];rfl
theorem KA (T:List er)(j:Nat):∀k:Nat,lK T k j<2^k
 |0=>by show(0:Nat)<2^0;omega
 |k+1=>by
  have a:=fg (KA T j k) (Al (n:=2) zE (Nat.le_succ k))
  rw[rX]
  split
  ·exact Nat.or_lt_two_pow a (Am zE zE)
  ·exact a
theorem nq (T:List er)(j:Nat){k:Nat}(hk:k≤60):lK T k j<18446744073709551616:=
 fg (KA T j k) (show 2^k≤2^64 from Al (by decide) zE)
theorem ql (T:List er)(j i:Nat):∀k:Nat,(lK T k j).testBit i=(decide (i<k)&&iY T i j)
 |0=>by show(0:Nat).testBit i=_;simp
 |k+1=>by
  rw[rX]
  have a:=ql T j i k
  by_cases e:i=k
  ·subst e
   cases h:iY T i j with
   |true=>simp[a,Nat.testBit_two_pow]
   |false=>simp[a]
  ·have e2:decide (i<k+1)=decide (i<k):=by rw[decide_eq_decide];omega
   rw[e2]
   split
   ·rw[Nat.testBit_or,a,Nat.testBit_two_pow,df (p:=k=i) (λh=>e h.symm),Bool.or_false]
   ·exact a
def da (T:List er):List Nat:=(List.range T.length).map (LD T)
def dZ (T:List er):List Nat:=(List.range T.length).map (lK T T.length)
theorem zk {f:Nat→Nat}{n:Nat}{U:List Nat}(a:U.length=n)(h:∀i,i<n→U[i]?=some (f i)):U=(List.range n).map f:=by
 refine nN λi=> ?_
 rw[bJ]
 rcases dI i n with hi|hi
 ·rw[h i hi,nP hi];rfl
 ·rw[iR zE,iR (by simpa using hi)];rfl
theorem Rm {T:List er}{i:Nat}(h:i<T.length):(da T)[i]?=some (LD T i):=by unfold da;rw[bJ,nP h];rfl
theorem ow {T:List er}{i:Nat}(h:i<T.length):(dZ T)[i]?=some (lK T T.length i):=by unfold dZ;rw[bJ,nP h];rfl
theorem Rn (T:List er):(da T).length=T.length:=by simp[da]
theorem FX (T:List er):(dZ T).length=T.length:=by simp[dZ]
def both (T:List er)(a b:Nat):Nat:=lK T T.length a&&&lK T T.length b
theorem oh (T:List er)(a b i:Nat):(both T a b).testBit i=(decide (i<T.length)&&(iY T i a&&iY T i b)):=by
 unfold both;rw[Nat.testBit_and,ql,ql]
 cases decide (i<T.length)<;>simp
theorem lM {T:List er}{a b i:Nat}:i∈comm T a b↔(both T a b).testBit i=true:=by
 unfold comm;rw[List.mem_filter,dM,oh];simp only[Bool.and_eq_true,decide_eq_true_eq]
theorem Ak {T:List er}{a b:Nat}(h:both T a b=0):kZ T a b=false:=by
 unfold kZ
 split
 ·rfl
 ·rename_i m r e
  have:m∈comm T a b:=by rw[e];exact aR ..
  rw[lM,h,Nat.zero_testBit]at this;cases this
theorem H8 {T:List er}(k:j5 T){a b m:Nat}(h:(both T a b).testBit m=true)(q:∀i,i<m→(both T a b).testBit i=false):kZ T a b=decide (lK T T.length m≠both T a b):=by
 have hm:=lM.2 h
 unfold kZ
 split
 ·rename_i e;rw[e]at hm;cases hm
 ·rename_i d r e
  have hp:(comm T a b).Pairwise (· < ·):=by unfold comm;exact List.Pairwise.filter _ List.pairwise_lt_range
  rw[e]at hp
  have s:d∈comm T a b:=by rw[e];exact aR ..
  have e2:d=m:=by
   rw[e]at hm
   rcases cN.1 hm with l|l
   ·exact l.symm
   ·have t:=(jq.1 hp).1 m l
    have p:=q d t
    rw[lM.1 s]at p;cases p
  subst e2
  have n:=h
  rw[oh,nQ,nQ,gD]at n;rw[HG,An,gD]
  constructor
  ·rintro ⟨i,hi,f⟩ o
   have c:(both T a b).testBit i=true:=lM.1 (by rw[e];exact cO _ hi)
   rw[←o,ql,nQ]at c
   rw[c.2]at f;cases f
  ·intro f
   apply Decidable.byContradiction
   intro o;refine f (Nat.eq_of_testBit_eq λi=> ?_);rw[ql,oh];rw[HG,nQ,nQ,gD]
   constructor
   ·rintro ⟨c,g⟩
    exact⟨c,by rw[wO k g n.2.1,wO k g n.2.2];rfl⟩
   ·rintro ⟨c,g⟩
    refine⟨c,?_⟩
    have j:i∈comm T a b:=lM.2 (by rw[oh,g,cX c];rfl)
    rw[e]at j
    rcases cN.1 j with rfl|j
    ·exact sub_self k c
    ·cases u:iY T i d with
     |true=>rfl
     |false=>exact absurd ⟨i,j,by rw[u];rfl⟩ o
def iP (T:List er)(a b:Nat):Option Nat:=match comm T a b with
 | []=>none
 |m::_=>if kZ T a b=true then none else some m
def mP (x:eB):eB:=iH x (nS x 0).toNat
def nZ (mt:Nat→Nat→Option Nat)(x:eB)(a:Int)(y:eB):Option eB:=match dT mt x (nS x a).toNat y with
 |some z=>if z.length≤60 then some z else none
 |none=>none
structure oe where
 frm:Nat
 tqo:Nat
 cp:Nat
 gr:eB
structure og where
 rule:Int
 lex:Int
 kids:List Nat
structure jY where
 ed:oe
 cD:List og
 cB:List Int
def ed0:oe:=⟨0,0,0,[]⟩
def fX:jY:=⟨ed0,[],[]⟩
structure Cs where
 its:List jY
 sp:List (List Nat)
def kO (i:Int):UInt8:=UInt8.ofNat (i%256).toNat
def vo (l:lE):cM:=l.flatMap λx=>[kO x.1,kO x.2]
def zg (g:eB):cM:=g.flatMap λn=>kO n.1::kO (n.2.length:Nat)::vo n.2
def fb (e:oe):cM:=kO (e.frm:Nat)::kO (e.tqo:Nat)::kO (e.cp:Nat)::zg e.gr
def xj (its:List jY)(k:cM):Option Nat:=its.findIdx? λit=>decide (fb it.ed=k)
def tX (w:og):Int:=if w.rule<0 then 1000+w.lex else w.rule
def jY.put (it:jY)(w:og):jY:=⟨it.ed,it.cD++ [w],if tX w∈it.cB then it.cB else it.cB++ [tX w]⟩
def j6 (n:Nat)(cs:Cs)(e:oe)(w:og):Cs:=match xj cs.its (fb e)with
 |some i=>⟨cs.its.modify i λit=>it.put w,cs.sp⟩
 |none=>⟨cs.its++ [(⟨e,[],[]⟩:jY).put w],cs.sp.modify (e.frm*(n+1)+e.tqo) λl=>l++ [cs.its.length]⟩
structure Qr where
 n:Nat
 mt:Nat→Nat→Option Nat
 adm:Nat→Nat→Int→Bool
 rules:List kM
 aG:List Bg
def Cs.at_ (cs:Cs)(n i j:Nat):List Nat:=cs.sp.getD (i*(n+1)+j) []
def Cs.ed (cs:Cs)(e:Nat):oe:=(cs.its.getD e fX).ed
def Xb (Q:Qr)(cs:Cs)(rule a e:Nat):Bool:=(cs.its.getD e fX).cB.any (Q.adm rule a)
def ko (Q:Qr)(cs:Cs)(rule:Nat)(x:eB)(a e:Nat):Option eB:=if Xb Q cs rule a e=true then nZ Q.mt x a (cs.ed e).gr else none
def sH (Q:Qr)(rule frm tqo:Nat):Nat→Cs→eB→List Nat→Nat→Cs
 |0,cs,x,kids,a=>(cs.at_ Q.n a tqo).foldl (λcs e=>match ko Q cs rule x (kids.length+1) e with
  |none=>cs
  |some y=>j6 Q.n cs ⟨frm,tqo,0,mP y⟩ ⟨rule,0,kids++ [e]⟩) cs
 |l+1,cs,x,kids,a=>(List.range' (a+1) (tqo-(l+1)-a)).foldl (λcs en=>(cs.at_ Q.n a en).foldl (λcs e=>match ko Q cs rule x (kids.length+1) e with
  |none=>cs
  |some y=>sH Q rule frm tqo l cs y (kids++ [e]) en) cs) cs
def pq (Q:Qr)(frm tqo e:Nat)(cs:Cs)(i:Nat):Cs:=
 if(Q.rules.getD i nX).kids≠1 then cs else match ko Q cs i (Q.rules.getD i nX).graph 1 e with
  |none=>cs
  |some x=>j6 Q.n cs ⟨frm,tqo,(cs.ed e).cp+1,mP x⟩ ⟨i,0,[e]⟩
def pt (Q:Qr)(frm tqo:Nat):Nat→Nat→Cs→Cs
 |0,_,cs=>cs
 |f+1,k,cs=>if k<(cs.at_ Q.n frm tqo).length then
   (if(cs.ed ((cs.at_ Q.n frm tqo).getD k 0)).cp=3 then pt Q frm tqo f (k+1) cs
    else pt Q frm tqo f (k+1) ((List.range Q.rules.length).foldl (pq Q frm tqo ((cs.at_ Q.n frm tqo).getD k 0)) cs))
  else cs
def iU (Q:Qr):Nat:=Q.rules.countP λr=>decide (r.kids=1)
def kT (r:Nat):Nat→Nat
 |0=>0
 |k+1=>r*(1+kT r k)
def qz (Q:Qr)(cs:Cs)(l:List Nat):Nat:=(l.map λe=>1+kT (iU Q) (3-(cs.ed e).cp)).sum
def qs (Q:Qr)(w:cM)(frm tqo:Nat)(cs:Cs)(i:Nat):Cs:=if(Q.aG.getD i MW).word=w then j6 Q.n cs ⟨frm,tqo,0,iH (Q.aG.getD i MW).graph 0⟩ ⟨-1,i,[]⟩else cs
def r5 (Q:Qr)(frm tqo:Nat)(cs:Cs)(i:Nat):Cs:=if 1<(Q.rules.getD i nX).kids∧(Q.rules.getD i nX).kids≤(tqo:Int)-frm then sH Q i frm tqo ((Q.rules.getD i nX).kids.toNat-1) cs (Q.rules.getD i nX).graph [] frm else cs
def mK (Q:Qr)(words:List cM)(frm tqo:Nat)(cs:Cs):Cs:=
 if tqo=frm+1 then(List.range Q.aG.length).foldl (qs Q (words.getD frm []) frm tqo) cs else(List.range Q.rules.length).foldl (r5 Q frm tqo) cs
def pD (Q:Qr)(words:List cM)(frm tqo:Nat)(cs:Cs):Cs:=
 pt Q frm tqo (qz Q (mK Q words frm tqo cs) ((mK Q words frm tqo cs).at_ Q.n frm tqo)+1) 0 (mK Q words frm tqo cs)
def xu (Q:Qr)(words:List cM)(len:Nat):Nat→Nat→Cs→Option Cs
 |0,_,cs=>some cs
 |m+1,frm,cs=>if 300<(pD Q words frm (frm+len) cs).its.length then none else xu Q words len m (frm+1) (pD Q words frm (frm+len) cs)
def xX (Q:Qr)(words:List cM):Nat→Nat→Cs→Option Cs
 |0,_,cs=>some cs
 |m+1,len,cs=>(xu Q words len (Q.n+1-len) 0 cs).bind λcs=>xX Q words m (len+1) cs
def lf (a b:Int):Int:=if a<b then-1 else if b<a then 1 else 0
def te (a b:Int):Int:=if a=0 then b else a
def kI {α:Type}(f:α→α→Int):List α→List α→Int
 | [],[]=>0
 | [],_::_=> -1
 |_::_,[]=>1
 |a::l,b::m=>if f a b≠0 then f a b else kI f l m
def FN (p q:Int×Int):Int:=te (lf p.1 q.1) (lf p.2 q.2)
def xZ (x y:LV):Int:=te (lf x.1 y.1) (te (lf x.2.length y.2.length) (kI FN x.2 y.2))
def yF (x y:oe):Int:=te (lf x.frm y.frm) (te (lf x.tqo y.tqo) (te (lf x.cp y.cp) (kI xZ x.gr y.gr)))
def MH {α:Type}(f:α→α→Int)(a:α):List α→List α
 | []=>[a]
 |b::l=>if f a b<0 then a::b::l else b::MH f a l
def VB {α:Type}(f:α→α→Int):List α→List α
 | []=>[]
 |a::l=>MH f a (VB f l)
def jv (its:List jY):List Nat:=VB (λi j=>yF (its.getD i fX).ed (its.getD j fX).ed) (List.range its.length)
def lg (o:List Nat)(i:Nat):Nat:=o.idxOf i
def ff (its:List jY):List jY:=(jv its).map λi=>⟨(its.getD i fX).ed,(its.getD i fX).cD.map λw=>⟨w.rule,w.lex,w.kids.map (lg (jv its))⟩,(its.getD i fX).cB⟩
def M4 (mt:Nat→Nat→Option Nat)(n:Nat)(start:eB)(its:List jY):List Nat:=(List.range its.length).filter λi=>decide ((its.getD i fX).ed.frm=0)&&decide ((its.getD i fX).ed.tqo=n)&&(dT mt (its.getD i fX).ed.gr 0 start).isSome
def It (g:fD):List eB:=g.rules.map (λr=>mP r.graph)++g.aG.map (·.graph)
def J0 (g:fD)(top:Int):Int:=if 0≤top∧top<g.rules.length then top else if 1000≤top∧top<1000+g.aG.length then g.rules.length+top-1000 else-1
def Xc (g:fD)(mt:Nat→Nat→Option Nat)(rule a:Nat)(top:Int):Bool:=
 decide (0≤J0 g top)&&decide (rule<g.rules.length)&&decide (1≤a)&&decide ((a:Int)≤(g.rules.getD rule nX).kids)&&(dT mt (g.rules.getD rule nX).graph (nS (g.rules.getD rule nX).graph a).toNat ((It g).getD (J0 g top).toNat [])).isSome
def qrG (g:fD)(words:List cM):Qr:=⟨words.length,iP g.types,Xc g (iP g.types),g.rules,g.aG⟩
def yA:Nat→List cM→Int×Int
 |_,[]=>(0,0)
 |i,w::l=>if isWord w=false then(10,(i:Int))else yA (i+1) l
def BC (aG:List Bg):Nat→List cM→Int×Int
 |_,[]=>(0,0)
 |i,w::l=>if w∈aG.map (·.word)then BC aG (i+1) l else(6,(i:Int))
def tH (g:fD)(words:List cM):Int×Int:=if words.length=0∨12<words.length then(9,-2)else if(yA 0 words).1≠0 then yA 0 words else BC g.aG 0 words
def FK (g:fD)(words:List cM):Option (List jY):=(xX (qrG g words) words words.length 1 ⟨[],List.replicate (words.length*(words.length+1)) []⟩).map λcs=>ff cs.its
def fO (g:fD)(words:List cM):(List jY×List Nat)×(Int×Int):=
 if(km g).1≠0 then(([],[]),km g)else if(tH g words).1≠0 then(([],[]),tH g words)else match FK g words with
  |none=>(([],[]),(17,-2))
  |some its=>((its,M4 (iP g.types) words.length g.start its),(0,0))
structure XR where
 wt:Int
 code:List Int
 tree:dY
structure Ch0 where
 rk:XR
 Ah:Nat
 Wl:List Nat
structure Zu where
 done:List XR
 next:List Ch0
 begun:Bool
def nl0:Zu:=⟨[],[],false⟩
abbrev HY:=List Zu
structure lX where
 its:List jY
 rules:List Int
 aG:List Int
def wy0:og:=⟨0,0,[]⟩
def lX.Ah (B:lX)(e w:Nat):og:=(B.its.getD e fX).cD.getD w wy0
def Hu (g:fD)(its:List jY):lX:=⟨its,g.rules.map (·.weight),g.aG.map (·.weight)⟩
inductive qI:dY→Prop
 |mk {r l:Int} {ks:List dY} (h:ks.length≤1000) (k:∀t∈ks,qI t):qI (.mk r l ks)
def p5 (B:lX)(e:Nat):Nat:=((B.its.getD e fX).ed.tqo-(B.its.getD e fX).ed.frm)*4+(B.its.getD e fX).ed.cp
def HL (B:lX)(e:Nat):Nat:=8*((B.its.getD e fX).ed.tqo-(B.its.getD e fX).ed.frm)-7+(B.its.getD e fX).ed.cp
def NB (B:lX)(e:Nat):Nat:=(B.its.getD e fX).cD.length
def Lm (B:lX)(l:List Nat):Nat:=(l.map (HL B)).sum
theorem Ln (B:lX)(k:Nat)(l:List Nat):Lm B (k::l)=HL B k+Lm B l:=by unfold Lm;rw[fM,pK]
structure qU (B:lX):Prop where
 lex:∀e w,e<B.its.length→w<NB B e→(B.Ah e w).rule<0→(B.Ah e w).kids=[]∧(B.Ah e w).lex<B.aG.length∧1≤HL B e
 rule:∀e w,e<B.its.length→w<NB B e→¬(B.Ah e w).rule<0→(B.Ah e w).rule<B.rules.length∧(B.Ah e w).kids.length≤3∧(∀k∈(B.Ah e w).kids,k<B.its.length∧p5 B k<p5 B e)∧Lm B (B.Ah e w).kids+1≤HL B e
 sz:∀e w,e<B.its.length→w<NB B e→ -1≤(B.Ah e w).rule∧(B.Ah e w).rule≤1000∧0≤(B.Ah e w).lex∧(B.Ah e w).lex≤1000
 wr:∀x∈B.rules,-1000000≤x∧x≤1000000
 wx:∀x∈B.aG,-1000000≤x∧x≤1000000
 bd:∀e,e<B.its.length→HL B e≤100
 ht:∀e,e<B.its.length→p5 B e<60
 nw:∀e,e<B.its.length→NB B e≤1117240000000
def aiB (x:XR):Prop:= -(1000000*(x.code.length:Int))≤x.wt∧x.wt≤1000000*(x.code.length:Int)
def ah9 (x:XR):Prop:=∀v∈x.code,0≤v∧v≤2000
def aiA (t:dY):Prop:= -1≤t.rule∧t.rule≤1000∧0≤t.lex∧t.lex≤1000
structure aaI (B:lX)(e:Nat)(x:XR):Prop where
 len:x.code.length≤HL B e
 wt:aiB x
 cd:ah9 x
 thin:qI x.tree
 rt:aiA x.tree
structure SZ (B:lX)(e D:Nat)(c:Ch0):Prop where
 rk:aaI B e c.rk
 Ah:c.Ah<NB B e
 len:c.Wl.length=(B.Ah e c.Ah).kids.length
 rks:∀r∈c.Wl,r≤D
theorem SZ.mono {B:lX}{e D a:Nat}{c:Ch0}(h:SZ B e D c)(hd:D≤a):SZ B e a c:=⟨h.rk,h.Ah,h.len,λr b=>dH (h.rks r b) hd⟩
structure XN (B:lX)(e:Nat)(x:Zu):Prop where
 done:∀k∈x.done,aaI B e k
 next:∀c∈x.next,SZ B e x.done.length c
 dl:x.done.length+p5 B e≤262
 new:x.begun=false→x.done=[]∧x.next=[]
 nl:x.next.length≤NB B e+3*x.done.length
structure NL (B:lX)(st:HY):Prop where
 len:st.length=B.its.length
 nl:∀(e:Nat) (x:Zu),st[e]?=some x→XN B e x
theorem NL.at_ {B:lX}{st:HY}(h:NL B st){e:Nat}(he:e<B.its.length):∃x,st[e]?=some x∧st.getD e nl0=x∧XN B e x:=by
 have a:e<st.length:=by rw[h.len];exact he
 exact⟨st[e],bT a,by rw[ax,bT a];rfl,h.nl e _ (bT a)⟩
theorem NL.set {B:lX}{st:HY}(h:NL B st){e:Nat}{y:Zu}(hy:XN B e y):NL B (st.set e y):=by
 refine⟨by rw[ep];exact h.len,λi x hx=> ?_⟩
 by_cases hi:e=i
 ·subst hi
  have a:e<st.length:=by have:=(fj.1 hx).1;rwa[ep]at this
  rw[ic a]at hx;obtain rfl:=Option.some.inj hx;exact hy
 ·rw[iz hi]at hx;exact h.nl i x hx
def Kp (B:lX)(e:Nat)(st a:HY):Prop:=∀i,p5 B e≤p5 B i→a[i]?=st[i]?
theorem Kp.refl (B:lX)(e:Nat)(st:HY):Kp B e st st:=λ_ _=>rfl
theorem Kp.trans {B:lX}{e:Nat}{a b c:HY}(h:Kp B e a b)(k:Kp B e b c):Kp B e a c:=λi hi=>(k i hi).trans (h i hi)
def Hp (B:lX)(e:Nat)(st a:HY):Prop:=∀i,p5 B e<p5 B i→a[i]?=st[i]?
theorem Hp.refl (B:lX)(e:Nat)(st:HY):Hp B e st st:=λ_ _=>rfl
theorem Hp.trans {B:lX}{e:Nat}{a b c:HY}(h:Hp B e a b)(k:Hp B e b c):Hp B e a c:=λi hi=>(k i hi).trans (h i hi)
theorem Kp.hp {B:lX}{e:Nat}{a b:HY}(h:Kp B e a b):Hp B e a b:=λi hi=>h i (Nat.le_of_lt hi)
theorem Hp.set {B:lX}{e:Nat}(st:HY)(y:Zu):Hp B e st (st.set e y):=λi hi=>iz (λh=>by subst h;omega)
section
variable {B:lX}{f:Nat}{get:HY→Nat→Nat→HY×Option XR}
end
def akF (g:fD)(c:List cM):Bool:=decide ((fO g c).2.1=0)&&decide (0<(fO g c).1.2.length)
def NN:List (List cM)→List Nat→Prop
 | [],[]=>True
 |s::b,a::c=>a<s.length∧NN b c
 |_,_=>False
theorem NN.len:∀{b:List (List cM)} {c:List Nat},NN b c→c.length=b.length
 | [],[],_=>rfl
 |s::b,a::c,h=>by rw[fL,fL,h.2.len]
 | [],_::_,h=>h.elim
 |_::_,[],h=>h.elim
theorem NN.at:∀{c:List (List cM)} {d:List Nat},NN c d→∀{i a:Nat} {s:List cM},d[i]?=some a→c[i]?=some s→a<s.length
 | [],[],_,i,a,s,h,_=>by simp at h
 |s::c,a::d,h,0,b,t,h1,e=>by
  obtain rfl:=Option.some.inj h1;obtain rfl:=Option.some.inj e;exact h.1
 |s::c,a::d,h,i+1,b,t,h1,e=>h.2.at (i:=i) h1 e
 | [],_::_,h,_,_,_,_,_=>h.elim
 |_::_,[],h,_,_,_,_,_=>h.elim
theorem qm {α β:Type}(f:α→List β)(m:Nat):∀(l:List α),(∀x∈l,(f x).length=m)→(l.flatMap f).length=l.length*m
 | [],_=>(rJ m).symm
 |x::l,h=>by rw[iQ,cA,h x (by simp),qm f m l (λy hy=>h y (by simp[hy])),fL,Nat.succ_mul,Nat.add_comm]
def XZ (g:fD)(outs:List (List cM))(c:List cM):List (List cM):=if akF g c=true then outs++ [c]else outs
mutual
def pF (g:fD):dY→Int
 | .mk r l ks=>if r<0 then((g.aG.map (·.weight))[l.toNat]?).getD 0 else((g.rules.map (·.weight))[r.toNat]?).getD 0+jW g ks
def jW (g:fD):List dY→Int
 | []=>0
 |t::l=>pF g t+jW g l
end
mutual
def tm (g:fD):dY→Bool
 | .mk r l ks=>if r<0 then decide (0≤l)&&decide (l<g.aG.length)else decide (r<g.rules.length)&&rD g ks
def rD (g:fD):List dY→Bool
 | []=>true
 |t::l=>tm g t&&rD g l
end
mutual
def nV:dY→Nat
 | .mk _ _ ks=>1+fp ks
def fp:List dY→Nat
 | []=>0
 |t::l=>nV t+fp l
end
theorem VE (g:fD)(r l:Int)(ks:List dY):pF g (.mk r l ks)=if r<0 then((g.aG.map (·.weight))[l.toNat]?).getD 0 else((g.rules.map (·.weight))[r.toNat]?).getD 0+jW g ks:=by rw[pF]
theorem Za (g:fD)(r l:Int)(ks:List dY):tm g (.mk r l ks)=if r<0 then decide (0≤l)&&decide (l<g.aG.length)else decide (r<g.rules.length)&&rD g ks:=by rw[tm]
theorem Yx (r l:Int)(ks:List dY):nV (.mk r l ks)=1+fp ks:=by rw[nV]
theorem Ci (g:fD):∀(a b:List dY),jW g (a++b)=jW g a+jW g b
 | [],b=>by rw[xR,jW,Int.zero_add]
 |t::a,b=>by rw[se,jW,jW,Ci g a b,Int.add_assoc]
theorem zu:∀(a b:List dY),fp (a++b)=fp a+fp b
 | [],b=>by rw[xR,fp,jH]
 |t::a,b=>by rw[se,fp,fp,zu a b,vI]
theorem AZ {g:fD}:∀{l:List dY},rD g l=true→∀t∈l,tm g t=true
 | [],_,_,h=>by cases h
 |x::l,h,t,ht=>by
  rw[rD,nQ]at h
  rcases cN.1 ht with rfl|ht
  ·exact h.1
  ·exact AZ h.2 t ht
theorem L3 {g:fD}:∀{l:List dY},(∀t∈l,tm g t=true)→rD g l=true
 | [],_=>by rw[rD]
 |x::l,h=>by rw[rD,h x (by simp),L3 λt ht=>h t (by simp[ht])];rfl
theorem GM:∀{l:List dY} {t:dY},t∈l→nV t≤fp l
 | [],_,h=>by cases h
 |x::l,t,h=>by
  rw[fp]
  rcases cN.1 h with rfl|h
  ·exact Nat.le_add_right _ _
  ·exact dH (GM h) (Nat.le_add_left _ _)
theorem GL:∀(l:List dY),l.length≤fp l
 | []=>aQ _
 |x::l=>by
  cases x with
  |mk r w ks=>
   rw[fp,nV,fL]
   have:=GL l
   omega
theorem vx {l:List dY}(k:Nat):fp (l.take k)≤fp l:=by
 have h:=zu (l.take k) (l.drop k)
 rw[nR]at h;omega
structure SI (g:fD):Prop where
 r:∀x∈g.rules,0≤x.weight∧x.weight≤1000000
 x:∀x∈g.aG,0≤x.weight∧x.weight≤1000000
theorem KQ {l:List Int}(h:∀x∈l,0≤x∧x≤1000000)(i:Nat):0≤(l[i]?).getD 0∧(l[i]?).getD 0≤1000000:=by
 rcases dI i l.length with hi|hi
 ·rw[bT hi];exact h _ (gl hi)
 ·rw[iR hi];exact⟨Int.le_refl _,by decide⟩
mutual
theorem Kv {g:fD}(h:SI g):∀t:dY,0≤pF g t∧pF g t≤1000000*(nV t:Int)
 | .mk r l ks=>by
  rw[pF,nV]
  have h1:=KQ (l:=g.aG.map (·.weight)) (λx hx=>by obtain⟨y,hy,rfl⟩:=cS.1 hx;exact h.x y hy) l.toNat
  have a:=KQ (l:=g.rules.map (·.weight)) (λx hx=>by obtain⟨y,hy,rfl⟩:=cS.1 hx;exact h.r y hy) r.toNat
  have b:=AU h ks
  split
  ·push_cast;omega
  ·push_cast;omega
theorem AU {g:fD}(h:SI g):∀l:List dY,0≤jW g l∧jW g l≤1000000*(fp l:Int)
 | []=>by rw[jW,fp];exact⟨Int.le_refl _,by decide⟩
 |t::l=>by
  rw[jW,fp]
  have h1:=Kv h t
  have a:=AU h l
  push_cast;omega
end
theorem JR {g:fD}{l:List dY}{k:Nat}{t:dY}(h:l[k]?=some t):jW g (l.take (k+1))=jW g (l.take k)+pF g t:=by
 rw[List.take_add_one,h,Ci];show _+(jW g [t])=_;rw[jW,jW,Int.add_zero]
def du:Nat:=1099511627776
def mulC (n m:Nat):Nat:=if du/m<n then du else n*m
def zB (get:Nat→Nat)(x:og):Nat:=x.kids.foldl (λn k=>mulC n (get k)) 1
def cntF (its:List jY):Nat→Nat→Nat
 |0,_=>0
 |f+1,i=>(its.getD i fX).cD.foldl (λs x=>min (s+zB (cntF its f) x) du) 0
def lZ (l k:List dY):List dY:=l.flatMap λt=>k.map λs=> .mk t.rule 0 (t.kids++ [s])
def pc (get:Nat→List dY)(x:og):List dY:=x.kids.foldl (λl k=>lZ l (get k)) [.mk x.rule x.lex []]
def kJ (its:List jY):Nat→Nat→List dY
 |0,_=>[]
 |f+1,i=>(its.getD i fX).cD.flatMap (pc (kJ its f))
theorem Q3 {a b:Nat}(f:1≤b):mulC (min a du) (min b du)=min (a*b) du:=by
 have g:du=1099511627776:=rfl
 unfold mulC
 rcases dI b du with h|h
 ·rw[il (Nat.le_of_lt h)]
  by_cases h1:du/b<min a du
  ·rw[aB h1]
   rw[Nat.div_lt_iff_lt_mul zE]at h1
   have c:min a du*b≤a*b:=fC _ (Nat.min_le_left _ _)
   rw[Nat.min_eq_right zE]
  ·rw[aA h1]
   rw[Nat.div_lt_iff_lt_mul zE]at h1
   rcases Nat.le_total a du with d|d
   ·rw[il d]at h1⊢
    rw[il zE]
   ·rw[Nat.min_eq_right d]at h1⊢
    have e:b=1:=by
     rcases dI 1 b with c|c
     ·have:=tZ du c;omega
     ·omega
    subst e;rw[fU,fU,Nat.min_eq_right d]
 ·rw[Nat.min_eq_right h,Nat.div_self zE]
  rcases dI 1 (min a du)with h1|h1
  ·rw[aB h1]
   have c:2*b≤a*b:=fC _ zE
   rw[Nat.min_eq_right zE]
  ·rw[aA zE]
   rcases dI a 1 with c|c
   ·obtain rfl:a=0:=by omega
    simp
   ·obtain rfl:a=1:=by omega
    rw[il zE,nM,nM,Nat.min_eq_right h]
theorem u9 (l k:List dY):(lZ l k).length=l.length*k.length:=by
 unfold lZ
 induction l with
 |nil=>simp
 |cons t l a=>rw[iQ,cA,aO,a,fL,jK,nM,Nat.add_comm]
theorem uY (get:Nat→List dY):∀(ks:List Nat) (l:List dY),(∀k∈ks,1≤(get k).length)→l.length≤(ks.foldl (λl k=>lZ l (get k)) l).length
 | [],_,_=>aU _
 |k::ks,l,h=>by
  have h1:=h k (aR ..)
  have a:=uY get ks (lZ l (get k)) λq b=>h q (cO _ b)
  rw[u9]at a
  have c:l.length*1≤l.length*(get k).length:=tZ _ h1
  rw[jX];omega
theorem Bw (get:Nat→List dY)(cnt:Nat→Nat):∀(ks:List Nat) (l:List dY),(∀k∈ks,1≤(get k).length∧cnt k=min (get k).length du)→ks.foldl (λn k=>mulC n (cnt k)) (min l.length du)=min (ks.foldl (λl k=>lZ l (get k)) l).length du
 | [],_,_=>rfl
 |k::ks,l,h=>by
  obtain⟨h1,a⟩:=h k (aR ..);rw[jX,jX,a,Q3 h1,←u9]
  exact Bw get cnt ks (lZ l (get k)) λq b=>h q (cO _ b)
theorem OG {get:Nat→List dY}{cnt:Nat→Nat}{x:og}(h:∀k∈x.kids,1≤(get k).length∧cnt k=min (get k).length du):zB cnt x=min (pc get x).length du:=
 Bw get cnt x.kids [.mk x.rule x.lex []] h
theorem Pq {get:Nat→List dY}{x:og}(h:∀k∈x.kids,1≤(get k).length):1≤(pc get x).length:=uY get x.kids [.mk x.rule x.lex []] h
theorem FO {get:Nat→List dY}{cnt:Nat→Nat}:∀(ws:List og) (a:Nat),(∀x∈ws,zB cnt x=min (pc get x).length du)→ws.foldl (λs x=>min (s+zB cnt x) du) (min a du)=min (a+(ws.flatMap (pc get)).length) du
 | [],a,_=>rfl
 |x::ws,a,h=>by
  have e:min (min a du+min (pc get x).length du) du=min (a+(pc get x).length) du:=by omega
  rw[jX,h x (aR ..),e,FO ws _ λy hy=>h y (cO _ hy),iQ,cA,vI]
theorem Jc {B:lX}{e:Nat}{x:og}(hx:x∈(B.its.getD e fX).cD):∃w,w<NB B e∧B.Ah e w=x:=by
 obtain⟨w,hw,rfl⟩:=Ar.1 hx;refine⟨w,hw,?_⟩;unfold lX.Ah
 rw[ax,bT hw];rfl
theorem vp {B:lX}(a:qU B){e:Nat}(he:e<B.its.length){x:og}(hx:x∈(B.its.getD e fX).cD):∀k∈x.kids,k<B.its.length∧p5 B k<p5 B e:=by
 obtain⟨w,hw,rfl⟩:=Jc hx;intro k hk
 by_cases b:(B.Ah e w).rule<0
 ·rw[(a.lex e w he hw b).1]at hk;cases hk
 ·exact(a.rule e w he hw b).2.2.1 k hk
def nh (its:List jY):Prop:=∀e,e<its.length→(its.getD e fX).cD≠ []
theorem yO {B:lX}(b:qU B)(hw:nh B.its):∀(f e:Nat),e<B.its.length→p5 B e<f→1≤(kJ B.its f e).length
 |0,_,_,h=>by omega
 |f+1,e,he,h=>by
  rw[kJ]
  have h1:=hw e he
  have hk:=λx hx=>vp b he (x:=x) hx
  match a:(B.its.getD e fX).cD,h1 with
  |x::ws,_=>
   have hx:x∈(B.its.getD e fX).cD:=by rw[a];exact aR ..
   have:=Pq (get:=kJ B.its f) (x:=x) λk c=>by
    have:=hk x hx k c
    exact yO b hw f k this.1 zE
   rw[iQ,cA];omega
theorem Df {B:lX}(a:qU B)(hw:nh B.its):∀(f e:Nat),e<B.its.length→p5 B e<f→cntF B.its f e=min (kJ B.its f e).length du
 |0,_,_,h=>by omega
 |f+1,e,he,h=>by
  rw[cntF,kJ]
  have hk:=λx hx=>vp a he (x:=x) hx
  have:=FO (get:=kJ B.its f) (cnt:=cntF B.its f) (B.its.getD e fX).cD 0 λx hx=>OG λk c=>by
   have b:=hk x hx k c
   exact⟨yO a hw f k b.1 zE,Df a hw f k b.1 zE⟩
  rw[jH]at this;exact this
theorem yi {g h:Nat→List dY}:∀(ks:List Nat) (l:List dY),(∀k∈ks,g k=h k)→ks.foldl (λl k=>lZ l (g k)) l=ks.foldl (λl k=>lZ l (h k)) l
 | [],_,_=>rfl
 |k::ks,l,e=>by
  rw[jX,jX,e k (aR ..)]
  exact yi ks _ λq a=>e q (cO _ a)
theorem Il {g h:Nat→List dY}{x:og}(e:∀k∈x.kids,g k=h k):pc g x=pc h x:=yi x.kids _ e
theorem zt {g h:Nat→Nat}:∀(ks:List Nat) (l:Nat),(∀k∈ks,g k=h k)→ks.foldl (λn k=>mulC n (g k)) l=ks.foldl (λn k=>mulC n (h k)) l
 | [],_,_=>rfl
 |k::ks,l,e=>by
  rw[jX,jX,e k (aR ..)]
  exact zt ks _ λq a=>e q (cO _ a)
theorem I0 {g h:Nat→Nat}{x:og}(e:∀k∈x.kids,g k=h k):zB g x=zB h x:=zt x.kids _ e
theorem G8 {B:lX}(b:qU B):∀(f a e:Nat),e<B.its.length→p5 B e<f→p5 B e<a→kJ B.its f e=kJ B.its a e
 |0,_,_,_,h,_=>by omega
 |_+1,0,_,_,_,h=>by omega
 |f+1,a+1,e,he,h,g=>by
  rw[kJ,kJ]
  have hk:=λx hx=>vp b he (x:=x) hx
  have hm:∀x∈(B.its.getD e fX).cD,pc (kJ B.its f) x=pc (kJ B.its a) x:=λx hx=>Il λk c=>by
   have d:=hk x hx k c
   exact G8 b f a k d.1 zE zE
  rw[List.flatMap_def,List.flatMap_def,sk hm]
theorem q9 {g h:og→Nat}:∀(ws:List og) (a:Nat),(∀x∈ws,g x=h x)→ws.foldl (λs x=>min (s+g x) du) a=ws.foldl (λs x=>min (s+h x) du) a
 | [],_,_=>rfl
 |x::ws,a,e=>by
  rw[jX,jX,e x (aR ..)]
  exact q9 ws _ λy hy=>e y (cO _ hy)
theorem FP {B:lX}(b:qU B):∀(f a e:Nat),e<B.its.length→p5 B e<f→p5 B e<a→cntF B.its f e=cntF B.its a e
 |0,_,_,_,h,_=>by omega
 |_+1,0,_,_,_,h=>by omega
 |f+1,a+1,e,he,h,g=>by
  rw[cntF,cntF]
  have hk:=λx hx=>vp b he (x:=x) hx
  exact q9 _ _ λx hx=>I0 λk c=>by
   have d:=hk x hx k c
   exact FP b f a k d.1 zE zE
def U6 (r l:Int):Int:=if r<0 then 1000+l else r
mutual
def jZ:dY→List Int
 | .mk r l ks=>U6 r l::kq ks
def kq:List dY→List Int
 | []=>[]
 |t::l=>jZ t++kq l
end
mutual
def Ek (g:fD):dY→Bool
 | .mk r l ks=>if r<0 then decide (r= -1)&&decide (0≤l)&&decide (ks.length=0)else decide (r<1000)&&decide (l=0)&&decide ((ks.length:Int)=((g.rules.map (·.kids))[r.toNat]?).getD 0)&&xY g ks
def xY (g:fD):List dY→Bool
 | []=>true
 |t::l=>Ek g t&&xY g l
end
def xy (g:fD)(a b:dY):Int:=te (lf (pF g a) (pF g b)) (kI lf (jZ a) (jZ b))
section
variable {B:lX}{f:Nat}{get:HY→Nat→Nat→HY×Option XR}
end
theorem mL {a b:Nat}(c:a<256)(d:b<256)(h:kO (a:Int)=kO (b:Int)):a=b:=by
 have:=congrArg UInt8.toNat h
 unfold kO at this
 simp only[UInt8.toNat_ofNat']at this
 omega
theorem PS {e d:oe}(he:e.frm<256∧e.tqo<256)(hd:d.frm<256∧d.tqo<256)(h:fb e=fb d):e.frm=d.frm∧e.tqo=d.tqo:=by
 unfold fb at h
 simp only[List.cons.injEq]at h
 exact⟨mL he.1 hd.1 h.1,mL he.2 hd.2 h.2.1⟩
theorem zh {its:List jY}{k:cM}{i:Nat}(h:xj its k=some i):∃it,its[i]?=some it∧fb it.ed=k:=by
 obtain⟨hi,h1,_⟩:=List.findIdx?_eq_some_iff_getElem.1 h;exact⟨_,bT hi,im h1⟩
theorem PU {its:List jY}{k:cM}(h:xj its k=none):∀it∈its,fb it.ed≠k:=λit hit=>by
 have:=List.findIdx?_eq_none_iff.1 h it hit
 exact ly (by simpa using this)
def slt (n i j:Nat):Nat:=i*(n+1)+j
theorem EO {n i j a b:Nat}(e:j≤n)(f:b≤n)(h:slt n i j=slt n a b):i=a∧j=b:=by
 unfold slt at h
 have h1:(i*(n+1)+j)/(n+1)=i:=by rw[Nat.mul_comm,Nat.mul_add_div zE,Nat.div_eq_of_lt zE,hY]
 have c:(a*(n+1)+b)/(n+1)=a:=by rw[Nat.mul_comm,Nat.mul_add_div zE,Nat.div_eq_of_lt zE,hY]
 have d:i=a:=by rw[←h1,←c,h]
 subst d;exact⟨rfl,by omega⟩
theorem tS {n i j:Nat}(hi:i<n)(a:j≤n):slt n i j<n*(n+1):=by
 unfold slt
 have:(i+1)*(n+1)≤n*(n+1):=fC _ hi
 rw[jK]at this;omega
structure Grow (n frm tqo:Nat)(cs gG:Cs)(a:Nat):Prop where
 more:cs.its.length≤gG.its.length
 most:gG.its.length≤cs.its.length+a
 HO:gG.sp.length=cs.sp.length
 Z5:∀k,k≠slt n frm tqo→gG.sp.getD k []=cs.sp.getD k []
 own:(gG.sp.getD (slt n frm tqo) []).length≤(cs.sp.getD (slt n frm tqo) []).length+a
 ed:∀i,i<cs.its.length→gG.ed i=cs.ed i
 new:∀i,cs.its.length≤i→i<gG.its.length→(gG.ed i).frm=frm∧(gG.ed i).tqo=tqo
 far:∀i,i<cs.its.length→¬((cs.ed i).frm=frm∧(cs.ed i).tqo=tqo)→gG.its.getD i fX=cs.its.getD i fX
 cD:∀i,i<gG.its.length→(gG.its.getD i fX).cD.length≤(cs.its.getD i fX).cD.length+a
theorem Grow.refl (n frm tqo:Nat)(cs:Cs):Grow n frm tqo cs cs 0:=
 ⟨aU _,aU _,rfl,λ_ _=>rfl,aU _,λ_ _=>rfl,λi h1 a=>by omega,λ_ _ _=>rfl,λ_ _=>aU _⟩
theorem Grow.trans {n frm tqo:Nat}{x y z:Cs}{a b:Nat}(h:Grow n frm tqo x y a)(k:Grow n frm tqo y z b):Grow n frm tqo x z (a+b):=by
 refine⟨dH h.more k.more,by have:=h.most;have:=k.most;omega,k.HO.trans h.HO,λi hi=>(k.Z5 i hi).trans (h.Z5 i hi),by have:=h.own;have:=k.own;omega,λi hi=> ?_,λi h1 d=> ?_,λi hi f=> ?_,λi hi=> ?_⟩
 ·rw[k.ed i (fg hi h.more),h.ed i hi]
 ·by_cases c:i<y.its.length
  ·rw[k.ed i c];exact h.new i h1 c
  ·exact k.new i zE d
 ·rw[k.far i (fg hi h.more) (by rw[h.ed i hi];exact f),h.far i hi f]
 ·have h1:=k.cD i hi
  by_cases c:i<y.its.length
  ·have d:=h.cD i c;omega
  ·have e:y.its.getD i fX=fX:=by rw[ax,iR zE];rfl
   rw[e]at h1
   have:fX.cD.length=0:=rfl
   omega
theorem Grow.mono {n frm tqo:Nat}{x y:Cs}{a b:Nat}(h:Grow n frm tqo x y a)(c:a≤b):Grow n frm tqo x y b:=
 ⟨h.more,by have:=h.most;omega,h.HO,h.Z5,by have:=h.own;omega,h.ed,h.new,h.far,λi hi=>by have:=h.cD i hi;omega⟩
structure gw (nt nf n:Nat)(cs:Cs):Prop where
 HO:cs.sp.length=n*(n+1)
 idx:∀l∈cs.sp,∀e∈l,e<cs.its.length
 tot:(cs.sp.map List.length).sum=cs.its.length
 prt:∀i j e,j≤n→e∈cs.sp.getD (slt n i j) []→(cs.ed e).frm=i∧(cs.ed e).tqo=j
 gr:∀it∈cs.its,it.ed.frm<it.ed.tqo∧it.ed.tqo≤n∧it.ed.cp≤3∧eG nt nf it.ed.gr∧it.ed.gr.length≤60
 cB:∀it∈cs.its,it.cB.length≤it.cD.length
 kids:∀it∈cs.its,∀w∈it.cD,∀k∈w.kids,k<cs.its.length
theorem gw.Hl {nt nf n:Nat}{cs:Cs}(h:gw nt nf n cs){k e:Nat}(he:e∈cs.sp.getD k []):e<cs.its.length:=by
 rw[ax]at he
 cases c:cs.sp[k]? with
 |none=>rw[c]at he;cases he
 |some l=>rw[c]at he;exact h.idx l (aY c) e he
theorem jY.EJ (it:jY)(w:og):(it.put w).cD=it.cD++ [w]:=rfl
theorem JT {l:List (List Nat)}{k:Nat}(x:Nat)(h:k<l.length):((l.modify k λm=>m++ [x]).map List.length).sum=(l.map List.length).sum+1:=by
 induction l generalizing k with
 |nil=>cases h
 |cons a l b=>
  cases k with
  |zero=>simp;omega
  |succ k=>
   rw[List.modify_succ_cons,fM,fM,pK,pK,b (by simpa using h)];omega
theorem getD_modify {α:Type}{l:List α}{f:α→α}{i j:Nat}{d:α}(h:j<l.length):(l.modify i f).getD j d=if i=j then f (l.getD j d)else l.getD j d:=by
 simp only[List.getD_eq_getElem?_getD,List.getElem?_modify,List.getElem?_eq_getElem h,Option.map_some,Option.getD_some]
 split<;>simp_all
theorem yj {nt nf n:Nat}(I:n≤12){cs:Cs}(h:gw nt nf n cs){e:oe}{w:og}(he:e.frm<e.tqo∧e.tqo≤n∧e.cp≤3∧eG nt nf e.gr∧e.gr.length≤60)(hk:∀k∈w.kids,k<cs.its.length):
 gw nt nf n (j6 n cs e w)∧Grow n e.frm e.tqo cs (j6 n cs e w) 1:=by
 have A:slt n e.frm e.tqo<cs.sp.length:=by rw[h.HO];exact tS zE he.2.1
 unfold j6
 cases D:xj cs.its (fb e)with
 |some i=>
  dsimp only
  obtain⟨it,hit,E⟩:=zh D
  have hm:=aY hit
  obtain⟨g1,g2,g3,g4,g5⟩:=h.gr it hm;obtain⟨s1,s2⟩:=PS (e:=it.ed) (d:=e) ⟨by omega,by omega⟩ ⟨by omega,by omega⟩ E
  have J:i<cs.its.length:=(fj.1 hit).1
  have s:cs.its.getD i fX=it:=by rw[ax,hit];rfl
  have t:∀x∈cs.its.modify i (λit=>it.put w),x∈cs.its∨x=it.put w:=λx hx=>by
   obtain⟨j,a⟩:=List.mem_iff_getElem?.1 hx;rw[List.getElem?_modify]at a
   split at a
   ·rename_i e2;subst e2;rw[hit]at a;exact .inr (Option.some.inj a).symm
   ·simp at a;exact .inl (aY a)
  have B:∀j,j<cs.its.length→(⟨cs.its.modify i λit=>it.put w,cs.sp⟩:Cs).ed j=cs.ed j:=λj a=>by
   unfold Cs.ed;rw[getD_modify a]
   split<;>rfl
  refine⟨⟨h.HO,λl u x hx=>by rw[qG];exact h.idx l u x hx,by rw[qG];exact h.tot,λo p g q b=> ?_,λx hx=> ?_,λx hx=> ?_,λx hx v f k m=> ?_⟩,⟨by rw[qG];exact aU _,by rw[qG];omega,rfl,λ_ _=>rfl,Nat.le_succ _,λj a=> ?_,λj h1 y=>by rw[qG]at y;omega,λj a C=> ?_,λj a=> ?_⟩⟩
  ·rw[B g (h.Hl b)]
   exact h.prt o p g q b
  ·rcases t x hx with hx|rfl
   ·exact h.gr x hx
   ·exact h.gr it hm
  ·rcases t x hx with hx|rfl
   ·exact h.cB x hx
   ·have:=h.cB it hm
    show(if tX w∈it.cB then it.cB else it.cB++ [tX w]).length≤(it.cD++ [w]).length
    rw[cA]
    split
    ·simp;omega
    ·rw[cA];simp;omega
  ·rw[qG]
   rcases t x hx with hx|rfl
   ·exact h.kids x hx v f k m
   ·rcases ca.1 f with f|f
    ·exact h.kids it hm v f k m
    ·rw[ba.1 f]at m;exact hk k m
  ·exact B j a
  ·rw[getD_modify a,aA]
   rintro rfl;exact C (by unfold Cs.ed;rw[s];exact⟨s1,s2⟩)
  ·rw[qG]at a
   rw[getD_modify a]
   split
   ·rw[jY.EJ,cA];simp
   ·omega
 |none=>
  dsimp only
  have hlen:(cs.its++ [(⟨e,[],[]⟩:jY).put w]).length=cs.its.length+1:=by simp
  have hold:∀j,j<cs.its.length→(cs.its++ [(⟨e,[],[]⟩:jY).put w]).getD j fX=cs.its.getD j fX:=λj a=>by
   rw[ax,rL a,←ax]
  have z:(cs.its++ [(⟨e,[],[]⟩:jY).put w]).getD cs.its.length fX=(⟨e,[],[]⟩:jY).put w:=by
   rw[ax,nO (aU _),gp];rfl
  refine⟨⟨by rw[qG];exact h.HO,λl u x hx=> ?_,by rw[hlen,←h.tot];exact JT _ A,λo p g q b=> ?_,λx hx=> ?_,λx hx=> ?_,λx hx v f k m=> ?_⟩,⟨by rw[hlen];omega,by rw[hlen];omega,by rw[qG],λk F=> ?_,?_,λj a=> ?_,λj h1 y=> ?_,λj a C=>hold j a,λj a=> ?_⟩⟩
  ·rw[hlen]
   obtain⟨j,a⟩:=List.mem_iff_getElem?.1 u;rw[List.getElem?_modify]at a
   split at a
   ·obtain⟨l0,h1,rfl⟩:=eE.1 a
    rcases ca.1 hx with hx|hx
    ·have:=h.idx l0 (aY h1) x hx;omega
    ·rw[ba.1 hx];omega
   ·simp at a
    have:=h.idx l (aY a) x hx;omega
  ·have r:∀l0,g∈cs.sp.getD (slt n o p) []→(⟨cs.its++ [(⟨e,[],[]⟩:jY).put w],l0⟩:Cs).ed g=cs.ed g:=λl0 hx=>by unfold Cs.ed;rw[hold g (h.Hl hx)]
   by_cases c:slt n o p<cs.sp.length
   ·dsimp only at b
    rw[getD_modify c]at b
    split at b
    ·rename_i e2
     obtain⟨G,H⟩:=EO he.2.1 q e2
     rcases ca.1 b with hx|hx
     ·rw[r _ hx];exact h.prt o p g q hx
     ·rw[ba.1 hx];unfold Cs.ed;dsimp only;rw[z];exact⟨G,H⟩
    ·rw[r _ b];exact h.prt o p g q b
   ·dsimp only at b
    rw[ax,iR (by rw[qG];omega)]at b
    cases b
  ·rcases ca.1 hx with hx|hx
   ·exact h.gr x hx
   ·rw[ba.1 hx];exact he
  ·rcases ca.1 hx with hx|hx
   ·exact h.cB x hx
   ·rw[ba.1 hx]
    show(if tX w∈([]:List Int)then([]:List Int)else []++ [tX w]).length≤(([]:List og)++ [w]).length
    rw[aA (by simp)];exact aU _
  ·rw[hlen]
   rcases ca.1 hx with hx|hx
   ·have:=h.kids x hx v f k m;omega
   ·rw[ba.1 hx]at f
    rw[jY.EJ,xR]at f;rw[ba.1 f]at m
    have:=hk k m;omega
  ·by_cases c:k<cs.sp.length
   ·rw[getD_modify c,aA (λe2=>F e2.symm)]
   ·rw[ax,ax,iR (by rw[qG];omega),iR zE]
  ·rw[getD_modify A,aB (show e.frm*(n+1)+e.tqo=slt n e.frm e.tqo from rfl),cA];simp
  ·unfold Cs.ed;rw[hold j a]
  ·rw[hlen]at y
   obtain rfl:j=cs.its.length:=by omega
   unfold Cs.ed;rw[z];exact⟨rfl,rfl⟩
  ·rw[hlen]at a
   by_cases c:j<cs.its.length
   ·rw[hold j c];omega
   ·obtain rfl:j=cs.its.length:=by omega
    rw[z,jY.EJ];simp
structure Room (cs:Cs)(m:Nat):Prop where
 its:cs.its.length+m≤1400000000000
 cD:∀it∈cs.its,it.cD.length+m≤3000000000000
theorem Room.at_ {cs:Cs}{m i:Nat}(h:Room cs m):(cs.its.getD i fX).cD.length+m≤3000000000000:=by
 by_cases c:i<cs.its.length
 ·rw[ax,bT c];exact h.cD _ (gl c)
 ·rw[ax,iR zE]
  show 0+m≤_
  have:=h.its;omega
theorem Room.grow {n frm tqo:Nat}{cs gG:Cs}{a b:Nat}(h:Room cs (a+b))(k:Grow n frm tqo cs gG a):Room gG b:=by
 refine⟨by have:=k.most;have:=h.its;omega,λit hit=> ?_⟩;obtain⟨i,hi,rfl⟩:=Ar.1 hit
 have h1:=k.cD i hi
 have c:=h.at_ (i:=i)
 rw[ax,bT hi]at h1
 have h1:(gG.its[i]).cD.length≤_:=h1
 omega
theorem Room.mono {cs:Cs}{a b:Nat}(h:Room cs b)(c:a≤b):Room cs a:=⟨by have:=h.its;omega,λit hit=>by have:=h.cD it hit;omega⟩
theorem ig {β:Type}{n frm tqo:Nat}(f:Cs→β→Cs)(b:β→Nat)(I:Cs→Prop):∀(l:List β) (cs:Cs),I cs→(∀cs x,x∈l→I cs→I (f cs x)∧Grow n frm tqo cs (f cs x) (b x))→I (l.foldl f cs)∧Grow n frm tqo cs (l.foldl f cs) ((l.map b).sum)
 | [],cs,h,_=>⟨h,Grow.refl ..⟩
 |x::l,cs,h,a=>by
  obtain⟨h1,c⟩:=a cs x (by simp) h
  obtain⟨d,e⟩:=ig f b I l (f cs x) h1 λcs y hy=>a cs y (by simp[hy])
  exact⟨d,c.trans e⟩
def Sd (n frm tqo:Nat)(c:Nat→Nat→Nat)(cs:Cs):Prop:=∀i j,j≤n→¬(i=frm∧j=tqo)→(cs.at_ n i j).length=c i j
theorem Sd.grow {n frm tqo:Nat}{c:Nat→Nat→Nat}{cs gG:Cs}{a:Nat}(h:Sd n frm tqo c cs)(k:Grow n frm tqo cs gG a)(ht:tqo≤n):Sd n frm tqo c gG:=λi j b d=>by
 rw[←h i j b d]
 show(gG.sp.getD (slt n i j) []).length=(cs.sp.getD (slt n i j) []).length
 rw[k.Z5 _ λe=>d (EO b ht e)]
def mC (c:Nat→Nat→Nat)(tqo:Nat):Nat→Nat→Nat
 |0,a=>c a tqo
 |l+1,a=>((List.range' (a+1) (tqo-(l+1)-a)).map λen=>c a en*mC c tqo l en).sum
theorem kA {β:Type}(l:List β)(k:Nat):(l.map λ_=>k).sum=l.length*k:=by
 induction l with
 |nil=>simp
 |cons x l a=>rw[fM,pK,a,fL,jK];omega
structure j3 (nt nf n frm tqo:Nat)(c:Nat→Nat→Nat)(m:Nat)(cs:Cs):Prop where
 ok:gw nt nf n cs
 len:Sd n frm tqo c cs
 Fa:m≤cs.its.length
theorem j3.grow {nt nf n frm tqo:Nat}{c:Nat→Nat→Nat}{m a:Nat}{cs gG:Cs}(h:j3 nt nf n frm tqo c m cs)(b:gw nt nf n gG)(k:Grow n frm tqo cs gG a)(ht:tqo≤n):j3 nt nf n frm tqo c m gG:=
 ⟨b,h.len.grow k ht,dH h.Fa k.more⟩
theorem AX {nt nf:Nat}{x:eB}(h:eG nt nf x)(k:Int):(nS x k).toNat<x.length:=by
 unfold nS
 split
 ·rename_i y e
  have:=(h.at_ h.pos).2.2 y (List.mem_of_find?_eq_some e)
  omega
 ·exact h.pos
theorem JQ {nt nf:Nat}{mt:Nat→Nat→Option Nat}(c:xW nt mt){x y z:eB}{k:Int}(hx:eG nt nf x)(hy:eG nt nf y)(h:nZ mt x k y=some z):eG nt nf z∧z.length≤60∧∀j∈mN (x.getD 0 gq).2,j∈mN (z.getD 0 gq).2:=by
 unfold nZ at h
 split at h
 ·rename_i u e
  split at h
  ·obtain rfl:=Option.some.inj h
   obtain⟨a,_,b⟩:=UO c hx hy (AX hx k) e;exact⟨a,by assumption,b⟩
  ·cases h
 ·cases h
theorem qw {nt nf:Nat}{x:eB}(hx:eG nt nf x)(c:x.length≤60):eG nt nf (mP x)∧(mP x).length≤60:=by
 obtain⟨a,b,_⟩:=uS hx (AX hx 0);exact⟨a,dH b c⟩
theorem wT {nt nf n:Nat}{Q:Qr}(a:xW nt Q.mt){cs:Cs}(h:gw nt nf n cs){rule b e:Nat}{x y:eB}(hx:eG nt nf x)(he:e<cs.its.length)(hy:ko Q cs rule x b e=some y):eG nt nf y∧y.length≤60∧∀j∈mN (x.getD 0 gq).2,j∈mN (y.getD 0 gq).2:=by
 unfold ko at hy
 split at hy
 ·refine JQ a hx ?_ hy
  unfold Cs.ed;rw[ax,bT he];exact(h.gr _ (gl he)).2.2.2.1
 ·cases hy
theorem gw.qd {nt nf n:Nat}{cs:Cs}(h:gw nt nf n cs){i j e:Nat}(he:e∈cs.at_ n i j):e<cs.its.length:=by
 unfold Cs.at_ at he;rw[ax]at he
 cases c:cs.sp[i*(n+1)+j]? with
 |none=>rw[c]at he;cases he
 |some l=>rw[c]at he;exact h.idx l (aY c) e he
theorem zH {nt nf:Nat}{Q:Qr}(s:Q.n≤12)(j:xW nt Q.mt){rule frm tqo:Nat}(t:frm<tqo)(ht:tqo≤Q.n)(c:Nat→Nat→Nat):∀(l:Nat) (cs:Cs) (x:eB) (kids:List Nat) (a m:Nat),j3 nt nf Q.n frm tqo c m cs→eG nt nf x→(frm<a∨(a=frm∧1≤l))→a<tqo→(∀k∈kids,k<m)→
 j3 nt nf Q.n frm tqo c m (sH Q rule frm tqo l cs x kids a)∧Grow Q.n frm tqo cs (sH Q rule frm tqo l cs x kids a) (mC c tqo l a)
 |0,cs,x,kids,a,m,g,hx,z,A,hk=>by
  have o:∀e∈cs.at_ Q.n a tqo,e<cs.its.length:=λe he=>g.ok.qd he
  have:=ig (n:=Q.n) (frm:=frm) (tqo:=tqo) (λcs e=>match ko Q cs rule x (kids.length+1) e with
   |none=>cs
   |some y=>j6 Q.n cs ⟨frm,tqo,0,mP y⟩ ⟨rule,0,kids++ [e]⟩) (λ_=>1) (λgG=>j3 nt nf Q.n frm tqo c m gG∧cs.its.length≤gG.its.length) (cs.at_ Q.n a tqo) cs ⟨g,aU _⟩ (λd e he ⟨h1,f⟩=>by
    have h:=fg (o e he) f
    cases hy:ko Q d rule x (kids.length+1) e with
    |none=>exact⟨⟨h1,f⟩,(Grow.refl ..).mono (aQ _)⟩
    |some y=>
     dsimp only
     obtain⟨p,u,_⟩:=wT j h1.ok hx h hy;obtain⟨m1,m2⟩:=qw p u
     obtain⟨B,a2⟩:=yj s h1.ok (e:=⟨frm,tqo,0,mP y⟩) (w:=⟨rule,0,kids++ [e]⟩) ⟨t,ht,aQ _,m1,m2⟩ (λk b=>by
      rcases ca.1 b with b|b
      ·have:=hk k b;have:=h1.Fa;omega
      ·rw[ba.1 b];exact h)
     exact⟨⟨h1.grow B a2 ht,dH f a2.more⟩,a2⟩)
  rw[kA,fU,g.len a tqo ht zE]at this;exact⟨this.1.1,this.2⟩
 |l+1,cs,x,kids,a,m,g,hx,z,A,hk=>by
  refine ig (n:=Q.n) (frm:=frm) (tqo:=tqo) (λcs en=>(cs.at_ Q.n a en).foldl (λcs e=>match ko Q cs rule x (kids.length+1) e with
   |none=>cs
   |some y=>sH Q rule frm tqo l cs y (kids++ [e]) en) cs) (λen=>c a en*mC c tqo l en) (j3 nt nf Q.n frm tqo c m) (List.range' (a+1) (tqo-(l+1)-a)) cs g (λd en C h1=> ?_)
  obtain⟨i,hi,rfl⟩:=List.mem_range'.1 C
  have q:a+1+1*i<tqo:=by omega
  have o:∀e∈d.at_ Q.n a (a+1+1*i),e<d.its.length:=λe he=>h1.ok.qd he
  have:=ig (n:=Q.n) (frm:=frm) (tqo:=tqo) (λcs e=>match ko Q cs rule x (kids.length+1) e with
   |none=>cs
   |some y=>sH Q rule frm tqo l cs y (kids++ [e]) (a+1+1*i)) (λ_=>mC c tqo l (a+1+1*i)) (j3 nt nf Q.n frm tqo c (max m d.its.length)) (d.at_ Q.n a (a+1+1*i)) d ⟨h1.ok,h1.len,by have:=h1.Fa;omega⟩ (λv e he f=>by
    have h:e<max m d.its.length:=by have:=o e he;omega
    have r:=fg h f.Fa
    cases hy:ko Q v rule x (kids.length+1) e with
    |none=>exact⟨f,(Grow.refl ..).mono (aQ _)⟩
    |some y=>
     dsimp only
     obtain⟨p,u,_⟩:=wT j f.ok hx r hy
     exact zH s j t ht c l v y (kids++ [e]) (a+1+1*i) _ f p (.inl zE) q (λk b=>by
      rcases ca.1 b with b|b
      ·have:=hk k b;omega
      ·rw[ba.1 b];exact h))
  rw[kA,h1.len a _ zE zE]at this;exact⟨⟨this.1.ok,this.1.len,by have:=this.1.Fa;omega⟩,this.2⟩
theorem Gl (f:Nat→Nat)(a:Nat):∀b:Nat,gQ f (a+b)=gQ f a+gQ (λj=>f (a+j)) b
 |0=>rfl
 |b+1=>by rw[←vI,gQ,gQ,Gl f a b];omega
theorem AP (f:Nat→Nat)(b:Nat):∀a:Nat,gQ f (a*b)=gQ (λi=>gQ (λj=>f (i*b+j)) b) a
 |0=>by rw[rJ];rfl
 |a+1=>by rw[jK,nM,Gl,AP f b a];rfl
theorem Ch (f:Nat→Nat)(a:Nat):∀b:Nat,gQ f a≤gQ f (a+b)
 |0=>aU _
 |b+1=>by rw[←vI,gQ];have:=Ch f a b;omega
theorem yW {f:Nat→Nat}{a b:Nat}(h:a≤b):gQ f a≤gQ f b:=by
 obtain⟨k,rfl⟩:=Nat.exists_eq_add_of_le h;exact Ch f a k
theorem pE {f:Nat→Nat}{i n:Nat}(h:i<n):f i≤gQ f n:=by
 have:=yW (f:=f) (show i+1≤n from h)
 rw[gQ]at this;omega
theorem R9 {f:Nat→Nat}{i j n:Nat}(hi:i<n)(b:j<n)(d:i≠j):f i+f j≤gQ f n:=by
 rcases Nat.lt_or_gt_of_ne d with c|c
 ·have h1:=pE (f:=f) c
  have a:=yW (f:=f) (show j+1≤n from b)
  rw[gQ]at a;omega
 ·have h1:=pE (f:=f) c
  have a:=yW (f:=f) (show i+1≤n from hi)
  rw[gQ]at a;omega
theorem sum_range' (f:Nat→Nat):∀(k s:Nat),((List.range' s k).map f).sum+gQ f s=gQ f (s+k)
 |0,s=>by simp
 |k+1,s=>by
  rw[List.range'_succ,fM,pK]
  have:=sum_range' f k (s+1)
  rw[gQ]at this
  rw[show s+(k+1)=s+1+k by omega];omega
theorem wP (f:Nat→Nat):∀n:Nat,gQ f (n+1)=f 0+gQ (λi=>f (i+1)) n
 |0=>by simp[gQ]
 |n+1=>by rw[gQ,wP f n,gQ];omega
theorem Gn {α:Type}(f:α→Nat)(d:α):∀l:List α,(l.map f).sum=gQ (λk=>f (l.getD k d)) l.length
 | []=>rfl
 |a::l=>by
  rw[fM,pK,fL,wP,Gn f d l];rfl
theorem JS {β:Type}{f g:β→Nat}:∀{l:List β},(∀x∈l,f x≤g x)→(l.map f).sum≤(l.map g).sum
 | [],_=>aU _
 |x::l,h=>by
  rw[fM,fM,pK,pK]
  have:=h x (by simp)
  have:=JS (f:=f) (g:=g) (l:=l) λy hy=>h y (by simp[hy])
  omega
theorem Kx {β:Type}(f:β→Nat)(k:Nat):∀l:List β,(l.map λx=>f x*k).sum=(l.map f).sum*k
 | []=>by simp
 |x::l=>by rw[fM,fM,pK,pK,Kx f k l,jK]
def BO (c:Nat→Nat→Nat)(n i:Nat):Nat:=gQ (c i) (n+1)
theorem Qd {nt nf n:Nat}{cs:Cs}(h:gw nt nf n cs):gQ (BO (λi j=>(cs.at_ n i j).length) n) n=cs.its.length:=by
 have:=Gn List.length [] cs.sp
 rw[h.tot,h.HO,AP]at this;exact this.symm
theorem Qb {c:Nat→Nat→Nat}{n a s k:Nat}(h:s+k≤n+1):((List.range' s k).map (c a)).sum≤BO c n a:=by
 have h1:=sum_range' (c a) k s
 have b:=yW (f:=c a) h
 unfold BO;omega
theorem zD {c:Nat→Nat→Nat}{n tqo l a K:Nat}(ht:tqo≤n)(b:∀en,a<en→en<tqo→mC c tqo l en≤K):mC c tqo (l+1) a≤BO c n a*K:=by
 show((List.range' (a+1) (tqo-(l+1)-a)).map λen=>c a en*mC c tqo l en).sum≤_
 refine dH (JS (g:=λen=>c a en*K) λen d=> ?_) ?_
 ·obtain⟨i,hi,rfl⟩:=List.mem_range'.1 d
  exact tZ _ (b _ zE zE)
 ·rw[Kx]
  by_cases e:tqo-(l+1)-a=0
  ·rw[e];simp
  ·exact fC _ (Qb zE)
theorem TV {c:Nat→Nat→Nat}{n frm tqo A M:Nat}(ht:tqo≤n)(d:BO c n frm≤A)(g:∀i,frm<i→i<n→BO c n i≤M):mC c tqo 1 frm≤A*M∧mC c tqo 2 frm≤A*(M*M):=by
 have h:∀en,frm<en→en<tqo→mC c tqo 0 en≤M:=λen h1 j=>dH (pE (f:=c en) (show tqo<n+1 by omega)) (g en h1 zE)
 have h1:∀en,frm<en→en<tqo→mC c tqo 1 en≤M*M:=λen h1 j=>dH (zD (l:=0) ht λe a b=>h e zE b) (fC _ (g en h1 zE))
 exact⟨dH (zD (l:=0) ht h) (fC _ d),dH (zD (l:=1) ht h1) (fC _ d)⟩
theorem Ta:∀A,A≤300→A*((300-A)*(300-A))≤4000000:=by decide+kernel
theorem Us:∀A,A≤300→A*(300-A)≤4000000:=by decide+kernel
theorem C0 {nt nf n:Nat}{cs:Cs}(h:gw nt nf n cs)(o:cs.its.length≤300){frm tqo l:Nat}(p:frm<tqo)(ht:tqo≤n)(h1:1≤l)(b:l≤2):mC (λi j=>(cs.at_ n i j).length) tqo l frm≤4000000:=by
 obtain⟨c,e⟩:∃c:Nat→Nat→Nat,c=λi j=>(cs.at_ n i j).length:=⟨_,rfl⟩
 have a:=Qd h
 rw[←e]at a⊢
 have d:frm<n:=by omega
 have q:=pE (f:=BO c n) d
 have g:∀i,frm<i→i<n→BO c n i≤300-BO c n frm:=λi h1 b=>by
  have:=R9 (f:=BO c n) d b zE;omega
 obtain⟨k,m⟩:=TV (c:=c) ht (aU _) g
 rcases(show l=1∨l=2 by omega)with rfl|rfl
 ·exact dH k (Us _ zE)
 ·exact dH m (Ta _ zE)
structure sB (nt nf:Nat)(Q:Qr):Prop where
 n:Q.n≤12
 mt:xW nt Q.mt
 rn:Q.rules.length≤40
 xn:Q.aG.length≤100
 rule:∀r∈Q.rules,(1≤r.kids∧r.kids≤3)∧eG nt nf r.graph∧r.graph.length≤60
 lex:∀x∈Q.aG,eG nt nf x.graph∧x.graph.length≤60
theorem sB.wF {nt nf:Nat}{Q:Qr}(h:sB nt nf Q){i:Nat}(hi:i<Q.rules.length):(1≤(Q.rules.getD i nX).kids∧(Q.rules.getD i nX).kids≤3)∧eG nt nf (Q.rules.getD i nX).graph∧(Q.rules.getD i nX).graph.length≤60:=by
 rw[ax,bT hi];exact h.rule _ (gl hi)
theorem sB.WX {nt nf:Nat}{Q:Qr}(h:sB nt nf Q){i:Nat}(hi:i<Q.aG.length):eG nt nf (Q.aG.getD i MW).graph∧(Q.aG.getD i MW).graph.length≤60:=by
 rw[ax,bT hi];exact h.lex _ (gl hi)
theorem rz {α:Type}(p:α→Bool)(d:α)(k:Nat)(l:List α):((List.range l.length).map λi=>if p (l.getD i d)=true then k else 0).sum=l.countP p*k:=by
 have h1:((List.range l.length).map λi=>if p (l.getD i d)=true then k else 0).sum=gQ (λi=>if p (l.getD i d)=true then k else 0) l.length:=by
  have:=sum_range' (λi=>if p (l.getD i d)=true then k else 0) l.length 0
  rw[←List.range_eq_range',jH]at this;exact this
 rw[h1]
 induction l with
 |nil=>simp[gQ]
 |cons a l b=>
  rw[fL,wP,sf]
  have c:((List.range l.length).map λi=>if p (l.getD i d)=true then k else 0).sum=gQ (λi=>if p (l.getD i d)=true then k else 0) l.length:=by
   have:=sum_range' (λi=>if p (l.getD i d)=true then k else 0) l.length 0
   rw[←List.range_eq_range',jH]at this;exact this
  have e:=b c
  show(if p a=true then k else 0)+gQ (λi=>if p (l.getD i d)=true then k else 0) l.length=_
  rw[e]
  split
  ·rw[jK];omega
  ·simp
def Pw (Q:Qr):Nat:=Q.rules.countP λr=>decide (1<r.kids)
theorem QE {nt nf:Nat}{Q:Qr}(h:sB nt nf Q):iU Q+Pw Q=Q.rules.length:=by
 unfold iU Pw
 have:=h.rule
 generalize Q.rules=l at this
 induction l with
 |nil=>rfl
 |cons a l b=>
  have d:=(this a (by simp)).1
  have:=b λr c=>this r (by simp[c])
  rw[sf,sf,fL]
  by_cases e:a.kids=1
  ·rw[aB (cX e),aA (by simp;omega)];omega
  ·rw[aA (by simp[e]),aB (cX zE)];omega
def DS (Q:Qr)(frm tqo:Nat):Nat:=if tqo=frm+1 then 100 else Pw Q*4000000
theorem AE {nt nf:Nat}{Q:Qr}(d:sB nt nf Q){frm tqo m:Nat}(e:frm<tqo)(ht:tqo≤Q.n){c cs:Cs}(f:gw nt nf Q.n c)(g:c.its.length≤300)(h:j3 nt nf Q.n frm tqo (λi j=>(c.at_ Q.n i j).length) m cs){i:Nat}(hi:i<Q.rules.length):
 j3 nt nf Q.n frm tqo (λi j=>(c.at_ Q.n i j).length) m (r5 Q frm tqo cs i)∧Grow Q.n frm tqo cs (r5 Q frm tqo cs i) (if decide (1<(Q.rules.getD i nX).kids)=true then 4000000 else 0):=by
 obtain⟨⟨p,k3⟩,l,_⟩:=d.wF hi;unfold r5
 split
 ·rename_i o
  obtain⟨hk,q⟩:=o;rw[aB (cX hk)];obtain⟨a,b⟩:=zH d.n d.mt e ht _ ((Q.rules.getD i nX).kids.toNat-1) cs _ [] frm m h l (.inr ⟨rfl,by omega⟩) e (λk hk=>by cases hk);exact⟨a,b.mono (C0 f g e ht zE zE)⟩
 ·exact⟨h,(Grow.refl ..).mono (aQ _)⟩
theorem zj {nt nf:Nat}{Q:Qr}(d:sB nt nf Q){w:cM}{frm tqo m:Nat}{c:Nat→Nat→Nat}(g:frm<tqo)(ht:tqo≤Q.n){cs:Cs}(h:j3 nt nf Q.n frm tqo c m cs){i:Nat}(hi:i<Q.aG.length):
 j3 nt nf Q.n frm tqo c m (qs Q w frm tqo cs i)∧Grow Q.n frm tqo cs (qs Q w frm tqo cs i) 1:=by
 obtain⟨f,j⟩:=d.WX hi;unfold qs
 split
 ·obtain⟨f1,f2,_⟩:=uS f f.pos
  obtain⟨a,b⟩:=yj d.n h.ok (e:=⟨frm,tqo,0,iH (Q.aG.getD i MW).graph 0⟩) (w:=⟨-1,i,[]⟩) ⟨g,ht,aQ _,f1,dH f2 j⟩ (λk hk=>by cases hk);exact⟨h.grow a b ht,b⟩
 ·exact⟨h,(Grow.refl ..).mono (aQ _)⟩
theorem Ng {nt nf:Nat}{Q:Qr}(c:sB nt nf Q){words:List cM}{frm tqo:Nat}(d:frm<tqo)(ht:tqo≤Q.n){cs:Cs}(h:gw nt nf Q.n cs)(f:cs.its.length≤300):
 j3 nt nf Q.n frm tqo (λi j=>(cs.at_ Q.n i j).length) 0 (mK Q words frm tqo cs)∧Grow Q.n frm tqo cs (mK Q words frm tqo cs) (DS Q frm tqo):=by
 have e:j3 nt nf Q.n frm tqo (λi j=>(cs.at_ Q.n i j).length) 0 cs:=⟨h,λ_ _ _ _=>rfl,aQ _⟩
 unfold mK DS
 split
 ·obtain⟨a,b⟩:=ig (n:=Q.n) (frm:=frm) (tqo:=tqo) (qs Q (words.getD frm []) frm tqo) (λ_=>1) _ (List.range Q.aG.length) cs e (λg i hi h1=>zj c d ht h1 (dM.1 hi))
  rw[kA,kF,fU]at b;exact⟨a,b.mono c.xn⟩
 ·obtain⟨a,b⟩:=ig (n:=Q.n) (frm:=frm) (tqo:=tqo) (r5 Q frm tqo) _ _ (List.range Q.rules.length) cs e (λg i hi h1=>AE c d ht h f h1 (dM.1 hi))
  rw[rz (λr:kM=>decide (1<r.kids)) nX 4000000 Q.rules]at b;exact⟨a,b⟩
structure Hh (nt nf n frm tqo ch:Nat)(cs gG:Cs)(a:Nat):Prop where
 ok:gw nt nf n gG
 gr:Grow n frm tqo cs gG a
 news:∃news,gG.at_ n frm tqo=cs.at_ n frm tqo++news∧news.length≤a∧∀e∈news,(gG.ed e).cp=ch
theorem Hh.refl {nt nf n frm tqo ch:Nat}{cs:Cs}(h:gw nt nf n cs):Hh nt nf n frm tqo ch cs cs 0:=⟨h,Grow.refl ..,[],by simp,aU _,λe h=>by cases h⟩
theorem Hh.mono {nt nf n frm tqo ch:Nat}{cs gG:Cs}{a b:Nat}(h:Hh nt nf n frm tqo ch cs gG a)(c:a≤b):Hh nt nf n frm tqo ch cs gG b:=
 let⟨news,h1,e,d⟩:=h.news
 ⟨h.ok,h.gr.mono c,news,h1,by omega,d⟩
theorem Hh.trans {nt nf n frm tqo ch:Nat}{x y z:Cs}{a b:Nat}(h:Hh nt nf n frm tqo ch x y a)(k:Hh nt nf n frm tqo ch y z b):Hh nt nf n frm tqo ch x z (a+b):=by
 obtain⟨u,h1,f,c⟩:=h.news;obtain⟨v,d,g,k3⟩:=k.news;refine⟨k.ok,h.gr.trans k.gr,u++v,by rw[d,h1,dg],by rw[cA];omega,λe he=> ?_⟩
 rcases ca.1 he with he|he
 ·rw[k.gr.ed e (h.ok.qd (show e∈y.at_ n frm tqo by rw[h1];simp[he]))];exact c e he
 ·exact k3 e he
theorem Ss {n:Nat}(cs:Cs)(e:oe)(w:og)(h:slt n e.frm e.tqo<cs.sp.length):∃news,(j6 n cs e w).at_ n e.frm e.tqo=cs.at_ n e.frm e.tqo++news∧news.length≤1∧∀i∈news,(j6 n cs e w).ed i=e:=by
 unfold j6
 cases a:xj cs.its (fb e)with
 |some i=>exact⟨[],by simp[Cs.at_],aQ _,λi h=>by cases h⟩
 |none=>
  refine⟨[cs.its.length],?_,aU _,λi hi=> ?_⟩
  ·unfold Cs.at_
   dsimp only
   rw[getD_modify (show e.frm*(n+1)+e.tqo<cs.sp.length from h),aB rfl]
  ·rw[ba.1 hi]
   unfold Cs.ed
   dsimp only
   rw[ax,nO (aU _),gp];rfl
theorem LB {nt nf:Nat}{Q:Qr}(c:sB nt nf Q){frm tqo:Nat}(d:frm<tqo)(ht:tqo≤Q.n){cs:Cs}(h:gw nt nf Q.n cs){e ch i:Nat}(he:e<cs.its.length)(f:(cs.ed e).cp=ch)(r:ch<3)(hi:i<Q.rules.length):
 Hh nt nf Q.n frm tqo (ch+1) cs (pq Q frm tqo e cs i) (if decide ((Q.rules.getD i nX).kids=1)=true then 1 else 0):=by
 obtain⟨_,g,_⟩:=c.wF hi;unfold pq
 by_cases hk:(Q.rules.getD i nX).kids=1
 ·rw[aA (λx=>x hk),aB (cX hk)]
  cases hy:ko Q cs i (Q.rules.getD i nX).graph 1 e with
  |none=>exact(Hh.refl h).mono (aQ _)
  |some x=>
   dsimp only
   obtain⟨l,m,_⟩:=wT c.mt h g he hy;obtain⟨m1,m2⟩:=qw l m;obtain⟨a,b⟩:=yj c.n h (e:=⟨frm,tqo,(cs.ed e).cp+1,mP x⟩) (w:=⟨i,0,[e]⟩) ⟨d,ht,by dsimp only;omega,m1,m2⟩ (λk hk=>by rw[ba.1 hk];exact he);obtain⟨news,o,p,n3⟩:=Ss cs ⟨frm,tqo,(cs.ed e).cp+1,mP x⟩ ⟨i,0,[e]⟩ (by rw[h.HO];exact tS (by dsimp only;omega) ht);exact⟨a,b,news,o,p,λj q=>by rw[n3 j q];dsimp only;rw[f]⟩
 ·rw[aB hk,aA (λx=>hk (im x))]
  exact Hh.refl h
theorem Ad {nt nf:Nat}{Q:Qr}(a:sB nt nf Q){frm tqo:Nat}(b:frm<tqo)(ht:tqo≤Q.n){e ch:Nat}(c:ch<3):∀(l:List Nat) (cs:Cs),(∀i∈l,i<Q.rules.length)→gw nt nf Q.n cs→e<cs.its.length→(cs.ed e).cp=ch→
 Hh nt nf Q.n frm tqo (ch+1) cs (l.foldl (pq Q frm tqo e) cs) ((l.map λi=>if decide ((Q.rules.getD i nX).kids=1)=true then 1 else 0).sum)
 | [],cs,_,h,_,_=>Hh.refl h
 |i::l,cs,d,h,he,f=>by
  have h1:=LB a b ht h he f c (d i (by simp))
  have g:=Ad a b ht c l (pq Q frm tqo e cs i) (λj k=>d j (by simp[k])) h1.ok (fg he h1.gr.more) (by rw[h1.gr.ed e he];exact f)
  exact h1.trans g
theorem Cr {nt nf:Nat}{Q:Qr}(a:sB nt nf Q){frm tqo:Nat}(b:frm<tqo)(ht:tqo≤Q.n){e ch:Nat}(c:ch<3){cs:Cs}(h:gw nt nf Q.n cs)(he:e<cs.its.length)(d:(cs.ed e).cp=ch):
 Hh nt nf Q.n frm tqo (ch+1) cs ((List.range Q.rules.length).foldl (pq Q frm tqo e) cs) (iU Q):=by
 have:=Ad a b ht c (List.range Q.rules.length) cs (λi hi=>dM.1 hi) h he d
 rw[rz (λr:kM=>decide (r.kids=1)) nX 1 Q.rules,fU]at this;exact this
def vy (Q:Qr)(cs:Cs)(l:List Nat):Nat:=(l.map λe=>kT (iU Q) (3-(cs.ed e).cp)).sum
theorem p9 {α:Type}(f:α→Nat){l:List α}{k:Nat}{a:α}(h:l[k]?=some a):((l.drop k).map f).sum=f a+((l.drop (k+1)).map f).sum:=by
 rw[bW h,fM,pK]
theorem uZ {α:Type}{f g:α→Nat}{l:List α}(h:∀a∈l,f a=g a):(l.map f).sum=(l.map g).sum:=by rw[sk h]
theorem H3 {nt nf:Nat}{Q:Qr}(m:sB nt nf Q){frm tqo:Nat}(o:frm<tqo)(ht:tqo≤Q.n){cs:Cs}(h:gw nt nf Q.n cs){k e:Nat}(hk:(cs.at_ Q.n frm tqo)[k]?=some e)(q:(cs.ed e).cp≠3){gG:Cs}(b:gG=(List.range Q.rules.length).foldl (pq Q frm tqo e) cs):
 gw nt nf Q.n gG∧Grow Q.n frm tqo cs gG (iU Q)∧k+1≤(gG.at_ Q.n frm tqo).length∧qz Q gG ((gG.at_ Q.n frm tqo).drop (k+1))+1≤qz Q cs ((cs.at_ Q.n frm tqo).drop k)∧iU Q+vy Q gG ((gG.at_ Q.n frm tqo).drop (k+1))≤vy Q cs ((cs.at_ Q.n frm tqo).drop k):=by
 have c:=aY hk
 have d:=h.qd c
 have r:(cs.ed e).cp≤3:=by
  unfold Cs.ed;rw[ax,bT d];exact(h.gr _ (gl d)).2.2.1
 have hu:=Cr m o ht (e:=e) (ch:=(cs.ed e).cp) zE h d rfl
 rw[←b]at hu;obtain⟨news,f,g,n3⟩:=hu.news
 have s:=bO hk
 have hd:(gG.at_ Q.n frm tqo).drop (k+1)=(cs.at_ Q.n frm tqo).drop (k+1)++news:=by rw[f,List.drop_append_of_le_length zE]
 have hold:∀j∈(cs.at_ Q.n frm tqo).drop (k+1),gG.ed j=cs.ed j:=λj a=>hu.gr.ed j (h.qd (D1 a))
 have p:3-(cs.ed e).cp=(2-(cs.ed e).cp)+1:=by omega
 have i:kT (iU Q) (3-(cs.ed e).cp)=iU Q*(1+kT (iU Q) (2-(cs.ed e).cp)):=by rw[p];rfl
 have l:∀j∈news,kT (iU Q) (3-(gG.ed j).cp)=kT (iU Q) (2-(cs.ed e).cp):=λj a=>by rw[n3 j a];congr 1;omega
 have hmul:news.length*(1+kT (iU Q) (2-(cs.ed e).cp))≤iU Q*(1+kT (iU Q) (2-(cs.ed e).cp)):=fC _ g
 refine⟨hu.ok,hu.gr,by rw[f,cA];omega,?_,?_⟩
 ·unfold qz
  rw[hd,cY,List.sum_append,p9 _ hk,uZ (λj a=>by rw[hold j a]:∀j∈(cs.at_ Q.n frm tqo).drop (k+1),1+kT (iU Q) (3-(gG.ed j).cp)=1+kT (iU Q) (3-(cs.ed j).cp)),
   uZ (λj a=>by rw[l j a]:∀j∈news,1+kT (iU Q) (3-(gG.ed j).cp)=1+kT (iU Q) (2-(cs.ed e).cp)),kA,i]
  omega
 ·unfold vy
  rw[hd,cY,List.sum_append,p9 _ hk,uZ (λj a=>by rw[hold j a]:∀j∈(cs.at_ Q.n frm tqo).drop (k+1),kT (iU Q) (3-(gG.ed j).cp)=kT (iU Q) (3-(cs.ed j).cp)),
   uZ (λj a=>by rw[l j a]:∀j∈news,kT (iU Q) (3-(gG.ed j).cp)=kT (iU Q) (2-(cs.ed e).cp)),kA,i]
  rw[Nat.mul_add,fU]at hmul⊢
  have:news.length*kT (iU Q) (2-(cs.ed e).cp)≤iU Q*kT (iU Q) (2-(cs.ed e).cp):=fC _ g
  omega
theorem Ea {nt nf:Nat}{Q:Qr}(d:sB nt nf Q){frm tqo:Nat}(e:frm<tqo)(ht:tqo≤Q.n):∀(f k:Nat) (cs:Cs),gw nt nf Q.n cs→gw nt nf Q.n (pt Q frm tqo f k cs)∧Grow Q.n frm tqo cs (pt Q frm tqo f k cs) (vy Q cs ((cs.at_ Q.n frm tqo).drop k))
 |0,k,cs,h=>⟨h,(Grow.refl ..).mono (aQ _)⟩
 |f+1,k,cs,h=>by
  rw[pt]
  split
  ·rename_i hk
   have c:(cs.at_ Q.n frm tqo)[k]?=some ((cs.at_ Q.n frm tqo).getD k 0):=by rw[ax,bT hk];rfl
   split
   ·obtain⟨a,b⟩:=Ea d e ht f (k+1) cs h
    refine⟨a,b.mono ?_⟩;unfold vy
    rw[p9 _ c];omega
   ·rename_i g
    obtain⟨s1,s2,j,l,i⟩:=H3 d e ht h c g rfl;obtain⟨a,b⟩:=Ea d e ht f (k+1) _ s1;exact⟨a,(s2.trans b).mono i⟩
  ·exact⟨h,(Grow.refl ..).mono (aQ _)⟩
theorem QN (r:Nat):∀k:Nat,k≤3→kT r k≤kT r 3
 |0,_=>aQ _
 |1,_=>by
  show r*(1+0)≤r*(1+r*(1+r*(1+0)))
  exact tZ _ zE
 |2,_=>by
  show r*(1+r*(1+0))≤r*(1+r*(1+r*(1+0)))
  exact tZ _ (Nat.add_le_add_left (tZ _ zE) _)
 |3,_=>aU _
def wM:Nat:=1117240000000
theorem an8:∀r,r≤40→(40-r)*4000000*(1+kT r 3)≤1117240000000:=by decide+kernel
theorem an9:∀r,r≤40→100*(1+kT r 3)≤1117240000000:=by decide+kernel
def VZ (len frm:Nat)(cs:Cs):Prop:=∀i,i<cs.its.length→(cs.ed i).tqo-(cs.ed i).frm<len∨((cs.ed i).tqo-(cs.ed i).frm=len∧(cs.ed i).frm<frm)
theorem M3 {nt nf n len frm:Nat}{cs:Cs}(h:gw nt nf n cs)(a:VZ len frm cs)(ht:frm+len≤n):cs.at_ n frm (frm+len)=[]:=by
 cases e:cs.at_ n frm (frm+len)with
 |nil=>rfl
 |cons x l=>
  have hx:x∈cs.sp.getD (slt n frm (frm+len)) []:=by show x∈cs.at_ n frm (frm+len);rw[e];simp
  obtain⟨h1,b⟩:=h.prt _ _ x ht hx
  have:=a x (h.Hl hx)
  omega
theorem Bq {nt nf:Nat}{Q:Qr}(a:sB nt nf Q){frm tqo:Nat}:DS Q frm tqo*(1+kT (iU Q) 3)≤wM:=by
 have h1:=QE a
 have b:=a.rn
 unfold DS wM
 split
 ·exact an9 _ zE
 ·refine dH (fC _ ?_) (an8 (iU Q) zE)
  exact fC _ zE
theorem Uq (Q:Qr)(cs:Cs)(l:List Nat):vy Q cs l≤l.length*kT (iU Q) 3:=by
 unfold vy;rw[←kA]
 exact JS λe _=>QN _ _ zE
structure oG (nt nf n len frm:Nat)(cs:Cs):Prop where
 ok:gw nt nf n cs
 Fa:cs.its.length≤300
 cD:∀it∈cs.its,it.cD.length≤wM
 fresh:VZ len frm cs
theorem oG.room {nt nf n len frm:Nat}{cs:Cs}(h:oG nt nf n len frm cs):Room cs wM:=⟨by have:=h.Fa;unfold wM;omega,λit hit=>by have:=h.cD it hit;unfold wM at*;omega⟩
theorem ET {nt nf len:Nat}{Q:Qr}(a:sB nt nf Q){words:List cM}{frm:Nat}(f:1≤len)(ht:frm+len≤Q.n){cs:Cs}(h:oG nt nf Q.n len frm cs):
 gw nt nf Q.n (mK Q words frm (frm+len) cs)∧Grow Q.n frm (frm+len) cs (mK Q words frm (frm+len) cs) (DS Q frm (frm+len))∧DS Q frm (frm+len)+vy Q (mK Q words frm (frm+len) cs) ((mK Q words frm (frm+len) cs).at_ Q.n frm (frm+len))≤wM:=by
 obtain⟨c,b⟩:=Ng a (words:=words) (show frm<frm+len by omega) ht h.ok h.Fa;refine⟨c.ok,b,?_⟩
 have g:=b.own
 have i:(cs.sp.getD (slt Q.n frm (frm+len)) []).length=0:=by
  have:=M3 h.ok h.fresh ht
  show(cs.at_ Q.n frm (frm+len)).length=0
  rw[this];rfl
 have h1:=Uq Q (mK Q words frm (frm+len) cs) ((mK Q words frm (frm+len) cs).at_ Q.n frm (frm+len))
 have d:((mK Q words frm (frm+len) cs).at_ Q.n frm (frm+len)).length≤DS Q frm (frm+len):=by
  show((mK Q words frm (frm+len) cs).sp.getD (slt Q.n frm (frm+len)) []).length≤_
  omega
 have e:=Bq a (frm:=frm) (tqo:=frm+len)
 rw[Nat.mul_add,fU]at e
 have j:=fC (kT (iU Q) 3) d
 omega
theorem R0 {nt nf len:Nat}{Q:Qr}(a:sB nt nf Q){words:List cM}{frm:Nat}(c:1≤len)(ht:frm+len≤Q.n){cs:Cs}(h:oG nt nf Q.n len frm cs):
 gw nt nf Q.n (pD Q words frm (frm+len) cs)∧Grow Q.n frm (frm+len) cs (pD Q words frm (frm+len) cs) wM:=by
 obtain⟨d,e,f⟩:=ET a (words:=words) c ht h;obtain⟨g,b⟩:=Ea a (show frm<frm+len by omega) ht (qz Q (mK Q words frm (frm+len) cs) ((mK Q words frm (frm+len) cs).at_ Q.n frm (frm+len))+1) 0 (mK Q words frm (frm+len) cs) d;rw[List.drop_zero]at b;exact⟨g,(e.trans b).mono f⟩
theorem Gi {nt nf len:Nat}{Q:Qr}(a:sB nt nf Q){words:List cM}{frm:Nat}(b:1≤len)(ht:frm+len≤Q.n){cs:Cs}(h:oG nt nf Q.n len frm cs)(hm:¬300<(pD Q words frm (frm+len) cs).its.length):
 oG nt nf Q.n len (frm+1) (pD Q words frm (frm+len) cs):=by
 obtain⟨g1,g2⟩:=R0 a (words:=words) b ht h;refine⟨g1,by omega,λit hit=> ?_,λi hi=> ?_⟩
 ·obtain⟨i,hi,rfl⟩:=Ar.1 hit
  have e:(pD Q words frm (frm+len) cs).its[i]=(pD Q words frm (frm+len) cs).its.getD i fX:=by rw[ax,bT hi];rfl
  rw[e]
  by_cases c:i<cs.its.length
  ·have f:=h.fresh i c
   rw[g2.far i c (λg=>by omega),ax,bT c];exact h.cD _ (gl c)
  ·have h1:=g2.cD i hi
   have e2:cs.its.getD i fX=fX:=by rw[ax,iR zE];rfl
   rw[e2]at h1
   have:fX.cD.length=0:=rfl
   omega
 ·by_cases c:i<cs.its.length
  ·rw[g2.ed i c]
   have:=h.fresh i c;omega
  ·obtain⟨d,e2⟩:=g2.new i zE hi
   rw[d,e2];omega
theorem Kq {nt nf n len frm:Nat}{cs:Cs}(h:oG nt nf n len frm cs):oG nt nf n (len+1) 0 cs:=⟨h.ok,h.Fa,h.cD,λi hi=>by have:=h.fresh i hi;omega⟩
def xg (c:Nat→Nat→Nat)(tqo:Nat):Nat→Nat→Nat
 |0,_=>1
 |l+1,en=>mC c tqo l en
def oP (l a tqo:Nat):Nat:=if l=0 then tqo else a+1
def sG (l a tqo:Nat):Nat:=if l=0 then 1 else tqo-l-a
def uI (Q:Qr)(rule frm tqo l:Nat)(x:eB)(kids:List Nat)(en:Nat)(cs:Cs)(e:Nat):Cs:=match ko Q cs rule x (kids.length+1) e with
 |none=>cs
 |some y=>match l with
  |0=>j6 Q.n cs ⟨frm,tqo,0,mP y⟩ ⟨rule,0,kids++ [e]⟩
  |l+1=>sH Q rule frm tqo l cs y (kids++ [e]) en
def Lu (Q:Qr)(rule frm tqo l:Nat)(x:eB)(kids:List Nat)(a:Nat)(cs:Cs)(en:Nat):Cs:=(cs.at_ Q.n a en).foldl (uI Q rule frm tqo l x kids en) cs
theorem KD (Q:Qr)(rule frm tqo l:Nat)(cs:Cs)(x:eB)(kids:List Nat)(a:Nat):sH Q rule frm tqo l cs x kids a=(List.range' (oP l a tqo) (sG l a tqo)).foldl (Lu Q rule frm tqo l x kids a) cs:=by
 cases l with
 |zero=>rfl
 |succ l=>rfl
theorem TU (c:Nat→Nat→Nat)(tqo l a:Nat):mC c tqo l a=((List.range' (oP l a tqo) (sG l a tqo)).map λen=>c a en*xg c tqo l en).sum:=by
 cases l with
 |zero=>show c a tqo=(([tqo].map λen=>c a en*1)).sum;simp
 |succ l=>rfl
theorem Dk {l a tqo i:Nat}(b:a<tqo)(hi:i<sG l a tqo):a<oP l a tqo+i∧oP l a tqo+i≤tqo∧(l=0→oP l a tqo+i=tqo)∧(1≤l→oP l a tqo+i<tqo):=by
 unfold oP sG at*
 by_cases h:l=0
 ·rw[aB h]at hi⊢;omega
 ·rw[aA h]at hi⊢;omega
theorem FY {nt nf:Nat}{Q:Qr}(d:Q.n≤12)(f:xW nt Q.mt){rule frm tqo:Nat}(g:frm<tqo)(ht:tqo≤Q.n)(c:Nat→Nat→Nat){l:Nat}{cs:Cs}{x:eB}{kids:List Nat}{m en e:Nat}(a:j3 nt nf Q.n frm tqo c m cs)(hx:eG nt nf x)(h:frm<en∧(1≤l→en<tqo))(hk:∀k∈kids,k<cs.its.length)(he:e<cs.its.length):
 j3 nt nf Q.n frm tqo c m (uI Q rule frm tqo l x kids en cs e)∧Grow Q.n frm tqo cs (uI Q rule frm tqo l x kids en cs e) (xg c tqo l en):=by
 unfold uI
 cases hy:ko Q cs rule x (kids.length+1) e with
 |none=>exact⟨a,(Grow.refl ..).mono (aQ _)⟩
 |some y=>
  dsimp only
  obtain⟨i,p,_⟩:=wT f a.ok hx he hy
  have j:∀k∈kids++ [e],k<cs.its.length:=λk b=>by
   rcases ca.1 b with b|b
   ·exact hk k b
   ·rw[ba.1 b];exact he
  cases l with
  |zero=>
   obtain⟨m1,m2⟩:=qw i p;obtain⟨q,a2⟩:=yj d a.ok (e:=⟨frm,tqo,0,mP y⟩) (w:=⟨rule,0,kids++ [e]⟩) ⟨g,ht,aQ _,m1,m2⟩ j;exact⟨a.grow q a2 ht,a2⟩
  |succ l=>
   have r:j3 nt nf Q.n frm tqo c cs.its.length cs:=⟨a.ok,a.len,aU _⟩
   obtain⟨o,e2⟩:=zH d f g ht c l cs y (kids++ [e]) en _ r i (.inl h.1) (h.2 zE) j;exact⟨⟨o.ok,o.len,dH a.Fa e2.more⟩,e2⟩
theorem C9 {nt nf:Nat}{Q:Qr}(g:Q.n≤12)(h:xW nt Q.mt){rule frm tqo:Nat}(i:frm<tqo)(ht:tqo≤Q.n)(c:Nat→Nat→Nat){l:Nat}{cs:Cs}{x:eB}{kids:List Nat}{m en:Nat}(j:j3 nt nf Q.n frm tqo c m cs)(hx:eG nt nf x)(o:frm<en∧(1≤l→en<tqo))(hk:∀k∈kids,k<cs.its.length)(L:List Nat)(p:∀e∈L,e<cs.its.length):
 j3 nt nf Q.n frm tqo c m (L.foldl (uI Q rule frm tqo l x kids en) cs)∧Grow Q.n frm tqo cs (L.foldl (uI Q rule frm tqo l x kids en) cs) (L.length*xg c tqo l en):=by
 have:=ig (n:=Q.n) (frm:=frm) (tqo:=tqo) (uI Q rule frm tqo l x kids en) (λ_=>xg c tqo l en) (λgG=>j3 nt nf Q.n frm tqo c m gG∧cs.its.length≤gG.its.length) L cs ⟨j,aU _⟩ (λq e he ⟨h1,d⟩=>by
  obtain⟨a,b⟩:=FY g h i ht c (l:=l) (rule:=rule) h1 hx o (λk f=>fg (hk k f) d) (fg (p e he) d)
  exact⟨⟨a,dH d b.more⟩,b⟩)
 rw[kA]at this;exact⟨this.1.1,this.2⟩
theorem OQ {nt nf:Nat}{Q:Qr}(g:Q.n≤12)(i:xW nt Q.mt){rule frm tqo:Nat}(j:frm<tqo)(ht:tqo≤Q.n)(c:Nat→Nat→Nat){l a:Nat}{cs:Cs}{x:eB}{kids:List Nat}{m:Nat}(o:j3 nt nf Q.n frm tqo c m cs)(hx:eG nt nf x)(u:frm<a∨(a=frm∧1≤l))(hk:∀k∈kids,k<cs.its.length)(E:List Nat)(p:∀en∈E,a<en∧en≤tqo∧(1≤l→en<tqo)):
 j3 nt nf Q.n frm tqo c m (E.foldl (Lu Q rule frm tqo l x kids a) cs)∧Grow Q.n frm tqo cs (E.foldl (Lu Q rule frm tqo l x kids a) cs) ((E.map λen=>c a en*xg c tqo l en).sum):=by
 have:=ig (n:=Q.n) (frm:=frm) (tqo:=tqo) (Lu Q rule frm tqo l x kids a) (λen=>c a en*xg c tqo l en) (λgG=>j3 nt nf Q.n frm tqo c m gG∧cs.its.length≤gG.its.length) E cs ⟨o,aU _⟩ (λq en r ⟨h1,f⟩=>by
  obtain⟨v,e2,s⟩:=p en r;obtain⟨t,b⟩:=C9 g i j ht c (l:=l) (rule:=rule) h1 hx (en:=en) ⟨by omega,s⟩ (λk d=>fg (hk k d) f) (q.at_ Q.n a en) (λe he=>h1.ok.qd he);rw[h1.len a en zE (by intro h;omega)]at b
  exact⟨⟨t,dH f b.more⟩,b⟩)
 exact⟨this.1.1,this.2⟩
theorem wQ {f:Nat→Nat}{E:List Nat}{i en:Nat}(h:E[i]?=some en):((E.take i).map f).sum+f en≤(E.map f).sum:=by
 have hi:=(fj.1 h)
 obtain⟨hi,rfl⟩:=hi
 have e:E=E.take i++E[i]::E.drop (i+1):=by rw[←List.drop_eq_getElem_cons hi,nR]
 have e2:(E.map f).sum=((E.take i).map f).sum+(f E[i]+((E.drop (i+1)).map f).sum):=by
  conv=>lhs;rw[e]
  rw[cY,List.sum_append,fM,pK]
 omega
theorem jD (i:Nat){α:Type}(f:α→Nat→α)(a:α):(List.range (i+1)).foldl f a=f ((List.range i).foldl f a) i:=by rw[vH,rK];rfl
theorem Pe {nt nf len:Nat}{Q:Qr}(c:sB nt nf Q){w:cM}{frm tqo i:Nat}(d:frm<tqo)(ht:tqo≤Q.n){cs:Cs}(h:oG nt nf Q.n len frm cs)(hi:i<Q.aG.length):
 j3 nt nf Q.n frm tqo (λi j=>(cs.at_ Q.n i j).length) 0 ((List.range i).foldl (qs Q w frm tqo) cs)∧Room ((List.range i).foldl (qs Q w frm tqo) cs) 1:=by
 have e:j3 nt nf Q.n frm tqo (λi j=>(cs.at_ Q.n i j).length) 0 cs:=⟨h.ok,λ_ _ _ _=>rfl,aQ _⟩
 obtain⟨a,b⟩:=ig (n:=Q.n) (frm:=frm) (tqo:=tqo) (qs Q w frm tqo) (λ_=>1) _ (List.range i) cs e (λg j f h1=>zj c d ht h1 (Nat.lt_trans (dM.1 f) hi));rw[kA,kF,fU]at b
 have:=c.xn
 exact⟨a,Room.grow (h.room.mono (by unfold wM;omega)) b⟩
theorem Qh {nt nf len:Nat}{Q:Qr}(c:sB nt nf Q){frm tqo i:Nat}(k:frm<tqo)(ht:tqo≤Q.n)(l:tqo≠frm+1){cs:Cs}(h:oG nt nf Q.n len frm cs)(hi:i<Q.rules.length):
 j3 nt nf Q.n frm tqo (λi j=>(cs.at_ Q.n i j).length) 0 ((List.range i).foldl (r5 Q frm tqo) cs)∧(1<(Q.rules.getD i nX).kids→Room ((List.range i).foldl (r5 Q frm tqo) cs) (mC (λi j=>(cs.at_ Q.n i j).length) tqo ((Q.rules.getD i nX).kids.toNat-1) frm)):=by
 have m:j3 nt nf Q.n frm tqo (λi j=>(cs.at_ Q.n i j).length) 0 cs:=⟨h.ok,λ_ _ _ _=>rfl,aQ _⟩
 obtain⟨a,b⟩:=ig (n:=Q.n) (frm:=frm) (tqo:=tqo) (r5 Q frm tqo) (λi=>if decide (1<(Q.rules.getD i nX).kids)=true then 4000000 else 0) _ (List.range i) cs m (λq j o h1=>AE c k ht h.ok h.Fa h1 (Nat.lt_trans (dM.1 o) hi));refine⟨a,λhk=> ?_⟩
 have d:=wQ (f:=λi=>if decide (1<(Q.rules.getD i nX).kids)=true then 4000000 else 0) (show(List.range Q.rules.length)[i]?=some i from nP hi)
 rw[List.take_range,il zE,rz (λr:kM=>decide (1<r.kids)) nX 4000000 Q.rules]at d
 have p:=Bq c (frm:=frm) (tqo:=tqo)
 have e:DS Q frm tqo≤wM:=dH (Nat.le_mul_of_pos_right _ zE) p
 unfold DS at e;rw[aA l]at e
 have g:Q.rules.countP (λr:kM=>decide (1<r.kids))*4000000≤wM:=e
 rw[aB (cX hk)]at d
 have k3:=(c.wF hi).1.2
 exact(Room.grow (h.room.mono (dH d g)) b).mono (C0 h.ok h.Fa k ht zE zE)
theorem Ra {nt nf:Nat}{Q:Qr}(g:sB nt nf Q){frm tqo i k e:Nat}(l:frm<tqo)(ht:tqo≤Q.n){cs:Cs}(h:gw nt nf Q.n cs)(m:Room cs (vy Q cs ((cs.at_ Q.n frm tqo).drop k)))(hk:(cs.at_ Q.n frm tqo)[k]?=some e)(s:(cs.ed e).cp≠3)(hi:i<Q.rules.length):
 gw nt nf Q.n ((List.range i).foldl (pq Q frm tqo e) cs)∧Grow Q.n frm tqo cs ((List.range i).foldl (pq Q frm tqo e) cs) (iU Q)∧((Q.rules.getD i nX).kids=1→Room ((List.range i).foldl (pq Q frm tqo e) cs) 1):=by
 have a:=aY hk
 have b:=h.qd a
 have t:(cs.ed e).cp≤3:=by
  unfold Cs.ed;rw[ax,bT b];exact(h.gr _ (gl b)).2.2.1
 have hu:=Ad g l ht (e:=e) (ch:=(cs.ed e).cp) zE (List.range i) cs (λj o=>Nat.lt_trans (dM.1 o) hi) h b rfl
 have c:=wQ (f:=λi=>if decide ((Q.rules.getD i nX).kids=1)=true then 1 else 0) (show(List.range Q.rules.length)[i]?=some i from nP hi)
 rw[List.take_range,il zE,rz (λr:kM=>decide (r.kids=1)) nX 1 Q.rules,fU]at c
 have d:_≤iU Q:=c
 refine⟨hu.ok,hu.gr.mono zE,λp=> ?_⟩;rw[aB (cX p)]at d;refine Room.grow (m.mono ?_) hu.gr;refine dH d ?_;unfold vy;rw[p9 _ hk]
 have q:3-(cs.ed e).cp=(2-(cs.ed e).cp)+1:=by omega
 rw[q]
 have:iU Q*1≤iU Q*(1+kT (iU Q) (2-(cs.ed e).cp)):=tZ _ zE
 show iU Q≤iU Q*(1+kT (iU Q) (2-(cs.ed e).cp))+_
 omega
theorem Rb {Q:Qr}{frm tqo f k e:Nat}{cs:Cs}(hk:(cs.at_ Q.n frm tqo)[k]?=some e)(a:(cs.ed e).cp=3)(b:qz Q cs ((cs.at_ Q.n frm tqo).drop k)<f):
 ∃f2,pt Q frm tqo f k cs=pt Q frm tqo f2 (k+1) cs∧qz Q cs ((cs.at_ Q.n frm tqo).drop (k+1))<f2∧qz Q cs ((cs.at_ Q.n frm tqo).drop (k+1))<qz Q cs ((cs.at_ Q.n frm tqo).drop k):=by
 obtain⟨f2,rfl⟩:∃f2,f=f2+1:=⟨f-1,by omega⟩
 have hd:(cs.at_ Q.n frm tqo).getD k 0=e:=by rw[ax,hk];rfl
 have hp:qz Q cs ((cs.at_ Q.n frm tqo).drop k)=(1+kT (iU Q) (3-(cs.ed e).cp))+qz Q cs ((cs.at_ Q.n frm tqo).drop (k+1)):=by unfold qz;exact p9 _ hk
 refine⟨f2,?_,by omega,by omega⟩;rw[pt,aB (bO hk),hd,aB a]
theorem Zd {Q:Qr}{frm tqo f k e:Nat}{cs:Cs}(hk:(cs.at_ Q.n frm tqo)[k]?=some e)(a:(cs.ed e).cp≠3)(b:qz Q cs ((cs.at_ Q.n frm tqo).drop k)<f):
 ∃f2,pt Q frm tqo f k cs=pt Q frm tqo f2 (k+1) ((List.range Q.rules.length).foldl (pq Q frm tqo e) cs)∧qz Q cs ((cs.at_ Q.n frm tqo).drop k)<f2+1:=by
 obtain⟨f2,rfl⟩:∃f2,f=f2+1:=⟨f-1,by omega⟩
 have hd:(cs.at_ Q.n frm tqo).getD k 0=e:=by rw[ax,hk];rfl
 exact⟨f2,by rw[pt,aB (bO hk),hd,aA a],b⟩
theorem VN {Q:Qr}{frm tqo f k:Nat}{cs:Cs}(hk:(cs.at_ Q.n frm tqo).length≤k):pt Q frm tqo f k cs=cs:=by
 cases f with
 |zero=>rfl
 |succ f=>rw[pt,aA zE]
theorem G2 {N:Nat}(e:N≤256):∀(l m:lE) (u v:cM),l.length=m.length→(∀x∈l,(0≤x.1∧x.1<N)∧0≤x.2∧x.2<N)→(∀x∈m,(0≤x.1∧x.1<N)∧0≤x.2∧x.2<N)→vo l++u=vo m++v→l=m∧u=v
 | [],[],u,v,_,_,_,h=>⟨rfl,h⟩
 | [],_::_,_,_,h,_,_,_=>by cases h
 |_::_,[],_,_,h,_,_,_=>by cases h
 |a::l,b::m,u,v,f,c,d,h=>by
  have h:kO a.1::kO a.2::(vo l++u)=kO b.1::kO b.2::(vo m++v):=h
  rw[List.cons.injEq,List.cons.injEq]at h;obtain⟨h1,g,i⟩:=h;obtain⟨⟨j,a2⟩,a3,a4⟩:=c a (by simp);obtain⟨⟨k,z⟩,n,A⟩:=d b (by simp);obtain⟨p,q⟩:=a;obtain⟨r,s⟩:=b
  dsimp only at*
  have B:=mL (a:=p.toNat) (b:=r.toNat) zE zE (by rw[vG j,vG k];exact h1)
  have e2:=mL (a:=q.toNat) (b:=s.toNat) zE zE (by rw[vG a3,vG n];exact g)
  obtain⟨o,t⟩:=G2 e l m u v (by simpa using f) (λx hx=>c x (by simp[hx])) (λx hx=>d x (by simp[hx])) i
  have w:p=r:=by omega
  have y:q=s:=by omega
  exact⟨by rw[o,w,y],t⟩
def NG (g:eB):Prop:=∀n∈g,(0≤n.1∧n.1<(256:Nat))∧n.2.length<256∧∀x∈n.2,(0≤x.1∧x.1<(256:Nat))∧0≤x.2∧x.2<(256:Nat)
theorem G1:∀(l m:eB),NG l→NG m→zg l=zg m→l=m
 | [],[],_,_,_=>rfl
 | [],_::_,_,_,h=>by cases h
 |_::_,[],_,_,h=>by cases h
 |a::l,b::m,c,d,h=>by
  have h:kO a.1::kO (a.2.length:Nat)::(vo a.2++zg l)=kO b.1::kO (b.2.length:Nat)::(vo b.2++zg m):=h
  rw[List.cons.injEq,List.cons.injEq]at h;obtain⟨h1,e,f⟩:=h;obtain⟨⟨g,a2⟩,a3,a4⟩:=c a (by simp);obtain⟨⟨i,u⟩,j,k⟩:=d b (by simp);obtain⟨p,q⟩:=a;obtain⟨r,s⟩:=b
  dsimp only at*
  have v:=mL (a:=p.toNat) (b:=r.toNat) zE zE (by rw[vG g,vG i];exact h1)
  have e2:=mL a3 j e
  obtain⟨n,o⟩:=G2 (aU 256) q s (zg l) (zg m) e2 a4 k f
  have t:p=r:=by omega
  rw[t,n,G1 l m (λx hx=>c x (by simp[hx])) (λx hx=>d x (by simp[hx])) o]
theorem eG.yu {nt nf:Nat}{g:eB}(h:eG nt nf g)(k:nt≤250)(l:nf≤250)(m:g.length≤60):NG g:=λn d=>by
 obtain⟨h1,e,c⟩:=h.nd n d;refine⟨by omega,?_,λx hx=> ?_⟩
 ·have f:(n.2.map λz=>z.1.toNat).Nodup:=by
   unfold List.Nodup;rw[su];exact xQ (λ{a b} p q r=>by have:=(c a p).1;have:=(c b q).1;omega) e
  have:=l8 f (n:=nf) (λj i=>by obtain⟨z,hz,rfl⟩:=cS.1 i;have:=(c z hz).1;omega)
  rw[aO]at this;omega
 ·have:=c x hx;omega
theorem key_inj {e d:oe}(he:e.frm<256∧e.tqo<256∧e.cp<256∧NG e.gr)(hd:d.frm<256∧d.tqo<256∧d.cp<256∧NG d.gr)(h:fb e=fb d):e=d:=by
 unfold fb at h;rw[List.cons.injEq,List.cons.injEq,List.cons.injEq]at h;obtain⟨h1,a,b,c⟩:=h
 have f:=mL he.1 hd.1 h1
 have e2:=mL he.2.1 hd.2.1 a
 have g:=mL he.2.2.1 hd.2.2.1 b
 have i:=G1 _ _ he.2.2.2 hd.2.2.2 c
 cases e;cases d;simp_all
def iq (cs:Cs)(tqo:Nat):Nat→List Nat→Prop
 |a,[]=>a=tqo
 |a,k::l=>k<cs.its.length∧(cs.ed k).frm=a∧iq cs tqo (cs.ed k).tqo l
def sb (mt:Nat→Nat→Option Nat):eB→Nat→List eB→Option eB
 |x,_,[]=>some x
 |x,k,y::l=>match nZ mt x ((k:Nat):Int) y with
  |none=>none
  |some z=>sb mt z (k+1) l
theorem Cf {mt:Nat→Nat→Option Nat}:∀{l:List eB} {x z:eB} {k:Nat} (y:eB),sb mt x k l=some z→sb mt x k (l++ [y])=nZ mt z ((k+l.length:Nat):Int) y
 | [],x,z,k,y,h=>by
  obtain rfl:=Option.some.inj h
  show(match nZ mt x ((k:Nat):Int) y with|none=>none|some z=>sb mt z (k+1) [])=nZ mt x ((k+0:Nat):Int) y
  rw[hY]
  cases nZ mt x ((k:Nat):Int) y<;>rfl
 |a::l,x,z,k,y,h=>by
  rw[se,sb];rw[sb]at h
  cases b:nZ mt x ((k:Nat):Int) a with
  |none=>rw[b]at h;cases h
  |some w=>
   rw[b]at h
   dsimp only at h⊢
   rw[Cf y h,fL,show k+1+l.length=k+(l.length+1) by omega]
def Hy (cs:Cs):List Nat→Nat
 | [k]=>(cs.ed k).cp+1
 |_=>0
def yh (Q:Qr)(words:List cM)(cs:Cs)(e:oe)(w:og):Prop:=
 (w.rule= -1∧w.kids=[]∧e.tqo=e.frm+1∧e.cp=0∧∃i:Nat,i<Q.aG.length∧w.lex=i∧(Q.aG.getD i MW).word=words.getD e.frm []∧e.gr=iH (Q.aG.getD i MW).graph 0)∨
 (∃i:Nat,i<Q.rules.length∧w.rule=i∧w.lex=0∧((w.kids.length:Nat):Int)=(Q.rules.getD i nX).kids∧iq cs e.tqo e.frm w.kids∧e.cp=Hy cs w.kids∧∃y,sb Q.mt (Q.rules.getD i nX).graph 1 (w.kids.map λk=>(cs.ed k).gr)=some y∧e.gr=mP y)
def gV (Q:Qr)(words:List cM)(cs:Cs):Prop:=∀it∈cs.its,∀w∈it.cD,yh Q words cs it.ed w
structure sC (cs gG:Cs):Prop where
 more:cs.its.length≤gG.its.length
 ed:∀i,i<cs.its.length→gG.ed i=cs.ed i
theorem Grow.stay {n frm tqo a:Nat}{cs gG:Cs}(h:Grow n frm tqo cs gG a):sC cs gG:=⟨h.more,h.ed⟩
theorem sC.refl (cs:Cs):sC cs cs:=⟨aU _,λ_ _=>rfl⟩
theorem sC.trans {x y z:Cs}(h:sC x y)(k:sC y z):sC x z:=⟨dH h.more k.more,λi hi=>by rw[k.ed i (fg hi h.more),h.ed i hi]⟩
theorem iq.stay {cs gG:Cs}(h:sC cs gG){tqo:Nat}:∀{l:List Nat} {a:Nat},iq cs tqo a l→iq gG tqo a l
 | [],_,k=>k
 |i::l,a,⟨b,c,k3⟩=>⟨fg b h.more,by rw[h.ed i b];exact c,by rw[h.ed i b];exact iq.stay h k3⟩
theorem iq.lt {cs:Cs}{tqo:Nat}:∀{l:List Nat} {a:Nat},iq cs tqo a l→∀k∈l,k<cs.its.length
 | [],_,_,_,h=>by cases h
 |i::l,a,⟨b,_,k3⟩,k,h=>by
  rcases cN.1 h with rfl|h
  ·exact b
  ·exact iq.lt k3 k h
theorem iq.snoc {cs:Cs}{b tqo e:Nat}(he:e<cs.its.length)(h1:(cs.ed e).frm=b)(c:(cs.ed e).tqo=tqo):∀{l:List Nat} {a:Nat},iq cs b a l→iq cs tqo a (l++ [e])
 | [],a,k=>⟨he,by rw[h1];exact k.symm,c⟩
 |i::l,a,⟨d,f,k3⟩=>⟨d,f,iq.snoc he h1 c k3⟩
theorem Px {cs gG:Cs}(h:sC cs gG){l:List Nat}(a:∀k∈l,k<cs.its.length):(l.map λk=>(gG.ed k).gr)=l.map λk=>(cs.ed k).gr:=sk λk hk=>by rw[h.ed k (a k hk)]
theorem yh.stay {Q:Qr}{words:List cM}{cs gG:Cs}(h:sC cs gG){e:oe}{w:og}(k:yh Q words cs e w):yh Q words gG e w:=by
 rcases k with k|⟨i,c,d,k3,f,a,g,y,j,l⟩
 ·exact .inl k
 ·have b:=a.lt
  refine .inr ⟨i,c,d,k3,f,a.stay h,?_,y,by rw[Px h b];exact j,l⟩;rw[g]
  match hk:w.kids with
  | []=>rfl
  | [q]=>show _=(gG.ed q).cp+1;rw[h.ed q (b q (by rw[hk];simp))];rfl
  |_::_::_=>rfl
theorem DG {nt nf n:Nat}(q:n≤12)(o:nt≤250)(p:nf≤250){Q:Qr}{words:List cM}{cs:Cs}(h:gw nt nf n cs)(f:gV Q words cs){e:oe}{w:og}(he:e.frm<e.tqo∧e.tqo≤n∧e.cp≤3∧eG nt nf e.gr∧e.gr.length≤60)(hk:∀k∈w.kids,k<cs.its.length)(hw:yh Q words cs e w):gV Q words (j6 n cs e w):=by
 have b:=(yj q h he hk).2.stay
 have Ax:∀it∈cs.its,∀w∈it.cD,yh Q words (j6 n cs e w) it.ed w→True:=λ_ _ _ _ _=>trivial
 intro it hit v a
 have g:(∃i,xj cs.its (fb e)=some i)∨xj cs.its (fb e)=none:=by
  cases xj cs.its (fb e)with
  |none=>exact .inr rfl
  |some i=>exact .inl ⟨i,rfl⟩
 rcases g with⟨i,hi⟩|hi
 ·have l:(j6 n cs e w).its=cs.its.modify i λit=>it.put w:=by unfold j6;rw[hi]
  rw[l]at hit;obtain⟨j,d,rfl⟩:=Ar.1 hit;rw[qG]at d;rw[List.getElem_modify]at a⊢;obtain⟨x,hx,m⟩:=zh hi
  by_cases c:i=j
  ·subst c
   rw[aB rfl]at a⊢
   have r:cs.its[i]=x:=by rw[bT d]at hx;exact Option.some.inj hx
   rcases ca.1 a with a|a
   ·exact(f _ (gl d) v a).stay b
   ·rw[ba.1 a]
    obtain⟨g1,g2,g3,g4,g5⟩:=h.gr cs.its[i] (gl d)
    have s:cs.its[i].ed=e:=key_inj ⟨by omega,by omega,by omega,g4.yu o p g5⟩ ⟨by omega,by omega,by omega,he.2.2.2.1.yu o p he.2.2.2.2⟩ (by rw[r];exact m)
    show yh Q words _ cs.its[i].ed w
    rw[s];exact hw.stay b
  ·rw[aA c]at a⊢
   exact(f _ (gl d) v a).stay b
 ·have l:(j6 n cs e w).its=cs.its++ [(⟨e,[],[]⟩:jY).put w]:=by unfold j6;rw[hi]
  rw[l]at hit
  rcases ca.1 hit with hit|hit
  ·exact(f it hit v a).stay b
  ·rw[ba.1 hit]at a⊢
   have a:v∈([]:List og)++ [w]:=a
   rw[xR]at a;rw[ba.1 a];exact hw.stay b
theorem vf {β:Type}(f:Cs→β→Cs)(I:Cs→Prop):∀(l:List β) (cs:Cs),I cs→(∀cs x,x∈l→I cs→I (f cs x))→I (l.foldl f cs)
 | [],_,h,_=>h
 |x::l,cs,h,a=>vf f I l (f cs x) (a cs x (by simp) h) λcs y hy=>a cs y (by simp[hy])
theorem Gv {Q:Qr}{cs:Cs}{rule a e:Nat}{x y:eB}(h:ko Q cs rule x a e=some y):nZ Q.mt x a (cs.ed e).gr=some y:=by
 unfold ko at h
 split at h
 ·exact h
 ·cases h
theorem Tj {nt nf:Nat}{Q:Qr}(w:Q.n≤12)(H:nt≤250)(I:nf≤250)(A:xW nt Q.mt){words:List cM}{rule frm tqo:Nat}(J:rule<Q.rules.length)(B:frm<tqo)(ht:tqo≤Q.n)(c:Nat→Nat→Nat):∀(l:Nat) (cs:Cs) (x:eB) (kids:List Nat) (a:Nat),
 j3 nt nf Q.n frm tqo c 0 cs→eG nt nf x→(frm<a∨(a=frm∧1≤l))→a<tqo→gV Q words cs→iq cs a frm kids→((kids.length+l+1:Nat):Int)=(Q.rules.getD rule nX).kids→sb Q.mt (Q.rules.getD rule nX).graph 1 (kids.map λk=>(cs.ed k).gr)=some x→
 gV Q words (sH Q rule frm tqo l cs x kids a):=by
 intro l
 induction l using Nat.strongRecOn with|_ l K=> ?_
 intro cs x kids a L hx X M N b C O;rw[KD]
 have s:∀z∈List.range' (oP l a tqo) (sG l a tqo),a<z∧z≤tqo∧(1≤l→z<tqo)∧(l=0→z=tqo):=λz hz=>by
  obtain⟨j,P,rfl⟩:=List.mem_range'.1 hz
  have:=Dk M P
  rw[nM];exact⟨this.1,this.2.1,this.2.2.2,this.2.2.1⟩
 refine(vf (Lu Q rule frm tqo l x kids a) (λgG=>j3 nt nf Q.n frm tqo c 0 gG∧gV Q words gG∧sC cs gG) _ cs ⟨L,N,sC.refl _⟩ (λd en R ⟨s1,S,D⟩=> ?_)).2.1;obtain⟨Y,e2,E,T⟩:=s en R
 have g:∀e∈d.at_ Q.n a en,e<d.its.length:=λe he=>s1.ok.qd he
 have h:∀e∈d.at_ Q.n a en,(d.ed e).frm=a∧(d.ed e).tqo=en:=λe he=>s1.ok.prt a en e zE he
 have inner:=vf (uI Q rule frm tqo l x kids en) (λgG=>j3 nt nf Q.n frm tqo c 0 gG∧gV Q words gG∧sC d gG) (d.at_ Q.n a en) d ⟨s1,S,sC.refl _⟩ (λf e he ⟨s2,t,p⟩=> ?_)
 ·exact⟨inner.1,inner.2.1,D.trans inner.2.2⟩
 have r:e<f.its.length:=fg (g e he) p.more
 have F:=p.ed e (g e he)
 have u:=D.trans p
 have i:∀k∈kids,k<f.its.length:=λk hk=>fg (b.lt k hk) u.more
 obtain⟨g1,g2⟩:=FY w A B ht c (l:=l) (rule:=rule) s2 hx (en:=en) ⟨by omega,E⟩ i r;refine⟨g1,?_,p.trans g2.stay⟩;unfold uI
 cases hy:ko Q f rule x (kids.length+1) e with
 |none=>exact t
 |some y=>
  dsimp only
  obtain⟨G,U,_⟩:=wT A s2.ok hx r hy
  have V:=Gv hy
  have m:iq f en frm (kids++ [e]):=iq.snoc r (by rw[F];exact(h e he).1) (by rw[F];exact(h e he).2) (b.stay u)
  have v:((kids++ [e]).map λk=>(f.ed k).gr)=(kids.map λk=>(cs.ed k).gr)++ [(f.ed e).gr]:=by rw[cY,Px u b.lt];rfl
  have o:sb Q.mt (Q.rules.getD rule nX).graph 1 ((kids++ [e]).map λk=>(f.ed k).gr)=some y:=by
   rw[v,Cf _ O,aO,Nat.add_comm 1];exact V
  cases l with
  |zero=>
   dsimp only
   obtain⟨m1,m2⟩:=qw G U
   have W:=T rfl
   subst W;refine DG w H I s2.ok t ⟨B,ht,aQ _,m1,m2⟩ (λk hk=> ?_) (.inr ⟨rule,J,rfl,rfl,by rw[←C,cA];simp,m,?_,y,o,rfl⟩)
   ·rcases ca.1 hk with hk|hk
    ·exact i k hk
    ·rw[ba.1 hk];exact r
   ·cases kids with
    |nil=>
     have:frm=a:=b
     omega
    |cons q kids=>
     cases kids with
     |nil=>rfl
     |cons _ _=>rfl
  |succ l=>
   dsimp only
   exact K l zE f y (kids++ [e]) en s2 G (.inl zE) (E zE) t m (by rw[←C,cA];simp;omega) o
theorem UZ {nt nf:Nat}{Q:Qr}(a:sB nt nf Q)(d:nt≤250)(e:nf≤250){words:List cM}{w:cM}{frm tqo i:Nat}(hw:w=words.getD frm [])(f:tqo=frm+1)(ht:tqo≤Q.n){cs:Cs}(h:gw nt nf Q.n cs)(b:gV Q words cs)(hi:i<Q.aG.length):gV Q words (qs Q w frm tqo cs i):=by
 obtain⟨c,g⟩:=a.WX hi;unfold qs
 split
 ·rename_i j
  obtain⟨f1,f2,_⟩:=uS c c.pos;exact DG a.n d e h b ⟨by dsimp only;omega,ht,aQ _,f1,dH f2 g⟩ (λk hk=>by cases hk) (.inl ⟨rfl,rfl,f,rfl,i,hi,rfl,by rw[j,hw],rfl⟩)
 ·exact b
theorem V1 {nt nf:Nat}{Q:Qr}(a:sB nt nf Q)(e:nt≤250)(f:nf≤250){words:List cM}{frm tqo i:Nat}{c:Nat→Nat→Nat}(b:frm<tqo)(ht:tqo≤Q.n){cs:Cs}(h:j3 nt nf Q.n frm tqo c 0 cs)(d:gV Q words cs)(hi:i<Q.rules.length):gV Q words (r5 Q frm tqo cs i):=by
 obtain⟨⟨j,k3⟩,g,_⟩:=a.wF hi;unfold r5
 split
 ·rename_i k
  exact Tj a.n e f a.mt hi b ht c _ cs _ [] frm h g (.inr ⟨rfl,by omega⟩) b d rfl (by show((0+((Q.rules.getD i nX).kids.toNat-1)+1:Nat):Int)=_;omega) rfl
 ·exact d
theorem VO {nt nf:Nat}{Q:Qr}(b:sB nt nf Q)(d:nt≤250)(f:nf≤250){words:List cM}{frm tqo e i:Nat}(g:frm<tqo)(ht:tqo≤Q.n){cs:Cs}(h:gw nt nf Q.n cs)(c:gV Q words cs)(he:e<cs.its.length)(a:(cs.ed e).frm=frm∧(cs.ed e).tqo=tqo)(p:(cs.ed e).cp<3)(hi:i<Q.rules.length):gV Q words (pq Q frm tqo e cs i):=by
 obtain⟨_,j,_⟩:=b.wF hi;unfold pq
 split
 ·exact c
 ·rename_i hk
  cases hy:ko Q cs i (Q.rules.getD i nX).graph 1 e with
  |none=>exact c
  |some x=>
   dsimp only
   obtain⟨l,m,_⟩:=wT b.mt h j he hy;obtain⟨m1,m2⟩:=qw l m
   have o:=Gv hy
   refine DG b.n d f h c ⟨g,ht,by dsimp only;omega,m1,m2⟩ (λk hk=>by rw[ba.1 hk];exact he) (.inr ⟨i,hi,rfl,rfl,?_,⟨he,a.1,a.2⟩,rfl,x,?_,rfl⟩)
   ·show((1:Nat):Int)=_
    omega
   ·show(match nZ Q.mt _ ((1:Nat):Int) (cs.ed e).gr with|none=>none|some z=>sb Q.mt z (1+1) [])=some x
    rw[o];rfl
theorem Sy {nt nf:Nat}{Q:Qr}(c:sB nt nf Q)(e:nt≤250)(f:nf≤250){words:List cM}{frm tqo:Nat}(d:frm<tqo)(ht:tqo≤Q.n){cs:Cs}(h:gw nt nf Q.n cs)(l:cs.its.length≤300)(g:gV Q words cs):gV Q words (mK Q words frm tqo cs):=by
 have k:j3 nt nf Q.n frm tqo (λi j=>(cs.at_ Q.n i j).length) 0 cs:=⟨h,λ_ _ _ _=>rfl,aQ _⟩
 unfold mK
 split
 ·rename_i m
  exact(vf (qs Q (words.getD frm []) frm tqo) (λgG=>j3 nt nf Q.n frm tqo (λi j=>(cs.at_ Q.n i j).length) 0 gG∧gV Q words gG) _ cs ⟨k,g⟩ (λo i hi ⟨a,b⟩=>⟨(zj c d ht a (dM.1 hi)).1,UZ c e f rfl m ht a.ok b (dM.1 hi)⟩)).2
 ·exact(vf (r5 Q frm tqo) (λgG=>j3 nt nf Q.n frm tqo (λi j=>(cs.at_ Q.n i j).length) 0 gG∧gV Q words gG) _ cs ⟨k,g⟩ (λo i hi ⟨a,b⟩=>⟨(AE c d ht h l a (dM.1 hi)).1,V1 c e f d ht a b (dM.1 hi)⟩)).2
theorem Ae {nt nf:Nat}{Q:Qr}(g:sB nt nf Q)(p:nt≤250)(q:nf≤250){words:List cM}{frm tqo:Nat}(j:frm<tqo)(ht:tqo≤Q.n):∀(f k:Nat) (cs:Cs),gw nt nf Q.n cs→gV Q words cs→gV Q words (pt Q frm tqo f k cs)
 |0,_,_,_,h=>h
 |f+1,k,cs,c,h=>by
  rw[pt]
  split
  ·rename_i hk
   have r:(cs.at_ Q.n frm tqo)[k]?=some ((cs.at_ Q.n frm tqo).getD k 0):=by rw[ax,bT hk];rfl
   have m:=aY r
   have d:=c.qd m
   have s:=c.prt frm tqo _ zE m
   split
   ·exact Ae g p q j ht f (k+1) cs c h
   ·rename_i v
    have w:(cs.ed ((cs.at_ Q.n frm tqo).getD k 0)).cp≤3:=by
     have:cs.ed ((cs.at_ Q.n frm tqo).getD k 0)=(cs.its[(cs.at_ Q.n frm tqo).getD k 0]'d).ed:=by unfold Cs.ed;rw[ax (l:=cs.its),bT d];rfl
     rw[this];exact(c.gr _ (gl d)).2.2.1
    have t:(cs.ed ((cs.at_ Q.n frm tqo).getD k 0)).cp<3:=by omega
    have hu:=Cr g j ht (e:=(cs.at_ Q.n frm tqo).getD k 0) (ch:=(cs.ed ((cs.at_ Q.n frm tqo).getD k 0)).cp) t c d rfl
    refine Ae g p q j ht f (k+1) _ hu.ok ?_;refine(vf (pq Q frm tqo ((cs.at_ Q.n frm tqo).getD k 0)) (λgG=>gw nt nf Q.n gG∧gV Q words gG∧sC cs gG) _ cs ⟨c,h,sC.refl _⟩ (λx i hi ⟨a,b,y⟩=> ?_)).2.1
    have o:=fg d y.more
    have u:=y.ed _ d
    have h1:=LB g j ht a o (by rw[u]) t (dM.1 hi)
    exact⟨h1.ok,VO g p q j ht a b o (by rw[u];exact s) (by rw[u];exact t) (dM.1 hi),y.trans h1.gr.stay⟩
  ·exact h
theorem Kr {nt nf len:Nat}{Q:Qr}(a:sB nt nf Q)(b:nt≤250)(c:nf≤250){words:List cM}{frm:Nat}(d:1≤len)(ht:frm+len≤Q.n){cs:Cs}(h:oG nt nf Q.n len frm cs)(e:gV Q words cs):gV Q words (pD Q words frm (frm+len) cs):=by
 obtain⟨f,_,_⟩:=ET a (words:=words) d ht h;exact Ae a b c zE ht _ _ _ f (Sy a b c zE ht h.ok h.Fa e)
theorem Pg {nf nn i:Int}:∀{l:lE} {last:Int},(BH nf nn i last l).1=0→(∀x∈l,last<x.1)∧sx l∧∀x∈l,(0≤x.1∧x.1<nf)∧0≤x.2∧x.2<nn
 | [],_,_=>⟨λ_ h=>(by cases h),.nil,λ_ h=>(by cases h)⟩
 |x::l,last,h=>by
  rw[BH]at h
  by_cases h1:x.1<0∨nf≤x.1∨x.2<0∨nn≤x.2
  ·rw[aB h1]at h;exact absurd h (by simp)
  rw[aA h1]at h
  by_cases d:x.1≤last
  ·rw[aB d]at h;exact absurd h (by simp)
  rw[aA d]at h;obtain⟨a,b,c⟩:=Pg h;refine⟨λy hy=> ?_,.cons (λy hy=>a y hy) b,λy hy=> ?_⟩
  ·rcases cN.1 hy with rfl|hy
   ·omega
   ·have:=a y hy;omega
  ·rcases cN.1 hy with rfl|hy
   ·omega
   ·exact c y hy
theorem uW {nt nf nn:Int}:∀{l:eB} {i:Nat},(fJ nt nf nn i l).1=0→∀n∈l,(0≤n.1∧n.1<nt)∧sx n.2∧∀x∈n.2,(0≤x.1∧x.1<nf)∧0≤x.2∧x.2<nn
 | [],_,_,_,h=>by cases h
 |y::l,i,h,n,d=>by
  rw[fJ]at h
  by_cases h1:y.1<0∨nt≤y.1
  ·rw[aB h1]at h;exact absurd h (by simp)
  rw[aA h1]at h
  by_cases a:(BH nf nn i (-1) y.2).1≠0
  ·rw[aB a]at h;exact absurd h a
  rw[aA a]at h
  rcases cN.1 d with rfl|d
  ·obtain⟨_,b,c⟩:=Pg (eY.1 a)
   exact⟨by omega,b,c⟩
  ·exact uW h n d
theorem Pk {nt nf:Nat}{g:eB}(h:(fc nt nf g).1=0):eG nt nf g∧g.length≤60:=by
 unfold fc at h
 by_cases h1:g.length=0∨60<g.length
 ·rw[aB h1]at h;exact absurd h (by simp)
 rw[aA h1]at h;exact⟨⟨by omega,λn a=>uW h n a⟩,by omega⟩
theorem wa {T:List er}{Fs:List pM}{g:eB}(h:(dP T Fs g).1=0):eG T.length Fs.length g∧g.length≤60:=by
 unfold dP at h
 by_cases h1:(fc T.length Fs.length g).1≠0
 ·rw[aB h1]at h;exact absurd h h1
 ·exact Pk (eY.1 h1)
theorem Iz {g:eB}{kids:Int}(h:o6 g kids=true)(a:kids≤3):∀k:Int,0≤k→k≤kids→0≤nS g k:=λk b hk=>by
 unfold o6 at h
 have:=fY.1 h k.toNat (dM.2 zE)
 rw[show((k.toNat:Nat):Int)=k by omega,cX hk]at this
 simpa using this
structure Ha (nt nf:Nat)(r:kM):Prop where
 kids:1≤r.kids∧r.kids≤3
 wt:0≤r.weight∧r.weight≤1000000
 gr:eG nt nf r.graph
 len:r.graph.length≤60
 nS:∀k:Int,0≤k→k≤r.kids→0≤nS r.graph k
structure NK (nt nf:Nat)(x:Bg):Prop where
 word:isWord x.word=true
 wt:0≤x.weight∧x.weight≤1000000
 gr:eG nt nf x.graph
 len:x.graph.length≤60
structure tq (g:fD):Prop where
 ty:j5 g.types
 ft:g.cJ.length≤40
 rn:g.rules.length≤40
 xn:g.aG.length≤100
 rule:∀r∈g.rules,Ha g.types.length g.cJ.length r
 lex:∀x∈g.aG,NK g.types.length g.cJ.length x
 start:eG g.types.length g.cJ.length g.start∧g.start.length≤60
theorem Qj {T:List er}{Fs:List pM}{r:kM}(h:qC T Fs r=0):Ha T.length Fs.length r:=by
 unfold qC at h
 by_cases h1:r.kids<1∨3<r.kids∨r.weight<0∨1000000<r.weight
 ·rw[aB h1]at h;exact absurd h (by decide)
 rw[aA h1]at h
 by_cases c:(dP T Fs r.graph).1≠0
 ·rw[aB c]at h;exact absurd h c
 rw[aA c]at h
 by_cases d:o6 r.graph r.kids=false
 ·rw[aB d]at h;exact absurd h (by decide)
 obtain⟨a,b⟩:=wa (eY.1 c);exact⟨by omega,by omega,a,b,Iz (by simpa using d) zE⟩
theorem UY {T:List er}{Fs:List pM}{x:Bg}(h:xw T Fs x=0):NK T.length Fs.length x:=by
 unfold xw at h
 by_cases c:isWord x.word=false
 ·rw[aB c]at h;exact absurd h (by decide)
 rw[aA c]at h
 by_cases h1:x.weight<0∨1000000<x.weight
 ·rw[aB h1]at h;exact absurd h (by decide)
 rw[aA h1]at h
 by_cases d:(dP T Fs x.graph).1≠0
 ·rw[aB d]at h;exact absurd h d
 obtain⟨a,b⟩:=wa (eY.1 d);exact⟨by simpa using c,by omega,a,b⟩
theorem CY {T:List er}{Fs:List pM}:∀{l:List kM} {known:List cM} {i:Nat},(jw T Fs known i l).1=0→∀r∈l,Ha T.length Fs.length r
 | [],_,_,_,_,h=>by cases h
 |y::l,known,i,h,r,b=>by
  rw[jw]at h
  by_cases h1:isName y.name=false
  ·rw[aB h1]at h;exact absurd h (by simp)
  rw[aA h1]at h
  by_cases c:y.name∈known
  ·rw[aB c]at h;exact absurd h (by simp)
  rw[aA c]at h
  by_cases a:qC T Fs y≠0
  ·rw[aB a]at h;exact absurd h a
  rw[aA a]at h
  rcases cN.1 b with rfl|b
  ·exact Qj (eY.1 a)
  ·exact CY h r b
theorem CN {T:List er}{Fs:List pM}:∀{l:List Bg} {i:Nat},(ju T Fs i l).1=0→∀x∈l,NK T.length Fs.length x
 | [],_,_,_,h=>by cases h
 |y::l,i,h,x,hx=>by
  rw[ju]at h
  by_cases a:xw T Fs y≠0
  ·rw[aB a]at h;exact absurd h a
  rw[aA a]at h
  rcases cN.1 hx with rfl|hx
  ·exact UY (eY.1 a)
  ·exact CN h x hx
theorem zX {g:fD}(h:(km g).1=0):tq g:=by
 unfold km at h
 by_cases h1:(jk g.types g.cJ).1≠0
 ·rw[aB h1]at h;exact absurd h h1
 rw[aA h1]at h
 by_cases f:g.cJ.length≤3
 ·rw[aB f]at h;exact absurd h (by simp)
 rw[aA f]at h
 by_cases i:40<g.rules.length∨100<g.aG.length
 ·rw[aB i]at h;exact absurd h (by simp)
 rw[aA i]at h
 by_cases b:(jw g.types g.cJ [] 0 g.rules).1≠0
 ·rw[aB b]at h;exact absurd h b
 rw[aA b]at h
 by_cases c:(ju g.types g.cJ 0 g.aG).1≠0
 ·rw[aB c]at h;exact absurd h c
 rw[aA c]at h
 by_cases d:(dP g.types g.cJ g.start).1≠0
 ·rw[aB d]at h;exact absurd h d
 have a:=eY.1 h1
 unfold jk at a
 by_cases j:40<g.cJ.length
 ·rw[aB j]at a;exact absurd a (by simp)
 rw[aA j]at a
 by_cases e:(BW g.types).1≠0
 ·rw[aB e]at a;exact absurd a e
 obtain⟨_,_,ht⟩:=JX (eY.1 e);exact⟨ht,by omega,by omega,by omega,CY (eY.1 b),CN (eY.1 c),wa (eY.1 d)⟩
theorem Gg {nt nf n:Nat}:oG nt nf n 1 0 ⟨[],List.replicate (n*(n+1)) []⟩:=by
 have a:∀k,(List.replicate (n*(n+1)) ([]:List Nat)).getD k []=[]:=λk=>by
  rw[ax,si]
  split<;>rfl
 refine⟨⟨mI ..,λl b e he=> ?_,?_,λi j e _ he=> ?_,λit h=>(by cases h),λit h=>(by cases h),λit h=>(by cases h)⟩,aQ _,λit h=>(by cases h),λi h=>(by cases h)⟩
 ·rw[(List.mem_replicate.1 b).2]at he;cases he
 ·show((List.replicate (n*(n+1)) ([]:List Nat)).map List.length).sum=0
  rw[rM];simp
 ·rw[show(⟨[],List.replicate (n*(n+1)) []⟩:Cs).sp=List.replicate (n*(n+1)) []from rfl,a]at he;cases he
end Go.Proofs.YtiefglecbgdaiaaGreatDoor
namespace Go.J
open Go
def nU:List Int→List Int→Bool
 | [],[]=>false
 | [],_::_=>true
 |_::_,[]=>false
 |a::x,b::y=>decide (a<b)||(decide (a=b)&&nU x y)
theorem nB:∀x:List Int,nU x x=false
 | []=>rfl
 |a::x=>by simp[nU,nB x]
theorem p6:∀{x y z:List Int},nU x y=true→nU y z=true→nU x z=true
 | [],[],_,h,_=>by simp[nU]at h
 | [],_::_,[],_,h=>by simp[nU]at h
 | [],_::_,_::_,_,_=>rfl
 |_::_,[],_,h,_=>by simp[nU]at h
 |_::_,_::_,[],_,h=>by simp[nU]at h
 |a::x,b::y,c::z,h,k=>by
  simp only[nU,Bool.or_eq_true,Bool.and_eq_true,decide_eq_true_eq]at h k⊢
  rcases h with h|⟨h,d⟩
  ·left;rcases k with k|⟨k,_⟩<;>omega
  ·rcases k with k|⟨k,e⟩
   ·left;omega
   ·right;exact⟨by omega,p6 d e⟩
theorem yM:∀(x y:List Int),nU x y=true∨x=y∨nU y x=true
 | [],[]=> .inr (.inl rfl)
 | [],_::_=> .inl rfl
 |_::_,[]=> .inr (.inr rfl)
 |a::x,b::y=>by
  simp only[nU,Bool.or_eq_true,Bool.and_eq_true,decide_eq_true_eq,List.cons.injEq]
  rcases Int.lt_trichotomy a b with h|h|h
  ·exact .inl (.inl h)
  ·rcases yM x y with k|k|k
   ·exact .inl (.inr ⟨h,k⟩)
   ·exact .inr (.inl ⟨h,k⟩)
   ·exact .inr (.inr (.inr ⟨h.symm,k⟩))
  ·exact .inr (.inr (.inl h))
section
variable (p:List Int)
def pre (L i:Nat):List Int:=(p.drop i).take L
variable {p}
end
section
variable {n:Nat}{key:Nat→List Int}{cf:Nat→Nat→Int}{l:List Nat}
end
section
variable {p:List Int}{L:Nat}{cf:Nat→Nat→Int}{l:List Nat}{rk:List Int}
end
end Go.J
namespace Go.Proofs.YtiefglecbgdaiaaGreatDoor
open Go Go.J Tryz
structure PF {α:Type}(f:α→α→Int)(k:α→List Int):Prop where
 app:∀a b u v,nU (k a++u) (k b++v)=true↔f a b<0∨(f a b=0∧nU u v=true)
 eq:∀a b,f a b=0↔a=b
theorem vU {a b:Int}:lf a b<0↔a<b:=by unfold lf;split;omega;split<;>omega
theorem j8 {a b:Int}:lf a b=0↔a=b:=by unfold lf;split;omega;split<;>omega
theorem pe {a b:Int}:te a b<0↔a<0∨(a=0∧b<0):=by unfold te;split<;>omega
theorem oS {a b:Int}:te a b=0↔a=0∧b=0:=by unfold te;split<;>omega
theorem PF.int:PF lf (λa:Int=>[a]):=⟨λa b u v=>by
 show nU (a::u) (b::v)=true↔_
 rw[nU,vU,j8];simp,λa b=>j8⟩
theorem PF.pair {α β:Type}{f:α→α→Int}{g:β→β→Int}{k:α→List Int}{h:β→List Int}(F:PF f k)(G:PF g h):PF (λx y:α×β=>te (f x.1 y.1) (g x.2 y.2)) (λx=>k x.1++h x.2):=⟨λa b u v=>by
 rw[dg,dg,F.app,G.app,pe,oS]
 constructor
 ·rintro (h1|⟨h1,c|⟨c,d⟩⟩)
  ·exact .inl (.inl h1)
  ·exact .inl (.inr ⟨h1,c⟩)
  ·exact .inr ⟨⟨h1,c⟩,d⟩
 ·rintro ((h1|⟨h1,c⟩)|⟨⟨h1,c⟩,d⟩)
  ·exact .inl h1
  ·exact .inr ⟨h1,.inl c⟩
  ·exact .inr ⟨h1,.inr ⟨c,d⟩⟩,λa b=>by
 rw[oS,F.eq,G.eq]
 exact⟨λ⟨h1,c⟩=>Prod.ext h1 c,λh=>by rw[h];exact⟨rfl,rfl⟩⟩⟩
theorem PF.list {α:Type}{f:α→α→Int}{k:α→List Int}(F:PF f k):∀(l m:List α) (u v:List Int),l.length=m.length→(nU (l.flatMap k++u) (m.flatMap k++v)=true↔kI f l m<0∨(kI f l m=0∧nU u v=true))
 | [],[],u,v,_=>by simp[kI]
 |a::l,b::m,u,v,h=>by
  rw[iQ,iQ,dg,dg,F.app,PF.list F l m u v (by simpa using h),kI]
  by_cases e:f a b=0
  ·rw[aA (λx=>x e),e]
   exact⟨λh=>h.elim (λx=>absurd x (by decide)) (λx=>x.2),λh=> .inr ⟨rfl,h⟩⟩
  ·rw[aB e]
   exact⟨λh=>h.elim .inl (λx=>absurd x.1 e),λh=>h.elim .inl (λx=>absurd x.1 e)⟩
 | [],_::_,_,_,h=>by cases h
 |_::_,[],_,_,h=>by cases h
theorem Hz {α:Type}{f:α→α→Int}(he:∀a b,f a b=0↔a=b):∀l m:List α,kI f l m=0↔l=m
 | [],[]=>by simp[kI]
 | [],_::_=>by simp[kI]
 |_::_,[]=>by simp[kI]
 |a::l,b::m=>by
  rw[kI]
  by_cases e:f a b=0
  ·rw[aA (λx=>x e),Hz he l m,(he a b).1 e];simp
  ·rw[aB e]
   exact⟨λx=>absurd x e,λx=>by rw[List.cons.injEq]at x;exact absurd ((he a b).2 x.1) e⟩
theorem PF.lens {α:Type}{f:α→α→Int}{k:α→List Int}(F:PF f k):PF (λl m:List α=>te (lf l.length m.length) (kI f l m)) (λl=>(l.length:Int)::l.flatMap k):=⟨λl m u v=>by
 show nU ((l.length:Int)::(l.flatMap k++u)) ((m.length:Int)::(m.flatMap k++v))=true↔_
 rw[nU,pe,oS,vU,j8,Bool.or_eq_true,nQ,gD,gD]
 by_cases e:(l.length:Int)=m.length
 ·rw[F.list l m u v zE]
  constructor
  ·rintro (h|⟨_,h|h⟩)
   ·exact .inl (.inl h)
   ·exact .inl (.inr ⟨e,h⟩)
   ·exact .inr ⟨⟨e,h.1⟩,h.2⟩
  ·rintro ((h|h)|h)
   ·exact .inl h
   ·exact .inr ⟨e,.inl h.2⟩
   ·exact .inr ⟨e,.inr ⟨h.1.2,h.2⟩⟩
 ·constructor
  ·rintro (h|⟨h,_⟩)
   ·exact .inl (.inl h)
   ·exact absurd h e
  ·rintro ((h|h)|h)
   ·exact .inl h
   ·exact absurd h.1 e
   ·exact absurd h.1.1 e,λl m=>by
 rw[oS,j8,Hz F.eq]
 exact⟨λh=>h.2,λh=>by rw[h];exact⟨rfl,rfl⟩⟩⟩
theorem PF.node:PF xZ (λx:LV=>([x.1]++((x.2.length:Int)::x.2.flatMap λp=>[p.1]++ [p.2])):LV→List Int):=PF.pair PF.int (PF.lens (PF.pair PF.int PF.int))
abbrev kN (x:LV):List Int:=[x.1]++((x.2.length:Int)::x.2.flatMap λp=>[p.1]++ [p.2])
theorem OB:∀l m:eB,nU (l.flatMap kN) (m.flatMap kN)=true↔kI xZ l m<0
 | [],[]=>by simp[kI,nU]
 | [],b::m=>by rw[iQ];simp[kI,nU]
 |a::l,[]=>by rw[iQ];simp[kI,nU]
 |a::l,b::m=>by
  rw[iQ,iQ,PF.node.app,OB l m,kI]
  by_cases e:xZ a b=0
  ·rw[aA (λx=>x e),e]
   exact⟨λh=>h.elim (λx=>absurd x (by decide)) (λx=>x.2),λh=> .inr ⟨rfl,h⟩⟩
  ·rw[aB e]
   exact⟨λh=>h.elim id (λx=>absurd x.1 e),.inl⟩
def kE (x:oe):List Int:=[(x.frm:Int)]++([(x.tqo:Int)]++([(x.cp:Int)]++x.gr.flatMap kN))
theorem Dd (x y:oe):yF x y<0↔nU (kE x) (kE y)=true:=by
 unfold kE yF;rw[PF.int.app,PF.int.app,PF.int.app,pe,pe,pe,OB]
theorem Xx (x y:oe):yF x y=0↔x=y:=by
 unfold yF;rw[oS,oS,oS,j8,j8,j8,Hz PF.node.eq]
 cases x;cases y
 simp only[oe.mk.injEq,Int.natCast_inj]
theorem K4 (x:oe):¬yF x x<0:=by rw[Dd,nB];decide
theorem Bv {x y z:oe}(h:yF x y<0)(k:yF y z<0):yF x z<0:=by rw[Dd]at*;exact p6 h k
theorem zm {x y z:List Int}(h:¬nU x y=true)(k:¬nU y z=true):¬nU x z=true:=λc=>by
 rcases yM y z with h1|h1|h1
 ·exact k h1
 ·subst h1;exact h c
 ·exact h (p6 c h1)
theorem z6 {x y z:oe}(h:¬yF x y<0)(k:¬yF y z<0):¬yF x z<0:=by rw[Dd]at*;exact zm h k
theorem Yq {x y:List Int}(h:¬nU x y=true)(k:¬nU y x=true):x=y:=by
 rcases yM x y with h1|h1|h1
 ·exact absurd h1 h
 ·exact h1
 ·exact absurd h1 k
theorem TN {x y:oe}(h:¬yF x y<0)(k:¬yF y x<0):yF x y=0:=by
 rcases Int.lt_trichotomy (yF x y) 0 with h1|h1|h1
 ·exact absurd h1 h
 ·exact h1
 ·rw[Dd]at h k
  have:=Yq h k
  -- j lists n equal,H A comes ahead of j other;then all parts n equal
  exfalso
  have e:∀a b:oe,kE a=kE b→¬0<yF a b:=by
   intro a b o;unfold kE at o;rw[D3,D3,D3,D3,D3,D3,List.cons.injEq,List.cons.injEq,List.cons.injEq]at o;obtain⟨h1,B,C,D⟩:=o
   have I:kI xZ a.gr b.gr≤0:=by
    refine Int.not_lt.1 λJ=> ?_
    have gen:∀l m:eB,l.flatMap kN=m.flatMap kN→kI xZ l m=0:=by
     intro l
     induction l with
     |nil=>intro m hm;cases m with
      |nil=>rfl
      |cons b m=>rw[iQ]at hm;cases hm
     |cons a l r=>
      intro m hm
      cases m with
      |nil=>rw[iQ]at hm;cases hm
      |cons b m=>
       rw[iQ,iQ]at hm
       have E:¬xZ a b<0:=λf=>by
        have:=(PF.node.app a b (l.flatMap kN) (m.flatMap kN)).2 (.inl f)
        rw[hm,nB]at this;cases this
       have F:¬xZ b a<0:=λf=>by
        have:=(PF.node.app b a (m.flatMap kN) (l.flatMap kN)).2 (.inl f)
        rw[hm,nB]at this;cases this
       have tr:∀x y:LV,¬xZ x y<0→¬xZ y x<0→xZ x y=0:=by
        intro x y p q;unfold xZ at p q⊢;rw[pe,pe,vU,j8,vU,j8]at p q;rw[oS,oS,j8,j8]
        have t1:x.1=y.1:=by omega
        have t2:(x.2.length:Int)=y.2.length:=by omega
        refine⟨t1,t2,?_⟩
        have g:¬kI FN x.2 y.2<0:=by omega
        have i:¬kI FN y.2 x.2<0:=by omega
        clear p q t1
        generalize x.2=u at*
        generalize y.2=v at*
        induction u generalizing v with
        |nil=>cases v with
         |nil=>rfl
         |cons _ _=>simp at t2;omega
        |cons c u r=>
         cases v with
         |nil=>simp at t2;omega
         |cons d v=>
          rw[kI]at g i⊢
          have t:FN c d=0:=by
           have w:¬FN c d<0:=λf=>g (by rw[aB zE];exact f)
           have z:¬FN d c<0:=λf=>i (by rw[aB zE];exact f)
           unfold FN at w z⊢;rw[pe,vU,j8,vU]at w z
           rw[oS,j8,j8];omega
          have s:c=d:=(PF.pair PF.int PF.int).eq c d|>.1 t
          subst s;rw[aA (λx=>x t)]at g i⊢;exact r v (by simpa using t2) g i
       have e0:=tr a b E F
       have G:=(PF.node.eq a b).1 e0
       subst G;rw[kI,aA (λx=>x e0)];exact r m (List.append_cancel_left hm)
    have:=gen a.gr b.gr D
    omega
   unfold yF;rw[j8.2 h1,j8.2 B,j8.2 C]
   show ¬0<kI xZ a.gr b.gr
   omega
  exact e x y this h1
theorem vn {α:Type}(f:α→α→Int)(a:α):∀l:List α,(MH f a l).Perm (a::l)
 | []=> .refl _
 |b::l=>by
  rw[MH];split
  ·exact .refl _
  ·exact((vn f a l).cons b).trans (.swap _ _ _)
theorem lB {α:Type}(f:α→α→Int):∀l:List α,(VB f l).Perm l
 | []=> .refl _
 |a::l=>(vn f a _).trans ((lB f l).cons a)
theorem xB {α:Type}{f:α→α→Int}{Z:α→Prop}(g:∀a b c,Z a→Z b→Z c→¬f a b<0→¬f b c<0→¬f a c<0)(has:∀a b,Z a→Z b→f a b<0→¬f b a<0)(a:α)(d:Z a):∀l:List α,(∀x∈l,Z x)→l.Pairwise (λx y=>¬f y x<0)→(MH f a l).Pairwise (λx y=>¬f y x<0)
 | [],_,_=>D2 _ _
 |b::l,hz,h=>by
  have e:=hz b (by simp)
  rw[MH];split
  ·rename_i c
   refine List.Pairwise.cons (λx hx=> ?_) h
   rcases cN.1 hx with rfl|hx
   ·exact has _ _ d e c
   ·exact g x b a (hz x (by simp[hx])) e d ((jq.1 h).1 x hx) (has _ _ d e c)
  ·rename_i c
   refine List.Pairwise.cons (λx hx=> ?_) (xB g has a d l (λx hx=>hz x (by simp[hx])) (jq.1 h).2)
   rcases cN.1 ((vn f a l).mem_iff.1 hx)with rfl|hx
   ·exact c
   ·exact(jq.1 h).1 x hx
theorem xG {α:Type}{f:α→α→Int}{Z:α→Prop}(d:∀a b c,Z a→Z b→Z c→¬f a b<0→¬f b c<0→¬f a c<0)(has:∀a b,Z a→Z b→f a b<0→¬f b a<0):∀l:List α,(∀x∈l,Z x)→(VB f l).Pairwise (λx y=>¬f y x<0)
 | [],_=> .nil
 |a::l,hz=>xB d has a (hz a (by simp)) _ (λx hx=>hz x (by simp[(lB f l).mem_iff.1 hx])) (xG d has l λx hx=>hz x (by simp[hx]))
theorem QI {its:List jY}(hd:(its.map λx=>fb x.ed).Nodup){l:List Nat}(hp:l.Perm (List.range its.length))(n:l.Pairwise (λa b=>¬yF (its.getD b fX).ed (its.getD a fX).ed<0)):l=jv its:=by
 have h1:=lB (λi j=>yF (its.getD i fX).ed (its.getD j fX).ed) (List.range its.length)
 have o:=xG (f:=λi j=>yF (its.getD i fX).ed (its.getD j fX).ed) (Z:=λ_=>True) (λa b c _ _ _=>z6) (λa b _ _ h k=>K4 _ (Bv h k)) (List.range its.length) (λ_ _=>trivial)
 refine(hp.trans h1.symm).eq_of_pairwise (λa b d g p q=> ?_) n o
 have d:=dM.1 (hp.mem_iff.1 d)
 have g:=dM.1 (h1.mem_iff.1 g)
 have e:=(Xx _ _).1 (TN p q)
 refine Decidable.byContradiction λr=> ?_
 have m:∀i,i<its.length→(its.map λx=>fb x.ed)[i]?=some (fb (its.getD i fX).ed):=λi hi=>by
  rw[bJ,ax,bT hi];rfl
 refine r ?_;exact(List.getElem?_inj (l:=its.map λx=>fb x.ed) (by rw[aO];exact d) hd).1 (by rw[m a d,m b g,e])
theorem KY {nt nf len:Nat}{Q:Qr}(b:sB nt nf Q)(g:nt≤250)(i:nf≤250){words:List cM}(c:1≤len):∀(m frm:Nat) (cs a:Cs),frm+m+len≤Q.n+1→oG nt nf Q.n len frm cs→gV Q words cs→xu Q words len m frm cs=some a→oG nt nf Q.n len (frm+m) a∧gV Q words a
 |0,frm,cs,a,_,h,d,e=>by obtain rfl:=Option.some.inj e;exact⟨h,d⟩
 |m+1,frm,cs,a,hm,h,d,e=>by
  have e2:(if 300<(pD Q words frm (frm+len) cs).its.length then none else xu Q words len m (frm+1) (pD Q words frm (frm+len) cs))=some a:=e
  by_cases f:300<(pD Q words frm (frm+len) cs).its.length
  ·rw[aB f]at e2;cases e2
  ·rw[aA f]at e2
   have:=KY b g i c m (frm+1) _ a zE (Gi b c zE h f) (Kr b g i c zE h d) e2
   rw[show frm+(m+1)=frm+1+m by omega];exact this
theorem Jn {nt nf:Nat}{Q:Qr}(c:sB nt nf Q)(d:nt≤250)(f:nf≤250){words:List cM}:∀(m len:Nat) (cs a:Cs),1≤len→len+m≤Q.n+1→oG nt nf Q.n len 0 cs→gV Q words cs→xX Q words m len cs=some a→oG nt nf Q.n (len+m) 0 a∧gV Q words a
 |0,len,cs,a,_,_,h,b,e=>by obtain rfl:=Option.some.inj e;exact⟨h,b⟩
 |m+1,len,cs,a,i,hm,h,b,e=>by
  have e2:((xu Q words len (Q.n+1-len) 0 cs).bind λcs=>xX Q words m (len+1) cs)=some a:=e
  obtain⟨g,h1,j⟩:=oc.1 e2;obtain⟨k,a2⟩:=KY c d f i _ 0 cs g zE h b h1
  have:=Jn c d f m (len+1) g a zE zE (Kq k) a2 j
  rw[show len+(m+1)=len+1+m by omega];exact this
theorem ES {cs:Cs}{tqo:Nat}:∀(l:List Nat) (a:Nat),iq cs tqo a l→∀k∈l,k<cs.its.length
 |k::l,a,h,q,b=>by
  rcases cN.1 b with rfl|b
  ·exact h.1
  ·exact ES l _ h.2.2 q b
def WI (e:oe):Nat:=(e.tqo-e.frm)*4+e.cp
def Sw (e:oe):Nat:=8*(e.tqo-e.frm)-7+e.cp
theorem Zm {cs:Cs}{e:oe}(c:∀k,k<cs.its.length→(cs.ed k).frm<(cs.ed k).tqo∧(cs.ed k).cp≤3):∀kids:List Nat,iq cs e.tqo e.frm kids→1≤kids.length→kids.length≤3→e.cp=Hy cs kids→
 (∀k∈kids,WI (cs.ed k)<WI e)∧(kids.map λk=>Sw (cs.ed k)).sum+1≤Sw e
 | [k],h,_,_,a=>by
  obtain⟨h1,g,d⟩:=h
  have d:(cs.ed k).tqo=e.tqo:=d
  have hk:=c k h1
  have a:e.cp=(cs.ed k).cp+1:=a
  unfold WI Sw;refine⟨λq b=> ?_,?_⟩
  ·rw[ba]at b;subst b;omega
  ·simp only[List.map_cons,List.map_nil,List.sum_cons,List.sum_nil];omega
 | [k,l],h,_,_,a=>by
  obtain⟨h1,g,d,j,f⟩:=h
  have f:(cs.ed l).tqo=e.tqo:=f
  have hk:=c k h1
  have n:=c l d
  have a:e.cp=0:=a
  unfold WI Sw;refine⟨λq b=> ?_,?_⟩
  ·simp only[List.mem_cons,List.not_mem_nil,or_false]at b
   rcases b with rfl|rfl<;>omega
  ·simp only[List.map_cons,List.map_nil,List.sum_cons,List.sum_nil];omega
 | [k,l,m],h,_,_,a=>by
  obtain⟨h1,g,d,j,f,o,i⟩:=h
  have i:(cs.ed m).tqo=e.tqo:=i
  have hk:=c k h1
  have n:=c l d
  have hm:=c m f
  have a:e.cp=0:=a
  unfold WI Sw;refine⟨λq b=> ?_,?_⟩
  ·simp only[List.mem_cons,List.not_mem_nil,or_false]at b
   rcases b with rfl|rfl|rfl<;>omega
  ·simp only[List.map_cons,List.map_nil,List.sum_cons,List.sum_nil];omega
 | [],_,h,_,_=>by cases h
 |_::_::_::_::_,_,_,h,_=>by simp only[List.length_cons]at h;omega
theorem zy (its:List jY):(jv its).Perm (List.range its.length):=lB _ _
theorem EG (its:List jY):(jv its).length=its.length:=by rw[(zy its).length_eq,kF]
theorem Z4 {its:List jY}{i:Nat}(h:i∈jv its):i<its.length:=dM.1 ((zy its).mem_iff.1 h)
theorem JP {its:List jY}{j:Nat}(h:j<its.length):∃i,i<its.length∧(ff its).getD j fX=⟨(its.getD i fX).ed,(its.getD i fX).cD.map λw=>⟨w.rule,w.lex,w.kids.map (lg (jv its))⟩,(its.getD i fX).cB⟩:=by
 have a:j<(jv its).length:=by rw[EG];exact h
 refine⟨(jv its)[j],Z4 (gl a),?_⟩;unfold ff
 rw[ax,bJ,bT a];rfl
theorem yU {its:List jY}{k:Nat}(h:k<its.length):lg (jv its) k<its.length∧((ff its).getD (lg (jv its) k) fX).ed=(its.getD k fX).ed:=by
 have hm:k∈jv its:=(zy its).mem_iff.2 (dM.2 h)
 have a:(jv its).idxOf k<(jv its).length:=List.idxOf_lt_length_of_mem hm
 refine⟨by unfold lg;rw[←EG its];exact a,?_⟩;unfold ff lg
 rw[ax,bJ,bT a,List.getElem_idxOf a];rfl
theorem tC {cs:Cs}{k:Nat}(h:k<cs.its.length):cs.its.getD k fX∈cs.its:=by rw[ax,bT h];exact gl h
theorem ry (its:List jY):(ff its).length=its.length:=by unfold ff;rw[aO,EG]
theorem XA {l:List Int}(h:∀x∈l,0≤x∧x≤1000000):∀x∈l,-1000000≤x∧x≤1000000:=λx hx=>by have:=h x hx;omega
theorem ZM {nt nf len frm:Nat}{Q:Qr}(z:sB nt nf Q){words:List cM}{cs:Cs}(h:oG nt nf Q.n len frm cs)(A:gV Q words cs)(hk:∀r∈Q.rules,1≤r.kids∧r.kids≤3){R X:List Int}(I:R.length=Q.rules.length)(J:X.length=Q.aG.length)(K:∀x∈R,0≤x∧x≤1000000)(L:∀x∈X,0≤x∧x≤1000000):
 qU ⟨ff cs.its,R,X⟩:=by
 have S:=z.n
 have T:=z.rn
 have U:=z.xn
 have p:∀k,k<cs.its.length→(cs.ed k).frm<(cs.ed k).tqo∧(cs.ed k).tqo≤Q.n∧(cs.ed k).cp≤3:=λk l=>by
  obtain⟨M,a2,a3,_⟩:=h.ok.gr _ (tC l);exact⟨M,a2,a3⟩
 have m:∀e,e<(⟨ff cs.its,R,X⟩:lX).its.length→∃i,i<cs.its.length∧((⟨ff cs.its,R,X⟩:lX).its.getD e fX).ed=cs.ed i∧NB ⟨ff cs.its,R,X⟩ e=(cs.its.getD i fX).cD.length∧∀w,w<NB ⟨ff cs.its,R,X⟩ e→∃a∈(cs.its.getD i fX).cD,(⟨ff cs.its,R,X⟩:lX).Ah e w=⟨a.rule,a.lex,a.kids.map (lg (jv cs.its))⟩:=λe he=>by
  have he:e<(ff cs.its).length:=he
  rw[ry]at he;obtain⟨i,hi,b⟩:=JP he;refine⟨i,hi,by show((ff cs.its).getD e fX).ed=_;rw[b];rfl,by unfold NB;show((ff cs.its).getD e fX).cD.length=_;rw[b];exact aO _,λw hw=> ?_⟩
  have hw:w<((ff cs.its).getD e fX).cD.length:=hw
  rw[b]at hw
  have F:w<(cs.its.getD i fX).cD.length:=by rwa[show _=(cs.its.getD i fX).cD.length from aO _]at hw
  refine⟨_,gl F,?_⟩;unfold lX.Ah
  show((ff cs.its).getD e fX).cD.getD w wy0=_
  rw[b]
  show((cs.its.getD i fX).cD.map _).getD w wy0=_
  rw[ax,bJ,bT F];rfl
 have f:∀e,p5 ⟨ff cs.its,R,X⟩ e=WI (((⟨ff cs.its,R,X⟩:lX).its.getD e fX).ed):=λ_=>rfl
 have v:∀e,HL ⟨ff cs.its,R,X⟩ e=Sw (((⟨ff cs.its,R,X⟩:lX).its.getD e fX).ed):=λ_=>rfl
 have G:∀k,k<cs.its.length→((⟨ff cs.its,R,X⟩:lX).its.getD (lg (jv cs.its) k) fX).ed=cs.ed k:=λk l=>(yU l).2
 refine⟨λe w he hw g=> ?_,λe w he hw g=> ?_,λe w he hw=> ?_,XA K,XA L,λe he=> ?_,λe he=> ?_,λe he=> ?_⟩
 ·obtain⟨i,hi,d,_,c⟩:=m e he
  obtain⟨a,s,t⟩:=c w hw;rw[t]at g⊢
  have H:=p i hi
  rcases A _ (tC hi) a s with⟨o,B,N,C,j,b,y,_⟩|⟨j,b,o,_⟩
  ·refine⟨by show a.kids.map _=[];rw[B];rfl,by show a.lex<(X.length:Int);rw[y,J];omega,?_⟩
   rw[v,d];unfold Sw;omega
  ·have g:a.rule<0:=g
   omega
 ·obtain⟨i,hi,d,_,c⟩:=m e he
  obtain⟨a,s,t⟩:=c w hw;rw[t]at g⊢
  rcases A _ (tC hi) a s with⟨o,_⟩|⟨j,b,o,B,N,C,y,_⟩
  ·have g:¬a.rule<0:=g
   omega
  ·have O:=hk _ (show Q.rules.getD j nX∈Q.rules by rw[ax,bT b];exact gl b)
   have D:=ES _ _ C
   obtain⟨c1,c2⟩:=Zm (e:=cs.ed i) (λk l=>⟨(p k l).1,(p k l).2.2⟩) a.kids C zE zE y;refine⟨by show a.rule<(R.length:Int);rw[o,I];omega,by show(a.kids.map _).length≤3;rw[aO];omega,λk E=> ?_,?_⟩
   ·obtain⟨q,u,rfl⟩:=cS.1 (show k∈a.kids.map (lg (jv cs.its))from E)
    refine⟨by show _<(ff cs.its).length;rw[ry];exact(yU (D q u)).1,?_⟩;rw[f,f,d,G q (D q u)];exact c1 q u
   ·show((a.kids.map (lg (jv cs.its))).map (HL ⟨ff cs.its,R,X⟩)).sum+1≤_
    rw[v,d,jJ,show a.kids.map (HL ⟨ff cs.its,R,X⟩∘lg (jv cs.its))=a.kids.map λk=>Sw (cs.ed k)from sk λq u=>by show HL _ _=_;rw[v,G q (D q u)]];exact c2
 ·obtain⟨i,hi,d,_,c⟩:=m e he
  obtain⟨a,s,t⟩:=c w hw;rw[t]
  show-1≤a.rule∧a.rule≤1000∧0≤a.lex∧a.lex≤1000
  rcases A _ (tC hi) a s with⟨o,_,_,_,j,b,y,_⟩|⟨j,b,o,B,_⟩<;>omega
 ·obtain⟨i,hi,d,_⟩:=m e he
  have H:=p i hi
  rw[v,d];unfold Sw;omega
 ·obtain⟨i,hi,d,_⟩:=m e he
  have H:=p i hi
  rw[f,d];unfold WI;omega
 ·obtain⟨i,hi,_,P,_⟩:=m e he
  rw[P]
  have:=h.cD _ (tC hi)
  unfold wM at this;omega
theorem mz {α:Type}{I:Cs→Prop}{f:Cs→α→Cs}(h:∀cs a,I cs→I (f cs a)):∀(l:List α) (cs:Cs),I cs→I (l.foldl f cs)
 | [],_,b=>b
 |a::l,cs,b=>mz h l (f cs a) (h cs a b)
theorem KO {Q:Qr}{I:Cs→Prop}(c:∀cs e w,I cs→I (j6 Q.n cs e w)){rule frm tqo:Nat}:∀(l:Nat) (cs:Cs) (x:eB) (kids:List Nat) (a:Nat),I cs→I (sH Q rule frm tqo l cs x kids a)
 |0,cs,x,kids,a,b=>by
  rw[sH];refine mz (λcs e h=> ?_) _ _ b
  cases ko Q cs rule x (kids.length+1) e with
  |none=>exact h
  |some y=>exact c _ _ _ h
 |l+1,cs,x,kids,a,b=>by
  rw[sH];refine mz (λcs en h=>mz (λcs e h=> ?_) _ _ h) _ _ b
  cases ko Q cs rule x (kids.length+1) e with
  |none=>exact h
  |some y=>exact KO c l _ _ _ _ h
theorem Ty {Q:Qr}{I:Cs→Prop}(b:∀cs e w,I cs→I (j6 Q.n cs e w)){frm tqo e i:Nat}{cs:Cs}(a:I cs):I (pq Q frm tqo e cs i):=by
 unfold pq
 split
 ·exact a
 ·cases ko Q cs i (Q.rules.getD i nX).graph 1 e with
  |none=>exact a
  |some x=>exact b _ _ _ a
theorem zV {Q:Qr}{I:Cs→Prop}(a:∀cs e w,I cs→I (j6 Q.n cs e w)){frm tqo:Nat}:∀(f k:Nat) (cs:Cs),I cs→I (pt Q frm tqo f k cs)
 |0,_,_,h=>h
 |f+1,k,cs,h=>by
  rw[pt]
  split
  ·split
   ·exact zV a f _ _ h
   ·exact zV a f _ _ (mz (λ_ _ h=>Ty a h) _ _ h)
  ·exact h
theorem Tx {Q:Qr}{I:Cs→Prop}(a:∀cs e w,I cs→I (j6 Q.n cs e w)){words:List cM}{frm tqo:Nat}{cs:Cs}(b:I cs):I (mK Q words frm tqo cs):=by
 unfold mK
 split
 ·refine mz (λcs i h=> ?_) _ _ b
  unfold qs
  split
  ·exact a _ _ _ h
  ·exact h
 ·refine mz (λcs i h=> ?_) _ _ b
  unfold r5
  split
  ·exact KO a _ _ _ _ _ h
  ·exact h
theorem KP {Q:Qr}{I:Cs→Prop}(b:∀cs e w,I cs→I (j6 Q.n cs e w)){words:List cM}{len:Nat}:∀(m frm:Nat) (cs a:Cs),I cs→xu Q words len m frm cs=some a→I a
 |0,_,cs,a,h,e=>by obtain rfl:=Option.some.inj e;exact h
 |m+1,frm,cs,a,h,e=>by
  rw[xu]at e
  split at e
  ·cases e
  ·exact KP b m _ _ _ (by unfold pD;exact zV b _ _ _ (Tx b h)) e
theorem KN {Q:Qr}{I:Cs→Prop}(b:∀cs e w,I cs→I (j6 Q.n cs e w)){words:List cM}:∀(m len:Nat) (cs a:Cs),I cs→xX Q words m len cs=some a→I a
 |0,_,cs,a,h,e=>by obtain rfl:=Option.some.inj e;exact h
 |m+1,len,cs,a,h,e=>by
  have e2:((xu Q words len (Q.n+1-len) 0 cs).bind λcs=>xX Q words m (len+1) cs)=some a:=e
  obtain⟨c,h1,d⟩:=oc.1 e2;exact KN b m (len+1) c a (KP b _ _ _ _ h h1) d
def NH (cs:Cs):Prop:=∀it∈cs.its,it.cD≠ []
theorem Xa {n:Nat}(cs:Cs)(e:oe)(w:og)(h:NH cs):NH (j6 n cs e w):=by
 unfold j6
 cases xj cs.its (fb e)with
 |some i=>
  intro it hit;obtain⟨j,a⟩:=List.mem_iff_getElem?.1 hit
  have a:(cs.its.modify i λit=>it.put w)[j]?=some it:=a
  rw[List.getElem?_modify]at a
  cases hx:cs.its[j]? with
  |none=>rw[hx]at a;cases a
  |some x=>
   rw[hx]at a
   have a:(if i=j then x.put w else x)=it:=Option.some.inj a
   by_cases c:i=j
   ·rw[aB c]at a
    rw[←a]
    show x.cD++ [w]≠ []
    simp
   ·rw[aA c]at a
    rw[←a];exact h x (aY hx)
 |none=>
  intro it hit
  rcases ca.1 hit with hit|hit
  ·exact h it hit
  ·rw[ba.1 hit]
   show []++ [w]≠ []
   simp
theorem ZO {its:List jY}(h:∀it∈its,it.cD≠ []):nh (ff its):=λe he=>by
 rw[ry]at he;obtain⟨i,hi,a⟩:=JP he;rw[a]
 have hm:its.getD i fX∈its:=by rw[ax,bT hi];exact gl hi
 have:=h _ hm
 show(its.getD i fX).cD.map _≠ []
 simpa using this
theorem ZD (g:fD)(words:List cM):nh (fO g words).1.1:=by
 have a:nh []:=λe he=>by cases he
 unfold fO
 split
 ·exact a
 ·split
  ·exact a
  ·cases b:FK g words with
   |none=>exact a
   |some its=>
    unfold FK at b;obtain⟨cs,c,rfl⟩:=eE.1 b;exact ZO (KN (I:=NH) (λcs e w h=>Xa cs e w h) _ _ _ _ (λit hit=>by cases hit) c)
end Go.Proofs.YtiefglecbgdaiaaGreatDoor
namespace Go.J
open Go
section
variable {P:Program}{n:Nat}{F F0:Fr}{A:World→Prop}{c:Ctx}{H R:List ay}{ty:TypeId}{x y:Operand}{v:Value}{Q:Exit→Act→World→Prop}{ops:Array Oper}{rest:List Oper}{d:Nat}{pos:String}{after:Array Edge}{op:Op}{t u e:TypeId}{i j:Int}{k:IntKind}
theorem St.ee (a:Ev P n F A op ty v)(h:St n ((d,v)::F) A (wpList P ops Q rest))(hd:Nat.ble (d+1) n=true:=by rfl):St n F A (wpList P ops Q ({dst:=some d,op:=op,type:=ty,pos:=pos,after:=after,guard:=none}::rest)):=St.ev v a hd h
theorem Sq.ee {T:Act→Prop}(a:Ev P n F A op ty v)(h:Sq n ((d,v)::F) (wpQuiet P ops A T rest))(hd:Nat.ble (d+1) n=true:=by rfl):Sq n F (wpQuiet P ops A T ({dst:=some d,op:=op,type:=ty,pos:=pos,after:=after,guard:=none}::rest)):=Sq.ev v a hd h
theorem St.sA {b m:Nat}{L L':List Value}[f:mA b H (.cells L.toArray t (0,0)) R](hx:aa F x (tW b))(hy:aa F y (.agg L'.toArray))(a:(P.info? e).map (·.size)=some m)(h:St n F (Mm c (aW b (.cells L'.toArray t (0,0))::R)) (wpList P ops Q rest))
 (hm:m=L'.length:=by rfl) (d:L.length=L'.length:=by first|simp only[List.length_cons,List.length_nil]|rfl) (h1:L'.all (·.oneCell')=true:=by rfl):
 St n F (Mm c H) (wpList P ops Q ({dst:=none,op:= .store e x y,type:=ty,pos:=pos,after:=after,guard:=none}::rest)):=St.R3 hx hy (by rw[a,hm]) d h1 h
theorem an.cc {dr:Prop}{bs l:List vJ}{slot:Nat}{gu:List Nat}{K:Value→e8}{o:Oper}{m:List Oper}(a:(Nat→Value)→Fr)(L:(Nat→Value)→List ay)(h:∀(c:Ctx) (e:Nat→Value),(¬dr→¬c.dr)→St n (a e++F) (Mm c (L e++H)) (wpList P ops (Exit.then (rN c H slot K) Q) [o]))(k:an P ops Q n F dr H bs l m)(h1:∀e,vS bs e gu=a e:=by exact λ_=>rfl)(b:∀e,qJ bs e gu=L e:=by exact λ_=>rfl):an P ops Q n F dr H bs (⟨slot,gu,K⟩::l) (o::m):=⟨XG.mk a L h1 b h,k⟩
theorem an.c0 {dr:Prop}{bs l:List vJ}{slot:Nat}{gu:List Nat}{K:Value→e8}{o:Oper}{m:List Oper}(h:∀(c:Ctx) (e:Nat→Value),(¬dr→¬c.dr)→St n ((λe=>[]) e++F) (Mm c ((λe=>[]) e++H)) (wpList P ops (Exit.then (rN c H slot K) Q) [o]))(k:an P ops Q n F dr H bs l m)(h1:∀e,vS bs e gu=(λe=>[]) e:=by exact λ_=>rfl)(a:∀e,qJ bs e gu=(λe=>[]) e:=by exact λ_=>rfl):an P ops Q n F dr H bs (⟨slot,gu,K⟩::l) (o::m):=⟨XG.mk (λe=>[]) (λe=>[]) h1 a h,k⟩
theorem St.rT {fn:Func}{post:Value→List ay→Prop}{rl:List ResultVar}(vs:List Value)(H':List ay)(a:fn.results=rl.toArray)(b:Si P F H rl vs)(hp:post (qS vs) H')(hH:∀w,Mm c H w→Mm c H' w:=by exact λ_ hw=>hw.sub):
 St n F (Mm c H) (bodyPost P fn (λe w'=>∃v H',e= .returned v∧post v H'∧Mm c H' w') .ret):=St.Mf vs H' a b hp hH
theorem St.rU {fn:Func}{post:Value→List ay→Prop}{rl:List ResultVar}(vs:List Value)(H':List ay)(a:fn.results=rl.toArray)(hp:post (qS vs) H')(b:Si P F H rl vs:=by first|exact⟨rfl,trivial⟩|exact⟨⟨_,_,_,_,rfl,Bf.mem,.inl ⟨⟨_,d⟩,f,rfl⟩⟩,trivial⟩)(hH:∀w,Mm c H w→Mm c H' w:=by exact λ_ hw=>hw.sub):
 St n F (Mm c H) (bodyPost P fn (λe w'=>∃v H',e= .returned v∧post v H'∧Mm c H' w') .ret):=St.Mf vs H' a b hp hH
theorem St.sr {id:Nat}{l:List Oper}{y:Code}(h:St n F A (wpList P l.toArray (Exit.then (y.wp P Q) Q) l)):St n F A ((Code.seq (Code.region id l.toArray false) y).wp P Q):=St.seq (St.rg h)
theorem St.td {ι κ:Type}{body:Code}(G:ι→κ→Fr→Fr)(a:ι→κ→List ay)(φ:ι→κ→Prop)(μ:ι→κ→Nat)(b:ι)(d:κ)(hk:aC F F0)(e:φ b d)
 (round:∀x z,φ x z→St n (G x z F0) (Mm c (a x z)) (body.wp P (Exit.then (D4 n G F0 φ μ c a (μ x z)) Q))) (f:Sub (G b d F0) F:=by repeat(first|exact Sub.nil|refine Sub.cons (by first|rfl|exact congrArg (λz=>some (iv z)) (by first|omega|(dsimp only;omega))|exact congrArg (λz=>some (Value.bool z)) (by first|assumption|exact jI (by assumption))) ?_)) (hH:∀w,Mm c H w→Mm c (a b d) w:=by exact λ_ hw=>hw.sub):
 St n F (Mm c H) ((Code.loop body).wp P Q):=St.Yr G a φ μ b d hk e f hH round
theorem St.lH {ι:Type}{body:Code}(G:ι→Fr→Fr)(a:ι→List ay)(φ:ι→Prop)(μ:ι→Nat)(b:ι)(hk:aC F F0)(d:φ b)
 (round:∀x,φ x→St n (G x F0) (Mm c (a x)) (body.wp P (Exit.then (wb n G F0 φ μ c a (μ x)) Q))) (e:Sub (G b F0) F:=by repeat(first|exact Sub.nil|refine Sub.cons (by first|rfl|exact congrArg (λz=>some (iv z)) (by first|omega|(dsimp only;omega))|exact congrArg (λz=>some (Value.bool z)) (by first|assumption|exact jI (by assumption))) ?_)) (hH:∀w,Mm c H w→Mm c (a b) w:=by exact λ_ hw=>hw.sub):
 St n F (Mm c H) ((Code.loop body).wp P Q):=St.G6 G a φ μ b hk d e hH round
theorem St.lS {ι:Type}{body:Code}(G:ι→Fr→Fr)(φ:ι→Prop)(μ:ι→Nat)(a:ι)(hk:aC F F0)(b:φ a)
 (round:∀x,φ x→St n (G x F0) (Mm c H) (body.wp P (Exit.then (wb n G F0 φ μ c (λ_=>H) (μ x)) Q))) (d:Sub (G a F0) F:=by repeat(first|exact Sub.nil|refine Sub.cons (by first|rfl|exact congrArg (λz=>some (iv z)) (by first|omega|(dsimp only;omega))|exact congrArg (λz=>some (Value.bool z)) (by first|assumption|exact jI (by assumption))) ?_)):
 St n F (Mm c H) ((Code.loop body).wp P Q):=St.agV G φ μ a hk b d round
theorem St.vL {ι κ:Type}{G:ι→κ→Fr→Fr}{a:ι→κ→List ay}{φ:ι→κ→Prop}{μ:ι→κ→Nat}{k:Nat}(y:ι)(z:κ)(b:φ y z)(hm:μ y z<k:=by first|omega|(dsimp only;omega))(d:Sub (G y z F0) F:=by repeat(first|exact Sub.nil|refine Sub.cons (by first|rfl|exact congrArg (λz=>some (iv z)) (by first|omega|(dsimp only;omega))|exact congrArg (λz=>some (Value.bool z)) (by first|assumption|exact jI (by assumption))) ?_))(e:∀w,Mm c H w→Mm c (a y z) w:=by exact λ_ hw=>hw.sub):
 St n F (Mm c H) (D4 n G F0 φ μ c a k):=St.ni y z b hm d e
theorem St.aH {ι:Type}{G:ι→Fr→Fr}{a:ι→List ay}{φ:ι→Prop}{μ:ι→Nat}{k:Nat}(y:ι)(b:φ y)(hm:μ y<k:=by first|omega|(dsimp only;omega))(d:Sub (G y F0) F:=by repeat(first|exact Sub.nil|refine Sub.cons (by first|rfl|exact congrArg (λz=>some (iv z)) (by first|omega|(dsimp only;omega))|exact congrArg (λz=>some (Value.bool z)) (by first|assumption|exact jI (by assumption))) ?_))(e:∀w,Mm c H w→Mm c (a y) w:=by exact λ_ hw=>hw.sub):
 St n F (Mm c H) (wb n G F0 φ μ c a k):=St.vQ y b hm d e
theorem St.aS {ι:Type}{G:ι→Fr→Fr}{φ:ι→Prop}{μ:ι→Nat}{k:Nat}{H':List ay}(y:ι)(a:φ y)(hm:μ y<k:=by first|omega|(dsimp only;omega))(b:Sub (G y F0) F:=by repeat(first|exact Sub.nil|refine Sub.cons (by first|rfl|exact congrArg (λz=>some (iv z)) (by first|omega|(dsimp only;omega))|exact congrArg (λz=>some (Value.bool z)) (by first|assumption|exact jI (by assumption))) ?_))(d:∀w,Mm c H w→Mm c H' w:=by exact λ_ hw=>hw.sub):
 St n F (Mm c H) (wb n G F0 φ μ c (λ_=>H') k):=St.Hi y a hm b d
theorem St.mE {ι:Type}{G:ι→Fr→Fr}{a:ι→List ay}{φ:ι→Prop}(y:ι)(b:φ y)(d:Sub (G y F0) F:=by repeat(first|exact Sub.nil|refine Sub.cons (by first|rfl|exact congrArg (λz=>some (iv z)) (by first|omega|(dsimp only;omega))|exact congrArg (λz=>some (Value.bool z)) (by first|assumption|exact jI (by assumption))) ?_))(e:∀w,Mm c H w→Mm c (a y) w:=by exact λ_ hw=>hw.sub):
 St n F (Mm c H) (Met n G F0 φ c a):=St.met y b d e
theorem Ev.l0 {b off:Nat}{fr:Nat×Nat}{d:TypeDesc}{u:Value}{L:List Value}[f:Bf b H (.cells L.toArray e fr)](hx:aa F x (.pointer (some ⟨b,off,none⟩)))(ht:P.underlying t=some d)(a:(match d with| .struct _| .array _ _=>False|_=>True):=by trivial)
 (hu:L[off]?=some u:=by rfl):Ev P n F (Mm c H) (.load t x) ty u:=Ev.jN hx ht a hu
theorem Ev.o0 {p q:Bool}(hx:aa F x (.bool p):=by exact .mk rfl)(hy:(!p)=true→aa F y (.bool q):=by exact λhp=>aa.gv rfl hp):Ev P n F A (.pick x (.const (.bool true)) y) ty (.bool (p||q)):=Ev.or hx hy
theorem Ev.n0 {p q:Bool}(hx:aa F x (.bool p):=by exact .mk rfl)(hy:p=true→aa F y (.bool q):=by exact λhp=>aa.gv rfl hp):Ev P n F A (.pick x y (.const (.bool false))) ty (.bool (p&&q)):=Ev.and hx hy
theorem Ev.a0 (hx:aa F x (iv i):=by exact .mk rfl)(hy:aa F y (iv j):=by exact .mk rfl)(h: -9223372036854775808≤i+j∧i+j≤9223372036854775807:=by omega):Ev P n F A (.binOp .add t x y u) ty (iv (i+j)):=Ev.add hx hy h
theorem Ev.s0 (hx:aa F x (iv i):=by exact .mk rfl)(hy:aa F y (iv j):=by exact .mk rfl)(h: -9223372036854775808≤i-j∧i-j≤9223372036854775807:=by omega):Ev P n F A (.binOp .sub t x y u) ty (iv (i-j)):=Ev.sub hx hy h
theorem Ev.lt0 (hx:aa F x (.int k i):=by exact .mk rfl)(hy:aa F y (.int k j):=by exact .mk rfl):Ev P n F A (.binOp .lss t x y u) ty (.bool (decide (i<j))):=Ev.lss hx hy
theorem Ev.eq0 (hx:aa F x (.int k i):=by exact .mk rfl)(hy:aa F y (.int k j):=by exact .mk rfl):Ev P n F A (.binOp .eql t x y u) ty (.bool (decide (i=j))):=Ev.eql hx hy
theorem Ev.ne0 (hx:aa F x (.int k i):=by exact .mk rfl)(hy:aa F y (.int k j):=by exact .mk rfl):Ev P n F A (.binOp .neq t x y u) ty (.bool (!decide (i=j))):=Ev.neq hx hy
theorem Ev.gt0 (hx:aa F x (.int k i):=by exact .mk rfl)(hy:aa F y (.int k j):=by exact .mk rfl):Ev P n F A (.binOp .gtr t x y u) ty (.bool (decide (j<i))):=Ev.gtr hx hy
theorem Ev.ge0 (hx:aa F x (.int k i):=by exact .mk rfl)(hy:aa F y (.int k j):=by exact .mk rfl):Ev P n F A (.binOp .geq t x y u) ty (.bool (decide (j≤i))):=Ev.geq hx hy
theorem Ev.le0 (hx:aa F x (.int k i):=by exact .mk rfl)(hy:aa F y (.int k j):=by exact .mk rfl):Ev P n F A (.binOp .leq t x y u) ty (.bool (decide (i≤j))):=Ev.leq hx hy
theorem St.nn {K:Act→World→Prop}(h:St n F A K):St n F A (wpList P ops (Exit.then K Q) []):=h
theorem St.dup (d:e8){T:Act→World→Prop}[hd:lG [d] H](k:St n F (Mm c (aD d::H)) T):St n F (Mm c H) T:=St.fF d [d] (λρ h=>h _ (aR ..)) k
end
section
variable {P:Program}{ops:Array Oper}{Q:Exit→Act→World→Prop}{n:Nat}{F:Fr}{c:Ctx}{H Fp r r' C':List ay}{f:Nat}{listed:Array Bool}{d:Nat}{op:Op}{ty:TypeId}{pos:String}{after:Array Edge}{v:Value}
theorem SW.dd (i:Nat)(hi:ops[i]?=some {dst:=some d,op:=op,type:=ty,pos:=pos,after:=after,guard:=none})(a:∀R,Ev P n F (Mm c (Fp++R)) op ty v)(h:SW P ops Q n ((d,v)::F) c Fp r f (listed.setIfInBounds i true))
 (b:NP Q:=by assumption) (e:Region.noSelect ops=true:=by assumption) (g:((Region.ready .any ops listed).contains i&&Region.free .any ops listed i)=true:=by decide+kernel) (hd:Nat.ble (d+1) n=true:=by rfl):SW P ops Q n F c Fp r (f+1) listed:=SW.defer i b e hi a g hd h
end
end Go.J
namespace Go.Proofs
open Tryz
theorem Zb:type_of% @underlying0:=underlying0
theorem fA:type_of% @underlying3:=underlying3
theorem EY:type_of% @underlying4:=underlying4
theorem EZ:type_of% @underlying5:=underlying5
theorem wX:type_of% @underlying9:=underlying9
theorem wU:type_of% @underlying22:=underlying22
theorem Gy:type_of% @underlying23:=underlying23
theorem BX:type_of% @underlying26:=underlying26
theorem wV:type_of% @underlying27:=underlying27
theorem na:type_of% @underlying28:=underlying28
theorem nI:type_of% @underlying30:=underlying30
theorem Zc:type_of% @underlying32:=underlying32
theorem rE:type_of% @underlying33:=underlying33
theorem Mz:type_of% @underlying34:=underlying34
theorem bQ:type_of% @underlying35:=underlying35
theorem H0:type_of% @underlying39:=underlying39
theorem wW:type_of% @underlying45:=underlying45
theorem vB:type_of% @underlying47:=underlying47
theorem po:type_of% @underlying51:=underlying51
theorem jG:type_of% @underlying70:=underlying70
theorem nJ:type_of% @underlying84:=underlying84
theorem sK:type_of% @underlying86:=underlying86
theorem lx:type_of% @underlying92:=underlying92
theorem sL:type_of% @underlying95:=underlying95
theorem BZ:type_of% @underlying98:=underlying98
theorem xI:type_of% @underlying100:=underlying100
theorem pH:type_of% @underlying107:=underlying107
theorem gj:type_of% @underlying123:=underlying123
theorem pI:type_of% @underlying152:=underlying152
theorem xJ:type_of% @underlying154:=underlying154
theorem qE:type_of% @underlying156:=underlying156
theorem LA:type_of% @underlying163:=underlying163
theorem eX:type_of% @underlying164:=underlying164
theorem xK:type_of% @underlying166:=underlying166
theorem lT:type_of% @underlying168:=underlying168
theorem xL:type_of% @underlying192:=underlying192
theorem kD:type_of% @underlying214:=underlying214
theorem Cn:type_of% @underlying220:=underlying220
theorem vA:type_of% @underlying227:=underlying227
theorem Gz:type_of% @underlying234:=underlying234
theorem Co:type_of% @underlying274:=underlying274
theorem Ac:type_of% @underlying277:=underlying277
theorem Cp:type_of% @underlying286:=underlying286
theorem xM:type_of% @underlying319:=underlying319
theorem Cq:type_of% @underlying334:=underlying334
end Go.Proofs
namespace Go.J
open Go
class UT (P:Program)(t:TypeId)(d:outParam TypeDesc):Prop where h:P.underlying t=some d
class qW (P:Program)(t:TypeId)(m:outParam Nat):Prop where h:(P.info? t).map (·.size)=some m
class iV (P:Program)(s i:Nat)(o:outParam Nat):Prop where h:bq P s i=some o
class sP (P:Program)(t:TypeId)(Z:outParam (Array Value)):Prop where h:(P.info? t).bind (λi=>i.zero.map Value.cells)=some Z
class pO (v:Value):Prop where h:v.oneCell'=true
instance pO.sub (u:ah):pO u.1:=⟨u.2⟩
instance pO.int (k:IntKind)(i:Int):pO (.int k i):=⟨rfl⟩
instance pO.bool (b:Bool):pO (.bool b):=⟨rfl⟩
instance pO.str (s:ByteArray):pO (.string s):=⟨rfl⟩
instance pO.sv (s:cM):pO (sv s):=⟨rfl⟩
instance pO.sl (a:Option Addr)(m c:Nat):pO (.slice a m c):=⟨rfl⟩
instance pO.ptr (a:Option Addr):pO (.pointer a):=⟨rfl⟩
instance pO.map (a:Option Nat):pO (.map a):=⟨rfl⟩
instance pO.fn (f:Fn)(a c:Array Value):pO (.func f a c):=⟨rfl⟩
class LW (L:List Value):Prop where h:L.all (·.oneCell')=true
instance LW.nil:LW []:=⟨rfl⟩
instance LW.cons (v:Value)(L:List Value)[a:pO v][b:LW L]:LW (v::L):=⟨by rw[List.all_cons,a.h,b.h];rfl⟩
section
variable {P:Program}{n:Nat}{F F0:Fr}{A:World→Prop}{c:Ctx}{H R:List ay}{ty:TypeId}{x y:Operand}{v:Value}{Q:Exit→Act→World→Prop}{ops:Array Oper}{rest:List Oper}{d:Nat}{pos:String}{after:Array Edge}{op:Op}{t u e s:TypeId}{i j:Int}{k:IntKind}
variable {b off:Nat}{L:List Value}{fr:Nat×Nat}{dd:TypeDesc}{α:Type}{Rr:Rp α}{xs:List α}
theorem Ev.g0 [d:Bf b H (.cells L.toArray e fr)][ut:UT P t dd](hx:aa F x (.pointer (some ⟨b,off,none⟩)))(a:(match dd with| .struct _| .array _ _=>False|_=>True):=by exact True.intro)(hu:L[off]?=some v:=by rfl):Ev P n F (Mm c H) (.load t x) ty v:=Ev.jN hx ut.h (by cases dd<;>exact a) hu
theorem Ev.gA [d:Bf b H (.cells L.toArray e fr)][ut:UT P t dd]{m:Nat}[sz:qW P t m](hx:aa F x (tW b))(a:(match dd with| .struct _| .array _ _=>True|_=>False):=by exact True.intro)(hm:m=L.length:=by rfl):Ev P n F (Mm c H) (.load t x) ty (.agg L.toArray):=Ev.MS hx ut.h (by cases dd<;>exact a) (by rw[sz.h,hm])
theorem Ev.gF {o q:Nat}[a:iV P s q o](hx:aa F x (.pointer (some ⟨b,off,none⟩))):Ev P n F A (.fieldAddr s x q) ty (.pointer (some ⟨b,off+o,none⟩)):=Ev.Y7 hx a.h
theorem Ev.gF0 {o q:Nat}[a:iV P s q o](hx:aa F x (tW b)):Ev P n F A (.fieldAddr s x q) ty (.pointer (some ⟨b,o,none⟩)):=Ev.cU hx a.h
theorem Ev.gE {o q m:Nat}[hd:vK v H α Rr xs][a:iV P s q o](hx:aa F x (eL v Rr.size m off))(hk:m<xs.length:=by omega):Ev P n F (Mm c H) (.fieldAddr s x q) ty (eL v Rr.size m (off+o)):=Ev.W1 hx hk a.h
theorem Ev.gR {o q m k sz:Nat}{cs:List Value}[b:xU v H e sz m cs][a:iV P s q o](hx:aa F x (eL v sz k off))(hk:k<m:=by omega):Ev P n F (Mm c H) (.fieldAddr s x q) ty (eL v sz k (off+o)):=Ev.Y8 hx hk a.h
theorem Ev.gL [hd:vK v H α Rr xs][ut:UT P t (.slice e)](hx:aa F x v):Ev P n F (Mm c H) (.call {callee:= .builtin .len,args:= #[x],argTypes:= #[t]}) ty (iv xs.length):=Ev.gN hx ut.h
theorem Ev.gM {sz m:Nat}{cs:List Value}[a:xU v H e sz m cs][ut:UT P t (.slice s)](hx:aa F x v):Ev P n F (Mm c H) (.call {callee:= .builtin .len,args:= #[x],argTypes:= #[t]}) ty (iv m):=Ev.Yo hx ut.h
theorem Ev.gS {s:cM}[ut:UT P t .string](hx:aa F x (sv s)):Ev P n F A (.call {callee:= .builtin .len,args:= #[x],argTypes:= #[t]}) ty (iv s.length):=Ev.Pc hx ut.h
theorem Ev.g1 {m:Nat}{z:α}[hd:vK v H α Rr xs][ut:UT P t dd]{u:Value}(hx:aa F x (eL v Rr.size m off))(hk:xs[m]?=some z:=by assumption)(a:(match dd with| .struct _| .array _ _=>False|_=>True):=by exact True.intro)(hu:(Rr.cells z)[off]?=some u:=by rfl):Ev P n F (Mm c H) (.load t x) ty u:=Ev.ld1 hx hk ut.h (by cases dd<;>exact a) hu
theorem Ev.gI {m:Nat}{kd:IntKind}[hd:vK v H α Rr xs][ut:UT P t (.slice e)]{z:Nat}[sz:qW P e z](hx:aa F x v)(hy:aa F y (.int kd (m:Nat)))(hz:z=Rr.size:=by rfl)(hk:m<xs.length:=by omega):Ev P n F (Mm c H) (.indexAddr t x y) ty (eL v Rr.size m 0):=Ev.cI hx hy ut.h (by rw[sz.h,hz]) rfl hk
theorem Ev.gJ {m q sz:Nat}{kd:IntKind}{cs:List Value}[b:xU v H s sz m cs][ut:UT P t (.slice e)]{z:Nat}[a:qW P e z](hx:aa F x v)(hy:aa F y (.int kd (q:Nat)))(hz:z=sz:=by rfl)(he:s=e:=by rfl)(hk:q<m:=by omega):Ev P n F (Mm c H) (.indexAddr t x y) ty (eL v sz q 0):=by
 subst he;exact Ev.dV hx hy ut.h (by rw[a.h,hz]) rfl hk
theorem Ev.gC {u:Value}[d:sN b H u][ut:UT P t dd](hx:aa F x (tW b))(a:(match dd with| .struct _| .array _ _=>False|_=>True):=by exact True.intro):Ev P n F (Mm c H) (.load t x) ty u:=Ev.agM hx ut.h (by cases dd<;>exact a)
theorem Ev.iM (h:Ev P n F A (.move x) ty v):Ev P n F A (.move x) ty v:=h
theorem Ev.iA (h:Ev P n F A (.assign x) ty v):Ev P n F A (.assign x) ty v:=h
theorem Ev.iF {q:Nat}(h:Ev P n F A (.fieldAddr s x q) ty v):Ev P n F A (.fieldAddr s x q) ty v:=h
theorem Ev.iL (h:Ev P n F A (.load t x) ty v):Ev P n F A (.load t x) ty v:=h
theorem Ev.iB {o:BinOp}(h:Ev P n F A (.binOp o t x y u) ty v):Ev P n F A (.binOp o t x y u) ty v:=h
theorem Ev.iC {a:Builtin}{b:Array Operand}{c:Array TypeId}(h:Ev P n F A (.call {callee:= .builtin a,args:=b,argTypes:=c}) ty v):Ev P n F A (.call {callee:= .builtin a,args:=b,argTypes:=c}) ty v:=h
theorem Ev.iI (h:Ev P n F A (.indexAddr t x y) ty v):Ev P n F A (.indexAddr t x y) ty v:=h
theorem Ev.go (h:Ev P n F A op ty v:=by
 first
 |with_reducible apply Ev.iM
  exact Ev.move (.mk rfl)
 |with_reducible apply Ev.iA
  exact Ev.assign (.mk rfl)
 |with_reducible apply Ev.iF
  first
  |exact Ev.gF0 (.mk rfl)
  |exact Ev.gE (.mk rfl)
  |exact Ev.gF (.mk rfl)
  |exact Ev.gR (.mk rfl)
 |with_reducible apply Ev.iL
  first
  |exact Ev.g0 (.mk rfl)
  |exact Ev.gA (.mk rfl)
  |exact Ev.g1 (.mk rfl)
  |exact Ev.gC (.mk rfl)
 |with_reducible apply Ev.iB
  first
  |exact Ev.lt0
  |exact Ev.a0
  |exact Ev.eq0
  |exact Ev.ne0
  |exact Ev.gt0
  |exact Ev.ge0
  |exact Ev.le0
  |exact Ev.s0
  |exact Ev.R6 (.mk rfl) (.mk rfl)
  |exact Ev.ahO (.mk rfl) (.mk rfl)
 |with_reducible apply Ev.iC
  first
  |exact Ev.gL (.mk rfl)
  |exact Ev.gM (.mk rfl)
  |exact Ev.gS (.mk rfl)
 |with_reducible apply Ev.iI
  first
  |exact Ev.gI (.mk rfl) (.mk rfl)
  |exact Ev.gJ (.mk rfl) (.mk rfl)
 |exact Ev.extract (.mk rfl) rfl
 |exact Ev.not (.mk rfl)
 |exact Ev.o0
 |exact Ev.n0
 |exact Ev.an5 (.mk rfl)):Ev P n F A op ty v:=h
theorem St.oo {b m:Nat}{L L':List Value}[d:mA b H (.cells L.toArray t (0,0)) R][sz:qW P e m](hx:aa F x (tW b))(hy:aa F y (.agg L'.toArray))[o:LW L'](h:St n F (Mm c (aW b (.cells L'.toArray t (0,0))::R)) (wpList P ops Q rest))
 (hm:m=L'.length:=by rfl) (a:L.length=L'.length:=by first|simp only[List.length_cons,List.length_nil]|rfl):
 St n F (Mm c H) (wpList P ops Q ({dst:=none,op:= .store e x y,type:=ty,pos:=pos,after:=after,guard:=none}::rest)):=St.R3 hx hy (by rw[sz.h,hm]) a o.h h
theorem St.al {Z:Array Value}[a:sP P t Z](h:∀b,St n ((d,tW b)::F) (Mm c (aW b (.cells Z t (0,0))::H)) (wpList P ops Q rest))(hd:Nat.ble (d+1) n=true:=by rfl):
 St n F (Mm c H) (wpList P ops Q ({dst:=some d,op:= .alloc t,type:=ty,pos:=pos,after:=after,guard:=none}::rest)):=St.alloc a.h hd h
theorem F1 {p q:Prop}(h:p→q:=by
 first
 |with_reducible exact St.nil
 |with_reducible exact St.kC
 |with_reducible exact St.seq
 |with_reducible exact St.rg
 |with_reducible exact St.block
 |with_reducible exact St.skip
 |with_reducible exact St.MG
 |with_reducible exact St.aoE
 |with_reducible exact St.RL
 |with_reducible exact St.Yf
 |with_reducible exact St.exit
 |with_reducible exact St.Mv
 |with_reducible exact St.Ye
 |with_reducible exact Sq.nil
 |with_reducible exact Sq.tail
 |exact λh=>St.ee Ev.go h
 |exact λh=>Sq.ee Ev.go h
 |exact λh=>St.oo (.mk rfl) (.mk rfl) h
 |exact St.UM rfl):p→q:=h
theorem go {p q:Prop}(hp:p)(h:p→q:=by exact F1):q:=h hp
theorem F2 {p q r:Prop}(b:q→r:=by exact F1)(a:p→q:=by exact F1):p→r:=λh=>b (a h)
theorem F3 {p q r:Prop}(b:q→r:=by exact F1)(a:p→q:=by exact F2):p→r:=λh=>b (a h)
theorem F4 {p q r:Prop}(b:q→r:=by exact F2)(a:p→q:=by exact F2):p→r:=λh=>b (a h)
theorem F5 {p q r:Prop}(b:q→r:=by exact F2)(a:p→q:=by exact F3):p→r:=λh=>b (a h)
theorem F6 {p q r:Prop}(b:q→r:=by exact F3)(a:p→q:=by exact F3):p→r:=λh=>b (a h)
theorem F7 {p q r:Prop}(b:q→r:=by exact F3)(a:p→q:=by exact F4):p→r:=λh=>b (a h)
theorem F8 {p q r:Prop}(b:q→r:=by exact F4)(a:p→q:=by exact F4):p→r:=λh=>b (a h)
theorem F9 {p q r:Prop}(b:q→r:=by exact F4)(a:p→q:=by exact F5):p→r:=λh=>b (a h)
theorem F10 {p q r:Prop}(b:q→r:=by exact F5)(a:p→q:=by exact F5):p→r:=λh=>b (a h)
theorem F11 {p q r:Prop}(b:q→r:=by exact F5)(a:p→q:=by exact F6):p→r:=λh=>b (a h)
theorem F12 {p q r:Prop}(b:q→r:=by exact F6)(a:p→q:=by exact F6):p→r:=λh=>b (a h)
theorem F13 {p q r:Prop}(b:q→r:=by exact F6)(a:p→q:=by exact F7):p→r:=λh=>b (a h)
theorem F14 {p q r:Prop}(b:q→r:=by exact F7)(a:p→q:=by exact F7):p→r:=λh=>b (a h)
theorem F15 {p q r:Prop}(b:q→r:=by exact F7)(a:p→q:=by exact F8):p→r:=λh=>b (a h)
theorem F16 {p q r:Prop}(b:q→r:=by exact F8)(a:p→q:=by exact F8):p→r:=λh=>b (a h)
theorem F17 {p q r:Prop}(b:q→r:=by exact F8)(a:p→q:=by exact F9):p→r:=λh=>b (a h)
theorem F18 {p q r:Prop}(b:q→r:=by exact F9)(a:p→q:=by exact F9):p→r:=λh=>b (a h)
theorem F19 {p q r:Prop}(b:q→r:=by exact F9)(a:p→q:=by exact F10):p→r:=λh=>b (a h)
theorem F20 {p q r:Prop}(b:q→r:=by exact F10)(a:p→q:=by exact F10):p→r:=λh=>b (a h)
theorem F21 {p q r:Prop}(b:q→r:=by exact F10)(a:p→q:=by exact F11):p→r:=λh=>b (a h)
theorem F22 {p q r:Prop}(b:q→r:=by exact F11)(a:p→q:=by exact F11):p→r:=λh=>b (a h)
theorem F23 {p q r:Prop}(b:q→r:=by exact F11)(a:p→q:=by exact F12):p→r:=λh=>b (a h)
theorem F24 {p q r:Prop}(b:q→r:=by exact F12)(a:p→q:=by exact F12):p→r:=λh=>b (a h)
theorem F25 {p q r:Prop}(b:q→r:=by exact F12)(a:p→q:=by exact F13):p→r:=λh=>b (a h)
theorem F26 {p q r:Prop}(b:q→r:=by exact F13)(a:p→q:=by exact F13):p→r:=λh=>b (a h)
theorem F27 {p q r:Prop}(b:q→r:=by exact F13)(a:p→q:=by exact F14):p→r:=λh=>b (a h)
theorem F28 {p q r:Prop}(b:q→r:=by exact F14)(a:p→q:=by exact F14):p→r:=λh=>b (a h)
theorem F29 {p q r:Prop}(b:q→r:=by exact F14)(a:p→q:=by exact F15):p→r:=λh=>b (a h)
theorem F30 {p q r:Prop}(b:q→r:=by exact F15)(a:p→q:=by exact F15):p→r:=λh=>b (a h)
theorem g2 {p q:Prop}(hp:p)(h:p→q:=by exact F2):q:=h hp
theorem g3 {p q:Prop}(hp:p)(h:p→q:=by exact F3):q:=h hp
theorem g4 {p q:Prop}(hp:p)(h:p→q:=by exact F4):q:=h hp
theorem g5 {p q:Prop}(hp:p)(h:p→q:=by exact F5):q:=h hp
theorem g6 {p q:Prop}(hp:p)(h:p→q:=by exact F6):q:=h hp
theorem g7 {p q:Prop}(hp:p)(h:p→q:=by exact F7):q:=h hp
theorem g8 {p q:Prop}(hp:p)(h:p→q:=by exact F8):q:=h hp
theorem g9 {p q:Prop}(hp:p)(h:p→q:=by exact F9):q:=h hp
theorem g10 {p q:Prop}(hp:p)(h:p→q:=by exact F10):q:=h hp
theorem g11 {p q:Prop}(hp:p)(h:p→q:=by exact F11):q:=h hp
theorem g12 {p q:Prop}(hp:p)(h:p→q:=by exact F12):q:=h hp
theorem g13 {p q:Prop}(hp:p)(h:p→q:=by exact F13):q:=h hp
theorem g14 {p q:Prop}(hp:p)(h:p→q:=by exact F14):q:=h hp
theorem g15 {p q:Prop}(hp:p)(h:p→q:=by exact F15):q:=h hp
theorem g16 {p q:Prop}(hp:p)(h:p→q:=by exact F16):q:=h hp
theorem g17 {p q:Prop}(hp:p)(h:p→q:=by exact F17):q:=h hp
theorem g18 {p q:Prop}(hp:p)(h:p→q:=by exact F18):q:=h hp
theorem g19 {p q:Prop}(hp:p)(h:p→q:=by exact F19):q:=h hp
theorem g20 {p q:Prop}(hp:p)(h:p→q:=by exact F20):q:=h hp
theorem g21 {p q:Prop}(hp:p)(h:p→q:=by exact F21):q:=h hp
theorem g22 {p q:Prop}(hp:p)(h:p→q:=by exact F22):q:=h hp
theorem g23 {p q:Prop}(hp:p)(h:p→q:=by exact F23):q:=h hp
theorem g24 {p q:Prop}(hp:p)(h:p→q:=by exact F24):q:=h hp
theorem g25 {p q:Prop}(hp:p)(h:p→q:=by exact F25):q:=h hp
theorem g26 {p q:Prop}(hp:p)(h:p→q:=by exact F26):q:=h hp
theorem g27 {p q:Prop}(hp:p)(h:p→q:=by exact F27):q:=h hp
theorem g28 {p q:Prop}(hp:p)(h:p→q:=by exact F28):q:=h hp
theorem g29 {p q:Prop}(hp:p)(h:p→q:=by exact F29):q:=h hp
theorem g30 {p q:Prop}(hp:p)(h:p→q:=by exact F30):q:=h hp
theorem au.aq {F:Fr}{x0:Operand}{v0:Value}(a:vl F x0=some v0):au F [x0] [v0]:= .cons (.mk a) .nil
theorem au.aX {F:Fr}{x0 a:Operand}{v0 v1:Value}(b:vl F x0=some v0)(h1:vl F a=some v1):au F [x0,a] [v0,v1]:= .cons (.mk b) (.cons (.mk h1) .nil)
theorem au.eI {F:Fr}{x0 a b:Operand}{v0 v1 v2:Value}(c:vl F x0=some v0)(h1:vl F a=some v1)(d:vl F b=some v2):au F [x0,a,b] [v0,v1,v2]:= .cons (.mk c) (.cons (.mk h1) (.cons (.mk d) .nil))
theorem au.gn {F:Fr}{x0 a b x3:Operand}{v0 v1 v2 v3:Value}(c:vl F x0=some v0)(h1:vl F a=some v1)(d:vl F b=some v2)(e:vl F x3=some v3):au F [x0,a,b,x3] [v0,v1,v2,v3]:= .cons (.mk c) (.cons (.mk h1) (.cons (.mk d) (.cons (.mk e) .nil)))
theorem au.BM {F:Fr}{x0 a b x3 c:Operand}{v0 v1 v2 v3 v4:Value}(d:vl F x0=some v0)(h1:vl F a=some v1)(e:vl F b=some v2)(f:vl F x3=some v3)(g:vl F c=some v4):au F [x0,a,b,x3,c] [v0,v1,v2,v3,v4]:= .cons (.mk d) (.cons (.mk h1) (.cons (.mk e) (.cons (.mk f) (.cons (.mk g) .nil))))
theorem au.Z2 {F:Fr}{x0 a b x3 c d:Operand}{v0 v1 v2 v3 v4 v5:Value}(e:vl F x0=some v0)(h1:vl F a=some v1)(f:vl F b=some v2)(g:vl F x3=some v3)(h:vl F c=some v4)(i:vl F d=some v5):au F [x0,a,b,x3,c,d] [v0,v1,v2,v3,v4,v5]:= .cons (.mk e) (.cons (.mk h1) (.cons (.mk f) (.cons (.mk g) (.cons (.mk h) (.cons (.mk i) .nil)))))
theorem au.ag4 {F:Fr}{x0 a b x3 c d e:Operand}{v0 v1 v2 v3 v4 v5 v6:Value}(f:vl F x0=some v0)(h1:vl F a=some v1)(g:vl F b=some v2)(h:vl F x3=some v3)(i:vl F c=some v4)(j:vl F d=some v5)(k:vl F e=some v6):au F [x0,a,b,x3,c,d,e] [v0,v1,v2,v3,v4,v5,v6]:= .cons (.mk f) (.cons (.mk h1) (.cons (.mk g) (.cons (.mk h) (.cons (.mk i) (.cons (.mk j) (.cons (.mk k) .nil))))))
theorem au.aoA {F:Fr}{x0 a b x3 c d e f:Operand}{v0 v1 v2 v3 v4 v5 v6 g:Value}(h:vl F x0=some v0)(h1:vl F a=some v1)(i:vl F b=some v2)(j:vl F x3=some v3)(k:vl F c=some v4)(l:vl F d=some v5)(m:vl F e=some v6)(n:vl F f=some g):au F [x0,a,b,x3,c,d,e,f] [v0,v1,v2,v3,v4,v5,v6,g]:= .cons (.mk h) (.cons (.mk h1) (.cons (.mk i) (.cons (.mk j) (.cons (.mk k) (.cons (.mk l) (.cons (.mk m) (.cons (.mk n) .nil)))))))
theorem St.bg {d:e8}{slot:Nat}{K:Value→e8}{H2:List ay}(u:Value)(a:look F slot=some u:=by rfl)(hd:K u=d:=by rfl)[hi:mT d H][tl:Hd H2 H]:St n F (Mm c H) (wpList P ops (Exit.then (rN c H2 slot K) Q) []):=St.Xi u a d hd
theorem St.rV {fn:Func}{post:Value→List ay→Prop}{rl:List ResultVar}(vs:List Value)(H':List ay)(hp:post (qS vs) H')(a:fn.results=rl.toArray:=by rfl)(b:Si P F H rl vs:=by
 repeat(first
 |exact trivial
 |refine⟨rfl,?_⟩
 |refine⟨⟨_,_,_,_,rfl,Bf.mem,.inl ⟨⟨_,UT.h⟩,qW.h,rfl⟩⟩,?_⟩
 |refine⟨⟨_,_,_,_,rfl,Bf.mem,.inr ⟨by rw[UT.h];trivial,rfl⟩⟩,?_⟩)) (hH:∀w,Mm c H w→Mm c H' w:=by exact λ_ hw=>hw.sub):
 St n F (Mm c H) (bodyPost P fn (λe w'=>∃v H',e= .returned v∧post v H'∧Mm c H' w') .ret):=St.Mf vs H' a b hp hH
end
section
variable {P:Program}{ops:Array Oper}{Q:Exit→Act→World→Prop}{n:Nat}{F:Fr}{c:Ctx}{H Fp r r' C':List ay}{f:Nat}{listed:Array Bool}{d:Nat}{op:Op}{ty:TypeId}{pos:String}{after:Array Edge}{v:Value}
theorem SW.gd (i:Nat)(h:SW P ops Q n ((d,v)::F) c Fp r f (listed.setIfInBounds i true))(a:((Region.ready .any ops listed).contains i&&Region.free .any ops listed i)=true:=by decide+kernel)(hi:ops[i]?=some {dst:=some d,op:=op,type:=ty,pos:=pos,after:=after,guard:=none}:=by rfl)(b:∀R,Ev P n F (Mm c (Fp++R)) op ty v:=by exact λ_=>Ev.go)
 (e:NP Q:=by assumption) (g:Region.noSelect ops=true:=by assumption) (hd:Nat.ble (d+1) n=true:=by rfl):SW P ops Q n F c Fp r (f+1) listed:=SW.defer i e g hi b a hd h
theorem SW.me (h:SW P ops Q n F c Fp r f listed):SW P ops Q n F c Fp r f listed:=h
theorem SW.ck (i:Nat)(h:SW P ops Q n F c Fp r f listed)(a:((Region.ready .any ops listed).contains i&&Region.free .any ops listed i)=true:=by decide+kernel):SW P ops Q n F c Fp r f listed:=h
theorem SW.dn [ap:App Fp r C'](h:St n F (Mm c C') (Q .normal))(a:Region.ready .any ops listed=[]:=by decide+kernel):SW P ops Q n F c Fp r f listed:=SW.done a h
theorem SW.t1 (i:Nat){o:Oper}[ap:App Fp r C'](h:St n F (Mm c C') (wpList P ops (Exit.then (KW P ops Q n c Fp f (listed.setIfInBounds i true)) Q) [o]))(a:Region.ready .any ops listed=[i]:=by decide+kernel)(b:ops[i]?=some o:=by rfl):SW P ops Q n F c Fp r (f+1) listed:=SW.RZ a b h
theorem SW.t2 (i j:Nat){o o':Oper}[ap:App Fp r C'](h:St n F (Mm c C') (wpList P ops (Exit.then (KW P ops Q n c Fp f (listed.setIfInBounds i true)) Q) [o]))(b:St n F (Mm c C') (wpList P ops (Exit.then (KW P ops Q n c Fp f (listed.setIfInBounds j true)) Q) [o']))
 (d:Region.ready .any ops listed=[i,j]:=by decide+kernel) (e:ops[i]?=some o:=by rfl) (a:ops[j]?=some o':=by rfl):SW P ops Q n F c Fp r (f+1) listed:=SW.Ww d e a h b
end
end Go.J
namespace Go.Proofs
open J Tryz
instance:type_of%(UT.mk xI):=⟨xI⟩
instance:type_of%(UT.mk pH):=⟨pH⟩
instance:type_of%(UT.mk underlying109):=⟨underlying109⟩
instance:type_of%(UT.mk underlying144):=⟨underlying144⟩
instance:type_of%(UT.mk pI):=⟨pI⟩
instance:type_of%(UT.mk xJ):=⟨xJ⟩
instance:type_of%(UT.mk qE):=⟨qE⟩
instance:type_of%(UT.mk underlying161):=⟨underlying161⟩
instance:type_of%(UT.mk LA):=⟨LA⟩
instance:type_of%(UT.mk eX):=⟨eX⟩
instance:type_of%(UT.mk xK):=⟨xK⟩
instance:type_of%(UT.mk lT):=⟨lT⟩
instance:type_of%(UT.mk underlying170):=⟨underlying170⟩
instance:type_of%(UT.mk underlying186):=⟨underlying186⟩
instance:type_of%(UT.mk underlying212):=⟨underlying212⟩
instance:type_of%(UT.mk underlying213):=⟨underlying213⟩
instance:type_of%(UT.mk kD):=⟨kD⟩
instance:type_of%(UT.mk underlying215):=⟨underlying215⟩
instance:type_of%(UT.mk underlying217):=⟨underlying217⟩
instance:type_of%(UT.mk wU):=⟨wU⟩
instance:type_of%(UT.mk Cn):=⟨Cn⟩
instance:type_of%(UT.mk underlying226):=⟨underlying226⟩
instance:type_of%(UT.mk vA):=⟨vA⟩
instance:type_of%(UT.mk Gy):=⟨Gy⟩
instance:type_of%(UT.mk Gz):=⟨Gz⟩
instance:type_of%(UT.mk underlying25):=⟨underlying25⟩
instance:type_of%(UT.mk BX):=⟨BX⟩
instance:type_of%(UT.mk underlying267):=⟨underlying267⟩
instance:type_of%(UT.mk wV):=⟨wV⟩
instance:type_of%(UT.mk Co):=⟨Co⟩
instance:type_of%(UT.mk Ac):=⟨Ac⟩
instance:type_of%(UT.mk na):=⟨na⟩
instance:type_of%(UT.mk underlying282):=⟨underlying282⟩
instance:type_of%(UT.mk Cp):=⟨Cp⟩
instance:type_of%(UT.mk fA):=⟨fA⟩
instance:type_of%(UT.mk nI):=⟨nI⟩
instance:type_of%(UT.mk underlying310):=⟨underlying310⟩
instance:type_of%(UT.mk xM):=⟨xM⟩
instance:type_of%(UT.mk Zc):=⟨Zc⟩
instance:type_of%(UT.mk rE):=⟨rE⟩
instance:type_of%(UT.mk Mz):=⟨Mz⟩
instance:type_of%(UT.mk bQ):=⟨bQ⟩
instance:type_of%(UT.mk underlying37):=⟨underlying37⟩
instance:type_of%(UT.mk H0):=⟨H0⟩
instance:type_of%(UT.mk EY):=⟨EY⟩
instance:type_of%(UT.mk wW):=⟨wW⟩
instance:type_of%(UT.mk vB):=⟨vB⟩
instance:type_of%(UT.mk po):=⟨po⟩
instance:type_of%(UT.mk jG):=⟨jG⟩
instance:type_of%(UT.mk underlying82):=⟨underlying82⟩
instance:type_of%(UT.mk nJ):=⟨nJ⟩
instance:type_of%(UT.mk sK):=⟨sK⟩
instance:type_of%(UT.mk wX):=⟨wX⟩
instance:type_of%(UT.mk lx):=⟨lx⟩
instance:type_of%(UT.mk sL):=⟨sL⟩
instance:type_of%(UT.mk BZ):=⟨BZ⟩
end Go.Proofs
namespace Go.J
open Go
theorem wfi {l:List Int}(h:l.all (λx=>decide (-9223372036854775808≤x)&&decide (x≤9223372036854775807))=true):∀x∈l,aJ.wf x:=λx hx=>by
 have:=fY.1 h x hx
 simp only[Bool.and_eq_true,decide_eq_true_eq]at this
 exact this
class LR (vs:List Value)(iZ:List (List Int))(H:List ay):Prop where mem:∀p∈vs.zip iZ,aD (sl aJ p.1 p.2)∈H
instance LR.nil (H:List ay):LR [] [] H:=⟨λ_ h=>by simp at h⟩
instance LR.cons (v:Value)(xs:List Int)(vs:List Value)(iZ:List (List Int))(H:List ay)[h:mT (sl aJ v xs) H][k:LR vs iZ H]:LR (v::vs) (xs::iZ) H:=
 ⟨λp hp=>by rw[List.zip_cons_cons]at hp;rcases cN.1 hp with rfl|hp;exact h.mem;exact k.mem p hp⟩
section
variable {P:Program}{n:Nat}{F:Fr}{c:Ctx}{H:List ay}{Q:Exit→Act→World→Prop}{ops:Array Oper}{rest:List Oper}{d:Nat}{ty t e:TypeId}{pos:String}{after:Array Edge}{m:Nat}{ps:List (Nat×Operand)}{zv:Value}
theorem We (F:Fr):∀xs:List Int,au F (xs.map λx=>Operand.const (.int .i64 x)) (xs.map λx=>Value.int .i64 x)
 | []=>au.nil
 |_::xs=>au.cons (.mk rfl) (We F xs)
theorem Wn:∀xs:List Int,((xs.map λx=>Value.int .i64 x).flatMap λu=>u.cells.toList)=rows aJ xs
 | []=>rfl
 |x::xs=>by
  have:=Wn xs
  simp only[rows]at this⊢
  rw[fM,iQ,iQ,this];rfl
theorem St.bi (xs:List Int)(h:∀b,St n ((d,tO b m m)::F) (Mm c (aD (sl aJ (tO b m m) xs)::H)) (wpList P ops Q rest))
 (ht:P.underlying t=some (.slice e)) (a:(P.info? e).map (·.size)=some 1) (hz:(P.info? e).bind (·.zero)=some zv)
 (hp:ps=(xs.map λx=>Operand.const (.int .i64 x)).zipIdx.map λp=>(p.2,p.1):=by exact rfl) (hm:m=xs.length:=by exact rfl) (f:Nat.ble xs.length 16777216=true:=by exact rfl) (hw:∀x∈xs,aJ.wf x:=by exact wfi (by decide)) (hd:Nat.ble (d+1) n=true:=by exact rfl):
 St n F (Mm c H) (wpList P ops Q ({dst:=some d,op:= .buildSlice t m ps.toArray,type:=ty,pos:=pos,after:=after,guard:=none}::rest)):=
 St.DY (size:=1) hp (We F xs) ht a hz rfl (by rw[aO,fU];exact f) (by
  intro u hu;obtain⟨x,_,rfl⟩:=cS.1 hu;rfl) hd (by rw[aO];exact hm)
  (λb=>St.bU _ aJ xs (Wn xs) hm hw (h b))
theorem an.bi {dr:Prop}{bs l:List vJ}{slot:Nat}{xs:List Int}{q:List Oper}(k:an P ops Q n F dr H bs l q)
 (ht:P.underlying t=some (.slice e)) (a:(P.info? e).map (·.size)=some 1) (hz:(P.info? e).bind (·.zero)=some zv)
 (hp:ps=(xs.map λx=>Operand.const (.int .i64 x)).zipIdx.map λp=>(p.2,p.1):=by exact rfl) (hm:m=xs.length:=by exact rfl) (d:Nat.ble xs.length 16777216=true:=by exact rfl) (hw:∀x∈xs,aJ.wf x:=by exact wfi (by decide)) (hd:Nat.ble (slot+1) n=true:=by exact rfl):
 an P ops Q n F dr H bs (⟨slot,[],λu=>fa aJ xs u⟩::l) ({dst:=some slot,op:= .buildSlice t m ps.toArray,type:=ty,pos:=pos,after:=after,guard:=none}::q):=
 an.c0 (λc e _=>by
  show St n F (Mm c H) _
  refine St.bi xs (λb=> ?_) ht a hz hp hm d hw hd;refine St.ZY (Rr:=aJ) (xs:=xs) (tO b m m) rfl ?_
  exact St.bg (tO b m m) (by simp[look]) rfl) k
theorem Wd:∀L:List (Value×List Int),(∀p∈L,p.1.oneCell'=true)→∃vs:List ah,vs.map (·.1)=L.map (·.1)
 | [],_=>⟨[],rfl⟩
 |p::L,h=>let⟨vs,e⟩:=Wd L λq a=>h q (cO _ a);⟨⟨p.1,h p (aR ..)⟩::vs,by rw[fM,fM,e]⟩
theorem Wo:∀vs:List ah,((vs.map (·.1)).flatMap λu=>u.cells.toList)=rows cr vs
 | []=>rfl
 |v::vs=>by
  have:=Wo vs
  simp only[rows]at this⊢
  rw[fM,iQ,iQ,this,J.cells_one v.2];rfl
theorem St.bwc (L:List (Value×List Int))(q:∀p∈L,p.1.oneCell'=true)(r:∀ρ w,fH c H ρ w→∀p∈L,(sl aJ p.1 p.2).f ρ)
 (h:∀b,St n ((d,tO b m m)::F) (Mm c (aD (J.fW aJ (L.map (·.2)) (tO b m m))::H)) (wpList P ops Q rest))
 (ht:P.underlying t=some (.slice e)) (s:(P.info? e).map (·.size)=some 1) (hz:(P.info? e).bind (·.zero)=some zv)
 {xs:List Operand} (hp:ps=xs.zipIdx.map λp=>(p.2,p.1)) (hx:au F xs (L.map (·.1))) (hm:m=L.length) (v:Nat.ble L.length 16777216=true) (hd:Nat.ble (d+1) n=true):
 St n F (Mm c H) (wpList P ops Q ({dst:=some d,op:= .buildSlice t m ps.toArray,type:=ty,pos:=pos,after:=after,guard:=none}::rest)):=by
 obtain⟨vs,g⟩:=Wd L q
 have j:vs.length=L.length:=by have:=congrArg List.length g;simpa using this
 refine St.DY (size:=1) hp hx ht s hz rfl (by rw[aO,fU];exact v) (λu hu=> ?_) hd (by rw[aO];exact hm) (λb=> ?_)
 ·rw[←g]at hu
  obtain⟨x,_,rfl⟩:=cS.1 hu
  have:=congrArg Array.size (J.cells_one x.2)
  simpa using this
 ·refine St.bU (tO b m m) cr vs (by rw[←g];exact Wo vs) zE (λ_ _=>trivial) ?_
  refine St.fact (J.fW aJ (L.map (·.2)) (tO b m m)) (λρ w l=>⟨rfl,vs,by rw[j,aO],dJ.1 (l.dR _ (aR ..)),λi u x hu a=> ?_⟩) ?_
  ·have h1:(L.map (·.1))[i]?=some u.1:=by rw[←g,bJ,hu];rfl
   rw[bJ]at h1 a;obtain⟨p,o,y⟩:=eE.1 h1;rw[o]at a
   have z:p.2=x:=by simpa using a
   have:=r ρ w l.drop p (aY o)
   rw[y,z]at this;exact this
  ·exact(h b).oY λw hw=>let⟨_,k⟩:=hw.out;Mm.mk (k.perm (List.Perm.swap ..)).drop
theorem St.bw (vs:List Value)(iZ:List (List Int))[hi:LR vs iZ H](h:∀b,St n ((d,tO b m m)::F) (Mm c (aD (J.fW aJ iZ (tO b m m))::H)) (wpList P ops Q rest))
 (ht:P.underlying t=some (.slice e)) (a:(P.info? e).map (·.size)=some 1) (hz:(P.info? e).bind (·.zero)=some zv) (hx:au F (ps.map (·.2)) vs)
 (hp:ps=(ps.map (·.2)).zipIdx.map λp=>(p.2,p.1):=by exact rfl) (f:vs.all (λp=>p.oneCell')=true:=by exact rfl) (h1:(vs.zip iZ).map (·.1)=vs:=by exact rfl) (g:(vs.zip iZ).map (·.2)=iZ:=by exact rfl) (hm:m=(vs.zip iZ).length:=by exact rfl) (i:Nat.ble (vs.zip iZ).length 16777216=true:=by exact rfl) (hd:Nat.ble (d+1) n=true:=by exact rfl):
 St n F (Mm c H) (wpList P ops Q ({dst:=some d,op:= .buildSlice t m ps.toArray,type:=ty,pos:=pos,after:=after,guard:=none}::rest)):=
 St.bwc (vs.zip iZ) (λp hp=>fY.1 f _ (by rw[←h1];exact cS.2 ⟨p,hp,rfl⟩)) (λρ w j p hp=>dJ.1 (j.dR _ (hi.mem p hp))) (by rw[g];exact h) ht a hz hp (by rw[h1];exact hx) hm i hd
theorem an.bw {dr:Prop}{bs l:List vJ}{slot:Nat}{gu:List Nat}{iZ:List (List Int)}{q:List Oper}(k:an P ops Q n F dr H bs l q)
 (ht:P.underlying t=some (.slice e)) (o:(P.info? e).map (·.size)=some 1) (hz:(P.info? e).bind (·.zero)=some zv)
 (hx:∀e:Nat→Value,au (vS bs e gu++F) (ps.map (·.2)) ((gu.zip iZ).map λp=>e p.1))
 (r:∀e:Nat→Value,qJ bs e gu=(gu.zip iZ).map (λp=>aD (J.fa aJ p.2 (e p.1))):=by exact λ_=>rfl) (g:(gu.zip iZ).map (·.2)=iZ:=by exact rfl)
 (hp:ps=(ps.map (·.2)).zipIdx.map λp=>(p.2,p.1):=by exact rfl) (hm:m=(gu.zip iZ).length:=by exact rfl) (s:Nat.ble (gu.zip iZ).length 16777216=true:=by exact rfl) (hd:Nat.ble (slot+1) n=true:=by exact rfl):
 an P ops Q n F dr H bs (⟨slot,gu,λu=>J.fW aJ iZ u⟩::l) ({dst:=some slot,op:= .buildSlice t m ps.toArray,type:=ty,pos:=pos,after:=after,guard:=none}::q):=by
 refine⟨λc e _=> ?_,k⟩
 show St n (vS bs e gu++F) (Mm c (qJ bs e gu++H)) _
 have j:∀ρ w,fH c (qJ bs e gu++H) ρ w→∀p∈gu.zip iZ,(J.fa aJ p.2 (e p.1)).f ρ:=λρ w h p d=>
  dJ.1 (h.dR _ (ke _ (by rw[r e];exact cS.2 ⟨p,d,rfl⟩)))
 intro a w v hw
 have x:∀p∈gu.zip iZ,(e p.1).oneCell'=true:=by obtain⟨ρ,h1⟩:=hw.out;exact λp d=>(j ρ w h1 p d).1
 refine St.bwc (L:=(gu.zip iZ).map λp=>(e p.1,p.2)) ?_ ?_ (λb=> ?_) ht o hz hp ?_ ?_ ?_ hd a w v hw
 ·intro p d;obtain⟨z,i,rfl⟩:=cS.1 d;exact x z i
 ·intro ρ w h p d;obtain⟨z,i,rfl⟩:=cS.1 d;exact(j ρ w h z i).2
 ·have y:((gu.zip iZ).map λp=>(e p.1,p.2)).map (·.2)=iZ:=by rw[jJ];exact g
  rw[y];refine St.oY (A':=Mm c (aD (J.fW aJ iZ (tO b m m))::H)) (λw hw=> ?_) (St.bg (tO b m m) (by simp[look]) rfl);obtain⟨ρ,h1⟩:=hw.out;exact Mm.mk (fH.tail (L:=qJ bs e gu) (h1.perm qH.symm))
 ·rw[jJ];exact hx e
 ·rw[aO];exact hm
 ·rw[aO];exact s
end
end Go.J
