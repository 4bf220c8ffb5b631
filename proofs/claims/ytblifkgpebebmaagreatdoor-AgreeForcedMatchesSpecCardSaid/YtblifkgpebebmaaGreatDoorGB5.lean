/-
  Laws of walks through programs, and facts on grammars, trees and queries.
  Conditions: none.
-/
import Derived.Test.YtblifkgpebebmaaGreatDoorGB4
import Derived.Shelf.Spec.SlicesGrow
set_option maxHeartbeats 1000000
set_option maxRecDepth 20000
set_option linter.unusedVariables false
set_option linter.unusedSimpArgs false
namespace Go.Proofs.YtblifkgpebebmaaGreatDoor
open Go Go.J Tryz
structure e9 (nt nf:Nat)(g:e8):Prop where
 pos:0<g.length
 nd:∀n∈g,(0≤n.1∧n.1<nt)∧sH n.2∧∀x∈n.2,(0≤x.1∧x.1<nf)∧0≤x.2∧x.2<g.length
theorem e9.at_ {nt nf:Nat}{g:e8}(h:e9 nt nf g){i:Nat}(a:i<g.length):(0≤(g.getD i iK).1∧(g.getD i iK).1<nt)∧sH (g.getD i iK).2∧∀x∈(g.getD i iK).2,(0≤x.1∧x.1<nf)∧0≤x.2∧x.2<g.length:=by
 refine h.nd _ ?_;rw[aw,bU a];exact iG a
theorem e9.lk {nt nf:Nat}{g:e8}(h:e9 nt nf g):sx g:=⟨h.pos,λn a x hx=>by
 obtain⟨_,_,b⟩:=h.nd n a;obtain⟨c,d,e⟩:=b x hx
 exact⟨c.1,d,by omega⟩⟩
theorem CQ (F:Int×Int→Int){l:kq}(h:sH l):sH (l.map λx=>(x.1,F x)):=by
 unfold sH at h⊢;rw[sF];exact h
theorem TF {n i:Nat}(h:i<n):(List.range n).getD i 0=i:=by
 rw[aw,nY h];rfl
theorem Pl.OP {nt nf:Nat}{x y:e8}(hx:e9 nt nf x)(hy:e9 nt nf y):mM nt nf (x.length+y.length) (Pl.of x y):=by
 refine⟨by simp[Pl.of],by simp[Pl.of],by simp[Pl.of],λi b=> ?_,λi b=> ?_,λt ht=> ?_,λl c=> ?_,λl c=> ?_⟩
 ·show(List.range _).getD i 0<_;rw[TF b];exact b
 ·show(List.range _).getD ((List.range _).getD i 0) 0=(List.range _).getD i 0;rw[TF b,TF b]
 ·rcases cG.1 ht with h|h<;>obtain⟨n,a,rfl⟩:=dC.1 h
  ·exact(hx.nd n a).1
  ·exact(hy.nd n a).1
 ·rcases cG.1 c with h|h<;>obtain⟨n,a,rfl⟩:=dC.1 h<;>intro z hz
  ·obtain⟨h1,d,e⟩:=(hx.nd n a).2.2 z hz
   exact⟨h1,d,by omega⟩
  ·obtain⟨u,hu,rfl⟩:=dC.1 hz
   obtain⟨h1,d,e⟩:=(hy.nd n a).2.2 u hu;exact⟨h1,by dsimp only;omega,by dsimp only;omega⟩
 ·rcases cG.1 c with h|h<;>obtain⟨n,a,rfl⟩:=dC.1 h
  ·exact(hx.nd n a).2.1
  ·exact CQ _ (hy.nd n a).2.1
def CI (n:Nat)(w:List (Int×Int)):Prop:=∀x∈w,(0≤x.1∧x.1<n)∧0≤x.2∧x.2<n
theorem CI.rt {n:Nat}{x:Int×Int}{w:List (Int×Int)}(h:CI n (x::w)):x.1.toNat<n∧x.2.toNat<n:=by
 obtain⟨h1,a⟩:=h x (by simp);exact⟨by omega,by omega⟩
theorem CI.put {nt nf n:Nat}{p:Pl}(hp:mM nt nf n p){a b:Nat}(c:a<n)(d:b<n){w:List (Int×Int)}(h:CI n w):CI n ((DD (p.ll a) (p.ll b)).reverse++w):=λz hz=>by
 rcases cG.1 hz with hz|hz
 ·obtain⟨⟨u,hu,e⟩,⟨v,f,e2⟩⟩:=Ss _ _ (List.mem_reverse.1 hz)
  have h1:=(hp.QY _ (hp.lm c) u hu).2
  have g:=(hp.QY _ (hp.lm d) v f).2
  exact⟨by rw[e];exact h1,by rw[e2];exact g⟩
 ·exact h z hz
def yF (nt:Nat)(mt:Nat→Nat→Option Nat):Prop:=∀a b m,mt a b=some m→m<nt
theorem Ky {mt:Nat→Nat→Option Nat}{p:Pl}{x:Int×Int}{w:List (Int×Int)}(h:p.rt x.1.toNat=p.rt x.2.toNat):jC mt (p.mu (x::w)) p (x::w)=jC mt (p.mu w) p w:=by
 have e:p.mu (x::w)=p.mu w+1:=by unfold Pl.mu;simp only[List.length_cons];omega
 rw[e,jC,aC h]
theorem J5 {mt:Nat→Nat→Option Nat}{p:Pl}{x:Int×Int}{w:List (Int×Int)}(h:p.rt x.1.toNat≠p.rt x.2.toNat)(hm:mt (p.tt (p.rt x.1.toNat)).toNat (p.tt (p.rt x.2.toNat)).toNat=none):jC mt (p.mu (x::w)) p (x::w)=none:=by
 have e:p.mu (x::w)=p.mu w+1:=by unfold Pl.mu;simp only[List.length_cons];omega
 rw[e,jC,aA h,hm]
theorem Nn {nt nf n:Nat}{mt:Nat→Nat→Option Nat}{p:Pl}(hp:mM nt nf n p){x:Int×Int}{w:List (Int×Int)}{m:Nat}(hx:x.1.toNat<n∧x.2.toNat<n)(h:p.rt x.1.toNat≠p.rt x.2.toNat)(hm:mt (p.tt (p.rt x.1.toNat)).toNat (p.tt (p.rt x.2.toNat)).toNat=some m):
 jC mt (p.mu (x::w)) p (x::w)=jC mt ((p.put (p.rt x.1.toNat) (p.rt x.2.toNat) m).mu ((DD (p.ll (p.rt x.1.toNat)) (p.ll (p.rt x.2.toNat))).reverse++w)) (p.put (p.rt x.1.toNat) (p.rt x.2.toNat) m) ((DD (p.ll (p.rt x.1.toNat)) (p.ll (p.rt x.2.toNat))).reverse++w):=by
 have a:=hp.left (m:=m) (hp.AE _ hx.1) (hp.AE _ hx.2) (hp.V3 _ hx.1) (hp.V3 _ hx.2) h
 have e:p.mu (x::w)=(p.put (p.rt x.1.toNat) (p.rt x.2.toNat) m).mu ((DD (p.ll (p.rt x.1.toNat)) (p.ll (p.rt x.2.toNat))).reverse++w)+1:=by
  unfold Pl.mu;simp only[List.length_cons,List.length_append,List.length_reverse];omega
 rw[e,jC,aA h,hm]
theorem Kx {mt:Nat→Nat→Option Nat}{p:Pl}:jC mt (p.mu []) p []=some p:=by
 show jC mt (p.left+0+1) p []=_;rw[jC]
theorem D4 {nt nf n:Nat}{mt:Nat→Nat→Option Nat}(a:yF nt mt):∀(f:Nat) (p:Pl) (w:List (Int×Int)) (q:Pl),mM nt nf n p→CI n w→jC mt f p w=some q→mM nt nf n q∧∀i,i<n→∀k∈lx (p.ll (p.rt i)),k∈lx (q.ll (q.rt i))
 |0,_,_,_,_,_,h=>by cases h
 |f+1,p,[],q,hp,_,h=>by
  rw[jC]at h;obtain rfl:=Option.some.inj h;exact⟨hp,λ_ _ _ h=>h⟩
 |f+1,p,x::w,q,hp,hw,h=>by
  have hx:=hw.rt
  have d:CI n w:=λz hz=>hw z (by simp[hz])
  rw[jC]at h
  split at h
  ·exact D4 a f p w q hp d h
  ·rename_i l
   split at h
   ·cases h
   ·rename_i m hm
    have c:=hp.AE _ hx.1
    have g:=hp.AE _ hx.2
    have o:=hp.V3 _ hx.1
    have t:=hp.V3 _ hx.2
    have r:=hp.put (b:=p.rt x.2.toNat) c g o (a _ _ _ hm) l
    obtain⟨h1,s⟩:=D4 a f _ _ q r (d.put hp c g) h;refine⟨h1,λi j k hk=>s i j k ?_⟩;rw[Pl.Hc (by rw[hp.lr];exact j),Pl.Oi (by rw[hp.ll];exact c)]
    by_cases e:p.rt i=p.rt x.2.toNat
    ·rw[aC e,aC rfl];rw[e]at hk;exact Iw _ _ (.inr hk)
    ·rw[aA e]
     split
     ·rename_i e2;rw[e2]at hk;exact Iw _ _ (.inl hk)
     ·exact hk
theorem te (p:Pl):(ph p).length=p.ro.length:=by simp[ph]
theorem WD {p:Pl}{i:Nat}(h:i<p.ro.length):(ph p).getD i iK=(p.tt i,if p.rt i=i then(p.ll i).map (λl=>(l.1,(p.rt l.2.toNat:Int)))else []):=by
 unfold ph
 rw[aw,bQ,nY h];rfl
theorem NI {nt nf n:Nat}{p:Pl}(hp:mM nt nf n p)(b:0<n):e9 nt nf (ph p):=by
 refine⟨by rw[te,hp.lr];exact b,λd hd=> ?_⟩;unfold ph at hd;obtain⟨i,a,rfl⟩:=dC.1 hd;rw[dt,hp.lr]at a;rw[te,hp.lr];refine⟨hp.tt a,?_,λx hx=> ?_⟩
 ·dsimp only;split
  ·exact CQ _ (hp.YA _ (hp.lm a))
  ·exact List.Pairwise.nil
 ·dsimp only at hx
  split at hx
  ·obtain⟨u,hu,rfl⟩:=dC.1 hx
   obtain⟨h1,c,e⟩:=hp.QY _ (hp.lm a) u hu
   have:=hp.AE u.2.toNat (by omega)
   exact⟨h1,by dsimp only;omega,by dsimp only;omega⟩
  ·cases hx
def Lh (n:Nat)(o:List Nat):Nat:=((List.range n).filter λj=>decide (j∉o)).length
theorem G1 {n:Nat}{o o':List Nat}(h:∀j∈o,j∈o'):Lh n o'≤Lh n o:=by
 unfold Lh;rw[←K5,←K5]
 refine List.countP_mono_left λj _ a=> ?_
 rw[gq]at a⊢
 exact λb=>a (h j b)
theorem G2 {n:Nat}{o:List Nat}{i:Nat}(b:i<n)(c:i∉o):Lh n (o++ [i])<Lh n o:=by
 unfold Lh;rw[←K5,←K5]
 have key:∀l:List Nat,i∈l→l.Nodup→l.countP (λj=>decide (j∉o++ [i]))+1≤l.countP (λj=>decide (j∉o)):=by
  intro l
  induction l with
  |nil=>intro h;cases h
  |cons x l d=>
   intro hm hd;obtain⟨hx,hd⟩:=List.nodup_cons.1 hd;rw[s7,s7]
   by_cases e:x=i
   ·subst e
    rw[aA (by simp),aC (by simpa using c)]
    have:=List.countP_mono_left (l:=l) (p:=λj=>decide (j∉o++ [x])) (q:=λj=>decide (j∉o)) (λj _ a=>by
     rw[gq]at a⊢;exact λf=>a (by simp[f]))
    omega
   ·have:=d ((cK.1 hm).resolve_left λh=>e h.symm) hd
    have e2:decide (x∉o++ [i])=decide (x∉o):=by rw[decide_eq_decide];simp[e]
    rw[e2];omega
 have:=key (List.range n) (dt.2 b) List.nodup_range
 omega
theorem Jq (n:Nat):Lh n []=n:=by
 unfold Lh;rw[List.filter_eq_self.2 (by simp),jV]
def nD (g:e8)(f:Nat)(o:List Nat)(l:kq):List Nat:=l.foldl (λo x=>lF g f o x.2.toNat) o
theorem kn (g:e8)(f:Nat)(o:List Nat)(i:Nat):lF g (f+1) o i=if i∈o then o else nD g f (o++ [i]) (g.getD i iK).2:=rfl
theorem Bt (g:e8)(f:Nat)(o:List Nat)(l:kq)(x:Int×Int):nD g f o (l++ [x])=lF g f (nD g f o l) x.2.toNat:=by
 unfold nD;rw[wh];rfl
structure CH (g:e8)(o:List Nat):Prop where
 nd:o.Nodup
 lt:∀j∈o,j<g.length
theorem Jw (g:e8):∀(f:Nat) (o:List Nat) (i:Nat),o<+:lF g f o i:=by
 intro f
 induction f with
 |zero=>intro o i;exact List.prefix_refl _
 |succ f b=>
  intro o i;rw[kn]
  split
  ·exact List.prefix_refl _
  ·have:∀(l:kq) (o:List Nat),o<+:nD g f o l:=by
    intro l
    induction l with
    |nil=>intro o;exact List.prefix_refl _
    |cons x l a=>intro o;exact(b o _).trans (a _)
   exact(List.prefix_append o [i]).trans (this _ _)
theorem qf (g:e8)(f:Nat):∀(l:kq) (o:List Nat),o<+:nD g f o l
 | [],o=>List.prefix_refl _
 |x::l,o=>(Jw g f o _).trans (qf g f l _)
theorem Tm (g:e8)(f:Nat)(o:List Nat)(i:Nat){j:Nat}(h:j∈o):j∈lF g f o i:=(Jw g f o i).subset h
theorem Q4 {g:e8}(k:sx g):∀(f:Nat) (o:List Nat) (i:Nat),CH g o→i<g.length→CH g (lF g f o i):=by
 intro f
 induction f with
 |zero=>intro o i h _;exact h
 |succ f m=>
  intro o i h n;rw[kn]
  split
  ·exact h
  ·rename_i p
   have h1:CH g (o++ [i]):=⟨by rw[List.nodup_append];exact⟨h.nd,by simp,by intro a q b r;rw[bP.1 r];rintro rfl;exact p q⟩,λj c=>by
    rcases cG.1 c with c|c
    ·exact h.lt j c
    ·rw[bP.1 c];exact n⟩
   have:∀(l:kq) (o:List Nat),(∀x∈l,x.2.toNat<g.length)→CH g o→CH g (nD g f o l):=by
    intro l
    induction l with
    |nil=>intro o _ h;exact h
    |cons x l d=>intro o e h;exact d _ (λy hy=>e y (by simp[hy])) (m _ _ h (e x (by simp)))
   exact this _ _ (λx hx=>(k.at_ hx).2.2) h1
theorem Y0 {g:e8}{f:Nat}{o:List Nat}{i:Nat}:i∈lF g (f+1) o i:=by
 rw[kn]
 split
 ·rename_i h;exact h
 ·exact(qf g f _ _).subset (by simp)
theorem Tl {g:e8}(k:sx g):∀(f:Nat) (o:List Nat) (i:Nat),i<g.length→Lh g.length o<f→∀j∈lF g f o i,j∈o∨∀x∈(g.getD j iK).2,x.2.toNat∈lF g f o i:=by
 intro f
 induction f with
 |zero=>intro o i _ h;omega
 |succ f m=>
  intro o i p hu j a;rw[kn]at a⊢
  split at a
  ·exact .inl a
  ·rename_i d
   rw[aA d]
   have q:=G2 p d
   have step:∀(l:kq) (o:List Nat),(∀x∈l,x.2.toNat<g.length)→Lh g.length o<f→(∀j∈nD g f o l,j∈o∨∀x∈(g.getD j iK).2,x.2.toNat∈nD g f o l)∧∀x∈l,x.2.toNat∈nD g f o l:=by
    intro l
    induction l with
    |nil=>intro o _ _;exact⟨λj a=> .inl a,λx hx=>by cases hx⟩
    |cons x l b=>
     intro o e hu
     have hm:=G1 (n:=g.length) (o:=o) (o':=lF g f o x.2.toNat) λj a=>Tm g f o _ a
     obtain⟨c,a2⟩:=b (lF g f o x.2.toNat) (λy hy=>e y (by simp[hy])) (by omega)
     have hp:=(qf g f l (lF g f o x.2.toNat)).subset
     refine⟨λj a=> ?_,λy hy=> ?_⟩
     ·rcases c j a with h|h
      ·rcases m o x.2.toNat (e x (by simp)) hu j h with h|h
       ·exact .inl h
       ·exact .inr λy hy=>hp (h y hy)
      ·exact .inr h
     ·rcases cK.1 hy with rfl|hy
      ·cases f with
       |zero=>omega
       |succ f=>exact hp Y0
      ·exact a2 y hy
   obtain⟨c,a2⟩:=step (g.getD i iK).2 (o++ [i]) (λx hx=>(k.at_ hx).2.2) (by omega)
   rcases c j a with h|h
   ·rcases cG.1 h with h|h
    ·exact .inl h
    ·rw[bP.1 h];exact .inr a2
   ·exact .inr h
def xI (g:e8)(r:Nat):List Nat:=lF g (g.length+1) [] r
theorem OW {g:e8}(b:sx g){r:Nat}(c:r<g.length):CH g (xI g r)∧(∀j∈xI g r,∀x∈(g.getD j iK).2,x.2.toNat∈xI g r)∧(xI g r)[0]?=some r:=by
 refine⟨Q4 b _ _ _ ⟨List.nodup_nil,λj a=>by cases a⟩ c,λj a=> ?_,?_⟩
 ·rcases Tl b _ _ _ c (by rw[Jq];omega) j a with h|h
  ·cases h
  ·exact h
 ·unfold xI
  rw[kn,aA (by simp)];obtain⟨t,ht⟩:=qf g g.length (g.getD r iK).2 ([]++ [r])
  rw[←ht];rfl
theorem kh {o:List Nat}{n:Nat}(h:o.Nodup)(a:∀j∈o,j<n):o.length≤n:=by
 have:o.length≤(List.range n).length:=h.length_le_of_subset λj b=>dt.2 (a j b)
 rwa[jV]at this
theorem tc (g:e8)(r:Nat):gl g r=(xI g r).map λi=>((g.getD i iK).1,(g.getD i iK).2.map λx=>(x.1,((xI g r).idxOf x.2.toNat:Int))):=rfl
theorem td {nt nf:Nat}{g:e8}(b:e9 nt nf g){r:Nat}(f:r<g.length):e9 nt nf (gl g r)∧(gl g r).length≤g.length∧lx ((gl g r).getD 0 iK).2=lx (g.getD r iK).2:=by
 obtain⟨h1,h,a⟩:=OW b.lk f
 have j:0<(xI g r).length:=by
  cases e:xI g r with
  |nil=>rw[e]at a;cases a
  |cons=>simp
 refine⟨⟨by rw[tc,aO];exact j,λd hd=> ?_⟩,by rw[tc,aO];exact kh h1.nd h1.lt,?_⟩
 ·rw[tc]at hd
  obtain⟨i,c,rfl⟩:=dC.1 hd;obtain⟨k,a2,a3⟩:=b.at_ (h1.lt i c);refine⟨k,CQ _ a2,λx hx=> ?_⟩;obtain⟨u,hu,rfl⟩:=dC.1 hx
  have:=List.idxOf_lt_length_iff.2 (h i c u hu)
  rw[tc,aO];exact⟨(a3 u hu).1,by dsimp only;omega,by dsimp only;omega⟩
 ·rw[tc,aw,bQ,a]
  simp[lx,List.map_map,Function.comp_def]
theorem SZ {nt nf:Nat}{mt:Nat→Nat→Option Nat}(b:yF nt mt){x y z:e8}(hx:e9 nt nf x)(hy:e9 nt nf y){node:Nat}(l:node<x.length)(h:dT mt x node y=some z):
 e9 nt nf z∧z.length≤x.length+y.length∧∀k∈lx (x.getD 0 iK).2,k∈lx (z.getD 0 iK).2:=by
 have c:=hx.pos
 have f:=hy.pos
 obtain⟨p,hp,rfl⟩:=dp.1 h;obtain⟨h1,g⟩:=D4 b _ _ _ p (Pl.OP hx hy) (λu hu=>by rw[bP.1 hu];exact⟨⟨by dsimp only;omega,by dsimp only;omega⟩,by dsimp only;omega,by dsimp only;omega⟩) hp
 have i:=NI h1 (by omega)
 have a:=h1.AE 0 (by omega)
 obtain⟨f1,f2,f3⟩:=td i (r:=p.rt 0) (by rw[te,h1.lr];exact a);rw[te,h1.lr]at f2;refine⟨f1,f2,λk hk=> ?_⟩;rw[f3,WD (by rw[h1.lr];exact a),aC (h1.V3 0 (by omega))]
 have j:=g 0 (by omega) k (by
  show k∈lx ((Pl.of x y).lk.getD ((List.range _).getD 0 0) [])
  rw[TF (by omega)]
  show k∈lx ((x.map (·.2)++_).getD 0 [])
  rw[aw,oa (by simpa using c),bQ];rw[aw]at hk
  cases e:x[0]? with
  |none=>rw[e]at hk;exact hk
  |some d=>rw[e]at hk;exact hk)
 simpa[lx,List.map_map,Function.comp_def]using j
structure Qo (rk:Nat→Nat)(B:Nat)(P R:List Nat):Prop where
 len:P.length=R.length
 lt:∀i,i<R.length→P.getD i 0<R.length
 rt:∀i,i<R.length→R.getD (P.getD i 0) 0=R.getD i 0
 me:∀i,i<R.length→(P.getD i 0=i↔R.getD i 0=i)
 up:∀i,i<R.length→P.getD i 0≠i→rk i<rk (P.getD i 0)
 le:∀i,i<R.length→rk i≤B
def UF (P R:List Nat):Prop:=∃rk B,Qo rk B P R
theorem EO {α:Type}{l:List α}{i j:Nat}{x d:α}(h:i<l.length):(l.set i x).getD j d=if j=i then x else l.getD j d:=by
 rw[aw,aw]
 by_cases e:j=i
 ·subst e;rw[fT h,aC rfl];rfl
 ·rw[ik (λh=>e h.symm),aA e]
theorem Qo.abO {rk:Nat→Nat}{B:Nat}{P R:List Nat}(h:Qo rk B P R){i:Nat}(b:i<R.length)(g:P.getD i 0≠i):
 Qo rk B (P.set i (P.getD (P.getD i 0) 0)) R∧rk i<rk (P.getD (P.getD i 0) 0)∧R.getD (P.getD (P.getD i 0) 0) 0=R.getD i 0∧P.getD (P.getD i 0) 0<R.length:=by
 have h1:=h.lt i b
 have k:=h.lt _ h1
 have m:=h.up i b g
 have l:R.getD (P.getD (P.getD i 0) 0) 0=R.getD i 0:=by rw[h.rt _ h1,h.rt i b]
 have d:rk i<rk (P.getD (P.getD i 0) 0):=by
  by_cases e:P.getD (P.getD i 0) 0=P.getD i 0
  ·rw[e];exact m
  ·have:=h.up _ h1 e;omega
 have c:∀j,(P.set i (P.getD (P.getD i 0) 0)).getD j 0=if j=i then P.getD (P.getD i 0) 0 else P.getD j 0:=λj=>EO (by rw[h.len];exact b)
 refine⟨⟨by rw[cn];exact h.len,λj a=> ?_,λj a=> ?_,λj a=> ?_,λj a f=> ?_,h.le⟩,d,l,k⟩
 ·rw[c];split
  ·exact k
  ·exact h.lt j a
 ·rw[c];split
  ·rename_i e;rw[e];exact l
  ·exact h.rt j a
 ·rw[c];split
  ·rename_i e;subst e
   refine⟨λe=> ?_,λe=>absurd ((h.me j a).2 e) g⟩
   rw[e]at d;omega
  ·exact h.me j a
 ·rw[c]at f⊢
  split
  ·rename_i e;subst e;exact d
  ·rename_i e;rw[aA e]at f;exact h.up j a f
theorem Qo.put {rk:Nat→Nat}{B:Nat}{P R:List Nat}(h:Qo rk B P R){a b:Nat}(f:a<R.length)(o:b<R.length)(i:R.getD a 0=a)(p:R.getD b 0=b)(k:a≠b):
 UF (P.set b a) (R.map λx=>if x=b then a else x):=by
 have g:∀j,(P.set b a).getD j 0=if j=b then a else P.getD j 0:=λj=>EO (by rw[h.len];exact o)
 have hm:∀j,j<R.length→(R.map λx=>if x=b then a else x).getD j 0=if R.getD j 0=b then a else R.getD j 0:=λj c=>by
  simp only[List.getD_eq_getElem?_getD,List.getElem?_map,List.getElem?_eq_getElem c,Option.map_some,Option.getD_some]
 have l:=(h.me a f).2 i
 refine⟨λx=>if x=a then rk a+rk b+1 else rk x,B+B+1,by rw[cn,aO];exact h.len,λj c=> ?_,λj c=> ?_,λj c=> ?_,λj c d=> ?_,λj c=> ?_⟩<;>rw[aO]at c
 ·rw[g,aO];split
  ·exact f
  ·exact h.lt j c
 ·rw[g,hm j c];split
  ·rename_i e;subst e
   rw[hm a f,i,aA k,p,aC rfl]
  ·rw[hm _ (h.lt j c),h.rt j c]
 ·rw[g,hm j c]
  by_cases e:j=b
  ·subst e;rw[aC rfl,p,aC rfl]
  ·rw[aA e]
   by_cases e2:R.getD j 0=b
   ·rw[aC e2]
    refine⟨λm=> ?_,λm=> ?_⟩
    ·have:=(h.me j c).1 m;rw[this]at e2;exact absurd e2 e
    ·subst m;rw[i]at e2;exact absurd e2 k
   ·rw[aA e2];exact h.me j c
 ·rw[g]at d⊢
  by_cases e:j=b
  ·subst e
   rw[aC rfl,aA (λx=>k x.symm),aC rfl];omega
  ·rw[aA e]at d⊢
   have hu:=h.up j c d
   have n:j≠a:=λx=>by rw[x]at d;exact d l
   rw[aA n]
   split
   ·rename_i e2;rw[e2]at hu;omega
   ·exact hu
 ·have:=h.le j c
  have:=h.le a f
  have:=h.le b o
  split<;>omega
theorem UF.range (n:Nat):UF (List.range n) (List.range n):=
 ⟨λ_=>0,0,rfl,λi a=>by rw[jV]at a⊢;rw[TF a];exact a,λi a=>by rw[jV]at a;rw[TF a,TF a],λi a=>Iff.rfl,λi a h=>by rw[jV]at a;exact absurd (TF a) h,λi a=>aR _⟩
structure De (x0 y0 l x y:kq)(w:List (Int×Int)):Prop where
 l:l++Ah x y=Ah x0 y0
 w:w++DD x y=DD x0 y0
theorem De.start (x y:kq):De x y [] x y []:=⟨rfl,rfl⟩
theorem De.lt {x0 y0 l x y:kq}{w:List (Int×Int)}{a b:Int×Int}(h:De x0 y0 l (a::x) (b::y) w)(c:a.1<b.1):De x0 y0 (l++ [a]) x (b::y) w:=by
 obtain⟨h1,d⟩:=h;rw[ff,aC c]at h1;rw[jy,aC c]at d;exact⟨by rw[dq];exact h1,d⟩
theorem De.gt {x0 y0 l x y:kq}{w:List (Int×Int)}{a b:Int×Int}(h:De x0 y0 l (a::x) (b::y) w)(c:b.1<a.1):De x0 y0 (l++ [b]) (a::x) y w:=by
 obtain⟨h1,d⟩:=h
 have e:¬a.1<b.1:=by omega
 rw[ff,aA e,aC c]at h1;rw[jy,aA e,aC c]at d;exact⟨by rw[dq];exact h1,d⟩
theorem De.eq {x0 y0 l x y:kq}{w:List (Int×Int)}{a b:Int×Int}(h:De x0 y0 l (a::x) (b::y) w)(f:a.1=b.1):De x0 y0 (l++ [a]) x y (w++ [(a.2,b.2)]):=by
 obtain⟨h1,c⟩:=h
 have d:¬a.1<b.1:=by omega
 have e:¬b.1<a.1:=by omega
 rw[ff,aA d,aA e]at h1;rw[jy,aA d,aA e]at c;exact⟨by rw[dq];exact h1,by rw[dq];exact c⟩
theorem De.fin {x0 y0 l x y:kq}{w:List (Int×Int)}(h:De x0 y0 l x y w)(he:x=[]∨y=[]):l++(x++y)=Ah x0 y0∧w=DD x0 y0:=by
 obtain⟨h1,a⟩:=h
 rcases he with rfl|rfl
 ·rw[u9]at h1;rw[DE,gu]at a;exact⟨h1,a⟩
 ·rw[qQ]at h1;rw[zL,gu]at a;exact⟨by rw[gu];exact h1,a⟩
def hC (T:List eo)(a b:Nat):Option Nat:=match comm T a b with
 | []=>none
 |m::_=>if kD T a b=true then none else some m
def mA (x:e8):e8:=gl x (rX x 0).toNat
def nC (mt:Nat→Nat→Option Nat)(x:e8)(a:Int)(y:e8):Option e8:=match dT mt x (rX x a).toNat y with
 |some z=>if z.length≤60 then some z else none
 |none=>none
structure og where
 frm:Nat
 tqo:Nat
 cw:Nat
 gr:e8
structure uh where
 rule:Int
 lex:Int
 kids:List Nat
structure lL where
 ed:og
 cW:List uh
 bf:List Int
def ed0:og:=⟨0,0,0,[]⟩
def gh:lL:=⟨ed0,[],[]⟩
structure Cs where
 its:List lL
 sp:List (List Nat)
def jv (i:Int):UInt8:=UInt8.ofNat (i%256).toNat
def vI (l:kq):bC:=l.flatMap λx=>[jv x.1,jv x.2]
def yu (g:e8):bC:=g.flatMap λn=>jv n.1::jv (n.2.length:Nat)::vI n.2
def fa (e:og):bC:=jv (e.frm:Nat)::jv (e.tqo:Nat)::jv (e.cw:Nat)::yu e.gr
def xj (its:List lL)(k:bC):Option Nat:=its.findIdx? λit=>decide (fa it.ed=k)
def sg (w:uh):Int:=if w.rule<0 then 1000+w.lex else w.rule
def lL.put (it:lL)(w:uh):lL:=⟨it.ed,it.cW++ [w],if sg w∈it.bf then it.bf else it.bf++ [sg w]⟩
def kZ (n:Nat)(cs:Cs)(e:og)(w:uh):Cs:=match xj cs.its (fa e)with
 |some i=>⟨cs.its.modify i λit=>it.put w,cs.sp⟩
 |none=>⟨cs.its++ [(⟨e,[],[]⟩:lL).put w],cs.sp.modify (e.frm*(n+1)+e.tqo) λl=>l++ [cs.its.length]⟩
structure Qr where
 n:Nat
 mt:Nat→Nat→Option Nat
 adm:Nat→Nat→Int→Bool
 rules:List sm
 aN:List Dp
def Cs.at_ (cs:Cs)(n i j:Nat):List Nat:=cs.sp.getD (i*(n+1)+j) []
def Cs.ed (cs:Cs)(e:Nat):og:=(cs.its.getD e gh).ed
def VY (Q:Qr)(cs:Cs)(rule a e:Nat):Bool:=(cs.its.getD e gh).bf.any (Q.adm rule a)
def lQ (Q:Qr)(cs:Cs)(rule:Nat)(x:e8)(a e:Nat):Option e8:=if VY Q cs rule a e=true then nC Q.mt x a (cs.ed e).gr else none
def uz (Q:Qr)(rule frm tqo:Nat):Nat→Cs→e8→List Nat→Nat→Cs
 |0,cs,x,kids,a=>(cs.at_ Q.n a tqo).foldl (λcs e=>match lQ Q cs rule x (kids.length+1) e with
  |none=>cs
  |some y=>kZ Q.n cs ⟨frm,tqo,0,mA y⟩ ⟨rule,0,kids++ [e]⟩) cs
 |l+1,cs,x,kids,a=>(List.range' (a+1) (tqo-(l+1)-a)).foldl (λcs en=>(cs.at_ Q.n a en).foldl (λcs e=>match lQ Q cs rule x (kids.length+1) e with
  |none=>cs
  |some y=>uz Q rule frm tqo l cs y (kids++ [e]) en) cs) cs
def qd (Q:Qr)(frm tqo e:Nat)(cs:Cs)(i:Nat):Cs:=
 if(Q.rules.getD i oP).kids≠1 then cs else match lQ Q cs i (Q.rules.getD i oP).graph 1 e with
  |none=>cs
  |some x=>kZ Q.n cs ⟨frm,tqo,(cs.ed e).cw+1,mA x⟩ ⟨i,0,[e]⟩
def qe (Q:Qr)(frm tqo:Nat):Nat→Nat→Cs→Cs
 |0,_,cs=>cs
 |f+1,k,cs=>if k<(cs.at_ Q.n frm tqo).length then
   (if(cs.ed ((cs.at_ Q.n frm tqo).getD k 0)).cw=3 then qe Q frm tqo f (k+1) cs
    else qe Q frm tqo f (k+1) ((List.range Q.rules.length).foldl (qd Q frm tqo ((cs.at_ Q.n frm tqo).getD k 0)) cs))
  else cs
def hP (Q:Qr):Nat:=Q.rules.countP λr=>decide (r.kids=1)
def jx (r:Nat):Nat→Nat
 |0=>0
 |k+1=>r*(1+jx r k)
def qU (Q:Qr)(cs:Cs)(l:List Nat):Nat:=(l.map λe=>1+jx (hP Q) (3-(cs.ed e).cw)).sum
def rN (Q:Qr)(w:bC)(frm tqo:Nat)(cs:Cs)(i:Nat):Cs:=if(Q.aN.getD i QZ).word=w then kZ Q.n cs ⟨frm,tqo,0,gl (Q.aN.getD i QZ).graph 0⟩ ⟨-1,i,[]⟩else cs
def rR (Q:Qr)(frm tqo:Nat)(cs:Cs)(i:Nat):Cs:=if 1<(Q.rules.getD i oP).kids∧(Q.rules.getD i oP).kids≤(tqo:Int)-frm then uz Q i frm tqo ((Q.rules.getD i oP).kids.toNat-1) cs (Q.rules.getD i oP).graph [] frm else cs
def mz (Q:Qr)(words:List bC)(frm tqo:Nat)(cs:Cs):Cs:=
 if tqo=frm+1 then(List.range Q.aN.length).foldl (rN Q (words.getD frm []) frm tqo) cs else(List.range Q.rules.length).foldl (rR Q frm tqo) cs
def pJ (Q:Qr)(words:List bC)(frm tqo:Nat)(cs:Cs):Cs:=
 qe Q frm tqo (qU Q (mz Q words frm tqo cs) ((mz Q words frm tqo cs).at_ Q.n frm tqo)+1) 0 (mz Q words frm tqo cs)
def Ad (Q:Qr)(words:List bC)(len:Nat):Nat→Nat→Cs→Option Cs
 |0,_,cs=>some cs
 |m+1,frm,cs=>if 300<(pJ Q words frm (frm+len) cs).its.length then none else Ad Q words len m (frm+1) (pJ Q words frm (frm+len) cs)
def yM (Q:Qr)(words:List bC):Nat→Nat→Cs→Option Cs
 |0,_,cs=>some cs
 |m+1,len,cs=>(Ad Q words len (Q.n+1-len) 0 cs).bind λcs=>yM Q words m (len+1) cs
def lp (a b:Int):Int:=if a<b then-1 else if b<a then 1 else 0
def sq (a b:Int):Int:=if a=0 then b else a
def kP {α:Type}(f:α→α→Int):List α→List α→Int
 | [],[]=>0
 | [],_::_=> -1
 |_::_,[]=>1
 |a::l,b::m=>if f a b≠0 then f a b else kP f l m
def EC (p q:Int×Int):Int:=sq (lp p.1 q.1) (lp p.2 q.2)
def xC (x y:KE):Int:=sq (lp x.1 y.1) (sq (lp x.2.length y.2.length) (kP EC x.2 y.2))
def xU (x y:og):Int:=sq (lp x.frm y.frm) (sq (lp x.tqo y.tqo) (sq (lp x.cw y.cw) (kP xC x.gr y.gr)))
def Ku {α:Type}(f:α→α→Int)(a:α):List α→List α
 | []=>[a]
 |b::l=>if f a b<0 then a::b::l else b::Ku f a l
def TQ {α:Type}(f:α→α→Int):List α→List α
 | []=>[]
 |a::l=>Ku f a (TQ f l)
def l9 (its:List lL):List Nat:=TQ (λi j=>xU (its.getD i gh).ed (its.getD j gh).ed) (List.range its.length)
def pB (o:List Nat)(i:Nat):Nat:=o.idxOf i
def gn (its:List lL):List lL:=(l9 its).map λi=>⟨(its.getD i gh).ed,(its.getD i gh).cW.map λw=>⟨w.rule,w.lex,w.kids.map (pB (l9 its))⟩,(its.getD i gh).bf⟩
def Gw (mt:Nat→Nat→Option Nat)(n:Nat)(start:e8)(its:List lL):List Nat:=(List.range its.length).filter λi=>decide ((its.getD i gh).ed.frm=0)&&decide ((its.getD i gh).ed.tqo=n)&&(dT mt (its.getD i gh).ed.gr 0 start).isSome
def HV (g:fj):List e8:=g.rules.map (λr=>mA r.graph)++g.aN.map (·.graph)
def Hb (g:fj)(top:Int):Int:=if 0≤top∧top<g.rules.length then top else if 1000≤top∧top<1000+g.aN.length then g.rules.length+top-1000 else-1
def VZ (g:fj)(mt:Nat→Nat→Option Nat)(rule a:Nat)(top:Int):Bool:=
 decide (0≤Hb g top)&&decide (rule<g.rules.length)&&decide (1≤a)&&decide ((a:Int)≤(g.rules.getD rule oP).kids)&&(dT mt (g.rules.getD rule oP).graph (rX (g.rules.getD rule oP).graph a).toNat ((HV g).getD (Hb g top).toNat [])).isSome
def qrG (g:fj)(words:List bC):Qr:=⟨words.length,hC g.types,VZ g (hC g.types),g.rules,g.aN⟩
def xO:Nat→List bC→Int×Int
 |_,[]=>(0,0)
 |i,w::l=>if isWord w=false then(10,(i:Int))else xO (i+1) l
def AX (aN:List Dp):Nat→List bC→Int×Int
 |_,[]=>(0,0)
 |i,w::l=>if w∈aN.map (·.word)then AX aN (i+1) l else(6,(i:Int))
def pj (g:fj)(words:List bC):Int×Int:=if words.length=0∨12<words.length then(9,-2)else if(xO 0 words).1≠0 then xO 0 words else AX g.aN 0 words
def xB (g:fj)(words:List bC):Option (List lL):=(yM (qrG g words) words words.length 1 ⟨[],List.replicate (words.length*(words.length+1)) []⟩).map λcs=>gn cs.its
def dS (g:fj)(words:List bC):(List lL×List Nat)×(Int×Int):=
 if(jO g).1≠0 then(([],[]),jO g)else if(pj g words).1≠0 then(([],[]),pj g words)else match xB g words with
  |none=>(([],[]),(17,-2))
  |some its=>((its,Gw (hC g.types) words.length g.start its),(0,0))
theorem lj {a b:Nat}(c:a<256)(d:b<256)(h:jv (a:Int)=jv (b:Int)):a=b:=by
 have:=congrArg UInt8.toNat h
 unfold jv at this
 simp only[UInt8.toNat_ofNat']at this
 omega
theorem Nr {e d:og}(he:e.frm<256∧e.tqo<256)(hd:d.frm<256∧d.tqo<256)(h:fa e=fa d):e.frm=d.frm∧e.tqo=d.tqo:=by
 unfold fa at h
 simp only[List.cons.injEq]at h
 exact⟨lj he.1 hd.1 h.1,lj he.2 hd.2 h.2.1⟩
theorem yw {its:List lL}{k:bC}{i:Nat}(h:xj its k=some i):∃it,its[i]?=some it∧fa it.ed=k:=by
 obtain⟨a,h1,_⟩:=List.findIdx?_eq_some_iff_getElem.1 h;exact⟨_,bU a,fJ h1⟩
theorem Nu {its:List lL}{k:bC}(h:xj its k=none):∀it∈its,fa it.ed≠k:=λit hit=>by
 have:=List.findIdx?_eq_none_iff.1 h it hit
 exact iX (by simpa using this)
def slt (n i j:Nat):Nat:=i*(n+1)+j
theorem DP {n i j a b:Nat}(e:j≤n)(f:b≤n)(h:slt n i j=slt n a b):i=a∧j=b:=by
 unfold slt at h
 have h1:(i*(n+1)+j)/(n+1)=i:=by rw[Nat.mul_comm,Nat.mul_add_div (by omega),Nat.div_eq_of_lt (by omega),j5]
 have c:(a*(n+1)+b)/(n+1)=a:=by rw[Nat.mul_comm,Nat.mul_add_div (by omega),Nat.div_eq_of_lt (by omega),j5]
 have d:i=a:=by rw[←h1,←c,h]
 subst d;exact⟨rfl,by omega⟩
theorem sa {n i j:Nat}(a:i<n)(b:j≤n):slt n i j<n*(n+1):=by
 unfold slt
 have:(i+1)*(n+1)≤n*(n+1):=iV _ a
 rw[jf]at this;omega
structure Grow (n frm tqo:Nat)(cs fi:Cs)(a:Nat):Prop where
 more:cs.its.length≤fi.its.length
 most:fi.its.length≤cs.its.length+a
 GH:fi.sp.length=cs.sp.length
 XP:∀k,k≠slt n frm tqo→fi.sp.getD k []=cs.sp.getD k []
 own:(fi.sp.getD (slt n frm tqo) []).length≤(cs.sp.getD (slt n frm tqo) []).length+a
 ed:∀i,i<cs.its.length→fi.ed i=cs.ed i
 new:∀i,cs.its.length≤i→i<fi.its.length→(fi.ed i).frm=frm∧(fi.ed i).tqo=tqo
 far:∀i,i<cs.its.length→¬((cs.ed i).frm=frm∧(cs.ed i).tqo=tqo)→fi.its.getD i gh=cs.its.getD i gh
 cW:∀i,i<fi.its.length→(fi.its.getD i gh).cW.length≤(cs.its.getD i gh).cW.length+a
theorem Grow.refl (n frm tqo:Nat)(cs:Cs):Grow n frm tqo cs cs 0:=
 ⟨aR _,aR _,rfl,λ_ _=>rfl,aR _,λ_ _=>rfl,λi h1 a=>by omega,λ_ _ _=>rfl,λ_ _=>aR _⟩
theorem Grow.trans {n frm tqo:Nat}{x y z:Cs}{a b:Nat}(h:Grow n frm tqo x y a)(k:Grow n frm tqo y z b):Grow n frm tqo x z (a+b):=by
 refine⟨dW h.more k.more,by have:=h.most;have:=k.most;omega,k.GH.trans h.GH,λi d=>(k.XP i d).trans (h.XP i d),by have:=h.own;have:=k.own;omega,λi d=> ?_,λi h1 f=> ?_,λi d g=> ?_,λi d=> ?_⟩
 ·rw[k.ed i (fO d h.more),h.ed i d]
 ·by_cases c:i<y.its.length
  ·rw[k.ed i c];exact h.new i h1 c
  ·exact k.new i (by omega) f
 ·rw[k.far i (fO d h.more) (by rw[h.ed i d];exact g),h.far i d g]
 ·have h1:=k.cW i d
  by_cases c:i<y.its.length
  ·have f:=h.cW i c;omega
  ·have e:y.its.getD i gh=gh:=by rw[aw,ij (by omega)];rfl
   rw[e]at h1
   have:gh.cW.length=0:=rfl
   omega
theorem Grow.mono {n frm tqo:Nat}{x y:Cs}{a b:Nat}(h:Grow n frm tqo x y a)(d:a≤b):Grow n frm tqo x y b:=
 ⟨h.more,by have:=h.most;omega,h.GH,h.XP,by have:=h.own;omega,h.ed,h.new,h.far,λi c=>by have:=h.cW i c;omega⟩
structure gi (nt nf n:Nat)(cs:Cs):Prop where
 GH:cs.sp.length=n*(n+1)
 idx:∀l∈cs.sp,∀e∈l,e<cs.its.length
 tot:(cs.sp.map List.length).sum=cs.its.length
 prt:∀i j e,j≤n→e∈cs.sp.getD (slt n i j) []→(cs.ed e).frm=i∧(cs.ed e).tqo=j
 gr:∀it∈cs.its,it.ed.frm<it.ed.tqo∧it.ed.tqo≤n∧it.ed.cw≤3∧e9 nt nf it.ed.gr∧it.ed.gr.length≤60
 bf:∀it∈cs.its,it.bf.length≤it.cW.length
 kids:∀it∈cs.its,∀w∈it.cW,∀k∈w.kids,k<cs.its.length
theorem gi.GZ {nt nf n:Nat}{cs:Cs}(h:gi nt nf n cs){k e:Nat}(he:e∈cs.sp.getD k []):e<cs.its.length:=by
 rw[aw]at he
 cases c:cs.sp[k]? with
 |none=>rw[c]at he;cases he
 |some l=>rw[c]at he;exact h.idx l (aZ c) e he
theorem lL.DG (it:lL)(w:uh):(it.put w).cW=it.cW++ [w]:=rfl
theorem I5 {l:List (List Nat)}{k:Nat}(x:Nat)(h:k<l.length):((l.modify k λm=>m++ [x]).map List.length).sum=(l.map List.length).sum+1:=by
 induction l generalizing k with
 |nil=>cases h
 |cons a l b=>
  cases k with
  |zero=>simp;omega
  |succ k=>
   rw[List.modify_succ_cons,fK,fK,ob,ob,b (by simpa using h)];omega
theorem getD_modify {α:Type}{l:List α}{f:α→α}{i j:Nat}{d:α}(h:j<l.length):(l.modify i f).getD j d=if i=j then f (l.getD j d)else l.getD j d:=by
 simp only[List.getD_eq_getElem?_getD,List.getElem?_modify,List.getElem?_eq_getElem h,Option.map_some,Option.getD_some]
 split<;>simp_all
theorem yL {nt nf n:Nat}(I:n≤12){cs:Cs}(h:gi nt nf n cs){e:og}{w:uh}(he:e.frm<e.tqo∧e.tqo≤n∧e.cw≤3∧e9 nt nf e.gr∧e.gr.length≤60)(hk:∀k∈w.kids,k<cs.its.length):
 gi nt nf n (kZ n cs e w)∧Grow n e.frm e.tqo cs (kZ n cs e w) 1:=by
 have A:slt n e.frm e.tqo<cs.sp.length:=by rw[h.GH];exact sa (by omega) he.2.1
 unfold kZ
 cases D:xj cs.its (fa e)with
 |some i=>
  dsimp only
  obtain⟨it,hit,E⟩:=yw D
  have hm:=aZ hit
  obtain⟨g1,g2,g3,g4,g5⟩:=h.gr it hm;obtain⟨s1,s2⟩:=Nr (e:=it.ed) (d:=e) ⟨by omega,by omega⟩ ⟨by omega,by omega⟩ E
  have J:i<cs.its.length:=(fA.1 hit).1
  have s:cs.its.getD i gh=it:=by rw[aw,hit];rfl
  have t:∀x∈cs.its.modify i (λit=>it.put w),x∈cs.its∨x=it.put w:=λx hx=>by
   obtain⟨j,a⟩:=List.mem_iff_getElem?.1 hx;rw[List.getElem?_modify]at a
   split at a
   ·rename_i e2;subst e2;rw[hit]at a;exact .inr (Option.some.inj a).symm
   ·simp at a;exact .inl (aZ a)
  have B:∀j,j<cs.its.length→(⟨cs.its.modify i λit=>it.put w,cs.sp⟩:Cs).ed j=cs.ed j:=λj a=>by
   unfold Cs.ed;rw[getD_modify a]
   split<;>rfl
  refine⟨⟨h.GH,λl u x hx=>by rw[pa];exact h.idx l u x hx,by rw[pa];exact h.tot,λo p g q b=> ?_,λx hx=> ?_,λx hx=> ?_,λx hx v f k m=> ?_⟩,⟨by rw[pa];exact aR _,by rw[pa];omega,rfl,λ_ _=>rfl,Nat.le_succ _,λj a=> ?_,λj h1 y=>by rw[pa]at y;omega,λj a C=> ?_,λj a=> ?_⟩⟩
  ·rw[B g (h.GZ b)]
   exact h.prt o p g q b
  ·rcases t x hx with hx|rfl
   ·exact h.gr x hx
   ·exact h.gr it hm
  ·rcases t x hx with hx|rfl
   ·exact h.bf x hx
   ·have:=h.bf it hm
    show(if sg w∈it.bf then it.bf else it.bf++ [sg w]).length≤(it.cW++ [w]).length
    rw[bR]
    split
    ·simp;omega
    ·rw[bR];simp;omega
  ·rw[pa]
   rcases t x hx with hx|rfl
   ·exact h.kids x hx v f k m
   ·rcases cG.1 f with f|f
    ·exact h.kids it hm v f k m
    ·rw[bP.1 f]at m;exact hk k m
  ·exact B j a
  ·rw[getD_modify a,aA]
   rintro rfl;exact C (by unfold Cs.ed;rw[s];exact⟨s1,s2⟩)
  ·rw[pa]at a
   rw[getD_modify a]
   split
   ·rw[lL.DG,bR];simp
   ·omega
 |none=>
  dsimp only
  have hlen:(cs.its++ [(⟨e,[],[]⟩:lL).put w]).length=cs.its.length+1:=by simp
  have hold:∀j,j<cs.its.length→(cs.its++ [(⟨e,[],[]⟩:lL).put w]).getD j gh=cs.its.getD j gh:=λj a=>by
   rw[aw,oa a,←aw]
  have z:(cs.its++ [(⟨e,[],[]⟩:lL).put w]).getD cs.its.length gh=(⟨e,[],[]⟩:lL).put w:=by
   rw[aw,lg (aR _),fh];rfl
  refine⟨⟨by rw[pa];exact h.GH,λl u x hx=> ?_,by rw[hlen,←h.tot];exact I5 _ A,λo p g q b=> ?_,λx hx=> ?_,λx hx=> ?_,λx hx v f k m=> ?_⟩,⟨by rw[hlen];omega,by rw[hlen];omega,by rw[pa],λk F=> ?_,?_,λj a=> ?_,λj h1 y=> ?_,λj a C=>hold j a,λj a=> ?_⟩⟩
  ·rw[hlen]
   obtain⟨j,a⟩:=List.mem_iff_getElem?.1 u;rw[List.getElem?_modify]at a
   split at a
   ·obtain⟨l0,h1,rfl⟩:=dp.1 a
    rcases cG.1 hx with hx|hx
    ·have:=h.idx l0 (aZ h1) x hx;omega
    ·rw[bP.1 hx];omega
   ·simp at a
    have:=h.idx l (aZ a) x hx;omega
  ·have r:∀l0,g∈cs.sp.getD (slt n o p) []→(⟨cs.its++ [(⟨e,[],[]⟩:lL).put w],l0⟩:Cs).ed g=cs.ed g:=λl0 hx=>by unfold Cs.ed;rw[hold g (h.GZ hx)]
   by_cases c:slt n o p<cs.sp.length
   ·dsimp only at b
    rw[getD_modify c]at b
    split at b
    ·rename_i e2
     obtain⟨G,H⟩:=DP he.2.1 q e2
     rcases cG.1 b with hx|hx
     ·rw[r _ hx];exact h.prt o p g q hx
     ·rw[bP.1 hx];unfold Cs.ed;dsimp only;rw[z];exact⟨G,H⟩
    ·rw[r _ b];exact h.prt o p g q b
   ·dsimp only at b
    rw[aw,ij (by rw[pa];omega)]at b
    cases b
  ·rcases cG.1 hx with hx|hx
   ·exact h.gr x hx
   ·rw[bP.1 hx];exact he
  ·rcases cG.1 hx with hx|hx
   ·exact h.bf x hx
   ·rw[bP.1 hx]
    show(if sg w∈([]:List Int)then([]:List Int)else []++ [sg w]).length≤(([]:List uh)++ [w]).length
    rw[aA (by simp)];exact aR _
  ·rw[hlen]
   rcases cG.1 hx with hx|hx
   ·have:=h.kids x hx v f k m;omega
   ·rw[bP.1 hx]at f
    rw[lL.DG,C7]at f;rw[bP.1 f]at m
    have:=hk k m;omega
  ·by_cases c:k<cs.sp.length
   ·rw[getD_modify c,aA (λe2=>F e2.symm)]
   ·rw[aw,aw,ij (by rw[pa];omega),ij (by omega)]
  ·rw[getD_modify A,aC (show e.frm*(n+1)+e.tqo=slt n e.frm e.tqo from rfl),bR];simp
  ·unfold Cs.ed;rw[hold j a]
  ·rw[hlen]at y
   obtain rfl:j=cs.its.length:=by omega
   unfold Cs.ed;rw[z];exact⟨rfl,rfl⟩
  ·rw[hlen]at a
   by_cases c:j<cs.its.length
   ·rw[hold j c];omega
   ·obtain rfl:j=cs.its.length:=by omega
    rw[z,lL.DG];simp
structure Room (cs:Cs)(m:Nat):Prop where
 its:cs.its.length+m≤1400000000000
 cW:∀it∈cs.its,it.cW.length+m≤3000000000000
theorem Room.at_ {cs:Cs}{m i:Nat}(h:Room cs m):(cs.its.getD i gh).cW.length+m≤3000000000000:=by
 by_cases c:i<cs.its.length
 ·rw[aw,bU c];exact h.cW _ (iG c)
 ·rw[aw,ij (by omega)]
  show 0+m≤_
  have:=h.its;omega
theorem Room.grow {n frm tqo:Nat}{cs fi:Cs}{a b:Nat}(h:Room cs (a+b))(k:Grow n frm tqo cs fi a):Room fi b:=by
 refine⟨by have:=k.most;have:=h.its;omega,λit hit=> ?_⟩;obtain⟨i,c,rfl⟩:=GA.1 hit
 have h1:=k.cW i c
 have d:=h.at_ (i:=i)
 rw[aw,bU c]at h1
 have h1:(fi.its[i]).cW.length≤_:=h1
 omega
theorem Room.mono {cs:Cs}{a b:Nat}(h:Room cs b)(c:a≤b):Room cs a:=⟨by have:=h.its;omega,λit hit=>by have:=h.cW it hit;omega⟩
theorem iJ {β:Type}{n frm tqo:Nat}(f:Cs→β→Cs)(b:β→Nat)(I:Cs→Prop):∀(l:List β) (cs:Cs),I cs→(∀cs x,x∈l→I cs→I (f cs x)∧Grow n frm tqo cs (f cs x) (b x))→I (l.foldl f cs)∧Grow n frm tqo cs (l.foldl f cs) ((l.map b).sum)
 | [],cs,h,_=>⟨h,Grow.refl ..⟩
 |x::l,cs,h,a=>by
  obtain⟨h1,c⟩:=a cs x (by simp) h
  obtain⟨d,e⟩:=iJ f b I l (f cs x) h1 λcs y hy=>a cs y (by simp[hy])
  exact⟨d,c.trans e⟩
def Qf (n frm tqo:Nat)(c:Nat→Nat→Nat)(cs:Cs):Prop:=∀i j,j≤n→¬(i=frm∧j=tqo)→(cs.at_ n i j).length=c i j
theorem Qf.grow {n frm tqo:Nat}{c:Nat→Nat→Nat}{cs fi:Cs}{a:Nat}(h:Qf n frm tqo c cs)(k:Grow n frm tqo cs fi a)(ht:tqo≤n):Qf n frm tqo c fi:=λi j b d=>by
 rw[←h i j b d]
 show(fi.sp.getD (slt n i j) []).length=(cs.sp.getD (slt n i j) []).length
 rw[k.XP _ λe=>d (DP b ht e)]
def lV (c:Nat→Nat→Nat)(tqo:Nat):Nat→Nat→Nat
 |0,a=>c a tqo
 |l+1,a=>((List.range' (a+1) (tqo-(l+1)-a)).map λen=>c a en*lV c tqo l en).sum
theorem jj {β:Type}(l:List β)(k:Nat):(l.map λ_=>k).sum=l.length*k:=by
 induction l with
 |nil=>simp
 |cons x l a=>rw[fK,ob,a,fU,jf];omega
structure im (nt nf n frm tqo:Nat)(c:Nat→Nat→Nat)(m:Nat)(cs:Cs):Prop where
 ok:gi nt nf n cs
 len:Qf n frm tqo c cs
 xV:m≤cs.its.length
theorem im.grow {nt nf n frm tqo:Nat}{c:Nat→Nat→Nat}{m a:Nat}{cs fi:Cs}(h:im nt nf n frm tqo c m cs)(b:gi nt nf n fi)(k:Grow n frm tqo cs fi a)(ht:tqo≤n):im nt nf n frm tqo c m fi:=
 ⟨b,h.len.grow k ht,dW h.xV k.more⟩
theorem zo {nt nf:Nat}{x:e8}(h:e9 nt nf x)(k:Int):(rX x k).toNat<x.length:=by
 unfold rX
 split
 ·rename_i y e
  have:=(h.at_ h.pos).2.2 y (List.mem_of_find?_eq_some e)
  omega
 ·exact h.pos
theorem I1 {nt nf:Nat}{mt:Nat→Nat→Option Nat}(c:yF nt mt){x y z:e8}{k:Int}(hx:e9 nt nf x)(hy:e9 nt nf y)(h:nC mt x k y=some z):e9 nt nf z∧z.length≤60∧∀j∈lx (x.getD 0 iK).2,j∈lx (z.getD 0 iK).2:=by
 unfold nC at h
 split at h
 ·rename_i u e
  split at h
  ·obtain rfl:=Option.some.inj h
   obtain⟨a,_,b⟩:=SZ c hx hy (zo hx k) e;exact⟨a,by assumption,b⟩
  ·cases h
 ·cases h
theorem qR {nt nf:Nat}{x:e8}(hx:e9 nt nf x)(c:x.length≤60):e9 nt nf (mA x)∧(mA x).length≤60:=by
 obtain⟨a,b,_⟩:=td hx (zo hx 0);exact⟨a,dW b c⟩
theorem vq {nt nf n:Nat}{Q:Qr}(a:yF nt Q.mt){cs:Cs}(h:gi nt nf n cs){rule b e:Nat}{x y:e8}(hx:e9 nt nf x)(he:e<cs.its.length)(hy:lQ Q cs rule x b e=some y):e9 nt nf y∧y.length≤60∧∀j∈lx (x.getD 0 iK).2,j∈lx (y.getD 0 iK).2:=by
 unfold lQ at hy
 split at hy
 ·refine I1 a hx ?_ hy
  unfold Cs.ed;rw[aw,bU he];exact(h.gr _ (iG he)).2.2.2.1
 ·cases hy
theorem gi.qA {nt nf n:Nat}{cs:Cs}(h:gi nt nf n cs){i j e:Nat}(he:e∈cs.at_ n i j):e<cs.its.length:=by
 unfold Cs.at_ at he;rw[aw]at he
 cases c:cs.sp[i*(n+1)+j]? with
 |none=>rw[c]at he;cases he
 |some l=>rw[c]at he;exact h.idx l (aZ c) e he
theorem yj {nt nf:Nat}{Q:Qr}(s:Q.n≤12)(j:yF nt Q.mt){rule frm tqo:Nat}(t:frm<tqo)(ht:tqo≤Q.n)(c:Nat→Nat→Nat):∀(l:Nat) (cs:Cs) (x:e8) (kids:List Nat) (a m:Nat),im nt nf Q.n frm tqo c m cs→e9 nt nf x→(frm<a∨(a=frm∧1≤l))→a<tqo→(∀k∈kids,k<m)→
 im nt nf Q.n frm tqo c m (uz Q rule frm tqo l cs x kids a)∧Grow Q.n frm tqo cs (uz Q rule frm tqo l cs x kids a) (lV c tqo l a)
 |0,cs,x,kids,a,m,g,hx,z,A,hk=>by
  have o:∀e∈cs.at_ Q.n a tqo,e<cs.its.length:=λe he=>g.ok.qA he
  have:=iJ (n:=Q.n) (frm:=frm) (tqo:=tqo) (λcs e=>match lQ Q cs rule x (kids.length+1) e with
   |none=>cs
   |some y=>kZ Q.n cs ⟨frm,tqo,0,mA y⟩ ⟨rule,0,kids++ [e]⟩) (λ_=>1) (λfi=>im nt nf Q.n frm tqo c m fi∧cs.its.length≤fi.its.length) (cs.at_ Q.n a tqo) cs ⟨g,aR _⟩ (λd e he ⟨h1,f⟩=>by
    have h:=fO (o e he) f
    cases hy:lQ Q d rule x (kids.length+1) e with
    |none=>exact⟨⟨h1,f⟩,(Grow.refl ..).mono (aP _)⟩
    |some y=>
     dsimp only
     obtain⟨p,u,_⟩:=vq j h1.ok hx h hy;obtain⟨m1,m2⟩:=qR p u
     obtain⟨B,a2⟩:=yL s h1.ok (e:=⟨frm,tqo,0,mA y⟩) (w:=⟨rule,0,kids++ [e]⟩) ⟨t,ht,aP _,m1,m2⟩ (λk b=>by
      rcases cG.1 b with b|b
      ·have:=hk k b;have:=h1.xV;omega
      ·rw[bP.1 b];exact h)
     exact⟨⟨h1.grow B a2 ht,dW f a2.more⟩,a2⟩)
  rw[jj,gZ,g.len a tqo ht (by omega)]at this;exact⟨this.1.1,this.2⟩
 |l+1,cs,x,kids,a,m,g,hx,z,A,hk=>by
  refine iJ (n:=Q.n) (frm:=frm) (tqo:=tqo) (λcs en=>(cs.at_ Q.n a en).foldl (λcs e=>match lQ Q cs rule x (kids.length+1) e with
   |none=>cs
   |some y=>uz Q rule frm tqo l cs y (kids++ [e]) en) cs) (λen=>c a en*lV c tqo l en) (im nt nf Q.n frm tqo c m) (List.range' (a+1) (tqo-(l+1)-a)) cs g (λd en C h1=> ?_)
  obtain⟨i,D,rfl⟩:=List.mem_range'.1 C
  have q:a+1+1*i<tqo:=by omega
  have o:∀e∈d.at_ Q.n a (a+1+1*i),e<d.its.length:=λe he=>h1.ok.qA he
  have:=iJ (n:=Q.n) (frm:=frm) (tqo:=tqo) (λcs e=>match lQ Q cs rule x (kids.length+1) e with
   |none=>cs
   |some y=>uz Q rule frm tqo l cs y (kids++ [e]) (a+1+1*i)) (λ_=>lV c tqo l (a+1+1*i)) (im nt nf Q.n frm tqo c (max m d.its.length)) (d.at_ Q.n a (a+1+1*i)) d ⟨h1.ok,h1.len,by have:=h1.xV;omega⟩ (λv e he f=>by
    have h:e<max m d.its.length:=by have:=o e he;omega
    have r:=fO h f.xV
    cases hy:lQ Q v rule x (kids.length+1) e with
    |none=>exact⟨f,(Grow.refl ..).mono (aP _)⟩
    |some y=>
     dsimp only
     obtain⟨p,u,_⟩:=vq j f.ok hx r hy
     exact yj s j t ht c l v y (kids++ [e]) (a+1+1*i) _ f p (.inl (by omega)) q (λk b=>by
      rcases cG.1 b with b|b
      ·have:=hk k b;omega
      ·rw[bP.1 b];exact h))
  rw[jj,h1.len a _ (by omega) (by omega)]at this;exact⟨⟨this.1.ok,this.1.len,by have:=this.1.xV;omega⟩,this.2⟩
theorem Fg (f:Nat→Nat)(a:Nat):∀b:Nat,fy f (a+b)=fy f a+fy (λj=>f (a+j)) b
 |0=>rfl
 |b+1=>by rw[←qh,fy,fy,Fg f a b];omega
theorem zg (f:Nat→Nat)(b:Nat):∀a:Nat,fy f (a*b)=fy (λi=>fy (λj=>f (i*b+j)) b) a
 |0=>by rw[Nat.zero_mul];rfl
 |a+1=>by rw[jf,Nat.one_mul,Fg,zg f b a];rfl
theorem Be (f:Nat→Nat)(a:Nat):∀b:Nat,fy f a≤fy f (a+b)
 |0=>aR _
 |b+1=>by rw[←qh,fy];have:=Be f a b;omega
theorem xy {f:Nat→Nat}{a b:Nat}(h:a≤b):fy f a≤fy f b:=by
 obtain⟨k,rfl⟩:=Nat.exists_eq_add_of_le h;exact Be f a k
theorem oQ {f:Nat→Nat}{i n:Nat}(h:i<n):f i≤fy f n:=by
 have:=xy (f:=f) (show i+1≤n from h)
 rw[fy]at this;omega
theorem PR {f:Nat→Nat}{i j n:Nat}(b:i<n)(d:j<n)(e:i≠j):f i+f j≤fy f n:=by
 rcases Nat.lt_or_gt_of_ne e with c|c
 ·have h1:=oQ (f:=f) c
  have a:=xy (f:=f) (show j+1≤n from d)
  rw[fy]at a;omega
 ·have h1:=oQ (f:=f) c
  have a:=xy (f:=f) (show i+1≤n from b)
  rw[fy]at a;omega
theorem sum_range' (f:Nat→Nat):∀(k s:Nat),((List.range' s k).map f).sum+fy f s=fy f (s+k)
 |0,s=>by simp
 |k+1,s=>by
  rw[List.range'_succ,fK,ob]
  have:=sum_range' f k (s+1)
  rw[fy]at this
  rw[show s+(k+1)=s+1+k by omega];omega
theorem vk (f:Nat→Nat):∀n:Nat,fy f (n+1)=f 0+fy (λi=>f (i+1)) n
 |0=>by simp[fy]
 |n+1=>by rw[fy,vk f n,fy];omega
theorem Fh {α:Type}(f:α→Nat)(d:α):∀l:List α,(l.map f).sum=fy (λk=>f (l.getD k d)) l.length
 | []=>rfl
 |a::l=>by
  rw[fK,ob,fU,vk,Fh f d l];rfl
theorem I4 {β:Type}{f g:β→Nat}:∀{l:List β},(∀x∈l,f x≤g x)→(l.map f).sum≤(l.map g).sum
 | [],_=>aR _
 |x::l,h=>by
  rw[fK,fK,ob,ob]
  have:=h x (by simp)
  have:=I4 (f:=f) (g:=g) (l:=l) λy hy=>h y (by simp[hy])
  omega
theorem Jg {β:Type}(f:β→Nat)(k:Nat):∀l:List β,(l.map λx=>f x*k).sum=(l.map f).sum*k
 | []=>by simp
 |x::l=>by rw[fK,fK,ob,ob,Jg f k l,jf]
def Ao (c:Nat→Nat→Nat)(n i:Nat):Nat:=fy (c i) (n+1)
theorem P6 {nt nf n:Nat}{cs:Cs}(h:gi nt nf n cs):fy (Ao (λi j=>(cs.at_ n i j).length) n) n=cs.its.length:=by
 have:=Fh List.length [] cs.sp
 rw[h.tot,h.GH,zg]at this;exact this.symm
theorem Oz {c:Nat→Nat→Nat}{n a s k:Nat}(h:s+k≤n+1):((List.range' s k).map (c a)).sum≤Ao c n a:=by
 have h1:=sum_range' (c a) k s
 have b:=xy (f:=c a) h
 unfold Ao;omega
theorem ye {c:Nat→Nat→Nat}{n tqo l a K:Nat}(ht:tqo≤n)(b:∀en,a<en→en<tqo→lV c tqo l en≤K):lV c tqo (l+1) a≤Ao c n a*K:=by
 show((List.range' (a+1) (tqo-(l+1)-a)).map λen=>c a en*lV c tqo l en).sum≤_
 refine dW (I4 (g:=λen=>c a en*K) λen d=> ?_) ?_
 ·obtain⟨i,f,rfl⟩:=List.mem_range'.1 d
  exact A4 _ (b _ (by omega) (by omega))
 ·rw[Jg]
  by_cases e:tqo-(l+1)-a=0
  ·rw[e];simp
  ·exact iV _ (Oz (by omega))
theorem RS {c:Nat→Nat→Nat}{n frm tqo A M:Nat}(ht:tqo≤n)(d:Ao c n frm≤A)(g:∀i,frm<i→i<n→Ao c n i≤M):lV c tqo 1 frm≤A*M∧lV c tqo 2 frm≤A*(M*M):=by
 have h:∀en,frm<en→en<tqo→lV c tqo 0 en≤M:=λen h1 j=>dW (oQ (f:=c en) (show tqo<n+1 by omega)) (g en h1 (by omega))
 have h1:∀en,frm<en→en<tqo→lV c tqo 1 en≤M*M:=λen h1 j=>dW (ye (l:=0) ht λe a b=>h e (by omega) b) (iV _ (g en h1 (by omega)))
 exact⟨dW (ye (l:=0) ht h) (iV _ d),dW (ye (l:=1) ht h1) (iV _ d)⟩
theorem RT:∀A,A≤300→A*((300-A)*(300-A))≤4000000:=by decide+kernel
theorem T9:∀A,A≤300→A*(300-A)≤4000000:=by decide+kernel
theorem BF {nt nf n:Nat}{cs:Cs}(h:gi nt nf n cs)(o:cs.its.length≤300){frm tqo l:Nat}(p:frm<tqo)(ht:tqo≤n)(h1:1≤l)(b:l≤2):lV (λi j=>(cs.at_ n i j).length) tqo l frm≤4000000:=by
 obtain⟨c,e⟩:∃c:Nat→Nat→Nat,c=λi j=>(cs.at_ n i j).length:=⟨_,rfl⟩
 have a:=P6 h
 rw[←e]at a⊢
 have d:frm<n:=by omega
 have q:=oQ (f:=Ao c n) d
 have g:∀i,frm<i→i<n→Ao c n i≤300-Ao c n frm:=λi h1 b=>by
  have:=PR (f:=Ao c n) d b (by omega);omega
 obtain⟨k,m⟩:=RS (c:=c) ht (aR _) g
 rcases(show l=1∨l=2 by omega)with rfl|rfl
 ·exact dW k (T9 _ (by omega))
 ·exact dW m (RT _ (by omega))
structure qo (nt nf:Nat)(Q:Qr):Prop where
 n:Q.n≤12
 mt:yF nt Q.mt
 rn:Q.rules.length≤40
 xn:Q.aN.length≤100
 rule:∀r∈Q.rules,(1≤r.kids∧r.kids≤3)∧e9 nt nf r.graph∧r.graph.length≤60
 lex:∀x∈Q.aN,e9 nt nf x.graph∧x.graph.length≤60
theorem qo.vb {nt nf:Nat}{Q:Qr}(h:qo nt nf Q){i:Nat}(a:i<Q.rules.length):(1≤(Q.rules.getD i oP).kids∧(Q.rules.getD i oP).kids≤3)∧e9 nt nf (Q.rules.getD i oP).graph∧(Q.rules.getD i oP).graph.length≤60:=by
 rw[aw,bU a];exact h.rule _ (iG a)
theorem qo.Um {nt nf:Nat}{Q:Qr}(h:qo nt nf Q){i:Nat}(a:i<Q.aN.length):e9 nt nf (Q.aN.getD i QZ).graph∧(Q.aN.getD i QZ).graph.length≤60:=by
 rw[aw,bU a];exact h.lex _ (iG a)
theorem rD {α:Type}(p:α→Bool)(d:α)(k:Nat)(l:List α):((List.range l.length).map λi=>if p (l.getD i d)=true then k else 0).sum=l.countP p*k:=by
 have h1:((List.range l.length).map λi=>if p (l.getD i d)=true then k else 0).sum=fy (λi=>if p (l.getD i d)=true then k else 0) l.length:=by
  have:=sum_range' (λi=>if p (l.getD i d)=true then k else 0) l.length 0
  rw[←List.range_eq_range',iW]at this;exact this
 rw[h1]
 induction l with
 |nil=>simp[fy]
 |cons a l b=>
  rw[fU,vk,s7]
  have c:((List.range l.length).map λi=>if p (l.getD i d)=true then k else 0).sum=fy (λi=>if p (l.getD i d)=true then k else 0) l.length:=by
   have:=sum_range' (λi=>if p (l.getD i d)=true then k else 0) l.length 0
   rw[←List.range_eq_range',iW]at this;exact this
  have e:=b c
  show(if p a=true then k else 0)+fy (λi=>if p (l.getD i d)=true then k else 0) l.length=_
  rw[e]
  split
  ·rw[jf];omega
  ·simp
def O9 (Q:Qr):Nat:=Q.rules.countP λr=>decide (1<r.kids)
theorem OQ {nt nf:Nat}{Q:Qr}(h:qo nt nf Q):hP Q+O9 Q=Q.rules.length:=by
 unfold hP O9
 have:=h.rule
 generalize Q.rules=l at this
 induction l with
 |nil=>rfl
 |cons a l b=>
  have d:=(this a (by simp)).1
  have:=b λr c=>this r (by simp[c])
  rw[s7,s7,fU]
  by_cases e:a.kids=1
  ·rw[aC (eB e),aA (by simp;omega)];omega
  ·rw[aA (by simp[e]),aC (eB (by omega))];omega
def CU (Q:Qr)(frm tqo:Nat):Nat:=if tqo=frm+1 then 100 else O9 Q*4000000
theorem zV {nt nf:Nat}{Q:Qr}(d:qo nt nf Q){frm tqo m:Nat}(e:frm<tqo)(ht:tqo≤Q.n){c cs:Cs}(f:gi nt nf Q.n c)(g:c.its.length≤300)(h:im nt nf Q.n frm tqo (λi j=>(c.at_ Q.n i j).length) m cs){i:Nat}(l:i<Q.rules.length):
 im nt nf Q.n frm tqo (λi j=>(c.at_ Q.n i j).length) m (rR Q frm tqo cs i)∧Grow Q.n frm tqo cs (rR Q frm tqo cs i) (if decide (1<(Q.rules.getD i oP).kids)=true then 4000000 else 0):=by
 obtain⟨⟨q,k3⟩,o,_⟩:=d.vb l;unfold rR
 split
 ·rename_i p
  obtain⟨hk,r⟩:=p;rw[aC (eB hk)];obtain⟨a,b⟩:=yj d.n d.mt e ht _ ((Q.rules.getD i oP).kids.toNat-1) cs _ [] frm m h o (.inr ⟨rfl,by omega⟩) e (λk hk=>by cases hk);exact⟨a,b.mono (BF f g e ht (by omega) (by omega))⟩
 ·exact⟨h,(Grow.refl ..).mono (aP _)⟩
theorem z6 {nt nf:Nat}{Q:Qr}(d:qo nt nf Q){w:bC}{frm tqo m:Nat}{c:Nat→Nat→Nat}(g:frm<tqo)(ht:tqo≤Q.n){cs:Cs}(h:im nt nf Q.n frm tqo c m cs){i:Nat}(j:i<Q.aN.length):
 im nt nf Q.n frm tqo c m (rN Q w frm tqo cs i)∧Grow Q.n frm tqo cs (rN Q w frm tqo cs i) 1:=by
 obtain⟨f,l⟩:=d.Um j;unfold rN
 split
 ·obtain⟨f1,f2,_⟩:=td f f.pos
  obtain⟨a,b⟩:=yL d.n h.ok (e:=⟨frm,tqo,0,gl (Q.aN.getD i QZ).graph 0⟩) (w:=⟨-1,i,[]⟩) ⟨g,ht,aP _,f1,dW f2 l⟩ (λk hk=>by cases hk);exact⟨h.grow a b ht,b⟩
 ·exact⟨h,(Grow.refl ..).mono (aP _)⟩
theorem MM {nt nf:Nat}{Q:Qr}(c:qo nt nf Q){words:List bC}{frm tqo:Nat}(e:frm<tqo)(ht:tqo≤Q.n){cs:Cs}(h:gi nt nf Q.n cs)(g:cs.its.length≤300):
 im nt nf Q.n frm tqo (λi j=>(cs.at_ Q.n i j).length) 0 (mz Q words frm tqo cs)∧Grow Q.n frm tqo cs (mz Q words frm tqo cs) (CU Q frm tqo):=by
 have f:im nt nf Q.n frm tqo (λi j=>(cs.at_ Q.n i j).length) 0 cs:=⟨h,λ_ _ _ _=>rfl,aP _⟩
 unfold mz CU
 split
 ·obtain⟨a,b⟩:=iJ (n:=Q.n) (frm:=frm) (tqo:=tqo) (rN Q (words.getD frm []) frm tqo) (λ_=>1) _ (List.range Q.aN.length) cs f (λk i d h1=>z6 c e ht h1 (dt.1 d))
  rw[jj,jV,gZ]at b;exact⟨a,b.mono c.xn⟩
 ·obtain⟨a,b⟩:=iJ (n:=Q.n) (frm:=frm) (tqo:=tqo) (rR Q frm tqo) _ _ (List.range Q.rules.length) cs f (λk i d h1=>zV c e ht h g h1 (dt.1 d))
  rw[rD (λr:sm=>decide (1<r.kids)) oP 4000000 Q.rules]at b;exact⟨a,b⟩
end Go.Proofs.YtblifkgpebebmaaGreatDoor
namespace Go.Proofs
open Go.Shelf
def Tryz.HI:Go.Shelf.Ren:=⟨λ|4=>174|n=>n,λ|0=>0|3=>3|4=>4|9=>9|20=>20|22=>161|25=>165|n=>n,λ|n=>n⟩
theorem Tryz.Nz:Go.Proofs.Lays8.n4 Tryz.prog Tryz.HI:={
 mixed:=by kernel_rfl
 f4:=⟨Tryz.f174.name,by decide,Tryz.func174.trans (congrArg some (by kernel_rfl))⟩
 t0:=YX
 a0:=Tryz.isAgg0
 z0:=Tryz.sizeOf0
 v0:=Tryz.zeroValue0
 t3:=gD
 a3:=Tryz.isAgg3
 z3:=Tryz.sizeOf3
 v3:=Tryz.zeroValue3
 t4:=ID
 a4:=Tryz.isAgg4
 z4:=Tryz.sizeOf4
 v4:=Tryz.zeroValue4
 t9:=vt
 a9:=Tryz.isAgg9
 z9:=Tryz.sizeOf9
 v9:=Tryz.zeroValue9
 t20:=Tryz.underlying20
 a20:=Tryz.isAgg20
 z20:=Tryz.sizeOf20
 v20:=Tryz.zeroValue20
 t22:=eX
 a22:=Tryz.isAgg161
 z22:=Tryz.sizeOf161
 v22:=Tryz.zeroValue161}
end Go.Proofs
namespace Go.Proofs.YtblifkgpebebmaaGreatDoor
open Go Go.J Tryz
theorem UL:aI prog 156:=⟨_,func156,rfl,by kernel_rfl⟩
instance:rH prog 58 #[.slice none 0 0]:=⟨by kernel_rfl⟩
instance:rH prog 87 #[.nilFunc]:=⟨by kernel_rfl⟩
theorem alW:(prog.info? 87).map (·.size)=some 1:=by kernel_rfl
theorem aeS (w:World):cu prog 30 w= .ok #[(0,1)] w:=by kernel_rfl
instance:gw prog 245 1 2:=⟨by kernel_rfl⟩
instance:gw prog 245 2 3:=⟨by kernel_rfl⟩
instance:gw prog 245 3 4:=⟨by kernel_rfl⟩
theorem QL:(prog.info? 161).bind (·.zero)=some (Value.slice none 0 0):=by kernel_rfl
theorem Z5:(prog.info? 161).map (·.bytes)=some 24:=by kernel_rfl
theorem ae6:(prog.info? 243).map (·.size)=some 1:=by kernel_rfl
theorem Zi:aI prog 174:=⟨_,func174,rfl,by kernel_rfl⟩
theorem afJ:(prog.info? 270).bind (λi=>i.zero.map Value.cells)=some #[.int .i64 0,.int .i64 0]:=by kernel_rfl
theorem Bj:(prog.info? 270).map (·.size)=some 2:=by kernel_rfl
theorem QM:(prog.info? 270).bind (·.zero)=some (Value.agg #[.int .i64 0,.int .i64 0]):=by kernel_rfl
theorem E6:aI prog 150:=⟨_,func150,rfl,by kernel_rfl⟩
instance:gw prog 245 0 0:=⟨by kernel_rfl⟩
theorem ZA:(prog.info? 270).map (·.bytes)=some 16:=by kernel_rfl
theorem Za:aI prog 151:=⟨_,func151,rfl,by kernel_rfl⟩
theorem Mg:aI prog 136:=⟨_,func136,rfl,by kernel_rfl⟩
theorem aeR (w:World):cu prog 245 w= .ok #[(0,2),(2,1),(3,1),(4,1)] w:=by kernel_rfl
theorem afI:(prog.info? 245).bind (λi=>i.zero.map Value.cells)=some #[.slice none 0 0,.slice none 0 0,.slice none 0 0,.slice none 0 0,.slice none 0 0]:=by kernel_rfl
theorem UE:aI prog 128:=⟨_,func128,rfl,by kernel_rfl⟩
theorem ZO:aI prog 129:=⟨_,func129,rfl,by kernel_rfl⟩
theorem ZQ:aI prog 130:=⟨_,func130,rfl,by kernel_rfl⟩
theorem R9:aI prog 92:=⟨_,func92,rfl,by kernel_rfl⟩
instance:gw prog 183 0 0:=⟨by kernel_rfl⟩
theorem Cu:bh prog 183 1=some 1:=by kernel_rfl
instance:type_of%(gw.mk Cu):=⟨Cu⟩
instance:gw prog 183 2 2:=⟨by kernel_rfl⟩
theorem sz5:(prog.info? 5).map (·.size)=some 1:=by kernel_rfl
theorem zv5:(prog.info? 5).bind (·.zero)=some (Value.int .u8 0):=by kernel_rfl
theorem xc:bh prog 183 3=some 3:=by kernel_rfl
instance:type_of%(gw.mk xc):=⟨xc⟩
theorem by5:(prog.info? 5).map (·.bytes)=some 1:=by kernel_rfl
instance:gw prog 177 1 1:=⟨by kernel_rfl⟩
instance:gw prog 177 0 0:=⟨by kernel_rfl⟩
theorem Ct:bh prog 174 0=some 0:=by kernel_rfl
instance:type_of%(gw.mk Ct):=⟨Ct⟩
theorem Rq:bh prog 174 1=some 1:=by kernel_rfl
theorem Jh:(prog.info? 174).map (·.size)=some 6:=by kernel_rfl
instance:type_of%(pc.mk Jh):=⟨Jh⟩
theorem Zd:aI prog 159:=⟨_,func159,rfl,by kernel_rfl⟩
instance:gw prog 174 2 2:=⟨by kernel_rfl⟩
instance:gw prog 174 3 3:=⟨by kernel_rfl⟩
theorem Jj:(prog.info? 234).map (·.size)=some 3:=by kernel_rfl
instance:type_of%(pc.mk Jj):=⟨Jj⟩
theorem qW:(prog.info? 171).map (·.size)=some 1:=by kernel_rfl
theorem Zb:aI prog 157:=⟨_,func157,rfl,by kernel_rfl⟩
theorem Zc:aI prog 158:=⟨_,func158,rfl,by kernel_rfl⟩
instance:gw prog 180 2 7:=⟨by kernel_rfl⟩
theorem ZY:aI prog 146:=⟨_,func146,rfl,by kernel_rfl⟩
theorem ZX:aI prog 145:=⟨_,func145,rfl,by kernel_rfl⟩
instance:gw prog 180 3 13:=⟨by kernel_rfl⟩
theorem oV:(prog.info? 186).map (·.size)=some 6:=by kernel_rfl
instance:type_of%(pc.mk oV):=⟨oV⟩
theorem tZ:bh prog 186 2=some 5:=by kernel_rfl
instance:type_of%(gw.mk tZ):=⟨tZ⟩
theorem ZW:aI prog 144:=⟨_,func144,rfl,by kernel_rfl⟩
instance:gw prog 200 0 0:=⟨by kernel_rfl⟩
instance:gw prog 200 1 1:=⟨by kernel_rfl⟩
theorem zm:(prog.info? 183).map (·.size)=some 4:=by kernel_rfl
instance:type_of%(pc.mk zm):=⟨zm⟩
theorem ZT:aI prog 141:=⟨_,func141,rfl,by kernel_rfl⟩
instance:gw prog 180 5 16:=⟨by kernel_rfl⟩
theorem aeQ (w:World):cu prog 186 w= .ok #[(0,4),(4,1),(5,1)] w:=by kernel_rfl
theorem QG:(prog.info? 186).bind (λi=>i.zero.map Value.cells)=some #[.int .i64 0,.int .i64 0,.int .i64 0,.slice none 0 0,.slice none 0 0,.slice none 0 0]:=by kernel_rfl
instance:type_of%(rH.mk QG):=⟨QG⟩
theorem GF:(prog.info? 186).bind (·.zero)=some (Value.agg #[.int .i64 0,.int .i64 0,.int .i64 0,.slice none 0 0,.slice none 0 0,.slice none 0 0]):=by kernel_rfl
theorem Ma:(prog.info? 186).map (·.bytes)=some 96:=by kernel_rfl
theorem PS:(prog.info? 118).map (·.size)=some 1:=by kernel_rfl
instance:gw prog 180 4 14:=⟨by kernel_rfl⟩
theorem Bi:(prog.info? 177).map (·.size)=some 2:=by kernel_rfl
instance:type_of%(pc.mk Bi):=⟨Bi⟩
theorem ZU:aI prog 142:=⟨_,func142,rfl,by kernel_rfl⟩
theorem tY:bh prog 186 1=some 4:=by kernel_rfl
instance:type_of%(gw.mk tY):=⟨tY⟩
theorem wV:(prog.info? 200).map (·.size)=some 3:=by kernel_rfl
instance:type_of%(pc.mk wV):=⟨wV⟩
theorem K8:(prog.info? 200).bind (·.zero)=some (Value.agg #[.int .i64 0,.int .i64 0,.slice none 0 0]):=by kernel_rfl
theorem U6:(prog.info? 200).map (·.bytes)=some 40:=by kernel_rfl
theorem V6:(prog.info? 184).map (·.size)=some 1:=by kernel_rfl
theorem ZV:aI prog 143:=⟨_,func143,rfl,by kernel_rfl⟩
theorem ag1:(prog.info? 58).map (·.bytes)=some 24:=by kernel_rfl
theorem QF:(prog.info? 177).bind (λi=>i.zero.map Value.cells)=some #[.int .i64 0,.slice none 0 0]:=by kernel_rfl
instance:type_of%(rH.mk QF):=⟨QF⟩
theorem aeO (w:World):cu prog 177 w= .ok #[(0,1),(1,1)] w:=by kernel_rfl
theorem UC:aI prog 121:=⟨_,func121,rfl,by kernel_rfl⟩
theorem Me:aI prog 120:=⟨_,func120,rfl,by kernel_rfl⟩
instance:gw prog 180 0 0:=⟨by kernel_rfl⟩
theorem Mf:aI prog 122:=⟨_,func122,rfl,by kernel_rfl⟩
theorem UD:aI prog 123:=⟨_,func123,rfl,by kernel_rfl⟩
instance:gw prog 180 1 5:=⟨by kernel_rfl⟩
theorem tX:bh prog 186 0=some 0:=by kernel_rfl
instance:type_of%(gw.mk tX):=⟨tX⟩
theorem Ig:aI prog 124:=⟨_,func124,rfl,by kernel_rfl⟩
theorem Md:aI prog 118:=⟨_,func118,rfl,by kernel_rfl⟩
theorem Ux (w:World):cu prog 183 w= .ok #[(0,1),(1,1),(2,1),(3,1)] w:=by kernel_rfl
theorem K1:(prog.info? 183).bind (λi=>i.zero.map Value.cells)=some #[.int .i64 0,.int .i64 0,.int .i64 0,.slice none 0 0]:=by kernel_rfl
instance:type_of%(rH.mk K1):=⟨K1⟩
theorem Uz (w:World):cu prog 200 w= .ok #[(0,1),(1,1),(2,1)] w:=by kernel_rfl
theorem K4:(prog.info? 200).bind (λi=>i.zero.map Value.cells)=some #[.int .i64 0,.int .i64 0,.slice none 0 0]:=by kernel_rfl
instance:type_of%(rH.mk K4):=⟨K4⟩
theorem U7:aI prog 106:=⟨_,func106,rfl,by kernel_rfl⟩
theorem QE:(prog.info? 174).bind (λi=>i.zero.map Value.cells)=some #[.int .i64 0,.int .i64 0,.slice none 0 0,.slice none 0 0,.slice none 0 0,.slice none 0 0]:=by kernel_rfl
instance:type_of%(rH.mk QE):=⟨QE⟩
theorem aeN (w:World):cu prog 174 w= .ok #[(0,1),(1,1),(2,1),(3,1),(4,1),(5,1)] w:=by kernel_rfl
theorem Tu:(prog.info? 30).bind (·.zero)=some (Value.agg #[.slice none 0 0]):=by kernel_rfl
theorem ZB:(prog.info? 30).map (·.bytes)=some 24:=by kernel_rfl
instance:rH prog 234 #[.slice none 0 0,.slice none 0 0,.slice none 0 0]:=⟨by kernel_rfl⟩
theorem UB:aI prog 119:=⟨_,func119,rfl,by kernel_rfl⟩
theorem VG:(prog.info? 234).bind (·.zero)=some (Value.agg #[.slice none 0 0,.slice none 0 0,.slice none 0 0]):=by kernel_rfl
theorem Z9:(prog.info? 234).map (·.bytes)=some 72:=by kernel_rfl
theorem ae3:(prog.info? 170).map (·.size)=some 1:=by kernel_rfl
instance:gw prog 174 4 4:=⟨by kernel_rfl⟩
instance:gw prog 174 5 5:=⟨by kernel_rfl⟩
theorem VE:(prog.info? 171).bind (·.zero)=some (Value.slice none 0 0):=by kernel_rfl
theorem Z6:(prog.info? 171).map (·.bytes)=some 24:=by kernel_rfl
theorem ae4:(prog.info? 172).map (·.size)=some 1:=by kernel_rfl
theorem RB:aI prog 99:=⟨_,func99,rfl,by kernel_rfl⟩
theorem Zh:aI prog 173:=⟨_,func173,rfl,by kernel_rfl⟩
theorem Zg:aI prog 172:=⟨_,func172,rfl,by kernel_rfl⟩
theorem Zf:aI prog 171:=⟨_,func171,rfl,by kernel_rfl⟩
theorem Ze:aI prog 170:=⟨_,func170,rfl,by kernel_rfl⟩
theorem ZZ:aI prog 149:=⟨_,func149,rfl,by kernel_rfl⟩
instance:gw prog 120 0 0:=⟨by kernel_rfl⟩
theorem ZN:aI prog 127:=⟨_,func127,rfl,by kernel_rfl⟩
theorem ZM:aI prog 126:=⟨_,func126,rfl,by kernel_rfl⟩
theorem ZL:aI prog 125:=⟨_,func125,rfl,by kernel_rfl⟩
instance:gw prog 200 2 2:=⟨by kernel_rfl⟩
theorem ahU:aI prog 90:=⟨_,func90,rfl,by kernel_rfl⟩
theorem ahV:aI prog 91:=⟨_,func91,rfl,by kernel_rfl⟩
theorem K0:(prog.info? 120).bind (λi=>i.zero.map Value.cells)=some #[.slice none 0 0,.int .i64 0,.slice none 0 0]:=by kernel_rfl
instance:type_of%(rH.mk K0):=⟨K0⟩
theorem Vo:aI prog 24:=⟨_,func24,rfl,by kernel_rfl⟩
theorem Uw (w:World):cu prog 120 w= .ok #[(0,1),(1,1),(2,1)] w:=by kernel_rfl
theorem PT:(prog.info? 120).map (·.size)=some 3:=by kernel_rfl
instance:type_of%(pc.mk PT):=⟨PT⟩
theorem ahR:aI prog 87:=⟨_,func87,rfl,by kernel_rfl⟩
theorem ahS:aI prog 88:=⟨_,func88,rfl,by kernel_rfl⟩
theorem ahT:aI prog 89:=⟨_,func89,rfl,by kernel_rfl⟩
theorem aeP (w:World):cu prog 180 w= .ok #[(0,5),(5,2),(7,6),(13,1),(14,2),(16,1)] w:=by kernel_rfl
theorem afH:(prog.info? 180).bind (λi=>i.zero.map Value.cells)=some #[.slice none 0 0,.slice none 0 0,.slice none 0 0,.slice none 0 0,.slice none 0 0,.slice none 0 0,.slice none 0 0,.int .i64 0,.int .i64 0,.slice none 0 0,.slice none 0 0,.slice none 0 0,.slice none 0 0,.slice none 0 0,.int .i64 0,.slice none 0 0,.map none]:=by kernel_rfl
theorem Rn:bh prog 120 1=some 1:=by kernel_rfl
instance:gw prog 120 2 2:=⟨by kernel_rfl⟩
theorem R0 {a:Value}(b:a.oneCell'=true)(w:World):(Instr.build 30 #[(0,a)]).run prog w= .ok (.agg #[a]) w:=
 bM Ts (aeS w) (by simp[Instr.fill,J.bK,J.cells_one b])
theorem yU {a b:Value}(c:a.oneCell'=true)(h1:b.oneCell'=true)(w:World):(Instr.build 270 #[(0,a),(1,b)]).run prog w= .ok (.agg #[a,b]) w:=
 Ho underlying270 afJ dK (by simp[Instr.fill,J.bK,J.cells_one c,J.cells_one h1])
theorem MU {a b:Value}(w:World):(Instr.build 245 #[(0,.agg #[a,b])]).run prog w= .ok (.agg #[a,b,.slice none 0 0,.slice none 0 0,.slice none 0 0]) w:=
 bM afI (aeR w) (by simp[Instr.fill,J.bK])
theorem Vf (w:World):(Instr.build 30 #[]).run prog w= .ok (.agg #[.slice none 0 0]) w:=
 bM Ts (aeS w) (by simp[Instr.fill,J.bK])
theorem MT {a b c d:Value}(w:World):(Instr.build 186 #[(0,.agg #[a,b,c,d])]).run prog w= .ok (.agg #[a,b,c,d,.slice none 0 0,.slice none 0 0]) w:=
 bM QG (aeQ w) (by simp[Instr.fill,J.bK])
theorem Gg {a b:Value}(c:a.oneCell'=true)(h1:b.oneCell'=true)(w:World):(Instr.build 177 #[(0,a),(1,b)]).run prog w= .ok (.agg #[a,b]) w:=
 bM QF (aeO w) (by simp[Instr.fill,J.bK,J.cells_one c,J.cells_one h1])
theorem tK {a b c:Value}(d:a.oneCell'=true)(h1:b.oneCell'=true)(w:World):(Instr.build 183 #[(0,a),(1,b),(3,.agg #[c])]).run prog w= .ok (.agg #[a,b,.int .i64 0,c]) w:=
 bM K1 (Ux w) (by simp[Instr.fill,J.bK,J.cells_one d,J.cells_one h1])
theorem Gi {a b:Value}(c:a.oneCell'=true)(h1:b.oneCell'=true)(w:World):(Instr.build 200 #[(0,a),(1,b)]).run prog w= .ok (.agg #[a,b,.slice none 0 0]) w:=
 bM K4 (Uz w) (by simp[Instr.fill,J.bK,J.cells_one c,J.cells_one h1])
theorem yS {a b c d:Value}(e:a.oneCell'=true)(h1:b.oneCell'=true)(f:c.oneCell'=true)(w:World):(Instr.build 183 #[(0,a),(1,b),(2,c),(3,.agg #[d])]).run prog w= .ok (.agg #[a,b,c,d]) w:=
 bM K1 (Ux w) (by simp[Instr.fill,J.bK,J.cells_one e,J.cells_one h1,J.cells_one f])
theorem yT {a b:Value}(c:a.oneCell'=true)(d:b.oneCell'=true)(w:World):(Instr.build 200 #[(0,a),(2,b)]).run prog w= .ok (.agg #[a,.int .i64 0,b]) w:=
 bM K4 (Uz w) (by simp[Instr.fill,J.bK,J.cells_one c,J.cells_one d])
theorem Gf {a b:Value}(c:a.oneCell'=true)(h1:b.oneCell'=true)(w:World):(Instr.build 174 #[(0,a),(1,b)]).run prog w= .ok (.agg #[a,b,.slice none 0 0,.slice none 0 0,.slice none 0 0,.slice none 0 0]) w:=
 bM QE (aeN w) (by simp[Instr.fill,J.bK,J.cells_one c,J.cells_one h1])
theorem uo {j k l m a n b c d e f g h o p i:Value}(q:i.oneCell'=true)(w:World):(Instr.build 180 #[(0,.agg #[j,k,l,m,a]),(1,.agg #[n,b]),(2,.agg #[c,d,e,f,g,h]),(4,.agg #[o,p]),(5,i)]).run prog w= .ok (.agg #[j,k,l,m,a,n,b,c,d,e,f,g,h,.slice none 0 0,o,p,i]) w:=
 bM afH (aeP w) (by simp[Instr.fill,J.bK,J.cells_one q])
theorem CY (w:World):(Instr.build 120 #[]).run prog w= .ok (.agg #[.slice none 0 0,.int .i64 0,.slice none 0 0]) w:=
 bM K0 (Uw w) (by simp[Instr.fill,J.bK])
theorem Gd {a b:Value}(c:a.oneCell'=true)(h1:b.oneCell'=true)(w:World):(Instr.build 120 #[(0,a),(1,b)]).run prog w= .ok (.agg #[a,b,.slice none 0 0]) w:=
 bM K0 (Uw w) (by simp[Instr.fill,J.bK,J.cells_one c,J.cells_one h1])
def po (n:Nat)(o:List Nat):List Int:=(List.range n).map λi=>if i∈o then(o.idxOf i:Int)else-1
theorem zE (n:Nat)(o:List Nat):(po n o).length=n:=by simp[po]
theorem xx {n:Nat}{o:List Nat}{i:Nat}(h:i<n):(po n o)[i]?=some (if i∈o then(o.idxOf i:Int)else-1):=by
 unfold po;rw[bQ,nY h];rfl
theorem OK {n:Nat}{o:List Nat}{i:Nat}(h:i<n)(b:i∉o):(po n o).set i (o.length:Int)=po n (o++ [i]):=by
 refine pZ λj=> ?_
 rcases eP j n with a|a
 ·rw[xx a]
  by_cases e:j=i
  ·subst e
   rw[fT (by rw[zE];exact a),aC (by simp),List.idxOf_append,aA b];simp
  ·rw[ik (λh=>e h.symm),xx a]
   by_cases c:j∈o
   ·rw[aC c,aC (by simp[c]),List.idxOf_append,aC c]
   ·rw[aA c,aA (by simp[c,e])]
 ·rw[ij (by rw[cn,zE];exact a),ij (by rw[zE];exact a)]
theorem OJ (n:Nat):po n []=List.replicate n (-1):=by
 unfold po;refine pZ λj=> ?_
 rw[bQ,s9]
 rcases eP j n with a|a
 ·rw[nY a,aC a];simp
 ·rw[ij (by simpa using a),aA (by omega)];rfl
theorem jB (l:List Int)(k:Nat)(x:Int):(rows aJ l).set (k*1+0) (iv x)=rows aJ (l.set k x):=by
 rw[gZ,j5,jR,jR,jm]
theorem gU {l:List Int}{k:Nat}{x:Int}(h:l[k]?=some x):(rows aJ l)[k*1+0]?=some (iv x):=by
 rw[gZ,j5,jR,bQ,h];rfl
theorem zP (n:Nat):List.replicate n (iv 0)=rows aJ (List.replicate n 0):=by rw[jR,sC]
theorem II (d e bg bv:Nat)(nv:Value)(g:dD)(G:sx (ax g))(Z:g.nodes.length≤120)(N:(ax g).length=g.nodes.length):∀(f:Nat) (o:List Nat) (i:Nat) (m:Value),m.oneCell'=true→CH (ax g) o→i<g.nodes.length→Lh g.nodes.length o<f→dz prog 156 ([iv i]++ [(Value.pointer (some ⟨d,0,none⟩)),(Value.pointer (some ⟨e,0,none⟩)),(Value.pointer (some ⟨bg,0,none⟩)),(Value.pointer (some ⟨bv,0,none⟩))]).toArray [aB (sl bq g.nv.1 g.nodes),aB (aF cB g.nodes),aW d (.cells [nv].toArray 58 (0,0)),row nv 3 1 g.nodes.length (rows aJ (po g.nodes.length (o))),aW e (.cells [m].toArray 58 (0,0)),row m 3 1 (o).length (rows aJ (cX (o))),aW bg (.cells [g.nv.1].toArray 30 (0,0)),aW bv (.cells [(.func (.func 156) #[] [(Value.pointer (some ⟨d,0,none⟩)),(Value.pointer (some ⟨e,0,none⟩)),(Value.pointer (some ⟨bg,0,none⟩)),(Value.pointer (some ⟨bv,0,none⟩))].toArray)].toArray 87 (0,0))] (λv H'=>∃s,s.oneCell'=true∧H'=[aW d (.cells [nv].toArray 58 (0,0)),row nv 3 1 g.nodes.length (rows aJ (po g.nodes.length (lF (ax g) f o i))),aW e (.cells [s].toArray 58 (0,0)),row s 3 1 (lF (ax g) f o i).length (rows aJ (cX (lF (ax g) f o i))),aW bg (.cells [g.nv.1].toArray 30 (0,0)),aW bv (.cells [(.func (.func 156) #[] [(Value.pointer (some ⟨d,0,none⟩)),(Value.pointer (some ⟨e,0,none⟩)),(Value.pointer (some ⟨bg,0,none⟩)),(Value.pointer (some ⟨bv,0,none⟩))].toArray)].toArray 87 (0,0))]):=by
 intro f
 induction f with
 |zero=>intro o i m _ _ _ h;omega
 |succ f O=> ?_
 intro o i m A w y hu;refine dz.body (args:=[iv i]++ [(Value.pointer (some ⟨d,0,none⟩)),(Value.pointer (some ⟨e,0,none⟩)),(Value.pointer (some ⟨bg,0,none⟩)),(Value.pointer (some ⟨bv,0,none⟩))]) 38 func156 rfl ntmps156 rfl (λc=> ?_);refine g6 ?_;refine St.ee (Ev.ct (.mk rfl) gD trivial (by omega) (gU (xx y))) ?_;refine g3 ?_;refine St.cond _ rfl (λu=> ?_) (λu=> ?_)
 ·skip
  have r:i∈o:=by by_cases c:i∈o;exact c;rw[aA c]at u;exact absurd (fJ u) (by decide)
  have q:lF (ax g) (f+1) o i=o:=by rw[kn,aC r]
  refine g2 ?_;refine St.rV [] [aW d (.cells [nv].toArray 58 (0,0)),row nv 3 1 g.nodes.length (rows aJ (po g.nodes.length (o))),aW e (.cells [m].toArray 58 (0,0)),row m 3 1 (o).length (rows aJ (cX (o))),aW bg (.cells [g.nv.1].toArray 30 (0,0)),aW bv (.cells [(.func (.func 156) #[] [(Value.pointer (some ⟨d,0,none⟩)),(Value.pointer (some ⟨e,0,none⟩)),(Value.pointer (some ⟨bg,0,none⟩)),(Value.pointer (some ⟨bv,0,none⟩))].toArray)].toArray 87 (0,0))] ?_;exact⟨m,A,by rw[q]⟩
 ·skip
  have r:i∉o:=λc=>by rw[aC c]at u;exact absurd (iX u) (by omega)
  have q:lF (ax g) (f+1) o i=nD (ax g) f (o++ [i]) ((ax g).getD i iK).2:=by rw[kn,aA r]
  have hol:=kh w.nd (n:=g.nodes.length) (λj l=>by have:=w.lt j l;omega)
  have YN:=G2 y r
  obtain⟨t,ht⟩:=aE (show i<g.nodes.length by omega)
  have P:=aZ ht
  have Q:(ax g).getD i iK=mB t:=by rw[aw,ka ht];rfl
  have H:((ax g).getD i iK).2=t.aq.map fP:=by rw[Q];rfl
  refine St.cL cB g.nodes (x:=t) P ?_;refine St.ea (sl au t.lv.1 t.aq) [cB t] (λρ h=>h _ (aQ ..)) ?_;refine St.wf t.lv.1 (λSG SF=> ?_)
  have B:CH (ax g) (o++ [i]):=⟨by rw[List.nodup_append];exact⟨w.nd,by simp,by intro a R b S;rw[bP.1 S];rintro rfl;exact r R⟩,λj l=>by rcases cG.1 l with l|l;exact w.lt j l;rw[bP.1 l,N];exact y⟩
  refine g9 ?_;refine St.cJ (.mk rfl) (.mk rfl) dK rfl (by omega) (by decide) ?_;refine St.aM nv rfl (show _=rows aJ (po g.nodes.length (o++ [i])) by rw[jB,OK y r]) ?_;refine g6 ?_;refine St.gV rfl (.ar rfl) bJ dK eT rfl rfl (by simp[Value.cells]) rfl rfl (λU=> ?_);refine St.aj (.mk rfl) (.mk rfl) bJ dK eT xT (by simp[Value.oneCell',Value.cells]) (by omega) (by omega) rfl rfl rfl rfl (λv21 V=> ?_);refine St.aM v21 (show _=(o++ [i]).length from cS) (show _=rows aJ (cX (o++ [i]))from vY (Int.natCast_nonneg i)) ?_;refine St.ba v21 (λI _=> ?_);refine St.cI (.mk rfl) (.mk rfl) fD I (by rfl) ?_;refine g15 ?_;refine St.aM nv rfl (show _=rows aJ (po g.nodes.length (nD (ax g) f (o++ [i]) ((((ax g).getD i iK).2).take (0))))from rfl) ?_;refine St.aM v21 (show _=(nD (ax g) f (o++ [i]) ((((ax g).getD i iK).2).take (0))).length from rfl) (show _=rows aJ (cX (nD (ax g) f (o++ [i]) ((((ax g).getD i iK).2).take (0))))from rfl) ?_;refine St.tm (ι:=Nat) (κ:=Value) (λk z T=>(29,iv k)::T) (λk z=>[aW d (.cells [nv].toArray 58 (0,0)),row nv 3 1 g.nodes.length (rows aJ (po g.nodes.length (nD (ax g) f (o++ [i]) ((((ax g).getD i iK).2).take (k))))),aW e (.cells [z].toArray 58 (0,0)),row z 3 1 (nD (ax g) f (o++ [i]) ((((ax g).getD i iK).2).take (k))).length (rows aJ (cX (nD (ax g) f (o++ [i]) ((((ax g).getD i iK).2).take (k))))),aW bg (.cells [g.nv.1].toArray 30 (0,0)),aW bv (.cells [(.func (.func 156) #[] [(Value.pointer (some ⟨d,0,none⟩)),(Value.pointer (some ⟨e,0,none⟩)),(Value.pointer (some ⟨bg,0,none⟩)),(Value.pointer (some ⟨bv,0,none⟩))].toArray)].toArray 87 (0,0)),aB (sl au t.lv.1 t.aq),aB (sl bq g.nv.1 g.nodes),aB (aF cB g.nodes)]) (λk z=>k≤t.aq.length∧z.oneCell'=true∧CH (ax g) (nD (ax g) f (o++ [i]) ((((ax g).getD i iK).2).take (k)))) (λk z=>t.aq.length-k) 0 v21 (aD.cons 4 rfl (aD.cons 27 rfl (aD.cons 28 rfl aD.nil))) ⟨aP _,I,B⟩ ?_;rintro k z ⟨hk,hz,J⟩;refine g6 ?_;refine St.cq (λW=> ?_) (λW=> ?_)
  ·obtain⟨p,hp⟩:=aE (show k<t.aq.length by omega)
   have K:((ax g).getD i iK).2[k]?=some (fP p):=by rw[H];show(t.aq.map fP)[k]?=_;rw[bQ,hp];rfl
   obtain⟨_,L,C⟩:=G.at_ (aZ K)
   replace L:0≤p.tqo:=L
   replace C:p.tqo.toNat<(ax g).length:=C
   have M:(((ax g).getD i iK).2).take (k+1)=(((ax g).getD i iK).2).take k++ [fP p]:=ag K
   obtain⟨j,l⟩:∃j:Nat,j=p.tqo.toNat:=⟨_,rfl⟩
   have D:p.tqo=(j:Int):=by omega
   have X:Lh g.nodes.length (nD (ax g) f (o++ [i]) ((((ax g).getD i iK).2).take (k)))≤Lh g.nodes.length (o++ [i]):=G1 (λx hx=>(qf (ax g) f _ _).subset hx)
   refine g7 ?_;refine St.ee (Ev.js (.mk rfl) hp lD trivial dm j7.eq) ?_;refine St.al (λb7=> ?_);refine g3 ?_;refine St.dup (sl bq g.nv.1 g.nodes) ?_;refine St.dup (aF cB g.nodes) ?_;refine g4 ?_;refine St.slot 35 (iv (j:Nat)) rfl (congrArg iv D) ?_;refine St.ei (O (nD (ax g) f (o++ [i]) ((((ax g).getD i iK).2).take (k))) j z hz J (by omega) (by omega)) UL (.mk rfl) (.ar rfl) rfl ?_;rintro v36 _ ⟨s,E,rfl⟩;refine St.Qs ?_
   have F:lF (ax g) f (nD (ax g) f (o++ [i]) ((((ax g).getD i iK).2).take (k))) j=nD (ax g) f (o++ [i]) ((((ax g).getD i iK).2).take (k+1)):=by rw[M,Bt];show _=lF (ax g) f _ p.tqo.toNat;rw[←l]
   rw[F];refine g8 ?_;refine St.ui (k+1) s ⟨by omega,E,by rw[M,Bt];exact Q4 G _ _ _ J C⟩
  ·obtain rfl:k=t.aq.length:=by omega
   have Y:(((ax g).getD i iK).2).take t.aq.length=((ax g).getD i iK).2:=fZ (by rw[H,aO];exact aR _)
   rw[Y,←q];refine g4 ?_;refine St.eH ?_;refine St.rV [] [aW d (.cells [nv].toArray 58 (0,0)),row nv 3 1 g.nodes.length (rows aJ (po g.nodes.length (lF (ax g) (f+1) o i))),aW e (.cells [z].toArray 58 (0,0)),row z 3 1 (lF (ax g) (f+1) o i).length (rows aJ (cX (lF (ax g) (f+1) o i))),aW bg (.cells [g.nv.1].toArray 30 (0,0)),aW bv (.cells [(.func (.func 156) #[] [(Value.pointer (some ⟨d,0,none⟩)),(Value.pointer (some ⟨e,0,none⟩)),(Value.pointer (some ⟨bg,0,none⟩)),(Value.pointer (some ⟨bv,0,none⟩))].toArray)].toArray 87 (0,0))] ?_;exact⟨z,hz,rfl⟩
def Sy:dh:=⟨0,bT,[]⟩
theorem Oy {N:List dh}{k:Nat}{x:dh}(h:N[k]?=some x)(t:Int):(rows bq N).set (k*2+0) (iv t)=rows bq (N.set k ⟨t,x.lv,x.aq⟩):=by
 induction N generalizing k with
 |nil=>cases h
 |cons a N b=>
  cases k with
  |zero=>obtain rfl:=Option.some.inj h;rfl
  |succ k=>
   have:=b (k:=k) h
   show(bq.cells a++rows bq N).set ((k+1)*2+0) (iv t)=bq.cells a++rows bq (N.set k _)
   rw[←this,lJ _ _ (by show 2≤_;omega)]
   congr 2
   show(k+1)*2+0-2=_
   omega
theorem Ox {N:List dh}{k:Nat}{x:dh}(h:N[k]?=some x)(v:aV)(L:List dx):(rows bq N).set (k*2+1) v.1=rows bq (N.set k ⟨x.type,v,L⟩):=by
 induction N generalizing k with
 |nil=>cases h
 |cons a N b=>
  cases k with
  |zero=>obtain rfl:=Option.some.inj h;rfl
  |succ k=>
   have:=b (k:=k) h
   show(bq.cells a++rows bq N).set ((k+1)*2+1) v.1=bq.cells a++rows bq (N.set k _)
   rw[←this,lJ _ _ (by show 2≤_;omega)]
   congr 2
   show(k+1)*2+1-2=_
   omega
def OX (g:e8)(o:List Nat)(i:Nat):KE:=((g.getD i iK).1,(g.getD i iK).2.map λx=>(x.1,(o.idxOf x.2.toNat:Int)))
theorem NC (g:e8)(r:Nat):gl g r=(xI g r).map (OX g (xI g r)):=rfl
theorem ue (g:dD)(O:sx (ax g))(hn:g.nodes.length≤120)(hL:∀t∈g.nodes,t.aq.length≤1000000)(r:Nat)(hr:r<g.nodes.length):dz prog 136 #[bA g,iv r] ([aG g].map aB) (λv H'=>H'=[aB (bL (gl (ax g) r) v)]):=by
 refine dz.body (args:=[bA g,iv r]) 88 func136 rfl ntmps136 rfl (λc=> ?_);refine St.cast (H':=[aB (aG g)]) rfl ?_;refine go ?_
 refine St.jQ (aG g) (λ_:Unit=>kb g) (λρ h=>⟨(),h⟩) λ_=> ?_
 refine St.cast (H':=[aB (sl bq g.nv.1 g.nodes),aB (aF cB g.nodes),aB (aG g)]) rfl ?_
 have hgl:=cy g
 refine go ?_;refine St.dJ (.mk rfl) rfl (λI=> ?_);refine St.al (λP=> ?_);refine g7 ?_;refine St.sV (m:=g.nodes.length) (.mk rfl) (.mk rfl) bJ dK eT xT rfl rfl (by omega) rfl rfl (λb=> ?_);refine St.aM (.slice (some ⟨b,0,none⟩) g.nodes.length g.nodes.length) rfl (zP _) ?_;refine St.al (λJ=> ?_);refine St.cI (.mk rfl) (.mk rfl) fD rfl (by rfl) ?_;refine g11 ?_;refine St.tm (ι:=Nat) (κ:=List Int) (λk U T=>(20,iv k)::T) (λk U=>[row (.slice (some ⟨b,0,none⟩) g.nodes.length g.nodes.length) 3 1 g.nodes.length (rows aJ (U)),aW J (.cells [(.slice (some ⟨b,0,none⟩) g.nodes.length g.nodes.length)].toArray 58 (0,0)),aW I (.cells [g.nv.1].toArray 30 (0,0)),aW P (.cells [(.slice none 0 0)].toArray 30 (0,0)),aB (sl bq g.nv.1 g.nodes),aB (aF cB g.nodes),aB (aG g)]) (λk U=>k≤g.nodes.length∧U.length=g.nodes.length∧∀i,i<k→U[i]?=some (-1)) (λk U=>g.nodes.length-k) 0 (List.replicate g.nodes.length 0) (aD.cons 1 rfl (aD.cons 2 rfl (aD.cons 4 rfl (aD.cons 5 rfl (aD.cons 19 rfl aD.nil))))) ⟨aP _,by simp,λi y=>by omega⟩ ?_;rintro k U ⟨hk,Q,hU⟩;refine g6 ?_;refine St.cq (λh21=> ?_) (λh21=> ?_)
 ·refine g14 ?_
  refine St.cJ (.mk rfl) (.mk rfl) dK rfl (by omega) (by decide) ?_;refine St.aM (.slice (some ⟨b,0,none⟩) g.nodes.length g.nodes.length) rfl (jB _ _ _) ?_;refine g8 ?_;refine St.ui (k+1) (U.set k (-1)) ⟨by omega,by rw[cn];exact Q,λi y=>by by_cases e:i=k;(rw[e,fT (by omega)]);(rw[ik (λh=>e h.symm)];exact hU i (by omega))⟩
 ·obtain rfl:k=g.nodes.length:=by omega
  have R:U=po g.nodes.length []:=by rw[OJ];refine pZ λj=> ?_;rw[s9];rcases eP j g.nodes.length with d|d;(rw[hU j d,aC d]);(rw[ij (by omega),aA (by omega)])
  subst R;refine g7 ?_;refine St.al (λS=> ?_);refine g4 ?_;refine St.al (λb8=> ?_);refine g4 ?_;refine St.ee (Ev.func (.gY rfl rfl rfl rfl)) ?_;refine St.cI (.mk rfl) (.mk rfl) alW rfl (by rfl) ?_;refine g3 ?_;refine St.dw 3 1 ?_;refine St.aM (.slice none 0 0) (show _=([]:List Nat).length from rfl) (show _=rows aJ (cX [])from rfl) ?_;refine St.dup (sl bq g.nv.1 g.nodes) ?_;refine St.dup (aF cB g.nodes) ?_;refine g3 ?_;refine St.ei (II J S I b8 (.slice (some ⟨b,0,none⟩) g.nodes.length g.nodes.length) g O hn hgl ((ax g).length+1) [] r (.slice none 0 0) rfl ⟨List.nodup_nil,λj d=>by cases d⟩ hr (by rw[Jq];omega)) UL (.mk rfl) (.ar rfl) rfl ?_;rintro v30 _ ⟨K,hov,rfl⟩;refine St.Qs ?_
  obtain⟨o,B⟩:∃o,o=lF (ax g) ((ax g).length+1) [] r:=⟨_,rfl⟩
  rw[←B]
  have C:xI (ax g) r=o:=B.symm
  obtain⟨D,E,_⟩:=OW O (r:=r) (by omega);rw[C]at D E
  have hol:=kh D.nd (n:=g.nodes.length) (λj d=>by have:=D.lt j d;omega)
  refine g6 ?_;refine St.nL (Rr:=bq) (g:=Sy) (m:=o.length) (sz:=2) rfl (.mk rfl) (.mk rfl) oY jT GD MZ rfl rfl (by omega) rfl rfl (λa=> ?_);refine St.ee (Ev.build (bH.ar rfl) (λw=>R0 rfl w)) ?_;refine St.al (λb9=> ?_);refine g12 ?_;refine St.fact (aF cB (List.replicate o.length Sy)) (λρ _ _ x hx=>by rw[wg hx];exact sZ _ _) ?_;refine St.tm (ι:=Nat) (κ:=List dh) (λk N T=>(37,iv k)::T) (λk N=>[row (.slice (some ⟨a,0,none⟩) o.length o.length) 163 2 o.length (rows bq (N)),aW b9 (.cells [(.slice (some ⟨a,0,none⟩) o.length o.length)].toArray 30 (0,0)),aW S (.cells [K].toArray 58 (0,0)),row K 3 1 o.length (rows aJ (cX o)),aW I (.cells [g.nv.1].toArray 30 (0,0)),aW P (.cells [(.slice none 0 0)].toArray 30 (0,0)),aW J (.cells [(.slice (some ⟨b,0,none⟩) g.nodes.length g.nodes.length)].toArray 58 (0,0)),row (.slice (some ⟨b,0,none⟩) g.nodes.length g.nodes.length) 3 1 g.nodes.length (rows aJ (po g.nodes.length o)),aB (aF cB N),aB (sl bq g.nv.1 g.nodes),aB (aF cB g.nodes),aB (aG g)]) (λk N=>k≤o.length∧N.length=o.length∧(N.take k).map mB=(o.take k).map (OX (ax g) o)∧(∀j,k≤j→j<o.length→N[j]?=some Sy)∧∀x∈N,bq.wf x) (λk N=>o.length-k) 0 (List.replicate o.length Sy) (aD.cons 2 rfl (aD.cons 4 rfl (aD.cons 5 rfl (aD.cons 9 rfl (aD.cons 35 rfl (aD.cons 36 rfl aD.nil)))))) ⟨aP _,by simp,rfl,λj _ d=>by rw[List.getElem?_replicate,if_pos d],λx hx=>by rw[wg hx];exact⟨by decide,by decide⟩⟩ ?_;rintro k N ⟨hk,F,f,G,H⟩;refine g6 ?_;refine St.cq (λh38=> ?_) (λh38=> ?_)
  ·obtain⟨i,y⟩:=aE (show k<o.length by omega)
   have SD:=D.lt i (aZ y)
   obtain⟨t,ht⟩:=aE (show i<g.nodes.length by omega)
   have V:=aZ ht
   have W:(ax g).getD i iK=mB t:=by rw[aw,ka ht];rfl
   have X:=G k (aR _) (by omega)
   have NQ:=E i (aZ y)
   rw[W]at NQ
   have htL:=hL t V
   refine St.wf g.nv.1 (λY _=> ?_)
   have htw:aa t.type:=Y t V
   refine St.cL cB g.nodes (x:=t) V ?_;refine St.ea (sl au t.lv.1 t.aq) [cB t] (λρ h=>h _ (aQ ..)) ?_;refine St.wf t.lv.1 (λSG SF=> ?_);refine g8 ?_;refine St.ee (Ev.ct (.mk rfl) gD trivial (by omega) (gU (show(cX o)[k]?=some (i:Int) by rw[bQ,y];rfl))) ?_;refine g5 ?_;refine St.dc [row (.slice (some ⟨a,0,none⟩) o.length o.length) 163 2 o.length (rows bq (N))] mixed (λnp ns=> ?_);refine SW.gd 0 ?_;refine SW.gd 1 ?_;refine SW.gd 2 ?_;refine SW.gd 3 ?_;refine SW.gd 4 ?_;refine SW.gd 5 ?_;refine SW.gd 6 ?_;refine SW.gd 7 ?_;refine SW.gd 8 ?_;refine SW.dd 9 rfl (λ_=>Ev.n9 (k:=k) rfl (.mk rfl) (.mk rfl) oY jT (by omega) (by omega)) ?_;refine SW.dd 10 rfl (λ_=>Ev.jb rfl (.mk rfl) tT) ?_;refine SW.t1 11 ?_;refine St.cJ (.mk rfl) (.mk rfl) dK rfl (by omega) (by decide) ?_;refine g2 ?_;refine SW.go ?_;refine SW.dn ?_;refine g2 ?_;refine St.aM (.slice (some ⟨a,0,none⟩) o.length o.length) rfl (show _=rows bq (N.set k ⟨t.type,bT,[]⟩)from Oy X _) ?_;refine g12 ?_;refine St.dw 165 2 ?_;refine St.aM (.slice none 0 0) (show _=([]:List dx).length from rfl) (show _=rows au []from rfl) ?_;refine St.tm (ι:=Nat) (κ:=aV×List dx) (λq z T=>(60,iv q)::T) (λq z=>[row (.slice (some ⟨a,0,none⟩) o.length o.length) 163 2 o.length (rows bq (N.set k ⟨t.type,z.1,z.2⟩)),row z.1.1 165 2 (z.2).length (rows au (z.2)),aW b9 (.cells [(.slice (some ⟨a,0,none⟩) o.length o.length)].toArray 30 (0,0)),aW S (.cells [K].toArray 58 (0,0)),row K 3 1 o.length (rows aJ (cX o)),aW I (.cells [g.nv.1].toArray 30 (0,0)),aW P (.cells [(.slice none 0 0)].toArray 30 (0,0)),aW J (.cells [(.slice (some ⟨b,0,none⟩) g.nodes.length g.nodes.length)].toArray 58 (0,0)),row (.slice (some ⟨b,0,none⟩) g.nodes.length g.nodes.length) 3 1 g.nodes.length (rows aJ (po g.nodes.length o)),aB (sl au t.lv.1 t.aq),aB (aF cB N),aB (sl bq g.nv.1 g.nodes),aB (aF cB g.nodes),aB (aG g)]) (λq z=>q≤t.aq.length∧z.2.length=q∧z.2.map fP=(t.aq.take q).map (λp=>(p.dF,(o.idxOf p.tqo.toNat:Int)))∧∀x∈z.2,au.wf x) (λq z=>t.aq.length-q) 0 (bT,[]) (aD.cons 2 rfl (aD.cons 4 rfl (aD.cons 5 rfl (aD.cons 9 rfl (aD.cons 10 rfl (aD.cons 35 rfl (aD.cons 36 rfl (aD.cons 37 rfl (aD.cons 58 rfl (aD.cons 59 rfl aD.nil)))))))))) ⟨aP _,rfl,rfl,λx hx=>by cases hx⟩ ?_;rintro q ⟨lv,L⟩ ⟨hq,hLl,M,l⟩
   dsimp only at hLl M l⊢
   have s:(N.set k ⟨t.type,lv,L⟩)[k]?=some ⟨t.type,lv,L⟩:=fT (by omega)
   refine g6 ?_;refine St.cq (λZ=> ?_) (λZ=> ?_)
   ·obtain⟨p,hp⟩:=aE (show q<t.aq.length by omega)
    have u:p.tqo.toNat∈o:=NQ (fP p) (eQ (aZ hp))
    have hpi:=List.idxOf_lt_length_iff.2 u
    have hpn:=D.lt _ u
    have hp0:0≤p.tqo:=by have h0:=O.at_ (i:=i) (x:=fP p) (by rw[W];exact eQ (aZ hp));exact h0.2.1
    refine g7 ?_;refine St.ee (Ev.js (.mk rfl) hp lD trivial dm j7.eq) ?_;refine St.al (λb13=> ?_);refine g3 ?_;refine St.dc [row (.slice (some ⟨a,0,none⟩) o.length o.length) 163 2 o.length (rows bq (N.set k ⟨t.type,lv,L⟩)),row lv.1 165 2 (L).length (rows au (L))] mixed (λnp ns=> ?_);refine SW.gd 0 ?_;refine SW.gd 1 ?_;refine SW.gd 2 ?_;refine SW.gd 3 ?_;refine SW.gd 4 ?_;refine SW.gd 5 ?_;refine SW.dd 6 rfl (λ_=>Ev.n9 (k:=k) rfl (.mk rfl) (.mk rfl) oY jT (by omega) (by omega)) ?_;refine SW.dd 7 rfl (λ_=>Ev.jb rfl (.mk rfl) tU) ?_;refine SW.gd 9 ?_;refine SW.gd 10 ?_;refine SW.gd 11 ?_;refine SW.gd 12 ?_;refine SW.gd 13 ?_;refine SW.dd 14 rfl (λ_=>Ev.dZ (k:=p.tqo.toNat) (.mk rfl) (.mk rfl) bJ dK (by omega) (by omega)) ?_;refine SW.dd 15 rfl (λ_=>Ev.ct (.mk rfl) gD trivial (by omega) (gU (xx (by omega)))) ?_;refine SW.slot 79 (iv ((o.idxOf p.tqo.toNat:Nat):Int)) rfl (by rw[aC u]) ?_;refine SW.dd 16 rfl (λ_=>Ev.build (ps:=[(0,(.tmp 74)),(1,(.tmp 79))]) (bH.aX rfl rfl) (λw=>ou rfl rfl w)) ?_;refine SW.slot 80 (.agg #[iv p.dF,iv ((o.idxOf p.tqo.toNat:Nat):Int)]) rfl rfl ?_;refine SW.t2 8 17 ?_ ?_
    focus
     refine St.ee (Ev.ct (.mk rfl) eX trivial (by omega) (eO bq _ k 1 _ s (by decide))) ?_;refine g2 ?_;refine SW.go ?_;refine SW.t1 17 ?_;refine St.gV rfl (.ar rfl) eX dm kI rfl rfl (by simp[Value.cells]) rfl rfl (λb81=> ?_);refine g2 ?_;refine SW.go ?_;refine SW.t1 18 ?_;refine St.aj (.mk rfl) (.mk rfl) eX dm kI qE (by simp[Value.oneCell',Value.cells]) (by omega) (by omega) rfl rfl rfl rfl (λv82 akH=> ?_);refine St.aM v82 (show _=(L++ [(⟨p.dF,o.idxOf p.tqo.toNat⟩:dx)]).length from cS) (show _=rows au (L++ [(⟨p.dF,o.idxOf p.tqo.toNat⟩:dx)]) by rw[ay];rfl) ?_;refine St.ba v82 (λA _=> ?_);refine g2 ?_;refine SW.go ?_;refine SW.dd 19 rfl (λ_=>Ev.n9 (k:=k) rfl (.mk rfl) (.mk rfl) oY jT (by omega) (by omega)) ?_;refine SW.dd 20 rfl (λ_=>Ev.jb rfl (.mk rfl) tU) ?_;refine SW.t1 21 ?_;refine St.cJ (.mk rfl) (.mk rfl) pW A (by omega) (by decide) ?_;refine g2 ?_;refine SW.go ?_;refine SW.dn ?_
    rotate_left
    focus
     refine St.gV rfl (.ar rfl) eX dm kI rfl rfl (by simp[Value.cells]) rfl rfl (λb81=> ?_);refine g2 ?_;refine SW.go ?_;refine SW.t1 8 ?_;refine St.ee (Ev.ct (.mk rfl) eX trivial (by omega) (eO bq _ k 1 _ s (by decide))) ?_;refine g2 ?_;refine SW.go ?_;refine SW.t1 18 ?_;refine St.aj (.mk rfl) (.mk rfl) eX dm kI qE (by simp[Value.oneCell',Value.cells]) (by omega) (by omega) rfl rfl rfl rfl (λv82 akH=> ?_);refine St.aM v82 (show _=(L++ [(⟨p.dF,o.idxOf p.tqo.toNat⟩:dx)]).length from cS) (show _=rows au (L++ [(⟨p.dF,o.idxOf p.tqo.toNat⟩:dx)]) by rw[ay];rfl) ?_;refine St.ba v82 (λA _=> ?_);refine g2 ?_;refine SW.go ?_;refine SW.dd 19 rfl (λ_=>Ev.n9 (k:=k) rfl (.mk rfl) (.mk rfl) oY jT (by omega) (by omega)) ?_;refine SW.dd 20 rfl (λ_=>Ev.jb rfl (.mk rfl) tU) ?_;refine SW.t1 21 ?_;refine St.cJ (.mk rfl) (.mk rfl) pW A (by omega) (by decide) ?_;refine g2 ?_;refine SW.go ?_;refine SW.dn ?_
    all_goals
     refine g2 ?_;refine St.aM (.slice (some ⟨a,0,none⟩) o.length o.length) rfl (show _=rows bq (N.set k ⟨t.type,⟨v82,A⟩,L++ [⟨p.dF,o.idxOf p.tqo.toNat⟩]⟩)from(Ox s ⟨v82,A⟩ (L++ [⟨p.dF,o.idxOf p.tqo.toNat⟩])).trans (congrArg (rows bq) (List.set_set ..))) ?_;refine g5 ?_;refine St.ui (q+1) (⟨v82,A⟩,L++ [⟨p.dF,o.idxOf p.tqo.toNat⟩]) ⟨by omega,by dsimp only;rw[bR,hLl];rfl,by dsimp only;rw[cP,M,ag hp,cP];rfl,λx hx=>by rcases cG.1 hx with hx|hx;exact l x hx;rw[bP.1 hx];exact⟨(SG p (aZ hp)).1,by show aa ((o.idxOf p.tqo.toNat:Nat):Int);unfold aa;omega⟩⟩
   ·obtain rfl:q=t.aq.length:=by omega
    rw[fZ (aR _)]at M;refine St.bS lv.1 au L rfl rfl l ?_;refine St.ea (aF cB (N.set k ⟨t.type,lv,L⟩)) [aF cB N,sl au lv.1 L] (λρ h x hx=>by rcases lI hx with hx|rfl;exact h _ (aQ ..) x hx;exact h _ (cO _ (aQ ..))) ?_
    have aiC:((N.set k ⟨t.type,lv,L⟩).take (k+1)).map mB=(o.take (k+1)).map (OX (ax g) o):=by rw[ag (fT (by omega)),ag y,List.take_set_of_le (aR _),cP,cP,f];congr 1;show [(t.type,L.map fP)]=[OX (ax g) o i];rw[M,OX,W];show _=[(t.type,(t.aq.map fP).map _)];rw[kH];rfl
    refine g11 ?_;refine St.ui (k+1) (N.set k ⟨t.type,lv,L⟩) ⟨by omega,by rw[cn];exact F,aiC,λj h1 h2=>by rw[ik (by omega)];exact G j (by omega) h2,λx hx=>by rcases lI hx with hx|rfl;exact H x hx;exact htw⟩
  ·obtain rfl:k=o.length:=by omega
   have S6:N.map mB=gl (ax g) r:=by rw[NC,C];rw[fZ (by omega),fZ (by omega)]at f;exact f
   refine St.bS (.slice (some ⟨a,0,none⟩) o.length o.length) bq N rfl F.symm H ?_;refine St.ea (aG ⟨⟨(.slice (some ⟨a,0,none⟩) o.length o.length),rfl⟩,N⟩) [sl bq (.slice (some ⟨a,0,none⟩) o.length o.length) N,aF cB N] (λρ h=>h) ?_;refine St.ea (bL (gl (ax g) r) (.agg #[(.slice (some ⟨a,0,none⟩) o.length o.length)])) [aG ⟨⟨(.slice (some ⟨a,0,none⟩) o.length o.length),rfl⟩,N⟩] (λρ h=>⟨⟨⟨(.slice (some ⟨a,0,none⟩) o.length o.length),rfl⟩,N⟩,rfl,S6,h _ (aQ ..)⟩) ?_;refine g12 ?_;refine St.rV [_] [aB (bL (gl (ax g) r) (.agg #[(.slice (some ⟨a,0,none⟩) o.length o.length)]))] ?_;exact rfl
theorem Sw {T:List eo}{a b:Nat}(h:both T a b=0):hC T a b=none:=by
 unfold hC
 cases e:comm T a b with
 |nil=>rfl
 |cons m r=>
  have:m∈comm T a b:=by rw[e];exact aQ ..
  rw[l7,h,Nat.zero_testBit]at this;cases this
theorem aeB {T:List eo}{a b m:Nat}(h:(both T a b).testBit m=true)(g:∀i,i<m→(both T a b).testBit i=false):hC T a b=if kD T a b=true then none else some m:=by
 have hm:=l7.2 h
 unfold hC
 cases e:comm T a b with
 |nil=>rw[e]at hm;cases hm
 |cons c r=>
  have hp:(comm T a b).Pairwise (· < ·):=by unfold comm;exact List.Pairwise.filter _ List.pairwise_lt_range
  rw[e]at hp
  have j:c∈comm T a b:=by rw[e];exact aQ ..
  have e2:c=m:=by
   rw[e]at hm
   rcases cK.1 hm with d|d
   ·exact d.symm
   ·have k:=(jW.1 hp).1 m d
    have f:=g c k
    rw[l7.1 j]at f;cases f
  subst e2;rfl
theorem zD (T:List eo):yF T.length (hC T):=λa b m h=>by
 unfold hC at h
 split at h
 ·cases h
 ·rename_i c r e
  split at h
  ·cases h
  ·obtain rfl:=Option.some.inj h
   have:c∈comm T a b:=by rw[e];exact aQ ..
   unfold comm at this;exact dt.1 (wj.1 this).1
def mtV (o:Option Nat)(wr:Bool):Value:= .tuple #[iv ((o.getD 0:Nat):Int),.bool o.isSome,.bool wr]
theorem yC (e f:aV)(T:List eo)(l:ir T)(a b:Nat)(o:a<T.length)(p:b<T.length):dz prog 80 #[kB e f,iv a,iv b] ([sl bI e.1 (dg T),sl bI f.1 (de T),tz].map aB) (λv H'=>v=mtV (hC T a b) (kD T a b)∧H'=[]):=by
 refine dz.body (args:=[kB e f,iv a,iv b]) 33 func80 rfl ntmps80 rfl (λc=> ?_);refine St.cast (H':=[aB (sl bI e.1 (dg T)),aB (sl bI f.1 (de T)),aB (tz)]) rfl ?_;refine go ?_
 have j:=l.len
 have t:=EH T
 refine go ?_;refine St.dJ (.mk rfl) rfl (λu=> ?_);refine g6 ?_;refine St.rq mixed (by kernel_rfl) (Mm.drawn _ _) ?_;refine g4 ?_;refine Sq.ee (Ev.ld1 (.mk rfl) (oD o) lf trivial rfl) ?_;refine g4 ?_;refine Sq.ee (Ev.ld1 (.mk rfl) (oD p) lf trivial rfl) ?_;refine Sq.ee (Ev.Ym (.mk rfl) (.mk rfl) ⟨nI _ _ j,nI _ _ j⟩) ?_;refine g5 ?_;refine St.slot 9 (uv (both T a b)) rfl rfl ?_
 have m:both T a b<18446744073709551616:=wB Nat.and_le_left (nI _ _ j)
 refine g5 ?_;refine St.cq (λq=> ?_) (λq=> ?_)
 ·have g:both T a b=0:=by omega
  refine g9 ?_;refine St.rV [_,_,_] [] ?_;exact⟨by rw[A2 g,Sw g];rfl,rfl⟩
 ·have g:both T a b≠0:=by omega
  obtain⟨h,n⟩:=EF g m
  have r:Lib.ctz 64 (both T a b)<T.length:=by rw[o9,rY,gq]at h;exact h.1
  have d:=G5 l h n
  have i:=aeB h n
  refine g5 ?_;refine St.ee (Ev.call (Jn (both T a b) m) U8 (.ar rfl)) ?_;refine g9 ?_;refine St.ee (Ev.cE (k:=(Lib.ctz 64 (both T a b))) (.mk rfl) (.mk rfl) vu lB (by omega) (by omega)) ?_;refine St.ee (Ev.ld1 (.mk rfl) (oD r) lf trivial rfl) ?_;refine g4 ?_;refine St.cq (λs=> ?_) (λs=> ?_)
  ·rw[eB (by omega)]at d
   rw[aC d]at i;refine g9 ?_;refine St.rV [_,_,_] [] ?_;exact⟨by rw[d,i];rfl,rfl⟩
  ·rw[fI (by omega)]at d
   rw[aA (by rw[d];decide)]at i;refine g11 ?_;refine St.rV [_,_,_] [] ?_;exact⟨by rw[d,i];rfl,rfl⟩
theorem find_spec (e:Nat)(g h:aV)(pv tv lv:Value)(rk:Nat→Nat)(B:Nat)(R:List Nat)(I:R.length≤1000000)(P0:List Nat)(x:Qo rk B P0 R)(i0:Nat)(j:i0<R.length):dz prog 150 #[.pointer (some ⟨e,0,none⟩),iv i0] [aW e (.cells [g.1,h.1,pv,tv,lv].toArray 245 (0,0)),row pv 3 1 R.length (rows aJ (cX (P0)))] (λv H'=>∃t,v=iv ((R.getD i0 0:Nat):Int)∧Qo rk B t R∧H'=[aW e (.cells [g.1,h.1,pv,tv,lv].toArray 245 (0,0)),row pv 3 1 R.length (rows aJ (cX (t)))]):=by
 refine dz.body (args:=[.pointer (some ⟨e,0,none⟩),iv i0]) 41 func150 rfl ntmps150 rfl (λc=> ?_);refine g7 ?_;refine St.tm (ι:=Nat) (κ:=List Nat) (λi Q T=>(1,iv i)::T) (λi Q=>[aW e (.cells [g.1,h.1,pv,tv,lv].toArray 245 (0,0)),row pv 3 1 R.length (rows aJ (cX (Q)))]) (λi Q=>i<R.length∧Qo rk B Q R∧R.getD i 0=R.getD i0 0) (λi Q=>B-rk i) i0 P0 (aD.cons 0 rfl (aD.cons 4 rfl aD.nil)) ⟨j,x,rfl⟩ ?_;rintro i Q ⟨l,f,y⟩
 have A:=f.len
 obtain⟨a,m⟩:=aE (show i<Q.length by omega)
 have d:Q.getD i 0=a:=by rw[aw,m];rfl
 have C:=f.lt i l
 rw[d]at C;refine St.lA pv (by omega) (λbs cs n=> ?_);refine g9 ?_;refine St.ee (Ev.ct (.mk rfl) gD trivial (by omega) (gU (show(cX Q)[i]?=some (a:Int) by rw[bQ,m];rfl))) ?_;refine g4 ?_;refine St.cq (λo=> ?_) (λo=> ?_)
 ·have D:Q.getD i 0≠i:=by rw[d];omega
  obtain⟨b,u⟩:=aE (show a<Q.length by omega)
  have p:Q.getD a 0=b:=by rw[aw,u];rfl
  obtain⟨w,E,F,q⟩:=f.abO l D;rw[d,p]at w E F q;refine g4 ?_;refine St.dc [row pv 3 1 R.length (rows aJ (cX (Q)))] mixed (λJ K=> ?_);refine SW.gd 0 ?_;refine SW.gd 1 ?_;refine SW.gd 2 ?_;refine SW.gd 3 ?_;refine SW.gd 4 ?_;refine SW.gd 5 ?_;refine SW.gd 6 ?_;refine SW.gd 7 ?_;refine SW.gd 8 ?_;refine SW.gd 9 ?_;refine SW.gd 10 ?_;refine SW.gd 11 ?_;refine SW.gd 12 ?_;refine SW.gd 13 ?_;refine SW.dd 14 rfl (λ_=>Ev.n9 (k:=i) n (.mk rfl) (.mk rfl) bJ dK (by omega) (by omega)) ?_;refine SW.t1 15 ?_;refine St.ee (Ev.ct (.mk rfl) gD trivial (by omega) (gU (show(cX Q)[i]?=some (a:Int) by rw[bQ,m];rfl))) ?_;refine g2 ?_;refine SW.go ?_;refine SW.dd 16 rfl (λ_=>Ev.n9 (k:=a) n (.mk rfl) (.mk rfl) bJ dK (by omega) (by omega)) ?_;refine SW.t1 17 ?_;refine St.ee (Ev.ct (.mk rfl) gD trivial (by omega) (gU (show(cX Q)[a]?=some (b:Int) by rw[bQ,u];rfl))) ?_;refine g2 ?_;refine SW.go ?_;refine SW.dd 18 rfl (λ_=>Ev.n9 (k:=i) n (.mk rfl) (.mk rfl) bJ dK (by omega) (by omega)) ?_;refine SW.t1 19 ?_;refine St.cJ (.mk rfl) (.mk rfl) dK rfl (by omega) (by decide) ?_;refine g2 ?_;refine SW.go ?_;refine SW.dn ?_;refine go ?_;refine St.aM pv rfl (show _=rows aJ (cX (Q.set i b)) by rw[jB,cX,cX,jm]) ?_
  have r:(Q.set i b)[i]?=some b:=fT (by omega)
  refine g7 ?_;refine St.ee (Ev.ct (.mk rfl) gD trivial (by omega) (gU (show(cX (Q.set i b))[i]?=some (b:Int) by rw[bQ,r];rfl))) ?_;refine g4 ?_;refine St.nG b (Q.set i b) ⟨by omega,w,by omega⟩ (by have:=f.le b (by omega);omega) (by repeat(first|exact Sub.nil|refine Sub.cons (by first|rfl|exact congrArg (λz=>some (iv z)) (by first|omega|(dsimp only;omega))|exact congrArg (λz=>some (Value.bool z)) (by first|assumption|exact ig (by assumption))) ?_)) (λ_ hw=>hw.sub)
 ·have s:Q.getD i 0=i:=by rw[d];omega
  have G:=(f.me i l).1 s
  have H:R.getD i0 0=i:=by omega
  refine g12 ?_;refine St.rV [_] [aW e (.cells [g.1,h.1,pv,tv,lv].toArray 245 (0,0)),row pv 3 1 R.length (rows aJ (cX (Q)))] ?_;exact⟨Q,by rw[H];rfl,f,rfl⟩
abbrev CG:=aV×List dx
def pk (q:CG):du:=sl au q.1.1 q.2
def zA (q:CG):kq:=q.2.map fP
def shf (n:Nat)(p:dx):dx:=⟨p.dF,(n:Int)+p.tqo⟩
theorem BW (p:dx):∀(l:List dx) (k:Nat),((rows au l).set (k*2) (iv p.dF)).set (k*2+1) (iv p.tqo)=rows au (l.set k p)
 | [],k=>by simp[rows]
 |a::l,0=>rfl
 |a::l,k+1=>by
  have:=BW p l k
  show((au.cells a++rows au l).set ((k+1)*2) _).set ((k+1)*2+1) _=au.cells a++rows au (l.set k p)
  rw[←this,show(k+1)*2=2+k*2 by omega,lJ _ _ (by show 2≤_;omega),lJ _ _ (by show 2≤_;omega)]
  congr 2
  ·congr 1;show 2+k*2-2=_;omega
  ·show 2+k*2+1-2=_;omega
theorem FM (n:Nat):rows aJ (cX (List.range n))++ [iv (n:Nat)]=rows aJ (cX (List.range (n+1))):=by
 rw[ua];exact vY (Int.natCast_nonneg n)
theorem uF (l:Nat)(s u:aV)(g:dD)(Y:sx (ax g))(hn:g.nodes.length≤120)(Z:∀t∈g.nodes,t.aq.length≤1000000)(n0:Nat)(hn0:n0≤120)(a:List Int)(ht0:a.length=n0)(f:List CG)(hl0:f.length=n0)(d b e:Value)(ho:d.oneCell'=true∧b.oneCell'=true∧e.oneCell'=true):dz prog 128 #[.pointer (some ⟨l,0,none⟩),bA g] [aW l (.cells [s.1,u.1,d,b,e].toArray 245 (0,0)),row d 3 1 (List.range n0).length (rows aJ (cX (List.range n0))),row b 3 1 (a).length (rows aJ (a)),row e 161 1 (f).length (rows bN ((f).map Prod.fst)),aB (aF pk (f)),aB (aG g)] (λv H'=>∃(pv tv lv:Value) (ls:List CG),v=iv (n0:Nat)∧(pv.oneCell'=true∧tv.oneCell'=true∧lv.oneCell'=true)∧ls.map zA=f.map zA++(ax g).map (λn=>n.2.map λx=>(x.1,(n0:Int)+x.2))∧H'=[aW l (.cells [s.1,u.1,pv,tv,lv].toArray 245 (0,0)),row pv 3 1 (List.range (n0+g.nodes.length)).length (rows aJ (cX (List.range (n0+g.nodes.length)))),row tv 3 1 (a++g.nodes.map dh.type).length (rows aJ (a++g.nodes.map dh.type)),row lv 161 1 (ls).length (rows bN ((ls).map Prod.fst)),aB (aF pk (ls))]):=by
 refine dz.body (args:=[.pointer (some ⟨l,0,none⟩),bA g]) 82 func128 rfl ntmps128 rfl (λc=> ?_);refine go ?_
 refine St.jQ (aG g) (λ_:Unit=>kb g) (λρ h=>⟨(),h⟩) λ_=> ?_
 refine St.cast (H':=[aB (sl bq g.nv.1 g.nodes),aB (aF cB g.nodes),aW l (.cells [s.1,u.1,d,b,e].toArray 245 (0,0)),row d 3 1 (List.range n0).length (rows aJ (cX (List.range n0))),row b 3 1 (a).length (rows aJ (a)),row e 161 1 (f).length (rows bN ((f).map Prod.fst)),aB (aF pk (f)),aB (aG g)]) rfl ?_
 have hgl:=cy g
 obtain⟨F,G,H⟩:=ho;refine go ?_;refine St.dJ (.mk rfl) rfl (λP=> ?_);refine g10 ?_;refine St.slot 15 (iv (n0:Nat)) rfl (congrArg iv (by omega)) ?_;refine g13 ?_;refine St.aM b (show _=(a++(g.nodes.take (0)).map dh.type).length by rw[A9,lh,gu]) (show _=rows aJ (a++(g.nodes.take (0)).map dh.type) by rw[A9,lh,gu]) ?_;refine St.tm (ι:=Nat) (κ:=Value×Value×Value×List CG) (λk z T=>(19,iv k)::T) (λk z=>[aW l (.cells [s.1,u.1,z.1,z.2.1,z.2.2.1].toArray 245 (0,0)),row z.1 3 1 (List.range (n0+k)).length (rows aJ (cX (List.range (n0+k)))),row z.2.1 3 1 (a++(g.nodes.take (k)).map dh.type).length (rows aJ (a++(g.nodes.take (k)).map dh.type)),row z.2.2.1 161 1 (z.2.2.2).length (rows bN ((z.2.2.2).map Prod.fst)),aB (aF pk (z.2.2.2)),aW P (.cells [g.nv.1].toArray 30 (0,0)),aB (sl bq g.nv.1 g.nodes),aB (aF cB g.nodes)]) (λk z=>k≤g.nodes.length∧(z.1.oneCell'=true∧z.2.1.oneCell'=true∧z.2.2.1.oneCell'=true)∧z.2.2.2.length=n0+k∧z.2.2.2.map zA=f.map zA++((ax g).take k).map (λn=>n.2.map λx=>(x.1,(n0:Int)+x.2))) (λk z=>g.nodes.length-k) 0 (d,b,e,f) (aD.cons 0 rfl (aD.cons 4 rfl (aD.cons 5 rfl (aD.cons 17 rfl (aD.cons 18 rfl aD.nil))))) ⟨aP _,⟨F,G,H⟩,hl0,by rw[A9,lh,gu]⟩ ?_;rintro k ⟨pv,tv,lv,ls⟩ ⟨hk,⟨h1,Q,R⟩,S,o⟩
 dsimp only at h1 Q R S o⊢
 have hTl:(a++(g.nodes.take (k)).map dh.type).length=n0+k:=by rw[bR,aO,eU];omega
 have hRl:(List.range (n0+k)).length=n0+k:=jV
 refine g6 ?_;refine St.cq (λI=> ?_) (λI=> ?_)
 ·obtain⟨t,ht⟩:=aE (show k<g.nodes.length by omega)
  have U:=aZ ht
  have htL:=Z t U
  have l6:=ka ht
  refine St.cL cB g.nodes (x:=t) U ?_;refine St.ea (sl au t.lv.1 t.aq) [cB t] (λρ h=>h _ (aQ ..)) ?_;refine St.wf t.lv.1 (λSG SF=> ?_);refine g8 ?_;refine St.ee (Ev.js (.mk rfl) ht wY trivial jT j7.eq) ?_;refine St.al (λb7=> ?_);refine g9 ?_;refine St.nL (Rr:=au) (g:=(⟨0,0⟩:dx)) (m:=t.aq.length) (sz:=2) rfl (.mk rfl) (.mk rfl) eX dm kI qE rfl rfl (by omega) rfl rfl (λj=> ?_);refine g13 ?_;refine St.tm (ι:=Nat) (κ:=List dx) (λq M T=>(31,iv q)::T) (λq M=>[row (.slice (some ⟨j,0,none⟩) t.aq.length t.aq.length) 165 2 t.aq.length (rows au (M)),aW b7 (.cells [iv t.type,t.lv.1].toArray 163 (0,0)),aW l (.cells [s.1,u.1,pv,tv,lv].toArray 245 (0,0)),row pv 3 1 (List.range (n0+k)).length (rows aJ (cX (List.range (n0+k)))),row tv 3 1 (a++(g.nodes.take (k)).map dh.type).length (rows aJ (a++(g.nodes.take (k)).map dh.type)),row lv 161 1 (ls).length (rows bN ((ls).map Prod.fst)),aB (aF pk (ls)),aW P (.cells [g.nv.1].toArray 30 (0,0)),aB (sl bq g.nv.1 g.nodes),aB (aF cB g.nodes),aB (sl au t.lv.1 t.aq)]) (λq M=>q≤t.aq.length∧M.length=t.aq.length∧M.take q=(t.aq.take q).map (shf n0)∧∀x∈M,au.wf x) (λq M=>t.aq.length-q) 0 (List.replicate t.aq.length (⟨0,0⟩:dx)) (aD.cons 0 rfl (aD.cons 4 rfl (aD.cons 5 rfl (aD.cons 6 rfl (aD.cons 7 rfl (aD.cons 8 rfl (aD.cons 17 rfl (aD.cons 18 rfl (aD.cons 19 rfl (aD.cons 29 rfl (aD.cons 30 rfl aD.nil))))))))))) ⟨aP _,by simp,rfl,λx hx=>by rw[List.eq_of_mem_replicate hx];exact⟨by unfold aa;decide,by unfold aa;decide⟩⟩ ?_;rintro q M ⟨hq,A,y,B⟩;refine g6 ?_;refine St.cq (λJ=> ?_) (λJ=> ?_)
  ·obtain⟨p,hp⟩:=aE (show q<t.aq.length by omega)
   have C:=aZ hp
   obtain⟨_,V,W⟩:=Y.at_ (i:=k) (x:=fP p) (by rw[aw,l6];exact eQ C)
   replace V:0≤p.tqo:=V
   replace W:p.tqo.toNat<(ax g).length:=W
   have K:au.wf (shf n0 p):=⟨(SG p C).1,by show aa ((n0:Int)+p.tqo);unfold aa;omega⟩
   refine g8 ?_;refine St.ee (Ev.js (.mk rfl) hp lD trivial dm j7.eq) ?_;refine St.al (λb10=> ?_);refine g13 ?_;refine St.ee (Ev.build (bH.aX rfl rfl) (λw=>ou rfl rfl w)) ?_;refine St.slot 44 (.agg #[iv p.dF,iv ((n0:Int)+p.tqo)]) rfl rfl ?_;refine go ?_;refine St.La (k:=q) (.mk rfl) (.mk rfl) dm rfl rfl (by omega) ?_;refine St.aM (.slice (some ⟨j,0,none⟩) t.aq.length t.aq.length) rfl (BW (shf n0 p) M q) ?_;refine g8 ?_;refine St.ui (q+1) (M.set q (shf n0 p)) ⟨by omega,by rw[cn];exact A,by rw[ag (fT (by omega)),List.take_set_of_le (aR _),y,ag hp,cP];rfl,λx hx=>by rcases lI hx with hx|rfl;exact B x hx;exact K⟩
  ·obtain rfl:q=t.aq.length:=by omega
   rw[fZ (by omega),fZ (aR _)]at y;refine St.bS (.slice (some ⟨j,0,none⟩) t.aq.length t.aq.length) au M rfl A.symm B ?_;refine St.ea (aF pk (ls++ [(⟨(.slice (some ⟨j,0,none⟩) t.aq.length t.aq.length),rfl⟩,M)])) [aF pk ls,sl au (.slice (some ⟨j,0,none⟩) t.aq.length t.aq.length) M] (λρ h x hx=>by rcases cG.1 hx with hx|hx;exact h _ (aQ ..) x hx;rw[bP.1 hx];exact h _ (cO _ (aQ ..))) ?_
   have L:(ls++ [((⟨(.slice (some ⟨j,0,none⟩) t.aq.length t.aq.length),rfl⟩:aV),M)]).map zA=f.map zA++((ax g).take (k+1)).map (λn=>n.2.map λx=>(x.1,(n0:Int)+x.2)):=by rw[cP,o,ag l6,cP,dq];congr 2;show [M.map fP]=[(t.aq.map fP).map _];rw[y,kH,kH];rfl
   refine g15 ?_;refine St.slot 54 (iv ((n0+k:Nat):Int)) rfl (congrArg iv (by omega)) ?_;refine St.gV rfl (.ar rfl) bJ dK eT rfl rfl (by simp[Value.cells]) rfl rfl (λb55=> ?_);refine St.aj (.mk rfl) (.mk rfl) bJ dK eT xT (by simp[Value.oneCell',Value.cells]) (by omega) (by omega) rfl rfl rfl rfl (λE anT=> ?_);refine St.aM E (show _=(List.range (n0+(k+1))).length by rw[jV,jV];omega) (show _=rows aJ (cX (List.range (n0+(k+1))))from FM (n0+k)) ?_;refine St.ba E (λD _=> ?_);refine g2 ?_;refine St.cI (.mk rfl) (.mk rfl) fD D (by rfl) ?_;refine g3 ?_;refine St.dc [row tv 3 1 (a++(g.nodes.take (k)).map dh.type).length (rows aJ (a++(g.nodes.take (k)).map dh.type)),aW l (.cells [s.1,u.1,E,tv,lv].toArray 245 (0,0))] mixed (λnp ns=> ?_);refine SW.gd 0 ?_;refine SW.gd 1 ?_;refine SW.gd 2 ?_;refine SW.gd 3 ?_;refine SW.gd 5 ?_;refine SW.gd 6 ?_;refine SW.t2 4 7 ?_ ?_
   focus
    refine g3 ?_;refine SW.go ?_;refine SW.t1 7 ?_;refine St.gV rfl (.ar rfl) bJ dK eT rfl rfl (by simp[Value.cells]) rfl rfl (λN=> ?_);refine g2 ?_;refine SW.go ?_;refine SW.t1 8 ?_;refine St.aj (.mk rfl) (.mk rfl) bJ dK eT xT (by simp[Value.oneCell',Value.cells]) (by omega) (by omega) rfl rfl rfl rfl (λv67 O=> ?_);refine St.aM v67 (show _=(a++(g.nodes.take (k+1)).map dh.type).length by rw[ag ht,cP,←dq];exact cS) (show _=rows aJ (a++(g.nodes.take (k+1)).map dh.type) by rw[ag ht,cP,←dq];exact(ay aJ _ t.type).symm) ?_;refine St.ba v67 (λr _=> ?_);refine g2 ?_;refine SW.go ?_;refine SW.gd 9 ?_;refine SW.gd 10 ?_;refine SW.t1 11 ?_;refine St.cI (.mk rfl) (.mk rfl) fD r (by rfl) ?_;refine g2 ?_;refine SW.go ?_;refine SW.dn ?_
   rotate_left
   focus
    refine St.gV rfl (.ar rfl) bJ dK eT rfl rfl (by simp[Value.cells]) rfl rfl (λN=> ?_);refine g2 ?_;refine SW.go ?_;refine SW.t1 4 ?_;refine g3 ?_;refine SW.go ?_;refine SW.t1 8 ?_;refine St.aj (.mk rfl) (.mk rfl) bJ dK eT xT (by simp[Value.oneCell',Value.cells]) (by omega) (by omega) rfl rfl rfl rfl (λv67 O=> ?_);refine St.aM v67 (show _=(a++(g.nodes.take (k+1)).map dh.type).length by rw[ag ht,cP,←dq];exact cS) (show _=rows aJ (a++(g.nodes.take (k+1)).map dh.type) by rw[ag ht,cP,←dq];exact(ay aJ _ t.type).symm) ?_;refine St.ba v67 (λr _=> ?_);refine g2 ?_;refine SW.go ?_;refine SW.gd 9 ?_;refine SW.gd 10 ?_;refine SW.t1 11 ?_;refine St.cI (.mk rfl) (.mk rfl) fD r (by rfl) ?_;refine g2 ?_;refine SW.go ?_;refine SW.dn ?_
   all_goals
    refine g8 ?_;refine St.gV rfl (.ar rfl) Bq pW QL rfl rfl (by simp[Value.cells]) rfl rfl (λb76=> ?_);refine St.aj (.mk rfl) (.mk rfl) Bq pW QL Z5 (by simp[Value.oneCell',Value.cells]) (by omega) (by omega) rfl rfl rfl rfl (λv77 anW=> ?_);refine St.aM v77 (show _=(ls++ [((⟨(.slice (some ⟨j,0,none⟩) t.aq.length t.aq.length),rfl⟩:aV),M)]).length from cS) (show _=rows bN ((ls++ [((⟨(.slice (some ⟨j,0,none⟩) t.aq.length t.aq.length),rfl⟩:aV),M)]).map Prod.fst) by rw[cP];exact(ay bN _ (⟨(.slice (some ⟨j,0,none⟩) t.aq.length t.aq.length),rfl⟩:aV)).symm) ?_;refine St.ba v77 (λX _=> ?_);refine g2 ?_;refine St.cI (.mk rfl) (.mk rfl) ae6 X (by rfl) ?_;refine g8 ?_;refine St.ui (k+1) (E,v67,v77,ls++ [(⟨(.slice (some ⟨j,0,none⟩) t.aq.length t.aq.length),rfl⟩,M)]) ⟨by omega,⟨D,r,X⟩,by dsimp only;rw[bR,S];rfl,L⟩
 ·obtain rfl:k=g.nodes.length:=by omega
  have Ki:(ax g).take g.nodes.length=ax g:=fZ (by omega)
  rw[Ki]at o;rw[fZ (aR _)];refine g12 ?_;refine St.rV [_] [aW l (.cells [s.1,u.1,pv,tv,lv].toArray 245 (0,0)),row pv 3 1 (List.range (n0+g.nodes.length)).length (rows aJ (cX (List.range (n0+g.nodes.length)))),row tv 3 1 (a++g.nodes.map dh.type).length (rows aJ (a++g.nodes.map dh.type)),row lv 161 1 (ls).length (rows bN ((ls).map Prod.fst)),aB (aF pk (ls))] ?_;exact⟨pv,tv,lv,ls,rfl,⟨h1,Q,R⟩,o,rfl⟩
theorem Hm {α:Type}(R:Rp α)(a b:List α):rows R (a++b)=rows R a++rows R b:=Bx
theorem Kh (n:Nat)(q:n≤100000000):dz prog 174 #[.slice none 0 0,iv n] [] (λv H'=>v.oneCell'=true∧H'=[row v 165 2 0 []]):=by
 intro w ρ o
 have c:ez ⟨w,ρ,jo [],True⟩ [] ρ w:=o
 by_cases hz:n=0
 ·subst hz
  refine(Any8.slices_Grow_room Tryz.Nz none 0 0 0 w (aR _) (by decide) (by decide) (aR _)).mono ?_;rintro e w' ⟨rfl,rfl⟩;refine⟨_,_,rfl,⟨rfl,rfl⟩,Mm.mk (ρ:=ρ) ?_⟩;refine⟨c.os,c.tape,c.output,c.size,c.AD,c.fits,c.le,c.new,λE i=> ?_,λE i b d=> ?_,GC _ _⟩
  ·rw[bP.1 i];exact eN.2 ⟨rfl,.inl ⟨rfl,rfl⟩⟩
  ·rw[bP.1 i,eI]at d;cases d
 ·obtain⟨i0,f,r⟩:=dp.1 dm
  obtain⟨i1,m,j⟩:=dp.1 qE;obtain⟨i2,g,l⟩:=pN.1 kI;rw[f]at m g;obtain rfl:=Option.some.inj m;obtain rfl:=Option.some.inj g;refine(Any8.slices_Grow_grow Tryz.Nz i0 _ f l (by omega) none 0 0 n [] w (aR _) (by omega) (by rw[j];omega) (by omega) (by simp) (λ_=>rfl) (λa h=>by cases h)).mono ?_;rintro e w' ⟨rfl,rfl⟩;rw[iW,Nat.sub_zero]
  have p:=grownCap_ge w n 0 165
  have hle:=grownCap_le_maxLen w n 0 165 (by unfold maxLen;omega)
  refine⟨_,_,rfl,⟨rfl,rfl⟩,Mm.mk (ρ:=ρ) ?_⟩;refine c.drawn.Aj rfl ⟨rfl,aR _⟩ rfl (by show w.heap.size≤(w.heap.push _).size;simp) (λk hk=>RowKit.Below.heap_alloc w.drew _ k hk) (eN.2 ⟨rfl,.inr ⟨w.heap.size,_,_,rfl,aP _,heap_alloc_new w.drew _,aP _,hle,?_,by simp⟩⟩) ?_
  ·simp only[Array.size_append,List.size_toArray,List.length_nil,size_zeroCells]
   show 0+n*2+(grownCap w n 0 165-n)*2=grownCap w n 0 165*2
   omega
  ·intro b d;rw[eI]at d;simp[Value.ownBlock]at d;show w.heap.size≤b;omega
theorem ED (d:Value)(vs:List CG)(n:vs.length≤10)(j:∀q∈vs,q.2.length≤2000000):dz prog 151 #[d] ([sl bN d (vs.map Prod.fst),aF pk vs].map aB) (λv H'=>v.oneCell'=true∧H'=[row v 165 2 ((vs.map Prod.snd).flatten).length (rows au (vs.map Prod.snd).flatten)]):=by
 refine dz.body (args:=[d]) 36 func151 rfl ntmps151 rfl (λc=> ?_);refine St.cast (H':=[aB (sl bN d (vs.map Prod.fst)),aB (aF pk vs)]) rfl ?_;refine go ?_
 have o:(vs.map Prod.fst).length=vs.length:=aO _
 refine g18 ?_;refine St.lH (ι:=Nat) (λk T=>(11,iv k)::(3,iv ((((vs.take k).map Prod.snd).flatten).length:Nat))::T) (λk=>[aB (sl bN d (vs.map Prod.fst)),aB (aF pk vs)]) (λk=>k≤vs.length∧(((vs.take k).map Prod.snd).flatten).length≤2000000*k) (λk=>vs.length-k) 0 (aD.cons 0 rfl (aD.cons 2 rfl (aD.cons 9 rfl (aD.cons 10 rfl aD.nil)))) ⟨aP _,aP _⟩ ?_;rintro k ⟨hk,l⟩;refine g6 ?_;refine St.cq (λp=> ?_) (λp=> ?_)
 ·obtain⟨q,a⟩:=aE (show k<vs.length by omega)
  have e:=aZ a
  have r:=j q e
  have f:(((vs.take (k+1)).map Prod.snd).flatten).length=(((vs.take k).map Prod.snd).flatten).length+q.2.length:=by rw[ag a,cP,List.flatten_append,bR];simp
  refine St.cL pk vs (x:=q) e ?_;refine St.ea (sl au q.1.1 q.2) [pk q] (λρ h=>h _ (aQ ..)) ?_;refine g7 ?_;refine St.ee (Ev.ld1 (.mk rfl) (show(vs.map Prod.fst)[k]?=some q.1 by rw[bQ,a];rfl) eX trivial rfl) ?_;refine g9 ?_;refine St.slot 18 (iv ((((vs.take (k+1)).map Prod.snd).flatten).length:Nat)) rfl (congrArg iv (by omega)) ?_;refine g9 ?_;refine St.rm _ rfl (fI (by omega)) ?_;refine g8 ?_;refine St.aH (k+1) ⟨by omega,by omega⟩
 ·obtain rfl:k=vs.length:=by omega
  rw[fZ (aR _)]at l⊢
  obtain⟨g,m⟩:∃g,g=(vs.map Prod.snd).flatten:=⟨_,rfl⟩
  rw[←m]at l⊢;refine g8 ?_;refine St.call (Kh g.length (by omega)) Zi (.aX rfl rfl) rfl ?_;rintro v24 _ ⟨i,rfl⟩;refine St.ao ?_;refine St.aM v24 (show _=([]:List dx).length from rfl) (show _=rows au []from rfl) ?_;refine g12 ?_;refine St.aM v24 (show _=(((vs.take 0).map Prod.snd).flatten).length from rfl) (show _=rows au (((vs.take 0).map Prod.snd).flatten)from rfl) ?_;refine St.tm (ι:=Nat) (κ:=Value) (λk z T=>(27,iv k)::(6,z)::T) (λk z=>[row z 165 2 (((vs.take k).map Prod.snd).flatten).length (rows au (((vs.take k).map Prod.snd).flatten)),aB (sl bN d (vs.map Prod.fst)),aB (aF pk vs)]) (λk z=>k≤vs.length∧z.oneCell'=true∧(((vs.take k).map Prod.snd).flatten).length≤2000000*k) (λk z=>vs.length-k) 0 v24 (aD.cons 2 rfl (aD.cons 25 rfl (aD.cons 26 rfl aD.nil))) ⟨aP _,i,aP _⟩ ?_;rintro k z ⟨hk,hz,w⟩;refine g6 ?_;refine St.cq (λs=> ?_) (λs=> ?_)
  ·obtain⟨q,a⟩:=aE (show k<vs.length by omega)
   have e:=aZ a
   have r:=j q e
   have b:((vs.take (k+1)).map Prod.snd).flatten=((vs.take k).map Prod.snd).flatten++q.2:=by rw[ag a,cP,List.flatten_append];simp
   have f:=congrArg List.length b
   rw[bR]at f;refine St.cL pk vs (x:=q) e ?_;refine St.ea (sl au q.1.1 q.2) [pk q] (λρ h=>h _ (aQ ..)) ?_;refine g7 ?_;refine St.ee (Ev.ld1 (.mk rfl) (show(vs.map Prod.fst)[k]?=some q.1 by rw[bQ,a];rfl) eX trivial rfl) ?_;refine g6 ?_;refine St.yO (.mk rfl) (.mk rfl) eX dm kI qE (zT au _) (by omega) (by omega) rfl rfl trivial rfl (λv33 t=> ?_);refine St.aM v33 (show _=(((vs.take (k+1)).map Prod.snd).flatten).length by rw[b,bR]) (show _=rows au (((vs.take (k+1)).map Prod.snd).flatten) by rw[b,Hm]) ?_;rw[show au.size=2 from rfl];refine St.ba v33 (λu _=> ?_);refine g9 ?_;refine St.ui (k+1) v33 ⟨by omega,u,by omega⟩
  ·obtain rfl:k=vs.length:=by omega
   rw[fZ (aR _)];refine g12 ?_;refine St.rV [_] [row z 165 2 ((vs.map Prod.snd).flatten).length (rows au (vs.map Prod.snd).flatten)] ?_;exact⟨hz,by rw[m];rfl⟩
theorem LO {α:Type}(R:Rp α){l:List α}{x:α}{j:Nat}(h:j<R.size):(rows R (l++ [x]))[l.length*R.size+j]?=(R.cells x)[j]?:=
 eO R (l++ [x]) l.length j x (by rw[lg (aR _),fh];rfl) h
theorem zR {α:Type}(R:Rp α){l:List α}{x:α}{j k:Nat}(hk:l.length=k)(h:j<R.size):(rows R (l++ [x]))[k*R.size+j]?=(R.cells x)[j]?:=by subst hk;exact LO R h
theorem Ph {p:Pl}{i:Nat}(h:i<p.ty.length):p.ty[i]?=some (p.tt i):=by
 unfold Pl.tt;rw[aw,bU h];rfl
theorem zS (l:List aV)(k:Nat)(v:aV):(rows bN l).set (k*1+0) v.1=rows bN (l.set k v):=by
 rw[gZ,j5,va,va,jm]
theorem r6 {l:List aV}{k:Nat}{v:aV}(h:l[k]?=some v):(rows bN l)[k*1+0]?=some v.1:=by
 rw[gZ,j5,va,bQ,h];rfl
theorem RP {a b:Int}(h:oC a b<0):a<b:=by unfold oC at h;split at h<;>first|assumption|(split at h<;>omega)
theorem RO {a b:Int}(h:0<oC a b):b<a:=by unfold oC at h;split at h<;>first|omega|(split at h<;>first|assumption|omega)
theorem RN {a b:Int}(h1:¬oC a b<0)(c:¬0<oC a b):a=b:=by unfold oC at h1 c;split at h1<;>first|omega|(split at c<;>omega)
theorem HM {ls:List CG}{lk:List kq}(h:ls.map zA=lk){i:Nat}{q:CG}(a:ls[i]?=some q):lk.getD i []=zA q:=by
 subst h;rw[aw,bQ,a];rfl
structure Yh (T:List eo)(nf n XI:Nat)(R:Option Pl)(W:List (Int×Int))(P0:List Nat)(p:Pl)(ls:List CG):Prop where
 pl:mM T.length nf n p
 wk:CI n W
 uf:UF P0 p.ro
 YT:ls.map zA=p.lk
 lw:∀q∈ls,∀x∈q.2,au.wf x
 eq:jC (hC T) (p.mu W) p W=R
 mu:p.mu W≤XI
theorem Kz (H:Nat)(C D:aV)(pv tv lv:Value)(ho:pv.oneCell'=true∧tv.oneCell'=true∧lv.oneCell'=true)(T:List eo)(hT:ir T)(nf n XI:Nat)(hn:n≤240)(NZ:XI≤1000000)(P0:List Nat)(p0:Pl)(YR:List CG)(a0 y:Int)(ha0:0≤a0∧a0<n)(hb0:0≤y∧y<n)(hpl:mM T.length nf n p0)(huf:UF P0 p0.ro)(Uf:YR.map zA=p0.lk)(hlw:∀q∈YR,∀x∈q.2,au.wf x)(hmu:p0.mu [(a0,y)]≤XI):dz prog 129 #[.pointer (some ⟨H,0,none⟩),iv a0,iv y] [aW H (.cells [C.1,D.1,pv,tv,lv].toArray 245 (0,0)),row pv 3 1 p0.ro.length (rows aJ (cX (P0))),row tv 3 1 p0.ty.length (rows aJ p0.ty),row lv 161 1 (YR).length (rows bN ((YR).map Prod.fst)),aB (aF pk (YR)),aB (sl bI C.1 (dg T)),aB (sl bI D.1 (de T)),aB tz] (λv H'=>∃(r:Bool) (P1:List Nat) (p:Pl) (ls:List CG),v= .bool r∧(r=false→jC (hC T) (p0.mu [(a0,y)]) p0 [(a0,y)]=none)∧(r=true→jC (hC T) (p0.mu [(a0,y)]) p0 [(a0,y)]=some p∧mM T.length nf n p∧UF P1 p.ro∧ls.map zA=p.lk∧∀q∈ls,∀x∈q.2,au.wf x)∧H'=[aW H (.cells [C.1,D.1,pv,tv,lv].toArray 245 (0,0)),row pv 3 1 p.ro.length (rows aJ (cX (P1))),row tv 3 1 p.ty.length (rows aJ p.ty),row lv 161 1 (ls).length (rows bN ((ls).map Prod.fst)),aB (aF pk (ls))]):=by
 refine dz.body (args:=[.pointer (some ⟨H,0,none⟩),iv a0,iv y]) 175 func129 rfl ntmps129 rfl (λc=> ?_);refine g10 ?_;refine St.ee (Ev.build (bH.aX rfl rfl) (λw=>yU rfl rfl w)) ?_;refine St.gV rfl (.ar rfl) wZ Bj QM rfl rfl (by simp[Value.cells]) rfl rfl (λb20=> ?_);refine St.aM (.slice (some ⟨b20,0,none⟩) 1 1) (show _=([(a0,y)]:List (Int×Int)).reverse.length from rfl) (show _=rows Lw ([(a0,y)]:List (Int×Int)).reverse from rfl) ?_;refine g4 ?_;refine St.tm (ι:=Unit) (κ:=Value×List (Int×Int)×List Nat×Pl×List CG) (λu z T=>(7,z.1)::T) (λu z=>[row z.1 270 2 (z.2.1.reverse).length (rows Lw (z.2.1.reverse)),aW H (.cells [C.1,D.1,pv,tv,lv].toArray 245 (0,0)),row pv 3 1 z.2.2.2.1.ro.length (rows aJ (cX (z.2.2.1))),row tv 3 1 z.2.2.2.1.ty.length (rows aJ z.2.2.2.1.ty),row lv 161 1 (z.2.2.2.2).length (rows bN ((z.2.2.2.2).map Prod.fst)),aB (aF pk (z.2.2.2.2)),aB (sl bI C.1 (dg T)),aB (sl bI D.1 (de T)),aB tz]) (λu z=>z.1.oneCell'=true∧Yh T nf n XI (jC (hC T) (p0.mu [(a0,y)]) p0 [(a0,y)]) z.2.1 z.2.2.1 z.2.2.2.1 z.2.2.2.2) (λu z=>z.2.2.2.1.mu z.2.1) () ((.slice (some ⟨b20,0,none⟩) 1 1),[(a0,y)],P0,p0,YR) (aD.cons 0 rfl aD.nil) ⟨rfl,hpl,λx hx=>by rw[bP.1 hx];exact⟨ha0,hb0⟩,huf,Uf,hlw,rfl,hmu⟩ ?_;rintro u ⟨wz,W,P1,p,ls⟩ ⟨hwz,e⟩
 dsimp only at hwz e⊢
 have hWl:=e.mu
 unfold Pl.mu at hWl
 have hRl:=e.pl.lr
 have hTl:=e.pl.lt
 have hLl:=e.pl.ll
 have hll:ls.length=n:=by rw[←hLl,←e.YT,aO]
 have anK:W.reverse.length=W.length:=C0
 refine g8 ?_;refine St.cq (λh23=> ?_) (λh23=> ?_)
 ·obtain⟨x,w,rfl⟩:∃x w,W=x::w:=by cases W with|nil=>(rw[List.reverse_nil]at h23;exact absurd h23 (by simp))|cons x w=>exact⟨x,w,rfl⟩
  rw[List.reverse_cons]
  have hrv:(w.reverse++ [x]).length=w.length+1:=by rw[bR,C0];rfl
  have Lu:w.reverse.length=w.length:=C0
  have an4:(x::w).length=w.length+1:=rfl
  have hx:=e.wk.rt
  obtain⟨⟨hx1,SQ⟩,hx3,hx4⟩:=e.wk x (by simp);refine St.lA wz (by omega) (λbs cs acY=> ?_);obtain⟨rk,B,hUF⟩:=e.uf
  obtain⟨xa,YO⟩:∃xa,xa=x.1.toNat:=⟨_,rfl⟩
  obtain⟨xb,hxb⟩:∃xb,xb=x.2.toNat:=⟨_,rfl⟩
  rw[←YO,←hxb]at hx
  have hea:x.1=(xa:Int):=by omega
  have heb:x.2=(xb:Int):=by omega
  refine g4 ?_;refine St.dc [aW H (.cells [C.1,D.1,pv,tv,lv].toArray 245 (0,0)),row pv 3 1 p.ro.length (rows aJ (cX P1))] mixed (λnp ns=> ?_);refine SW.gd 0 ?_;refine SW.gd 1 ?_;refine SW.gd 2 ?_;refine SW.gd 3 ?_;refine SW.gd 4 ?_;refine SW.dd 5 rfl (λ_=>Ev.dZ (k:=w.length) (.mk rfl) (.mk rfl) wZ Bj (by omega) (by omega)) ?_;refine SW.dd 6 rfl (λ_=>Ev.xg (j:=0) acY (.mk rfl) (.mk rfl) underlying270 dK rfl (by decide)) ?_;refine SW.dd 7 rfl (λ_=>Ev.ct (.mk rfl) gD trivial (by omega) (zR Lw (j:=0) Lu (by decide))) ?_;refine SW.slot 31 (iv (xa:Nat)) rfl (congrArg iv hea) ?_;refine SW.gd 9 ?_;refine SW.gd 10 ?_;refine SW.gd 11 ?_;refine SW.gd 12 ?_;refine SW.gd 13 ?_;refine SW.dd 14 rfl (λ_=>Ev.dZ (k:=w.length) (.mk rfl) (.mk rfl) wZ Bj (by omega) (by omega)) ?_;refine SW.dd 15 rfl (λ_=>Ev.xg (j:=1) acY (.mk rfl) (.mk rfl) underlying270 dK rfl (by decide)) ?_;refine SW.dd 16 rfl (λ_=>Ev.ct (.mk rfl) gD trivial (by omega) (zR Lw (j:=1) Lu (by decide))) ?_;refine SW.slot 40 (iv (xb:Nat)) rfl (congrArg iv heb) ?_;refine SW.t1 8 ?_;refine St.call (find_spec H C D pv tv lv rk B p.ro (by omega) P1 hUF xa (by omega)) E6 (.aX rfl rfl) rfl ?_;rintro v32 _ ⟨P2,rfl,hP2,rfl⟩;refine St.dQ ?_;refine g2 ?_;refine SW.go ?_;refine SW.t1 17 ?_;refine St.call (find_spec H C D pv tv lv rk B p.ro (by omega) P2 hP2 xb (by omega)) E6 (.aX rfl rfl) rfl ?_;rintro v41 _ ⟨P3,rfl,hP3,rfl⟩;refine St.dQ ?_;refine g2 ?_;refine SW.go ?_;refine SW.gd 18 ?_;refine SW.gd 19 ?_;refine SW.dn ?_;refine g2 ?_
  obtain⟨a,hA⟩:∃a,a=p.ro.getD xa 0:=⟨_,rfl⟩
  obtain⟨b,hB⟩:∃b,b=p.ro.getD xb 0:=⟨_,rfl⟩
  rw[←hA,←hB]
  have I:p.rt x.1.toNat=a:=by rw[←YO];exact hA.symm
  have J:p.rt x.2.toNat=b:=by rw[←hxb];exact hB.symm
  have ha:a<n:=by rw[←I];exact e.pl.AE _ (by omega)
  have hb:b<n:=by rw[←J];exact e.pl.AE _ (by omega)
  have Wc:p.rt a=a:=by rw[←I];exact e.pl.V3 _ (by omega)
  have hrb:p.rt b=b:=by rw[←J];exact e.pl.V3 _ (by omega)
  have hww:CI n w:=λz hz=>e.wk z (by simp[hz])
  refine g5 ?_;refine St.ee (Ev.pG (h:=w.length) (.mk rfl) (.mk rfl) wZ Bj (by omega) (by omega)) ?_;refine St.DI wz w.length (by omega) ?_;refine St.aM (pH wz 2 0 w.length) Lu.symm (show(rows Lw (w.reverse++ [x])).take (w.length*2)=rows Lw w.reverse by rw[←Lu];exact uI Lw _ _) ?_;refine St.ba (pH wz 2 0 w.length) (λabV _=> ?_);refine g11 ?_;refine St.cq (λh49=> ?_) (λh49=> ?_)
  ·have acW:p.rt x.1.toNat=p.rt x.2.toNat:=by omega
   refine g4 ?_;refine St.nG () (pH wz 2 0 w.length,w,P3,p,ls) ⟨abV,e.pl,hww,⟨rk,B,hP3⟩,e.YT,e.lw,by rw[←e.eq,Ky acW],dW (show p.mu w≤p.mu (x::w) by unfold Pl.mu;rw[fU];omega) e.mu⟩ (by dsimp only;unfold Pl.mu;rw[fU];omega) (by repeat(first|exact Sub.nil|refine Sub.cons (by first|rfl|exact congrArg (λz=>some (iv z)) (by first|omega|(dsimp only;omega))|exact congrArg (λz=>some (Value.bool z)) (by first|assumption|exact ig (by assumption))) ?_)) (λ_ hw=>hw.sub)
  ·have hne:p.rt x.1.toNat≠p.rt x.2.toNat:=by omega
   have hab:a≠b:=by omega
   obtain⟨ta,hta⟩:∃ta:Nat,p.tt a=(ta:Int):=⟨(p.tt a).toNat,by have:=(e.pl.tt ha).1;omega⟩
   obtain⟨tb,htb⟩:∃tb:Nat,p.tt b=(tb:Int):=⟨(p.tt b).toNat,by have:=(e.pl.tt hb).1;omega⟩
   have anO:=(e.pl.tt ha).2
   have anP:=(e.pl.tt hb).2
   refine g3 ?_;refine St.dc [] mixed (λnp ns=> ?_);refine SW.gd 0 ?_;refine SW.gd 1 ?_;refine SW.gd 2 ?_;refine SW.dd 3 rfl (λ_=>Ev.iU 2 (.mk rfl) wX trivial wU rfl rfl) ?_;refine SW.slot 54 (kB C D) rfl rfl ?_;refine SW.gd 4 ?_;refine SW.gd 5 ?_;refine SW.gd 6 ?_;refine SW.gd 7 ?_;refine SW.gd 8 ?_;refine SW.gd 9 ?_;refine SW.dd 10 rfl (λ_=>Ev.ct (.mk rfl) gD trivial (by omega) (gU (Ph (by omega)))) ?_;refine SW.slot 61 (iv (ta:Nat)) rfl (congrArg iv hta) ?_;refine SW.gd 11 ?_;refine SW.gd 12 ?_;refine SW.gd 13 ?_;refine SW.gd 14 ?_;refine SW.gd 15 ?_;refine SW.gd 16 ?_;refine SW.dd 17 rfl (λ_=>Ev.ct (.mk rfl) gD trivial (by omega) (gU (Ph (by omega)))) ?_;refine SW.slot 68 (iv (tb:Nat)) rfl (congrArg iv htb) ?_;refine SW.dd 18 rfl (λ_=>Ev.call ((yC C D T hT ta tb (by omega) (by omega)).mono λ_ _ h=>h.1) Vv (.ek rfl rfl rfl)) ?_;refine SW.gd 19 ?_;refine SW.gd 20 ?_;refine SW.gd 21 ?_;refine SW.gd 22 ?_;refine SW.gd 23 ?_;refine SW.gd 24 ?_;refine SW.gd 25 ?_;refine SW.dn ?_;refine g8 ?_;refine St.cq (λh74=> ?_) (λh74=> ?_)
   ·have hm:hC T (p.tt (p.rt x.1.toNat)).toNat (p.tt (p.rt x.2.toNat)).toNat=none:=by rw[I,J,hta,htb];simpa using h74
    have WX:=J5 (w:=w) hne hm
    rw[e.eq]at WX;refine g11 ?_;refine St.rV [_] [aW H (.cells [C.1,D.1,pv,tv,lv].toArray 245 (0,0)),row pv 3 1 p.ro.length (rows aJ (cX (P3))),row tv 3 1 p.ty.length (rows aJ p.ty),row lv 161 1 (ls).length (rows bN ((ls).map Prod.fst)),aB (aF pk (ls))] ?_;exact⟨false,P3,p,ls,rfl,λ_=>WX,λh=>(by cases h),rfl⟩
   ·obtain⟨m,NZ⟩:=Option.isSome_iff_exists.1 (show(hC T ta tb).isSome=true from by simpa using h74)
    have hm:hC T (p.tt (p.rt x.1.toNat)).toNat (p.tt (p.rt x.2.toNat)).toNat=some m:=by rw[I,J,hta,htb];exact NZ
    have hmT:=zD T _ _ _ NZ
    have Kq:=Nn (nt:=T.length) (nf:=nf) (n:=n) e.pl (w:=w) ⟨by omega,by omega⟩ hne hm
    rw[I,J]at Kq;refine St.slot 10 (iv (m:Nat)) rfl (by rw[NZ];rfl) ?_;refine g11 ?_;refine St.cJ (.mk rfl) (.mk rfl) dK rfl (by omega) (by decide) ?_;refine St.aM pv rfl (show _=rows aJ (cX (P3.set b a)) by rw[jB,cX,cX,jm]) ?_;refine g11 ?_;refine St.cJ (.mk rfl) (.mk rfl) dK rfl (by omega) (by decide) ?_;refine St.aM tv rfl (jB p.ty a (m:Int)) ?_;refine g3 ?_;obtain⟨M,N⟩:=aE (show a<ls.length by omega);obtain⟨O,P⟩:=aE (show b<ls.length by omega);refine St.cL pk ls (x:=M) (aZ N) ?_;refine St.ea (sl au M.1.1 M.2) [pk M] (λρ h=>h _ (aQ ..)) ?_;refine St.cL pk ls (x:=O) (aZ P) ?_;refine St.ea (sl au O.1.1 O.2) [pk O] (λρ h=>h _ (aQ ..)) ?_
    have hla:p.ll a=M.2.map fP:=HM e.YT N
    have hlb:p.ll b=O.2.map fP:=HM e.YT P
    have hsa:(p.ll a).length≤p.left:=by have h1:=oQ (f:=λi=>if p.rt i=i then(p.ll i).length else 0) (show a<p.ro.length by omega);rw[aC Wc]at h1;exact h1
    have hsb:(p.ll b).length≤p.left:=by have h1:=oQ (f:=λi=>if p.rt i=i then(p.ll i).length else 0) (show b<p.ro.length by omega);rw[aC hrb]at h1;exact h1
    rw[hla,aO]at hsa;rw[hlb,aO]at hsb;refine g5 ?_;refine St.dc [] mixed (λnp ns=> ?_);refine SW.gd 0 ?_;refine SW.gd 1 ?_;refine SW.gd 2 ?_;refine SW.gd 3 ?_;refine SW.gd 4 ?_;refine SW.gd 5 ?_;refine SW.dd 6 rfl (λ_=>Ev.ct (.mk rfl) eX trivial (by omega) (r6 (show(ls.map Prod.fst)[a]?=some M.1 by rw[bQ,N];rfl))) ?_;refine SW.gd 7 ?_;refine SW.gd 8 ?_;refine SW.gd 9 ?_;refine SW.gd 10 ?_;refine SW.gd 11 ?_;refine SW.gd 12 ?_;refine SW.dd 13 rfl (λ_=>Ev.ct (.mk rfl) eX trivial (by omega) (r6 (show(ls.map Prod.fst)[b]?=some O.1 by rw[bQ,P];rfl))) ?_;refine SW.gd 14 ?_;refine SW.gd 15 ?_;refine SW.dn ?_;refine g3 ?_;refine St.dw 165 2 ?_;refine St.aM (.slice none 0 0) (show _=([]:List dx).length from rfl) (show _=rows au []from rfl) ?_;refine St.aM (pH wz 2 0 w.length) (show _=(w.reverse++([]:List (Int×Int))).length by rw[gu]) (show _=rows Lw (w.reverse++ []) by rw[gu]) ?_;refine St.tm (ι:=Unit) (κ:=Value×List dx×Value×List dx×Value×List dx×Value×List (Int×Int)) (λu2 z T=>(13,z.1)::(14,z.2.2.1)::(15,z.2.2.2.2.1)::(7,z.2.2.2.2.2.2.1)::T) (λu2 z=>[row z.1 165 2 (z.2.1).length (rows au (z.2.1)),row z.2.2.2.2.2.2.1 270 2 (w.reverse++z.2.2.2.2.2.2.2).length (rows Lw (w.reverse++z.2.2.2.2.2.2.2)),aW H (.cells [C.1,D.1,pv,tv,lv].toArray 245 (0,0)),row pv 3 1 p.ro.length (rows aJ (cX (P3.set b a))),row tv 3 1 p.ty.length (rows aJ (p.ty.set a (m:Int))),row lv 161 1 ls.length (rows bN (ls.map Prod.fst)),aB (aF pk ls),aB (sl au z.2.2.1 z.2.2.2.1),aB (sl au z.2.2.2.2.1 z.2.2.2.2.2.1),aB (sl bI C.1 (dg T)),aB (sl bI D.1 (de T)),aB tz]) (λu2 z=>(z.1.oneCell'=true∧z.2.2.2.2.2.2.1.oneCell'=true)∧De (p.ll a) (p.ll b) (z.2.1.map fP) (z.2.2.2.1.map fP) (z.2.2.2.2.2.1.map fP) z.2.2.2.2.2.2.2∧((∀x∈z.2.1,au.wf x)∧(∀x∈z.2.2.2.1,au.wf x)∧∀x∈z.2.2.2.2.2.1,au.wf x)∧z.2.1.length+z.2.2.2.1.length+z.2.2.2.2.2.1.length≤2000000∧z.2.2.2.2.2.2.2.length+z.2.2.2.1.length≤1000000) (λu2 z=>z.2.2.2.1.length+z.2.2.2.2.2.1.length) () ((.slice none 0 0),[],M.1.1,M.2,O.1.1,O.2,pH wz 2 0 w.length,[]) (aD.cons 0 rfl (aD.cons 8 rfl aD.nil)) ⟨⟨rfl,abV⟩,by rw[hla,hlb];exact De.start _ _,⟨λx hx=>(by cases hx),e.lw _ (aZ N),e.lw _ (aZ P)⟩,by show 0+M.2.length+O.2.length≤_;omega,by show 0+M.2.length≤_;omega⟩ ?_;rintro u2 ⟨Q,L,xv,X,t,Y,vz,V⟩ ⟨⟨hz,R⟩,hM,⟨E,A,F⟩,Iz,Dg⟩
    dsimp only at hz R hM E A F Iz Dg⊢
    have anY:(w.reverse++V).length=w.length+V.length:=by rw[bR,C0]
    refine g7 ?_;refine St.gt _ rfl rfl (λhg=>Ev.move (.mk rfl)) rfl ?_;refine St.gt _ rfl rfl (λhg=>Ev.fc (ah.gv rfl hg) eX) rfl ?_;refine St.gt _ rfl rfl (λhg=>Ev.gtr (ah.gv rfl hg) (.mk rfl)) rfl ?_;refine g3 ?_;refine St.cq (λRy=> ?_) (λRy=> ?_)
    ·obtain⟨d,o,rfl⟩:∃d o,X=d::o:=by cases X with|nil=>exact absurd Ry.1 (by simp)|cons a b=>exact⟨a,b,rfl⟩
     obtain⟨g,s,rfl⟩:∃g s,Y=g::s:=by cases Y with|nil=>exact absurd Ry.2 (by simp)|cons a b=>exact⟨a,b,rfl⟩
     rw[fU]at Iz Dg;rw[fU]at Iz;refine g4 ?_;refine St.dc [] mixed (λnp ns=> ?_);refine SW.gd 0 ?_;refine SW.dd 1 rfl (λ_=>Ev.cE (k:=0) (.mk rfl) (.mk rfl) eX dm (by omega) (by simp)) ?_;refine SW.gd 2 ?_;refine SW.dd 3 rfl (λ_=>Ev.ld1 (.mk rfl) (show(d::o)[0]?=some d from rfl) gD trivial rfl) ?_;refine SW.gd 4 ?_;refine SW.dd 5 rfl (λ_=>Ev.cE (k:=0) (.mk rfl) (.mk rfl) eX dm (by omega) (by simp)) ?_;refine SW.gd 6 ?_;refine SW.dd 7 rfl (λ_=>Ev.ld1 (.mk rfl) (show(g::s)[0]?=some g from rfl) gD trivial rfl) ?_;refine SW.dd 8 rfl (λ_=>Ev.call (ef d.dF g.dF) qG (.aX rfl rfl)) ?_;refine SW.gd 9 ?_;refine SW.dn ?_;refine g9 ?_;refine St.cq (λaaF=> ?_) (λaaF=> ?_)
     ·have YJ:=RP aaF
      have K:=De.lt (a:=fP d) (b:=fP g) hM YJ
      refine g4 ?_;refine St.ee (Ev.cE (k:=0) (.mk rfl) (.mk rfl) eX dm (by omega) (by simp)) ?_;refine St.ee (Ev.js (.mk rfl) (show(d::o)[0]?=some d from rfl) lD trivial dm j7.eq) ?_;refine St.slot 148 (.agg #[iv d.dF,iv d.tqo]) rfl rfl ?_;refine St.gV rfl (.ar rfl) eX dm kI rfl rfl (by simp[Value.cells]) rfl rfl (λamY=> ?_);refine St.aj (.mk rfl) (.mk rfl) eX dm kI qE (by simp[Value.oneCell',Value.cells]) (by omega) (by omega) rfl rfl rfl rfl (λQ1 amP=> ?_);refine St.aM Q1 (show _=(L++ [d]).length from cS) (show _=rows au (L++ [d]) by rw[ay];rfl) ?_;refine St.ba Q1 (λWK _=> ?_);refine g5 ?_;refine St.ee (Ev.rA (l:=1) (.mk rfl) (.mk rfl) eX dm rfl (by simp)) ?_;refine St.part (Rr:=au) (xs:=(d::o)) xv 1 ((d::o)).length (by simp) (aR _) ?_;refine St.ea (sl au (pH xv au.size 1 ((d::o)).length) o) [sl au (pH xv au.size 1 ((d::o)).length) ((((d::o)).drop 1).take (((d::o)).length-1))] (λρ h=>by have:=h _ (aQ ..);rwa[show(((d::o)).drop 1).take (((d::o)).length-1)=o from fZ (aR _)]at this) ?_;refine g5 ?_;refine St.nG () (Q1,L++ [d],pH xv au.size 1 (d::o).length,o,t,g::s,vz,V) ⟨⟨WK,R⟩,by rw[cP];exact K,⟨λu hu=>by rcases cG.1 hu with h|h;exact E u h;rw[bP.1 h];exact A d (by simp),λu hu=>A u (by simp[hu]),F⟩,by dsimp only;rw[bR,fU];simp only[List.length_cons,List.length_nil];omega,by dsimp only;omega⟩ (by dsimp only;simp only[List.length_cons];omega) (by repeat(first|exact Sub.nil|refine Sub.cons (by first|rfl|exact congrArg (λz=>some (iv z)) (by first|omega|(dsimp only;omega))|exact congrArg (λz=>some (Value.bool z)) (by first|assumption|exact ig (by assumption))) ?_)) (λ_ hw=>hw.sub)
     ·refine g7 ?_
      refine St.cq (λaaH=> ?_) (λaaH=> ?_)
      ·have l6:=RO aaH
       have K:=De.gt (a:=fP d) (b:=fP g) hM l6
       refine g4 ?_;refine St.ee (Ev.cE (k:=0) (.mk rfl) (.mk rfl) eX dm (by omega) (by simp)) ?_;refine St.ee (Ev.js (.mk rfl) (show(g::s)[0]?=some g from rfl) lD trivial dm j7.eq) ?_;refine St.slot 159 (.agg #[iv g.dF,iv g.tqo]) rfl rfl ?_;refine St.gV rfl (.ar rfl) eX dm kI rfl rfl (by simp[Value.cells]) rfl rfl (λYv=> ?_);refine St.aj (.mk rfl) (.mk rfl) eX dm kI qE (by simp[Value.oneCell',Value.cells]) (by omega) (by omega) rfl rfl rfl rfl (λTk amQ=> ?_);refine St.aM Tk (show _=(L++ [g]).length from cS) (show _=rows au (L++ [g]) by rw[ay];rfl) ?_;refine St.ba Tk (λah7 _=> ?_);refine g5 ?_;refine St.ee (Ev.rA (l:=1) (.mk rfl) (.mk rfl) eX dm rfl (by simp)) ?_;refine St.part (Rr:=au) (xs:=(g::s)) t 1 ((g::s)).length (by simp) (aR _) ?_;refine St.ea (sl au (pH t au.size 1 ((g::s)).length) s) [sl au (pH t au.size 1 ((g::s)).length) ((((g::s)).drop 1).take (((g::s)).length-1))] (λρ h=>by have:=h _ (aQ ..);rwa[show(((g::s)).drop 1).take (((g::s)).length-1)=s from fZ (aR _)]at this) ?_;refine g5 ?_;refine St.nG () (Tk,L++ [g],xv,d::o,pH t au.size 1 (g::s).length,s,vz,V) ⟨⟨ah7,R⟩,by rw[cP];exact K,⟨λu hu=>by rcases cG.1 hu with h|h;exact E u h;rw[bP.1 h];exact F g (by simp),A,λu hu=>F u (by simp[hu])⟩,by dsimp only;rw[bR,fU];simp only[List.length_cons,List.length_nil];omega,by dsimp only;rw[fU];omega⟩ (by dsimp only;simp only[List.length_cons];omega) (by repeat(first|exact Sub.nil|refine Sub.cons (by first|rfl|exact congrArg (λz=>some (iv z)) (by first|omega|(dsimp only;omega))|exact congrArg (λz=>some (Value.bool z)) (by first|assumption|exact ig (by assumption))) ?_)) (λ_ hw=>hw.sub)
      ·have heq:=RN (by omega) (by omega:¬0<oC d.dF g.dF)
       have K:=De.eq (a:=fP d) (b:=fP g) hM heq
       refine g4 ?_;refine St.ee (Ev.cE (k:=0) (.mk rfl) (.mk rfl) eX dm (by omega) (by simp)) ?_;refine St.ee (Ev.js (.mk rfl) (show(d::o)[0]?=some d from rfl) lD trivial dm j7.eq) ?_;refine St.slot 123 (.agg #[iv d.dF,iv d.tqo]) rfl rfl ?_;refine St.gV rfl (.ar rfl) eX dm kI rfl rfl (by simp[Value.cells]) rfl rfl (λYt=> ?_);refine St.aj (.mk rfl) (.mk rfl) eX dm kI qE (by simp[Value.oneCell',Value.cells]) (by omega) (by omega) rfl rfl rfl rfl (λXx amN=> ?_);refine St.aM Xx (show _=(L++ [d]).length from cS) (show _=rows au (L++ [d]) by rw[ay];rfl) ?_;refine St.ba Xx (λah4 _=> ?_);refine g4 ?_;refine St.dc [row vz 270 2 (w.reverse++V).length (rows Lw (w.reverse++V))] mixed (λnp ns=> ?_);refine SW.gd 0 ?_;refine SW.gd 1 ?_;refine SW.dd 2 rfl (λ_=>Ev.cE (k:=0) (.mk rfl) (.mk rfl) eX dm (by omega) (by simp)) ?_;refine SW.gd 3 ?_;refine SW.dd 4 rfl (λ_=>Ev.ld1 (.mk rfl) (show(d::o)[0]?=some d from rfl) gD trivial rfl) ?_;refine SW.gd 5 ?_;refine SW.dd 6 rfl (λ_=>Ev.cE (k:=0) (.mk rfl) (.mk rfl) eX dm (by omega) (by simp)) ?_;refine SW.gd 7 ?_;refine SW.dd 8 rfl (λ_=>Ev.ld1 (.mk rfl) (show(g::s)[0]?=some g from rfl) gD trivial rfl) ?_;refine SW.dd 9 rfl (λ_=>Ev.build (ps:=[(0,(.tmp 130)),(1,(.tmp 134))]) (bH.aX rfl rfl) (λw=>yU rfl rfl w)) ?_;refine SW.t1 10 ?_;refine St.gV rfl (.ar rfl) wZ Bj QM rfl rfl (by simp[Value.cells]) rfl rfl (λamX=> ?_);refine g2 ?_;refine SW.go ?_;refine SW.t1 11 ?_;refine St.aj (.mk rfl) (.mk rfl) wZ Bj QM ZA (by simp[Value.oneCell',Value.cells]) (by omega) (by omega) rfl rfl rfl rfl (λXy amO=> ?_);refine St.aM Xy (show _=(w.reverse++(V++ [(d.tqo,g.tqo)])).length by rw[←dq];exact cS) (show _=rows Lw (w.reverse++(V++ [(d.tqo,g.tqo)])) by rw[←dq,ay];rfl) ?_;refine St.ba Xy (λNL _=> ?_);refine g2 ?_;refine SW.go ?_;refine SW.gd 12 ?_;refine SW.dn ?_;refine go ?_;refine St.dc [] mixed (λnp ns=> ?_);refine SW.gd 0 ?_;refine SW.dd 1 rfl (λ_=>Ev.rA (l:=1) (.mk rfl) (.mk rfl) eX dm rfl (by simp)) ?_;refine SW.gd 2 ?_;refine SW.dd 3 rfl (λ_=>Ev.rA (l:=1) (.mk rfl) (.mk rfl) eX dm rfl (by simp)) ?_;refine SW.gd 4 ?_;refine SW.gd 5 ?_;refine SW.dn ?_;refine g3 ?_;refine St.part (Rr:=au) (xs:=(d::o)) xv 1 ((d::o)).length (by simp) (aR _) ?_;refine St.ea (sl au (pH xv au.size 1 ((d::o)).length) o) [sl au (pH xv au.size 1 ((d::o)).length) ((((d::o)).drop 1).take (((d::o)).length-1))] (λρ h=>by have:=h _ (aQ ..);rwa[show(((d::o)).drop 1).take (((d::o)).length-1)=o from fZ (aR _)]at this) ?_;refine St.part (Rr:=au) (xs:=(g::s)) t 1 ((g::s)).length (by simp) (aR _) ?_;refine St.ea (sl au (pH t au.size 1 ((g::s)).length) s) [sl au (pH t au.size 1 ((g::s)).length) ((((g::s)).drop 1).take (((g::s)).length-1))] (λρ h=>by have:=h _ (aQ ..);rwa[show(((g::s)).drop 1).take (((g::s)).length-1)=s from fZ (aR _)]at this) ?_;refine St.nG () (Xx,L++ [d],pH xv au.size 1 (d::o).length,o,pH t au.size 1 (g::s).length,s,Xy,V++ [(d.tqo,g.tqo)]) ⟨⟨ah4,NL⟩,by rw[cP];exact K,⟨λu hu=>by rcases cG.1 hu with h|h;exact E u h;rw[bP.1 h];exact A d (by simp),λu hu=>A u (by simp[hu]),λu hu=>F u (by simp[hu])⟩,by dsimp only;rw[bR];simp only[List.length_cons,List.length_nil];omega,by dsimp only;rw[bR];simp only[List.length_cons,List.length_nil];omega⟩ (by dsimp only;simp only[List.length_cons];omega) (by repeat(first|exact Sub.nil|refine Sub.cons (by first|rfl|exact congrArg (λz=>some (iv z)) (by first|omega|(dsimp only;omega))|exact congrArg (λz=>some (Value.bool z)) (by first|assumption|exact ig (by assumption))) ?_)) (λ_ hw=>hw.sub)
    ·have hem:X=[]∨Y=[]:=by rcases Ry with h|h;exact .inl (lG (by omega));exact .inr (lG (by omega))
     obtain⟨hf1,S⟩:=hM.fin (by rcases hem with rfl|rfl;exact .inl rfl;exact .inr rfl);refine St.bS Q au L rfl rfl E ?_;refine St.V4 xv (λU=> ?_);refine St.V4 t (λZ=> ?_)
     obtain⟨G,S7⟩:∃G,G=L++(X++Y):=⟨_,rfl⟩
     have ajP:G.map fP=Ah (p.ll a) (p.ll b):=by rw[S7,cP,cP];exact hf1
     have abX:∀x∈G,au.wf x:=λx hx=>by rw[S7]at hx;rcases cG.1 hx with hx|hx;exact E x hx;rcases cG.1 hx with hx|hx;exact A x hx;exact F x hx
     have ajQ:(([((⟨Q,hz⟩:aV),L),((⟨xv,U⟩:aV),X),((⟨t,Z⟩:aV),Y)]).map Prod.snd).flatten=G:=by rw[S7];simp
     refine St.ea (aF pk [((⟨Q,hz⟩:aV),L),((⟨xv,U⟩:aV),X),((⟨t,Z⟩:aV),Y)]) [sl au Q L,sl au xv X,sl au t Y] (λρ h x hx=>by simp only[List.mem_cons,List.not_mem_nil,or_false]at hx;rcases hx with rfl|rfl|rfl;exact h _ (aQ ..);exact h _ (cO _ (aQ ..));exact h _ (cO _ (cO _ (aQ ..)))) ?_;refine St.lA lv (by omega) (λbs2 cs2 akE=> ?_);refine g5 ?_;refine St.dc [row lv 161 1 ls.length (rows bN (ls.map Prod.fst)),aB (aF pk [((⟨Q,hz⟩:aV),L),((⟨xv,U⟩:aV),X),((⟨t,Z⟩:aV),Y)])] mixed (λnp ns=> ?_);refine SW.gd 0 ?_;refine SW.gd 1 ?_;refine SW.gd 2 ?_;refine SW.gd 3 ?_;refine SW.gd 4 ?_;refine SW.gd 5 ?_;refine SW.gd 6 ?_;refine SW.gd 7 ?_;refine SW.t1 8 ?_;refine St.gV rfl (.ek rfl rfl rfl) Bq pW QL rfl rfl (λu hu=>by simp only[List.mem_cons,List.not_mem_nil,or_false]at hu;rcases hu with rfl|rfl|rfl;rw[cells_one hz];rfl;rw[cells_one U];rfl;rw[cells_one Z];rfl) rfl rfl (λMI=> ?_);refine St.aM (.slice (some ⟨MI,0,none⟩) 3 3) (show _=([((⟨Q,hz⟩:aV),L),((⟨xv,U⟩:aV),X),((⟨t,Z⟩:aV),Y)].map Prod.fst).length from rfl) (show _=rows bN ([((⟨Q,hz⟩:aV),L),((⟨xv,U⟩:aV),X),((⟨t,Z⟩:aV),Y)].map Prod.fst) by simp only[List.flatMap_cons,List.flatMap_nil,cells_one hz,cells_one U,cells_one Z];rfl) ?_;refine St.bS (.slice (some ⟨MI,0,none⟩) 3 3) bN ([((⟨Q,hz⟩:aV),L),((⟨xv,U⟩:aV),X),((⟨t,Z⟩:aV),Y)].map Prod.fst) rfl rfl (λ_ _=>trivial) ?_;refine g2 ?_;refine SW.go ?_;refine SW.t1 9 ?_;refine St.ae (ED (.slice (some ⟨MI,0,none⟩) 3 3) [((⟨Q,hz⟩:aV),L),((⟨xv,U⟩:aV),X),((⟨t,Z⟩:aV),Y)] (by simp) (λq hq=>by simp only[List.mem_cons,List.not_mem_nil,or_false]at hq;rcases hq with rfl|rfl|rfl<;>dsimp only<;>omega)) Za (.ar rfl) rfl ?_;rintro v173 _ ⟨H0,rfl⟩;refine St.ao ?_;rw[ajQ];refine St.bS v173 au G rfl rfl abX ?_;refine g2 ?_;refine SW.go ?_;refine SW.dd 10 rfl (λ_=>Ev.n9 (k:=a) akE (.mk rfl) (.mk rfl) Bq pW (by omega) (by omega)) ?_;refine SW.t1 11 ?_;refine St.cJ (.mk rfl) (.mk rfl) pW H0 (by omega) (by decide) ?_;refine g2 ?_;refine SW.go ?_;refine SW.dn ?_;refine g2 ?_
     have amG:=e.pl.left (m:=m) ha hb Wc hrb hab
     have hJ2:Yh T nf n XI (jC (hC T) (p0.mu [(a0,y)]) p0 [(a0,y)]) (V.reverse++w) (P3.set b a) (p.put a b m) (ls.set a (⟨v173,H0⟩,G)):=⟨e.pl.put ha hb Wc hmT hab,by rw[S];exact hww.put e.pl ha hb,hP3.put (by omega) (by omega) Wc hrb hab,by rw[jm,e.YT];show p.lk.set a (G.map fP)=_;rw[ajP];rfl,λq hq=>by rcases lI hq with hq|rfl;exact e.lw q hq;exact abX,by rw[S,←Kq,e.eq],by have h0:=e.mu;have h1:p.mu (x::w)=p.left+(w.length+1)+1:=rfl;show(p.put a b m).left+(V.reverse++w).length+1≤XI;rw[bR,C0,S];omega⟩
     refine St.aM vz (show _=((V.reverse++w).reverse).length by rw[List.reverse_append,List.reverse_reverse]) (show _=rows Lw ((V.reverse++w).reverse) by rw[List.reverse_append,List.reverse_reverse]) ?_;refine St.aM pv (show _=(p.put a b m).ro.length by simp[Pl.put]) rfl ?_;refine St.aM tv (show _=(p.put a b m).ty.length by simp[Pl.put]) (show _=rows aJ (p.put a b m).ty from rfl) ?_;refine St.aM lv (show _=(ls.set a (⟨v173,H0⟩,G)).length by rw[cn]) (show _=rows bN ((ls.set a (⟨v173,H0⟩,G)).map Prod.fst) by rw[jm];exact zS _ _ ⟨v173,H0⟩) ?_;refine St.ea (aF pk (ls.set a (⟨v173,H0⟩,G))) [aF pk ls,sl au v173 G] (λρ h x hx=>by rcases lI hx with hx|rfl;exact h _ (aQ ..) x hx;exact h _ (cO _ (aQ ..))) ?_;refine St.nG () (vz,V.reverse++w,P3.set b a,p.put a b m,ls.set a (⟨v173,H0⟩,G)) ⟨R,hJ2⟩ (by dsimp only;unfold Pl.mu;rw[bR,C0,fU,S];omega) (by repeat(first|exact Sub.nil|refine Sub.cons (by first|rfl|exact congrArg (λz=>some (iv z)) (by first|omega|(dsimp only;omega))|exact congrArg (λz=>some (Value.bool z)) (by first|assumption|exact ig (by assumption))) ?_)) (λ_ hw=>hw.sub)
 ·obtain rfl:W=[]:=lG (by omega)
  have S6:=e.eq
  rw[Kx]at S6;refine g11 ?_;refine St.rV [_] [aW H (.cells [C.1,D.1,pv,tv,lv].toArray 245 (0,0)),row pv 3 1 p.ro.length (rows aJ (cX (P1))),row tv 3 1 p.ty.length (rows aJ p.ty),row lv 161 1 (ls).length (rows bN ((ls).map Prod.fst)),aB (aF pk (ls))] ?_;exact⟨true,P1,p,ls,rfl,λh=>(by cases h),λ_=>⟨S6.symm,e.pl,e.uf,e.YT,e.lw⟩,rfl⟩
end Go.Proofs.YtblifkgpebebmaaGreatDoor
