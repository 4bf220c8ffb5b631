/-
  Laws of walks through programs, and facts on grammars, trees and queries.
  Conditions: none.
-/
import Derived.Test.YtblifkgpebebmaaGreatDoorGC4
import Derived.Shelf.Spec.SlicesGrow
set_option maxHeartbeats 1000000
set_option maxRecDepth 20000
set_option linter.unusedVariables false
set_option linter.unusedSimpArgs false
namespace Go.Proofs.YtblifkgpebebmaaGreatDoor
open Go Go.J Tryz
structure e9 (nt nf:Nat)(g:e8):Prop where
 pos:0<g.length
 nd:∀n∈g,(0≤n.1∧n.1<nt)∧sG n.2∧∀x∈n.2,(0≤x.1∧x.1<nf)∧0≤x.2∧x.2<g.length
theorem e9.at_ {nt nf:Nat}{g:e8}(h:e9 nt nf g){i:Nat}(a:i<g.length):(0≤(g.getD i iJ).1∧(g.getD i iJ).1<nt)∧sG (g.getD i iJ).2∧∀x∈(g.getD i iJ).2,(0≤x.1∧x.1<nf)∧0≤x.2∧x.2<g.length:=by
 refine h.nd _ ?_;rw[ar,bU a];exact gy a
theorem e9.lk {nt nf:Nat}{g:e8}(h:e9 nt nf g):sy g:=⟨h.pos,λn a x hx=>by
 obtain⟨_,_,b⟩:=h.nd n a;obtain⟨c,d,e⟩:=b x hx
 exact⟨c.1,d,by omega⟩⟩
theorem Cb (F:Int×Int→Int){l:kq}(h:sG l):sG (l.map λx=>(x.1,F x)):=by
 unfold sG at h⊢;rw[sD];exact h
theorem TN {n i:Nat}(h:i<n):(List.range n).getD i 0=i:=by
 rw[ar,nc h];rfl
theorem Pl.OX {nt nf:Nat}{x y:e8}(hx:e9 nt nf x)(hy:e9 nt nf y):mO nt nf (x.length+y.length) (Pl.of x y):=by
 refine⟨by simp[Pl.of],by simp[Pl.of],by simp[Pl.of],λi b=> ?_,λi b=> ?_,λt ht=> ?_,λl c=> ?_,λl c=> ?_⟩
 ·show(List.range _).getD i 0<_;rw[TN b];exact b
 ·show(List.range _).getD ((List.range _).getD i 0) 0=(List.range _).getD i 0;rw[TN b,TN b]
 ·rcases cD.1 ht with h|h<;>obtain⟨n,a,rfl⟩:=cz.1 h
  ·exact(hx.nd n a).1
  ·exact(hy.nd n a).1
 ·rcases cD.1 c with h|h<;>obtain⟨n,a,rfl⟩:=cz.1 h<;>intro z hz
  ·obtain⟨h1,d,e⟩:=(hx.nd n a).2.2 z hz
   exact⟨h1,d,by omega⟩
  ·obtain⟨u,hu,rfl⟩:=cz.1 hz
   obtain⟨h1,d,e⟩:=(hy.nd n a).2.2 u hu;exact⟨h1,by dsimp only;omega,by dsimp only;omega⟩
 ·rcases cD.1 c with h|h<;>obtain⟨n,a,rfl⟩:=cz.1 h
  ·exact(hx.nd n a).2.1
  ·exact Cb _ (hy.nd n a).2.1
def CT (n:Nat)(w:List (Int×Int)):Prop:=∀x∈w,(0≤x.1∧x.1<n)∧0≤x.2∧x.2<n
theorem CT.rt {n:Nat}{x:Int×Int}{w:List (Int×Int)}(h:CT n (x::w)):x.1.toNat<n∧x.2.toNat<n:=by
 obtain⟨h1,a⟩:=h x (by simp);exact⟨by omega,by omega⟩
theorem CT.put {nt nf n:Nat}{p:Pl}(hp:mO nt nf n p){a b:Nat}(c:a<n)(d:b<n){w:List (Int×Int)}(h:CT n w):CT n ((DM (p.ll a) (p.ll b)).reverse++w):=λz hz=>by
 rcases cD.1 hz with hz|hz
 ·obtain⟨⟨u,hu,e⟩,⟨v,f,e2⟩⟩:=T1 _ _ (List.mem_reverse.1 hz)
  have h1:=(hp.Qg _ (hp.lm c) u hu).2
  have g:=(hp.Qg _ (hp.lm d) v f).2
  exact⟨by rw[e];exact h1,by rw[e2];exact g⟩
 ·exact h z hz
def yJ (nt:Nat)(mt:Nat→Nat→Option Nat):Prop:=∀a b m,mt a b=some m→m<nt
theorem L9 {mt:Nat→Nat→Option Nat}{p:Pl}{x:Int×Int}{w:List (Int×Int)}(h:p.rt x.1.toNat=p.rt x.2.toNat):j9 mt (p.mu (x::w)) p (x::w)=j9 mt (p.mu w) p w:=by
 have e:p.mu (x::w)=p.mu w+1:=by unfold Pl.mu;simp only[List.length_cons];omega
 rw[e,j9,aC h]
theorem JE {mt:Nat→Nat→Option Nat}{p:Pl}{x:Int×Int}{w:List (Int×Int)}(h:p.rt x.1.toNat≠p.rt x.2.toNat)(hm:mt (p.tt (p.rt x.1.toNat)).toNat (p.tt (p.rt x.2.toNat)).toNat=none):j9 mt (p.mu (x::w)) p (x::w)=none:=by
 have e:p.mu (x::w)=p.mu w+1:=by unfold Pl.mu;simp only[List.length_cons];omega
 rw[e,j9,aA h,hm]
theorem Nw {nt nf n:Nat}{mt:Nat→Nat→Option Nat}{p:Pl}(hp:mO nt nf n p){x:Int×Int}{w:List (Int×Int)}{m:Nat}(hx:x.1.toNat<n∧x.2.toNat<n)(h:p.rt x.1.toNat≠p.rt x.2.toNat)(hm:mt (p.tt (p.rt x.1.toNat)).toNat (p.tt (p.rt x.2.toNat)).toNat=some m):
 j9 mt (p.mu (x::w)) p (x::w)=j9 mt ((p.put (p.rt x.1.toNat) (p.rt x.2.toNat) m).mu ((DM (p.ll (p.rt x.1.toNat)) (p.ll (p.rt x.2.toNat))).reverse++w)) (p.put (p.rt x.1.toNat) (p.rt x.2.toNat) m) ((DM (p.ll (p.rt x.1.toNat)) (p.ll (p.rt x.2.toNat))).reverse++w):=by
 have a:=hp.left (m:=m) (hp.AK _ hx.1) (hp.AK _ hx.2) (hp.VB _ hx.1) (hp.VB _ hx.2) h
 have e:p.mu (x::w)=(p.put (p.rt x.1.toNat) (p.rt x.2.toNat) m).mu ((DM (p.ll (p.rt x.1.toNat)) (p.ll (p.rt x.2.toNat))).reverse++w)+1:=by
  unfold Pl.mu;simp only[List.length_cons,List.length_append,List.length_reverse];omega
 rw[e,j9,aA h,hm]
theorem L8 {mt:Nat→Nat→Option Nat}{p:Pl}:j9 mt (p.mu []) p []=some p:=by
 show j9 mt (p.left+0+1) p []=_;rw[j9]
theorem DD {nt nf n:Nat}{mt:Nat→Nat→Option Nat}(a:yJ nt mt):∀(f:Nat) (p:Pl) (w:List (Int×Int)) (q:Pl),mO nt nf n p→CT n w→j9 mt f p w=some q→mO nt nf n q∧∀i,i<n→∀k∈mA (p.ll (p.rt i)),k∈mA (q.ll (q.rt i))
 |0,_,_,_,_,_,h=>by cases h
 |f+1,p,[],q,hp,_,h=>by
  rw[j9]at h;obtain rfl:=Option.some.inj h;exact⟨hp,λ_ _ _ h=>h⟩
 |f+1,p,x::w,q,hp,hw,h=>by
  have hx:=hw.rt
  have d:CT n w:=λz hz=>hw z (by simp[hz])
  rw[j9]at h
  split at h
  ·exact DD a f p w q hp d h
  ·rename_i l
   split at h
   ·cases h
   ·rename_i m hm
    have c:=hp.AK _ hx.1
    have g:=hp.AK _ hx.2
    have o:=hp.VB _ hx.1
    have t:=hp.VB _ hx.2
    have r:=hp.put (b:=p.rt x.2.toNat) c g o (a _ _ _ hm) l
    obtain⟨h1,s⟩:=DD a f _ _ q r (d.put hp c g) h;refine⟨h1,λi j k hk=>s i j k ?_⟩;rw[Pl.Hk (by rw[hp.lr];exact j),Pl.Ov (by rw[hp.ll];exact c)]
    by_cases e:p.rt i=p.rt x.2.toNat
    ·rw[aC e,aC rfl];rw[e]at hk;exact J5 _ _ (.inr hk)
    ·rw[aA e]
     split
     ·rename_i e2;rw[e2]at hk;exact J5 _ _ (.inl hk)
     ·exact hk
theorem th (p:Pl):(ph p).length=p.ro.length:=by simp[ph]
theorem WM {p:Pl}{i:Nat}(h:i<p.ro.length):(ph p).getD i iJ=(p.tt i,if p.rt i=i then(p.ll i).map (λl=>(l.1,(p.rt l.2.toNat:Int)))else []):=by
 unfold ph
 rw[ar,bP,nc h];rfl
theorem NO {nt nf n:Nat}{p:Pl}(hp:mO nt nf n p)(b:0<n):e9 nt nf (ph p):=by
 refine⟨by rw[th,hp.lr];exact b,λd hd=> ?_⟩;unfold ph at hd;obtain⟨i,a,rfl⟩:=cz.1 hd;rw[dt,hp.lr]at a;rw[th,hp.lr];refine⟨hp.tt a,?_,λx hx=> ?_⟩
 ·dsimp only;split
  ·exact Cb _ (hp.YI _ (hp.lm a))
  ·exact List.Pairwise.nil
 ·dsimp only at hx
  split at hx
  ·obtain⟨u,hu,rfl⟩:=cz.1 hx
   obtain⟨h1,c,e⟩:=hp.Qg _ (hp.lm a) u hu
   have:=hp.AK u.2.toNat (by omega)
   exact⟨h1,by dsimp only;omega,by dsimp only;omega⟩
  ·cases hx
def Lo (n:Nat)(o:List Nat):Nat:=((List.range n).filter λj=>decide (j∉o)).length
theorem G9 {n:Nat}{o o':List Nat}(h:∀j∈o,j∈o'):Lo n o'≤Lo n o:=by
 unfold Lo;rw[←KD,←KD]
 refine List.countP_mono_left λj _ a=> ?_
 rw[fy]at a⊢
 exact λb=>a (h j b)
theorem GA {n:Nat}{o:List Nat}{i:Nat}(b:i<n)(c:i∉o):Lo n (o++ [i])<Lo n o:=by
 unfold Lo;rw[←KD,←KD]
 have key:∀l:List Nat,i∈l→l.Nodup→l.countP (λj=>decide (j∉o++ [i]))+1≤l.countP (λj=>decide (j∉o)):=by
  intro l
  induction l with
  |nil=>intro h;cases h
  |cons x l d=>
   intro hm hd;obtain⟨hx,hd⟩:=List.nodup_cons.1 hd;rw[rz,rz]
   by_cases e:x=i
   ·subst e
    rw[aA (by simp),aC (by simpa using c)]
    have:=List.countP_mono_left (l:=l) (p:=λj=>decide (j∉o++ [x])) (q:=λj=>decide (j∉o)) (λj _ a=>by
     rw[fy]at a⊢;exact λf=>a (by simp[f]))
    omega
   ·have:=d ((cJ.1 hm).resolve_left λh=>e h.symm) hd
    have e2:decide (x∉o++ [i])=decide (x∉o):=by rw[decide_eq_decide];simp[e]
    rw[e2];omega
 have:=key (List.range n) (dt.2 b) List.nodup_range
 omega
theorem Jy (n:Nat):Lo n []=n:=by
 unfold Lo;rw[List.filter_eq_self.2 (by simp),jT]
def nF (g:e8)(f:Nat)(o:List Nat)(l:kq):List Nat:=l.foldl (λo x=>lF g f o x.2.toNat) o
theorem kn (g:e8)(f:Nat)(o:List Nat)(i:Nat):lF g (f+1) o i=if i∈o then o else nF g f (o++ [i]) (g.getD i iJ).2:=rfl
theorem C6 (g:e8)(f:Nat)(o:List Nat)(l:kq)(x:Int×Int):nF g f o (l++ [x])=lF g f (nF g f o l) x.2.toNat:=by
 unfold nF;rw[wo];rfl
structure CR (g:e8)(o:List Nat):Prop where
 nd:o.Nodup
 lt:∀j∈o,j<g.length
theorem K5 (g:e8):∀(f:Nat) (o:List Nat) (i:Nat),o<+:lF g f o i:=by
 intro f
 induction f with
 |zero=>intro o i;exact List.prefix_refl _
 |succ f b=>
  intro o i;rw[kn]
  split
  ·exact List.prefix_refl _
  ·have:∀(l:kq) (o:List Nat),o<+:nF g f o l:=by
    intro l
    induction l with
    |nil=>intro o;exact List.prefix_refl _
    |cons x l a=>intro o;exact(b o _).trans (a _)
   exact(List.prefix_append o [i]).trans (this _ _)
theorem qe (g:e8)(f:Nat):∀(l:kq) (o:List Nat),o<+:nF g f o l
 | [],o=>List.prefix_refl _
 |x::l,o=>(K5 g f o _).trans (qe g f l _)
theorem Tw (g:e8)(f:Nat)(o:List Nat)(i:Nat){j:Nat}(h:j∈o):j∈lF g f o i:=(K5 g f o i).subset h
theorem QD {g:e8}(k:sy g):∀(f:Nat) (o:List Nat) (i:Nat),CR g o→i<g.length→CR g (lF g f o i):=by
 intro f
 induction f with
 |zero=>intro o i h _;exact h
 |succ f m=>
  intro o i h n;rw[kn]
  split
  ·exact h
  ·rename_i p
   have h1:CR g (o++ [i]):=⟨by rw[List.nodup_append];exact⟨h.nd,by simp,by intro a q b r;rw[bO.1 r];rintro rfl;exact p q⟩,λj c=>by
    rcases cD.1 c with c|c
    ·exact h.lt j c
    ·rw[bO.1 c];exact n⟩
   have:∀(l:kq) (o:List Nat),(∀x∈l,x.2.toNat<g.length)→CR g o→CR g (nF g f o l):=by
    intro l
    induction l with
    |nil=>intro o _ h;exact h
    |cons x l d=>intro o e h;exact d _ (λy hy=>e y (by simp[hy])) (m _ _ h (e x (by simp)))
   exact this _ _ (λx hx=>(k.at_ hx).2.2) h1
theorem Y9 {g:e8}{f:Nat}{o:List Nat}{i:Nat}:i∈lF g (f+1) o i:=by
 rw[kn]
 split
 ·rename_i h;exact h
 ·exact(qe g f _ _).subset (by simp)
theorem Tv {g:e8}(k:sy g):∀(f:Nat) (o:List Nat) (i:Nat),i<g.length→Lo g.length o<f→∀j∈lF g f o i,j∈o∨∀x∈(g.getD j iJ).2,x.2.toNat∈lF g f o i:=by
 intro f
 induction f with
 |zero=>intro o i _ h;omega
 |succ f m=>
  intro o i p hu j a;rw[kn]at a⊢
  split at a
  ·exact .inl a
  ·rename_i d
   rw[aA d]
   have q:=GA p d
   have step:∀(l:kq) (o:List Nat),(∀x∈l,x.2.toNat<g.length)→Lo g.length o<f→(∀j∈nF g f o l,j∈o∨∀x∈(g.getD j iJ).2,x.2.toNat∈nF g f o l)∧∀x∈l,x.2.toNat∈nF g f o l:=by
    intro l
    induction l with
    |nil=>intro o _ _;exact⟨λj a=> .inl a,λx hx=>by cases hx⟩
    |cons x l b=>
     intro o e hu
     have hm:=G9 (n:=g.length) (o:=o) (o':=lF g f o x.2.toNat) λj a=>Tw g f o _ a
     obtain⟨c,a2⟩:=b (lF g f o x.2.toNat) (λy hy=>e y (by simp[hy])) (by omega)
     have hp:=(qe g f l (lF g f o x.2.toNat)).subset
     refine⟨λj a=> ?_,λy hy=> ?_⟩
     ·rcases c j a with h|h
      ·rcases m o x.2.toNat (e x (by simp)) hu j h with h|h
       ·exact .inl h
       ·exact .inr λy hy=>hp (h y hy)
      ·exact .inr h
     ·rcases cJ.1 hy with rfl|hy
      ·cases f with
       |zero=>omega
       |succ f=>exact hp Y9
      ·exact a2 y hy
   obtain⟨c,a2⟩:=step (g.getD i iJ).2 (o++ [i]) (λx hx=>(k.at_ hx).2.2) (by omega)
   rcases c j a with h|h
   ·rcases cD.1 h with h|h
    ·exact .inl h
    ·rw[bO.1 h];exact .inr a2
   ·exact .inr h
def xL (g:e8)(r:Nat):List Nat:=lF g (g.length+1) [] r
theorem Od {g:e8}(b:sy g){r:Nat}(c:r<g.length):CR g (xL g r)∧(∀j∈xL g r,∀x∈(g.getD j iJ).2,x.2.toNat∈xL g r)∧(xL g r)[0]?=some r:=by
 refine⟨QD b _ _ _ ⟨List.nodup_nil,λj a=>by cases a⟩ c,λj a=> ?_,?_⟩
 ·rcases Tv b _ _ _ c (by rw[Jy];omega) j a with h|h
  ·cases h
  ·exact h
 ·unfold xL
  rw[kn,aA (by simp)];obtain⟨t,ht⟩:=qe g g.length (g.getD r iJ).2 ([]++ [r])
  rw[←ht];rfl
theorem kh {o:List Nat}{n:Nat}(h:o.Nodup)(a:∀j∈o,j<n):o.length≤n:=by
 have:o.length≤(List.range n).length:=h.length_le_of_subset λj b=>dt.2 (a j b)
 rwa[jT]at this
theorem td (g:e8)(r:Nat):gj g r=(xL g r).map λi=>((g.getD i iJ).1,(g.getD i iJ).2.map λx=>(x.1,((xL g r).idxOf x.2.toNat:Int))):=rfl
theorem te {nt nf:Nat}{g:e8}(b:e9 nt nf g){r:Nat}(f:r<g.length):e9 nt nf (gj g r)∧(gj g r).length≤g.length∧mA ((gj g r).getD 0 iJ).2=mA (g.getD r iJ).2:=by
 obtain⟨h1,h,a⟩:=Od b.lk f
 have j:0<(xL g r).length:=by
  cases e:xL g r with
  |nil=>rw[e]at a;cases a
  |cons=>simp
 refine⟨⟨by rw[td,aO];exact j,λd hd=> ?_⟩,by rw[td,aO];exact kh h1.nd h1.lt,?_⟩
 ·rw[td]at hd
  obtain⟨i,c,rfl⟩:=cz.1 hd;obtain⟨k,a2,a3⟩:=b.at_ (h1.lt i c);refine⟨k,Cb _ a2,λx hx=> ?_⟩;obtain⟨u,hu,rfl⟩:=cz.1 hx
  have:=List.idxOf_lt_length_iff.2 (h i c u hu)
  rw[td,aO];exact⟨(a3 u hu).1,by dsimp only;omega,by dsimp only;omega⟩
 ·rw[td,ar,bP,a]
  simp[mA,List.map_map,Function.comp_def]
theorem Sg {nt nf:Nat}{mt:Nat→Nat→Option Nat}(b:yJ nt mt){x y z:e8}(hx:e9 nt nf x)(hy:e9 nt nf y){node:Nat}(l:node<x.length)(h:dU mt x node y=some z):
 e9 nt nf z∧z.length≤x.length+y.length∧∀k∈mA (x.getD 0 iJ).2,k∈mA (z.getD 0 iJ).2:=by
 have c:=hx.pos
 have f:=hy.pos
 obtain⟨p,hp,rfl⟩:=dp.1 h;obtain⟨h1,g⟩:=DD b _ _ _ p (Pl.OX hx hy) (λu hu=>by rw[bO.1 hu];exact⟨⟨by dsimp only;omega,by dsimp only;omega⟩,by dsimp only;omega,by dsimp only;omega⟩) hp
 have i:=NO h1 (by omega)
 have a:=h1.AK 0 (by omega)
 obtain⟨f1,f2,f3⟩:=te i (r:=p.rt 0) (by rw[th,h1.lr];exact a);rw[th,h1.lr]at f2;refine⟨f1,f2,λk hk=> ?_⟩;rw[f3,WM (by rw[h1.lr];exact a),aC (h1.VB 0 (by omega))]
 have j:=g 0 (by omega) k (by
  show k∈mA ((Pl.of x y).lk.getD ((List.range _).getD 0 0) [])
  rw[TN (by omega)]
  show k∈mA ((x.map (·.2)++_).getD 0 [])
  rw[ar,oc (by simpa using c),bP];rw[ar]at hk
  cases e:x[0]? with
  |none=>rw[e]at hk;exact hk
  |some d=>rw[e]at hk;exact hk)
 simpa[mA,List.map_map,Function.comp_def]using j
structure Qx (rk:Nat→Nat)(B:Nat)(P R:List Nat):Prop where
 len:P.length=R.length
 lt:∀i,i<R.length→P.getD i 0<R.length
 rt:∀i,i<R.length→R.getD (P.getD i 0) 0=R.getD i 0
 me:∀i,i<R.length→(P.getD i 0=i↔R.getD i 0=i)
 up:∀i,i<R.length→P.getD i 0≠i→rk i<rk (P.getD i 0)
 le:∀i,i<R.length→rk i≤B
def UF (P R:List Nat):Prop:=∃rk B,Qx rk B P R
theorem EZ {α:Type}{l:List α}{i j:Nat}{x d:α}(h:i<l.length):(l.set i x).getD j d=if j=i then x else l.getD j d:=by
 rw[ar,ar]
 by_cases e:j=i
 ·subst e;rw[fV h,aC rfl];rfl
 ·rw[ic (λh=>e h.symm),aA e]
theorem Qx.abV {rk:Nat→Nat}{B:Nat}{P R:List Nat}(h:Qx rk B P R){i:Nat}(b:i<R.length)(g:P.getD i 0≠i):
 Qx rk B (P.set i (P.getD (P.getD i 0) 0)) R∧rk i<rk (P.getD (P.getD i 0) 0)∧R.getD (P.getD (P.getD i 0) 0) 0=R.getD i 0∧P.getD (P.getD i 0) 0<R.length:=by
 have h1:=h.lt i b
 have k:=h.lt _ h1
 have m:=h.up i b g
 have l:R.getD (P.getD (P.getD i 0) 0) 0=R.getD i 0:=by rw[h.rt _ h1,h.rt i b]
 have d:rk i<rk (P.getD (P.getD i 0) 0):=by
  by_cases e:P.getD (P.getD i 0) 0=P.getD i 0
  ·rw[e];exact m
  ·have:=h.up _ h1 e;omega
 have c:∀j,(P.set i (P.getD (P.getD i 0) 0)).getD j 0=if j=i then P.getD (P.getD i 0) 0 else P.getD j 0:=λj=>EZ (by rw[h.len];exact b)
 refine⟨⟨by rw[cn];exact h.len,λj a=> ?_,λj a=> ?_,λj a=> ?_,λj a f=> ?_,h.le⟩,d,l,k⟩
 ·rw[c];split
  ·exact k
  ·exact h.lt j a
 ·rw[c];split
  ·rename_i e;rw[e];exact l
  ·exact h.rt j a
 ·rw[c];split
  ·rename_i e;subst e
   refine⟨λe=> ?_,λe=>absurd ((h.me j a).2 e) g⟩
   rw[e]at d;omega
  ·exact h.me j a
 ·rw[c]at f⊢
  split
  ·rename_i e;subst e;exact d
  ·rename_i e;rw[aA e]at f;exact h.up j a f
theorem Qx.put {rk:Nat→Nat}{B:Nat}{P R:List Nat}(h:Qx rk B P R){a b:Nat}(f:a<R.length)(o:b<R.length)(i:R.getD a 0=a)(p:R.getD b 0=b)(k:a≠b):
 UF (P.set b a) (R.map λx=>if x=b then a else x):=by
 have g:∀j,(P.set b a).getD j 0=if j=b then a else P.getD j 0:=λj=>EZ (by rw[h.len];exact o)
 have hm:∀j,j<R.length→(R.map λx=>if x=b then a else x).getD j 0=if R.getD j 0=b then a else R.getD j 0:=λj c=>by
  simp only[List.getD_eq_getElem?_getD,List.getElem?_map,List.getElem?_eq_getElem c,Option.map_some,Option.getD_some]
 have l:=(h.me a f).2 i
 refine⟨λx=>if x=a then rk a+rk b+1 else rk x,B+B+1,by rw[cn,aO];exact h.len,λj c=> ?_,λj c=> ?_,λj c=> ?_,λj c d=> ?_,λj c=> ?_⟩<;>rw[aO]at c
 ·rw[g,aO];split
  ·exact f
  ·exact h.lt j c
 ·rw[g,hm j c];split
  ·rename_i e;subst e
   rw[hm a f,i,aA k,p,aC rfl]
  ·rw[hm _ (h.lt j c),h.rt j c]
 ·rw[g,hm j c]
  by_cases e:j=b
  ·subst e;rw[aC rfl,p,aC rfl]
  ·rw[aA e]
   by_cases e2:R.getD j 0=b
   ·rw[aC e2]
    refine⟨λm=> ?_,λm=> ?_⟩
    ·have:=(h.me j c).1 m;rw[this]at e2;exact absurd e2 e
    ·subst m;rw[i]at e2;exact absurd e2 k
   ·rw[aA e2];exact h.me j c
 ·rw[g]at d⊢
  by_cases e:j=b
  ·subst e
   rw[aC rfl,aA (λx=>k x.symm),aC rfl];omega
  ·rw[aA e]at d⊢
   have hu:=h.up j c d
   have n:j≠a:=λx=>by rw[x]at d;exact d l
   rw[aA n]
   split
   ·rename_i e2;rw[e2]at hu;omega
   ·exact hu
 ·have:=h.le j c
  have:=h.le a f
  have:=h.le b o
  split<;>omega
theorem UF.range (n:Nat):UF (List.range n) (List.range n):=
 ⟨λ_=>0,0,rfl,λi a=>by rw[jT]at a⊢;rw[TN a];exact a,λi a=>by rw[jT]at a;rw[TN a,TN a],λi a=>Iff.rfl,λi a h=>by rw[jT]at a;exact absurd (TN a) h,λi a=>aR _⟩
structure Dp (x0 y0 l x y:kq)(w:List (Int×Int)):Prop where
 l:l++Ap x y=Ap x0 y0
 w:w++DM x y=DM x0 y0
theorem Dp.start (x y:kq):Dp x y [] x y []:=⟨rfl,rfl⟩
theorem Dp.lt {x0 y0 l x y:kq}{w:List (Int×Int)}{a b:Int×Int}(h:Dp x0 y0 l (a::x) (b::y) w)(c:a.1<b.1):Dp x0 y0 (l++ [a]) x (b::y) w:=by
 obtain⟨h1,d⟩:=h;rw[fb,aC c]at h1;rw[jy,aC c]at d;exact⟨by rw[dq];exact h1,d⟩
theorem Dp.gt {x0 y0 l x y:kq}{w:List (Int×Int)}{a b:Int×Int}(h:Dp x0 y0 l (a::x) (b::y) w)(c:b.1<a.1):Dp x0 y0 (l++ [b]) (a::x) y w:=by
 obtain⟨h1,d⟩:=h
 have e:¬a.1<b.1:=by omega
 rw[fb,aA e,aC c]at h1;rw[jy,aA e,aC c]at d;exact⟨by rw[dq];exact h1,d⟩
theorem Dp.eq {x0 y0 l x y:kq}{w:List (Int×Int)}{a b:Int×Int}(h:Dp x0 y0 l (a::x) (b::y) w)(f:a.1=b.1):Dp x0 y0 (l++ [a]) x y (w++ [(a.2,b.2)]):=by
 obtain⟨h1,c⟩:=h
 have d:¬a.1<b.1:=by omega
 have e:¬b.1<a.1:=by omega
 rw[fb,aA d,aA e]at h1;rw[jy,aA d,aA e]at c;exact⟨by rw[dq];exact h1,by rw[dq];exact c⟩
theorem Dp.fin {x0 y0 l x y:kq}{w:List (Int×Int)}(h:Dp x0 y0 l x y w)(he:x=[]∨y=[]):l++(x++y)=Ap x0 y0∧w=DM x0 y0:=by
 obtain⟨h1,a⟩:=h
 rcases he with rfl|rfl
 ·rw[uA]at h1;rw[DN,gx]at a;exact⟨h1,a⟩
 ·rw[qO]at h1;rw[zR,gx]at a;exact⟨by rw[gx];exact h1,a⟩
def gz (T:List ek)(a b:Nat):Option Nat:=match comm T a b with
 | []=>none
 |m::_=>if kD T a b=true then none else some m
def mC (x:e8):e8:=gj x (rS x 0).toNat
def nE (mt:Nat→Nat→Option Nat)(x:e8)(a:Int)(y:e8):Option e8:=match dU mt x (rS x a).toNat y with
 |some z=>if z.length≤60 then some z else none
 |none=>none
structure om where
 frm:Nat
 tqo:Nat
 cx:Nat
 gr:e8
structure uj where
 rule:Int
 lex:Int
 kids:List Nat
structure lM where
 ed:om
 cW:List uj
 ba:List Int
def ed0:om:=⟨0,0,0,[]⟩
def gg:lM:=⟨ed0,[],[]⟩
structure Cs where
 its:List lM
 sp:List (List Nat)
def ju (i:Int):UInt8:=UInt8.ofNat (i%256).toNat
def vL (l:kq):ax:=l.flatMap λx=>[ju x.1,ju x.2]
def zA (g:e8):ax:=g.flatMap λn=>ju n.1::ju (n.2.length:Nat)::vL n.2
def fZ (e:om):ax:=ju (e.frm:Nat)::ju (e.tqo:Nat)::ju (e.cx:Nat)::zA e.gr
def xx (its:List lM)(k:ax):Option Nat:=its.findIdx? λit=>decide (fZ it.ed=k)
def se (w:uj):Int:=if w.rule<0 then 1000+w.lex else w.rule
def lM.put (it:lM)(w:uj):lM:=⟨it.ed,it.cW++ [w],if se w∈it.ba then it.ba else it.ba++ [se w]⟩
def kY (n:Nat)(cs:Cs)(e:om)(w:uj):Cs:=match xx cs.its (fZ e)with
 |some i=>⟨cs.its.modify i λit=>it.put w,cs.sp⟩
 |none=>⟨cs.its++ [(⟨e,[],[]⟩:lM).put w],cs.sp.modify (e.frm*(n+1)+e.tqo) λl=>l++ [cs.its.length]⟩
structure Qr where
 n:Nat
 mt:Nat→Nat→Option Nat
 adm:Nat→Nat→Int→Bool
 rules:List sq
 aL:List Dz
def Cs.at_ (cs:Cs)(n i j:Nat):List Nat:=cs.sp.getD (i*(n+1)+j) []
def Cs.ed (cs:Cs)(e:Nat):om:=(cs.its.getD e gg).ed
def Vh (Q:Qr)(cs:Cs)(rule a e:Nat):Bool:=(cs.its.getD e gg).ba.any (Q.adm rule a)
def lU (Q:Qr)(cs:Cs)(rule:Nat)(x:e8)(a e:Nat):Option e8:=if Vh Q cs rule a e=true then nE Q.mt x a (cs.ed e).gr else none
def vC (Q:Qr)(rule frm tqo:Nat):Nat→Cs→e8→List Nat→Nat→Cs
 |0,cs,x,kids,a=>(cs.at_ Q.n a tqo).foldl (λcs e=>match lU Q cs rule x (kids.length+1) e with
  |none=>cs
  |some y=>kY Q.n cs ⟨frm,tqo,0,mC y⟩ ⟨rule,0,kids++ [e]⟩) cs
 |l+1,cs,x,kids,a=>(List.range' (a+1) (tqo-(l+1)-a)).foldl (λcs en=>(cs.at_ Q.n a en).foldl (λcs e=>match lU Q cs rule x (kids.length+1) e with
  |none=>cs
  |some y=>vC Q rule frm tqo l cs y (kids++ [e]) en) cs) cs
def qc (Q:Qr)(frm tqo e:Nat)(cs:Cs)(i:Nat):Cs:=
 if(Q.rules.getD i oS).kids≠1 then cs else match lU Q cs i (Q.rules.getD i oS).graph 1 e with
  |none=>cs
  |some x=>kY Q.n cs ⟨frm,tqo,(cs.ed e).cx+1,mC x⟩ ⟨i,0,[e]⟩
def qd (Q:Qr)(frm tqo:Nat):Nat→Nat→Cs→Cs
 |0,_,cs=>cs
 |f+1,k,cs=>if k<(cs.at_ Q.n frm tqo).length then
   (if(cs.ed ((cs.at_ Q.n frm tqo).getD k 0)).cx=3 then qd Q frm tqo f (k+1) cs
    else qd Q frm tqo f (k+1) ((List.range Q.rules.length).foldl (qc Q frm tqo ((cs.at_ Q.n frm tqo).getD k 0)) cs))
  else cs
def hC (Q:Qr):Nat:=Q.rules.countP λr=>decide (r.kids=1)
def jx (r:Nat):Nat→Nat
 |0=>0
 |k+1=>r*(1+jx r k)
def qS (Q:Qr)(cs:Cs)(l:List Nat):Nat:=(l.map λe=>1+jx (hC Q) (3-(cs.ed e).cx)).sum
def rM (Q:Qr)(w:ax)(frm tqo:Nat)(cs:Cs)(i:Nat):Cs:=if(Q.aL.getD i Qh).word=w then kY Q.n cs ⟨frm,tqo,0,gj (Q.aL.getD i Qh).graph 0⟩ ⟨-1,i,[]⟩else cs
def rQ (Q:Qr)(frm tqo:Nat)(cs:Cs)(i:Nat):Cs:=if 1<(Q.rules.getD i oS).kids∧(Q.rules.getD i oS).kids≤(tqo:Int)-frm then vC Q i frm tqo ((Q.rules.getD i oS).kids.toNat-1) cs (Q.rules.getD i oS).graph [] frm else cs
def n9 (Q:Qr)(words:List ax)(frm tqo:Nat)(cs:Cs):Cs:=
 if tqo=frm+1 then(List.range Q.aL.length).foldl (rM Q (words.getD frm []) frm tqo) cs else(List.range Q.rules.length).foldl (rQ Q frm tqo) cs
def pL (Q:Qr)(words:List ax)(frm tqo:Nat)(cs:Cs):Cs:=
 qd Q frm tqo (qS Q (n9 Q words frm tqo cs) ((n9 Q words frm tqo cs).at_ Q.n frm tqo)+1) 0 (n9 Q words frm tqo cs)
def Al (Q:Qr)(words:List ax)(len:Nat):Nat→Nat→Cs→Option Cs
 |0,_,cs=>some cs
 |m+1,frm,cs=>if 300<(pL Q words frm (frm+len) cs).its.length then none else Al Q words len m (frm+1) (pL Q words frm (frm+len) cs)
def yR (Q:Qr)(words:List ax):Nat→Nat→Cs→Option Cs
 |0,_,cs=>some cs
 |m+1,len,cs=>(Al Q words len (Q.n+1-len) 0 cs).bind λcs=>yR Q words m (len+1) cs
def lu (a b:Int):Int:=if a<b then-1 else if b<a then 1 else 0
def su (a b:Int):Int:=if a=0 then b else a
def kO {α:Type}(f:α→α→Int):List α→List α→Int
 | [],[]=>0
 | [],_::_=> -1
 |_::_,[]=>1
 |a::l,b::m=>if f a b≠0 then f a b else kO f l m
def EN (p q:Int×Int):Int:=su (lu p.1 q.1) (lu p.2 q.2)
def xE (x y:KM):Int:=su (lu x.1 y.1) (su (lu x.2.length y.2.length) (kO EN x.2 y.2))
def xX (x y:om):Int:=su (lu x.frm y.frm) (su (lu x.tqo y.tqo) (su (lu x.cx y.cx) (kO xE x.gr y.gr)))
def L0 {α:Type}(f:α→α→Int)(a:α):List α→List α
 | []=>[a]
 |b::l=>if f a b<0 then a::b::l else b::L0 f a l
def TZ {α:Type}(f:α→α→Int):List α→List α
 | []=>[]
 |a::l=>L0 f a (TZ f l)
def lA (its:List lM):List Nat:=TZ (λi j=>xX (its.getD i gg).ed (its.getD j gg).ed) (List.range its.length)
def pD (o:List Nat)(i:Nat):Nat:=o.idxOf i
def gm (its:List lM):List lM:=(lA its).map λi=>⟨(its.getD i gg).ed,(its.getD i gg).cW.map λw=>⟨w.rule,w.lex,w.kids.map (pD (lA its))⟩,(its.getD i gg).ba⟩
def H5 (mt:Nat→Nat→Option Nat)(n:Nat)(start:e8)(its:List lM):List Nat:=(List.range its.length).filter λi=>decide ((its.getD i gg).ed.frm=0)&&decide ((its.getD i gg).ed.tqo=n)&&(dU mt (its.getD i gg).ed.gr 0 start).isSome
def Hc (g:fj):List e8:=g.rules.map (λr=>mC r.graph)++g.aL.map (·.graph)
def Hj (g:fj)(top:Int):Int:=if 0≤top∧top<g.rules.length then top else if 1000≤top∧top<1000+g.aL.length then g.rules.length+top-1000 else-1
def Vi (g:fj)(mt:Nat→Nat→Option Nat)(rule a:Nat)(top:Int):Bool:=
 decide (0≤Hj g top)&&decide (rule<g.rules.length)&&decide (1≤a)&&decide ((a:Int)≤(g.rules.getD rule oS).kids)&&(dU mt (g.rules.getD rule oS).graph (rS (g.rules.getD rule oS).graph a).toNat ((Hc g).getD (Hj g top).toNat [])).isSome
def qrG (g:fj)(words:List ax):Qr:=⟨words.length,gz g.types,Vi g (gz g.types),g.rules,g.aL⟩
def xR:Nat→List ax→Int×Int
 |_,[]=>(0,0)
 |i,w::l=>if isWord w=false then(10,(i:Int))else xR (i+1) l
def Ad (aL:List Dz):Nat→List ax→Int×Int
 |_,[]=>(0,0)
 |i,w::l=>if w∈aL.map (·.word)then Ad aL (i+1) l else(6,(i:Int))
def pj (g:fj)(words:List ax):Int×Int:=if words.length=0∨12<words.length then(9,-2)else if(xR 0 words).1≠0 then xR 0 words else Ad g.aL 0 words
def xD (g:fj)(words:List ax):Option (List lM):=(yR (qrG g words) words words.length 1 ⟨[],List.replicate (words.length*(words.length+1)) []⟩).map λcs=>gm cs.its
def dT (g:fj)(words:List ax):(List lM×List Nat)×(Int×Int):=
 if(jL g).1≠0 then(([],[]),jL g)else if(pj g words).1≠0 then(([],[]),pj g words)else match xD g words with
  |none=>(([],[]),(17,-2))
  |some its=>((its,H5 (gz g.types) words.length g.start its),(0,0))
theorem lq {a b:Nat}(c:a<256)(d:b<256)(h:ju (a:Int)=ju (b:Int)):a=b:=by
 have:=congrArg UInt8.toNat h
 unfold ju at this
 simp only[UInt8.toNat_ofNat']at this
 omega
theorem Ny {e d:om}(he:e.frm<256∧e.tqo<256)(hd:d.frm<256∧d.tqo<256)(h:fZ e=fZ d):e.frm=d.frm∧e.tqo=d.tqo:=by
 unfold fZ at h
 simp only[List.cons.injEq]at h
 exact⟨lq he.1 hd.1 h.1,lq he.2 hd.2 h.2.1⟩
theorem zB {its:List lM}{k:ax}{i:Nat}(h:xx its k=some i):∃it,its[i]?=some it∧fZ it.ed=k:=by
 obtain⟨a,h1,_⟩:=List.findIdx?_eq_some_iff_getElem.1 h;exact⟨_,bU a,fM h1⟩
theorem O1 {its:List lM}{k:ax}(h:xx its k=none):∀it∈its,fZ it.ed≠k:=λit hit=>by
 have:=List.findIdx?_eq_none_iff.1 h it hit
 exact iV (by simpa using this)
def slt (n i j:Nat):Nat:=i*(n+1)+j
theorem DY {n i j a b:Nat}(e:j≤n)(f:b≤n)(h:slt n i j=slt n a b):i=a∧j=b:=by
 unfold slt at h
 have h1:(i*(n+1)+j)/(n+1)=i:=by rw[Nat.mul_comm,Nat.mul_add_div (by omega),Nat.div_eq_of_lt (by omega),j3]
 have c:(a*(n+1)+b)/(n+1)=a:=by rw[Nat.mul_comm,Nat.mul_add_div (by omega),Nat.div_eq_of_lt (by omega),j3]
 have d:i=a:=by rw[←h1,←c,h]
 subst d;exact⟨rfl,by omega⟩
theorem sY {n i j:Nat}(a:i<n)(b:j≤n):slt n i j<n*(n+1):=by
 unfold slt
 have:(i+1)*(n+1)≤n*(n+1):=iU _ a
 rw[jc]at this;omega
structure Grow (n frm tqo:Nat)(cs fg:Cs)(a:Nat):Prop where
 more:cs.its.length≤fg.its.length
 most:fg.its.length≤cs.its.length+a
 GO:fg.sp.length=cs.sp.length
 XX:∀k,k≠slt n frm tqo→fg.sp.getD k []=cs.sp.getD k []
 own:(fg.sp.getD (slt n frm tqo) []).length≤(cs.sp.getD (slt n frm tqo) []).length+a
 ed:∀i,i<cs.its.length→fg.ed i=cs.ed i
 new:∀i,cs.its.length≤i→i<fg.its.length→(fg.ed i).frm=frm∧(fg.ed i).tqo=tqo
 far:∀i,i<cs.its.length→¬((cs.ed i).frm=frm∧(cs.ed i).tqo=tqo)→fg.its.getD i gg=cs.its.getD i gg
 cW:∀i,i<fg.its.length→(fg.its.getD i gg).cW.length≤(cs.its.getD i gg).cW.length+a
theorem Grow.refl (n frm tqo:Nat)(cs:Cs):Grow n frm tqo cs cs 0:=
 ⟨aR _,aR _,rfl,λ_ _=>rfl,aR _,λ_ _=>rfl,λi h1 a=>by omega,λ_ _ _=>rfl,λ_ _=>aR _⟩
theorem Grow.trans {n frm tqo:Nat}{x y z:Cs}{a b:Nat}(h:Grow n frm tqo x y a)(k:Grow n frm tqo y z b):Grow n frm tqo x z (a+b):=by
 refine⟨dS h.more k.more,by have:=h.most;have:=k.most;omega,k.GO.trans h.GO,λi d=>(k.XX i d).trans (h.XX i d),by have:=h.own;have:=k.own;omega,λi d=> ?_,λi h1 f=> ?_,λi d g=> ?_,λi d=> ?_⟩
 ·rw[k.ed i (fR d h.more),h.ed i d]
 ·by_cases c:i<y.its.length
  ·rw[k.ed i c];exact h.new i h1 c
  ·exact k.new i (by omega) f
 ·rw[k.far i (fR d h.more) (by rw[h.ed i d];exact g),h.far i d g]
 ·have h1:=k.cW i d
  by_cases c:i<y.its.length
  ·have f:=h.cW i c;omega
  ·have e:y.its.getD i gg=gg:=by rw[ar,ib (by omega)];rfl
   rw[e]at h1
   have:gg.cW.length=0:=rfl
   omega
theorem Grow.mono {n frm tqo:Nat}{x y:Cs}{a b:Nat}(h:Grow n frm tqo x y a)(d:a≤b):Grow n frm tqo x y b:=
 ⟨h.more,by have:=h.most;omega,h.GO,h.XX,by have:=h.own;omega,h.ed,h.new,h.far,λi c=>by have:=h.cW i c;omega⟩
structure gh (nt nf n:Nat)(cs:Cs):Prop where
 GO:cs.sp.length=n*(n+1)
 idx:∀l∈cs.sp,∀e∈l,e<cs.its.length
 tot:(cs.sp.map List.length).sum=cs.its.length
 prt:∀i j e,j≤n→e∈cs.sp.getD (slt n i j) []→(cs.ed e).frm=i∧(cs.ed e).tqo=j
 gr:∀it∈cs.its,it.ed.frm<it.ed.tqo∧it.ed.tqo≤n∧it.ed.cx≤3∧e9 nt nf it.ed.gr∧it.ed.gr.length≤60
 ba:∀it∈cs.its,it.ba.length≤it.cW.length
 kids:∀it∈cs.its,∀w∈it.cW,∀k∈w.kids,k<cs.its.length
theorem gh.Gg {nt nf n:Nat}{cs:Cs}(h:gh nt nf n cs){k e:Nat}(he:e∈cs.sp.getD k []):e<cs.its.length:=by
 rw[ar]at he
 cases c:cs.sp[k]? with
 |none=>rw[c]at he;cases he
 |some l=>rw[c]at he;exact h.idx l (ae c) e he
theorem lM.DQ (it:lM)(w:uj):(it.put w).cW=it.cW++ [w]:=rfl
theorem IC {l:List (List Nat)}{k:Nat}(x:Nat)(h:k<l.length):((l.modify k λm=>m++ [x]).map List.length).sum=(l.map List.length).sum+1:=by
 induction l generalizing k with
 |nil=>cases h
 |cons a l b=>
  cases k with
  |zero=>simp;omega
  |succ k=>
   rw[List.modify_succ_cons,fN,fN,od,od,b (by simpa using h)];omega
theorem getD_modify {α:Type}{l:List α}{f:α→α}{i j:Nat}{d:α}(h:j<l.length):(l.modify i f).getD j d=if i=j then f (l.getD j d)else l.getD j d:=by
 simp only[List.getD_eq_getElem?_getD,List.getElem?_modify,List.getElem?_eq_getElem h,Option.map_some,Option.getD_some]
 split<;>simp_all
theorem yQ {nt nf n:Nat}(I:n≤12){cs:Cs}(h:gh nt nf n cs){e:om}{w:uj}(he:e.frm<e.tqo∧e.tqo≤n∧e.cx≤3∧e9 nt nf e.gr∧e.gr.length≤60)(hk:∀k∈w.kids,k<cs.its.length):
 gh nt nf n (kY n cs e w)∧Grow n e.frm e.tqo cs (kY n cs e w) 1:=by
 have A:slt n e.frm e.tqo<cs.sp.length:=by rw[h.GO];exact sY (by omega) he.2.1
 unfold kY
 cases D:xx cs.its (fZ e)with
 |some i=>
  dsimp only
  obtain⟨it,hit,E⟩:=zB D
  have hm:=ae hit
  obtain⟨g1,g2,g3,g4,g5⟩:=h.gr it hm;obtain⟨s1,s2⟩:=Ny (e:=it.ed) (d:=e) ⟨by omega,by omega⟩ ⟨by omega,by omega⟩ E
  have J:i<cs.its.length:=(fA.1 hit).1
  have s:cs.its.getD i gg=it:=by rw[ar,hit];rfl
  have t:∀x∈cs.its.modify i (λit=>it.put w),x∈cs.its∨x=it.put w:=λx hx=>by
   obtain⟨j,a⟩:=List.mem_iff_getElem?.1 hx;rw[List.getElem?_modify]at a
   split at a
   ·rename_i e2;subst e2;rw[hit]at a;exact .inr (Option.some.inj a).symm
   ·simp at a;exact .inl (ae a)
  have B:∀j,j<cs.its.length→(⟨cs.its.modify i λit=>it.put w,cs.sp⟩:Cs).ed j=cs.ed j:=λj a=>by
   unfold Cs.ed;rw[getD_modify a]
   split<;>rfl
  refine⟨⟨h.GO,λl u x hx=>by rw[pb];exact h.idx l u x hx,by rw[pb];exact h.tot,λo p g q b=> ?_,λx hx=> ?_,λx hx=> ?_,λx hx v f k m=> ?_⟩,⟨by rw[pb];exact aR _,by rw[pb];omega,rfl,λ_ _=>rfl,Nat.le_succ _,λj a=> ?_,λj h1 y=>by rw[pb]at y;omega,λj a C=> ?_,λj a=> ?_⟩⟩
  ·rw[B g (h.Gg b)]
   exact h.prt o p g q b
  ·rcases t x hx with hx|rfl
   ·exact h.gr x hx
   ·exact h.gr it hm
  ·rcases t x hx with hx|rfl
   ·exact h.ba x hx
   ·have:=h.ba it hm
    show(if se w∈it.ba then it.ba else it.ba++ [se w]).length≤(it.cW++ [w]).length
    rw[bQ]
    split
    ·simp;omega
    ·rw[bQ];simp;omega
  ·rw[pb]
   rcases t x hx with hx|rfl
   ·exact h.kids x hx v f k m
   ·rcases cD.1 f with f|f
    ·exact h.kids it hm v f k m
    ·rw[bO.1 f]at m;exact hk k m
  ·exact B j a
  ·rw[getD_modify a,aA]
   rintro rfl;exact C (by unfold Cs.ed;rw[s];exact⟨s1,s2⟩)
  ·rw[pb]at a
   rw[getD_modify a]
   split
   ·rw[lM.DQ,bQ];simp
   ·omega
 |none=>
  dsimp only
  have hlen:(cs.its++ [(⟨e,[],[]⟩:lM).put w]).length=cs.its.length+1:=by simp
  have hold:∀j,j<cs.its.length→(cs.its++ [(⟨e,[],[]⟩:lM).put w]).getD j gg=cs.its.getD j gg:=λj a=>by
   rw[ar,oc a,←ar]
  have z:(cs.its++ [(⟨e,[],[]⟩:lM).put w]).getD cs.its.length gg=(⟨e,[],[]⟩:lM).put w:=by
   rw[ar,lp (aR _),ff];rfl
  refine⟨⟨by rw[pb];exact h.GO,λl u x hx=> ?_,by rw[hlen,←h.tot];exact IC _ A,λo p g q b=> ?_,λx hx=> ?_,λx hx=> ?_,λx hx v f k m=> ?_⟩,⟨by rw[hlen];omega,by rw[hlen];omega,by rw[pb],λk F=> ?_,?_,λj a=> ?_,λj h1 y=> ?_,λj a C=>hold j a,λj a=> ?_⟩⟩
  ·rw[hlen]
   obtain⟨j,a⟩:=List.mem_iff_getElem?.1 u;rw[List.getElem?_modify]at a
   split at a
   ·obtain⟨l0,h1,rfl⟩:=dp.1 a
    rcases cD.1 hx with hx|hx
    ·have:=h.idx l0 (ae h1) x hx;omega
    ·rw[bO.1 hx];omega
   ·simp at a
    have:=h.idx l (ae a) x hx;omega
  ·have r:∀l0,g∈cs.sp.getD (slt n o p) []→(⟨cs.its++ [(⟨e,[],[]⟩:lM).put w],l0⟩:Cs).ed g=cs.ed g:=λl0 hx=>by unfold Cs.ed;rw[hold g (h.Gg hx)]
   by_cases c:slt n o p<cs.sp.length
   ·dsimp only at b
    rw[getD_modify c]at b
    split at b
    ·rename_i e2
     obtain⟨G,H⟩:=DY he.2.1 q e2
     rcases cD.1 b with hx|hx
     ·rw[r _ hx];exact h.prt o p g q hx
     ·rw[bO.1 hx];unfold Cs.ed;dsimp only;rw[z];exact⟨G,H⟩
    ·rw[r _ b];exact h.prt o p g q b
   ·dsimp only at b
    rw[ar,ib (by rw[pb];omega)]at b
    cases b
  ·rcases cD.1 hx with hx|hx
   ·exact h.gr x hx
   ·rw[bO.1 hx];exact he
  ·rcases cD.1 hx with hx|hx
   ·exact h.ba x hx
   ·rw[bO.1 hx]
    show(if se w∈([]:List Int)then([]:List Int)else []++ [se w]).length≤(([]:List uj)++ [w]).length
    rw[aA (by simp)];exact aR _
  ·rw[hlen]
   rcases cD.1 hx with hx|hx
   ·have:=h.kids x hx v f k m;omega
   ·rw[bO.1 hx]at f
    rw[lM.DQ,AF]at f;rw[bO.1 f]at m
    have:=hk k m;omega
  ·by_cases c:k<cs.sp.length
   ·rw[getD_modify c,aA (λe2=>F e2.symm)]
   ·rw[ar,ar,ib (by rw[pb];omega),ib (by omega)]
  ·rw[getD_modify A,aC (show e.frm*(n+1)+e.tqo=slt n e.frm e.tqo from rfl),bQ];simp
  ·unfold Cs.ed;rw[hold j a]
  ·rw[hlen]at y
   obtain rfl:j=cs.its.length:=by omega
   unfold Cs.ed;rw[z];exact⟨rfl,rfl⟩
  ·rw[hlen]at a
   by_cases c:j<cs.its.length
   ·rw[hold j c];omega
   ·obtain rfl:j=cs.its.length:=by omega
    rw[z,lM.DQ];simp
structure Room (cs:Cs)(m:Nat):Prop where
 its:cs.its.length+m≤1400000000000
 cW:∀it∈cs.its,it.cW.length+m≤3000000000000
theorem Room.at_ {cs:Cs}{m i:Nat}(h:Room cs m):(cs.its.getD i gg).cW.length+m≤3000000000000:=by
 by_cases c:i<cs.its.length
 ·rw[ar,bU c];exact h.cW _ (gy c)
 ·rw[ar,ib (by omega)]
  show 0+m≤_
  have:=h.its;omega
theorem Room.grow {n frm tqo:Nat}{cs fg:Cs}{a b:Nat}(h:Room cs (a+b))(k:Grow n frm tqo cs fg a):Room fg b:=by
 refine⟨by have:=k.most;have:=h.its;omega,λit hit=> ?_⟩;obtain⟨i,c,rfl⟩:=GI.1 hit
 have h1:=k.cW i c
 have d:=h.at_ (i:=i)
 rw[ar,bU c]at h1
 have h1:(fg.its[i]).cW.length≤_:=h1
 omega
theorem Room.mono {cs:Cs}{a b:Nat}(h:Room cs b)(c:a≤b):Room cs a:=⟨by have:=h.its;omega,λit hit=>by have:=h.cW it hit;omega⟩
theorem iH {β:Type}{n frm tqo:Nat}(f:Cs→β→Cs)(b:β→Nat)(I:Cs→Prop):∀(l:List β) (cs:Cs),I cs→(∀cs x,x∈l→I cs→I (f cs x)∧Grow n frm tqo cs (f cs x) (b x))→I (l.foldl f cs)∧Grow n frm tqo cs (l.foldl f cs) ((l.map b).sum)
 | [],cs,h,_=>⟨h,Grow.refl ..⟩
 |x::l,cs,h,a=>by
  obtain⟨h1,c⟩:=a cs x (by simp) h
  obtain⟨d,e⟩:=iH f b I l (f cs x) h1 λcs y hy=>a cs y (by simp[hy])
  exact⟨d,c.trans e⟩
def Qn (n frm tqo:Nat)(c:Nat→Nat→Nat)(cs:Cs):Prop:=∀i j,j≤n→¬(i=frm∧j=tqo)→(cs.at_ n i j).length=c i j
theorem Qn.grow {n frm tqo:Nat}{c:Nat→Nat→Nat}{cs fg:Cs}{a:Nat}(h:Qn n frm tqo c cs)(k:Grow n frm tqo cs fg a)(ht:tqo≤n):Qn n frm tqo c fg:=λi j b d=>by
 rw[←h i j b d]
 show(fg.sp.getD (slt n i j) []).length=(cs.sp.getD (slt n i j) []).length
 rw[k.XX _ λe=>d (DY b ht e)]
def lY (c:Nat→Nat→Nat)(tqo:Nat):Nat→Nat→Nat
 |0,a=>c a tqo
 |l+1,a=>((List.range' (a+1) (tqo-(l+1)-a)).map λen=>c a en*lY c tqo l en).sum
theorem jh {β:Type}(l:List β)(k:Nat):(l.map λ_=>k).sum=l.length*k:=by
 induction l with
 |nil=>simp
 |cons x l a=>rw[fN,od,a,fB,jc];omega
structure ij (nt nf n frm tqo:Nat)(c:Nat→Nat→Nat)(m:Nat)(cs:Cs):Prop where
 ok:gh nt nf n cs
 len:Qn n frm tqo c cs
 xY:m≤cs.its.length
theorem ij.grow {nt nf n frm tqo:Nat}{c:Nat→Nat→Nat}{m a:Nat}{cs fg:Cs}(h:ij nt nf n frm tqo c m cs)(b:gh nt nf n fg)(k:Grow n frm tqo cs fg a)(ht:tqo≤n):ij nt nf n frm tqo c m fg:=
 ⟨b,h.len.grow k ht,dS h.xY k.more⟩
theorem zw {nt nf:Nat}{x:e8}(h:e9 nt nf x)(k:Int):(rS x k).toNat<x.length:=by
 unfold rS
 split
 ·rename_i y e
  have:=(h.at_ h.pos).2.2 y (List.mem_of_find?_eq_some e)
  omega
 ·exact h.pos
theorem I9 {nt nf:Nat}{mt:Nat→Nat→Option Nat}(c:yJ nt mt){x y z:e8}{k:Int}(hx:e9 nt nf x)(hy:e9 nt nf y)(h:nE mt x k y=some z):e9 nt nf z∧z.length≤60∧∀j∈mA (x.getD 0 iJ).2,j∈mA (z.getD 0 iJ).2:=by
 unfold nE at h
 split at h
 ·rename_i u e
  split at h
  ·obtain rfl:=Option.some.inj h
   obtain⟨a,_,b⟩:=Sg c hx hy (zw hx k) e;exact⟨a,by assumption,b⟩
  ·cases h
 ·cases h
theorem qP {nt nf:Nat}{x:e8}(hx:e9 nt nf x)(c:x.length≤60):e9 nt nf (mC x)∧(mC x).length≤60:=by
 obtain⟨a,b,_⟩:=te hx (zw hx 0);exact⟨a,dS b c⟩
theorem vx {nt nf n:Nat}{Q:Qr}(a:yJ nt Q.mt){cs:Cs}(h:gh nt nf n cs){rule b e:Nat}{x y:e8}(hx:e9 nt nf x)(he:e<cs.its.length)(hy:lU Q cs rule x b e=some y):e9 nt nf y∧y.length≤60∧∀j∈mA (x.getD 0 iJ).2,j∈mA (y.getD 0 iJ).2:=by
 unfold lU at hy
 split at hy
 ·refine I9 a hx ?_ hy
  unfold Cs.ed;rw[ar,bU he];exact(h.gr _ (gy he)).2.2.2.1
 ·cases hy
theorem gh.q9 {nt nf n:Nat}{cs:Cs}(h:gh nt nf n cs){i j e:Nat}(he:e∈cs.at_ n i j):e<cs.its.length:=by
 unfold Cs.at_ at he;rw[ar]at he
 cases c:cs.sp[i*(n+1)+j]? with
 |none=>rw[c]at he;cases he
 |some l=>rw[c]at he;exact h.idx l (ae c) e he
theorem yr {nt nf:Nat}{Q:Qr}(s:Q.n≤12)(j:yJ nt Q.mt){rule frm tqo:Nat}(t:frm<tqo)(ht:tqo≤Q.n)(c:Nat→Nat→Nat):∀(l:Nat) (cs:Cs) (x:e8) (kids:List Nat) (a m:Nat),ij nt nf Q.n frm tqo c m cs→e9 nt nf x→(frm<a∨(a=frm∧1≤l))→a<tqo→(∀k∈kids,k<m)→
 ij nt nf Q.n frm tqo c m (vC Q rule frm tqo l cs x kids a)∧Grow Q.n frm tqo cs (vC Q rule frm tqo l cs x kids a) (lY c tqo l a)
 |0,cs,x,kids,a,m,g,hx,z,A,hk=>by
  have o:∀e∈cs.at_ Q.n a tqo,e<cs.its.length:=λe he=>g.ok.q9 he
  have:=iH (n:=Q.n) (frm:=frm) (tqo:=tqo) (λcs e=>match lU Q cs rule x (kids.length+1) e with
   |none=>cs
   |some y=>kY Q.n cs ⟨frm,tqo,0,mC y⟩ ⟨rule,0,kids++ [e]⟩) (λ_=>1) (λfg=>ij nt nf Q.n frm tqo c m fg∧cs.its.length≤fg.its.length) (cs.at_ Q.n a tqo) cs ⟨g,aR _⟩ (λd e he ⟨h1,f⟩=>by
    have h:=fR (o e he) f
    cases hy:lU Q d rule x (kids.length+1) e with
    |none=>exact⟨⟨h1,f⟩,(Grow.refl ..).mono (aP _)⟩
    |some y=>
     dsimp only
     obtain⟨p,u,_⟩:=vx j h1.ok hx h hy;obtain⟨m1,m2⟩:=qP p u
     obtain⟨B,a2⟩:=yQ s h1.ok (e:=⟨frm,tqo,0,mC y⟩) (w:=⟨rule,0,kids++ [e]⟩) ⟨t,ht,aP _,m1,m2⟩ (λk b=>by
      rcases cD.1 b with b|b
      ·have:=hk k b;have:=h1.xY;omega
      ·rw[bO.1 b];exact h)
     exact⟨⟨h1.grow B a2 ht,dS f a2.more⟩,a2⟩)
  rw[jh,gW,g.len a tqo ht (by omega)]at this;exact⟨this.1.1,this.2⟩
 |l+1,cs,x,kids,a,m,g,hx,z,A,hk=>by
  refine iH (n:=Q.n) (frm:=frm) (tqo:=tqo) (λcs en=>(cs.at_ Q.n a en).foldl (λcs e=>match lU Q cs rule x (kids.length+1) e with
   |none=>cs
   |some y=>vC Q rule frm tqo l cs y (kids++ [e]) en) cs) (λen=>c a en*lY c tqo l en) (ij nt nf Q.n frm tqo c m) (List.range' (a+1) (tqo-(l+1)-a)) cs g (λd en C h1=> ?_)
  obtain⟨i,D,rfl⟩:=List.mem_range'.1 C
  have q:a+1+1*i<tqo:=by omega
  have o:∀e∈d.at_ Q.n a (a+1+1*i),e<d.its.length:=λe he=>h1.ok.q9 he
  have:=iH (n:=Q.n) (frm:=frm) (tqo:=tqo) (λcs e=>match lU Q cs rule x (kids.length+1) e with
   |none=>cs
   |some y=>vC Q rule frm tqo l cs y (kids++ [e]) (a+1+1*i)) (λ_=>lY c tqo l (a+1+1*i)) (ij nt nf Q.n frm tqo c (max m d.its.length)) (d.at_ Q.n a (a+1+1*i)) d ⟨h1.ok,h1.len,by have:=h1.xY;omega⟩ (λv e he f=>by
    have h:e<max m d.its.length:=by have:=o e he;omega
    have r:=fR h f.xY
    cases hy:lU Q v rule x (kids.length+1) e with
    |none=>exact⟨f,(Grow.refl ..).mono (aP _)⟩
    |some y=>
     dsimp only
     obtain⟨p,u,_⟩:=vx j f.ok hx r hy
     exact yr s j t ht c l v y (kids++ [e]) (a+1+1*i) _ f p (.inl (by omega)) q (λk b=>by
      rcases cD.1 b with b|b
      ·have:=hk k b;omega
      ·rw[bO.1 b];exact h))
  rw[jh,h1.len a _ (by omega) (by omega)]at this;exact⟨⟨this.1.ok,this.1.len,by have:=this.1.xY;omega⟩,this.2⟩
theorem Fw (f:Nat→Nat)(a:Nat):∀b:Nat,fw f (a+b)=fw f a+fw (λj=>f (a+j)) b
 |0=>rfl
 |b+1=>by rw[←qg,fw,fw,Fw f a b];omega
theorem zn (f:Nat→Nat)(b:Nat):∀a:Nat,fw f (a*b)=fw (λi=>fw (λj=>f (i*b+j)) b) a
 |0=>by rw[Nat.zero_mul];rfl
 |a+1=>by rw[jc,Nat.one_mul,Fw,zn f b a];rfl
theorem Bn (f:Nat→Nat)(a:Nat):∀b:Nat,fw f a≤fw f (a+b)
 |0=>aR _
 |b+1=>by rw[←qg,fw];have:=Bn f a b;omega
theorem y8 {f:Nat→Nat}{a b:Nat}(h:a≤b):fw f a≤fw f b:=by
 obtain⟨k,rfl⟩:=Nat.exists_eq_add_of_le h;exact Bn f a k
theorem oT {f:Nat→Nat}{i n:Nat}(h:i<n):f i≤fw f n:=by
 have:=y8 (f:=f) (show i+1≤n from h)
 rw[fw]at this;omega
theorem Pa {f:Nat→Nat}{i j n:Nat}(b:i<n)(d:j<n)(e:i≠j):f i+f j≤fw f n:=by
 rcases Nat.lt_or_gt_of_ne e with c|c
 ·have h1:=oT (f:=f) c
  have a:=y8 (f:=f) (show j+1≤n from d)
  rw[fw]at a;omega
 ·have h1:=oT (f:=f) c
  have a:=y8 (f:=f) (show i+1≤n from b)
  rw[fw]at a;omega
theorem sum_range' (f:Nat→Nat):∀(k s:Nat),((List.range' s k).map f).sum+fw f s=fw f (s+k)
 |0,s=>by simp
 |k+1,s=>by
  rw[List.range'_succ,fN,od]
  have:=sum_range' f k (s+1)
  rw[fw]at this
  rw[show s+(k+1)=s+1+k by omega];omega
theorem vq (f:Nat→Nat):∀n:Nat,fw f (n+1)=f 0+fw (λi=>f (i+1)) n
 |0=>by simp[fw]
 |n+1=>by rw[fw,vq f n,fw];omega
theorem Fx {α:Type}(f:α→Nat)(d:α):∀l:List α,(l.map f).sum=fw (λk=>f (l.getD k d)) l.length
 | []=>rfl
 |a::l=>by
  rw[fN,od,fB,vq,Fx f d l];rfl
theorem IB {β:Type}{f g:β→Nat}:∀{l:List β},(∀x∈l,f x≤g x)→(l.map f).sum≤(l.map g).sum
 | [],_=>aR _
 |x::l,h=>by
  rw[fN,fN,od,od]
  have:=h x (by simp)
  have:=IB (f:=f) (g:=g) (l:=l) λy hy=>h y (by simp[hy])
  omega
theorem Jo {β:Type}(f:β→Nat)(k:Nat):∀l:List β,(l.map λx=>f x*k).sum=(l.map f).sum*k
 | []=>by simp
 |x::l=>by rw[fN,fN,od,od,Jo f k l,jc]
def Ax (c:Nat→Nat→Nat)(n i:Nat):Nat:=fw (c i) (n+1)
theorem PG {nt nf n:Nat}{cs:Cs}(h:gh nt nf n cs):fw (Ax (λi j=>(cs.at_ n i j).length) n) n=cs.its.length:=by
 have:=Fx List.length [] cs.sp
 rw[h.tot,h.GO,zn]at this;exact this.symm
theorem PD {c:Nat→Nat→Nat}{n a s k:Nat}(h:s+k≤n+1):((List.range' s k).map (c a)).sum≤Ax c n a:=by
 have h1:=sum_range' (c a) k s
 have b:=y8 (f:=c a) h
 unfold Ax;omega
theorem ym {c:Nat→Nat→Nat}{n tqo l a K:Nat}(ht:tqo≤n)(b:∀en,a<en→en<tqo→lY c tqo l en≤K):lY c tqo (l+1) a≤Ax c n a*K:=by
 show((List.range' (a+1) (tqo-(l+1)-a)).map λen=>c a en*lY c tqo l en).sum≤_
 refine dS (IB (g:=λen=>c a en*K) λen d=> ?_) ?_
 ·obtain⟨i,f,rfl⟩:=List.mem_range'.1 d
  exact AA _ (b _ (by omega) (by omega))
 ·rw[Jo]
  by_cases e:tqo-(l+1)-a=0
  ·rw[e];simp
  ·exact iU _ (PD (by omega))
theorem Rc {c:Nat→Nat→Nat}{n frm tqo A M:Nat}(ht:tqo≤n)(d:Ax c n frm≤A)(g:∀i,frm<i→i<n→Ax c n i≤M):lY c tqo 1 frm≤A*M∧lY c tqo 2 frm≤A*(M*M):=by
 have h:∀en,frm<en→en<tqo→lY c tqo 0 en≤M:=λen h1 j=>dS (oT (f:=c en) (show tqo<n+1 by omega)) (g en h1 (by omega))
 have h1:∀en,frm<en→en<tqo→lY c tqo 1 en≤M*M:=λen h1 j=>dS (ym (l:=0) ht λe a b=>h e (by omega) b) (iU _ (g en h1 (by omega)))
 exact⟨dS (ym (l:=0) ht h) (iU _ d),dS (ym (l:=1) ht h1) (iU _ d)⟩
theorem Re:∀A,A≤300→A*((300-A)*(300-A))≤4000000:=by decide+kernel
theorem TH:∀A,A≤300→A*(300-A)≤4000000:=by decide+kernel
theorem BO {nt nf n:Nat}{cs:Cs}(h:gh nt nf n cs)(o:cs.its.length≤300){frm tqo l:Nat}(p:frm<tqo)(ht:tqo≤n)(h1:1≤l)(b:l≤2):lY (λi j=>(cs.at_ n i j).length) tqo l frm≤4000000:=by
 obtain⟨c,e⟩:∃c:Nat→Nat→Nat,c=λi j=>(cs.at_ n i j).length:=⟨_,rfl⟩
 have a:=PG h
 rw[←e]at a⊢
 have d:frm<n:=by omega
 have q:=oT (f:=Ax c n) d
 have g:∀i,frm<i→i<n→Ax c n i≤300-Ax c n frm:=λi h1 b=>by
  have:=Pa (f:=Ax c n) d b (by omega);omega
 obtain⟨k,m⟩:=Rc (c:=c) ht (aR _) g
 rcases(show l=1∨l=2 by omega)with rfl|rfl
 ·exact dS k (TH _ (by omega))
 ·exact dS m (Re _ (by omega))
structure qp (nt nf:Nat)(Q:Qr):Prop where
 n:Q.n≤12
 mt:yJ nt Q.mt
 rn:Q.rules.length≤40
 xn:Q.aL.length≤100
 rule:∀r∈Q.rules,(1≤r.kids∧r.kids≤3)∧e9 nt nf r.graph∧r.graph.length≤60
 lex:∀x∈Q.aL,e9 nt nf x.graph∧x.graph.length≤60
theorem qp.vg {nt nf:Nat}{Q:Qr}(h:qp nt nf Q){i:Nat}(a:i<Q.rules.length):(1≤(Q.rules.getD i oS).kids∧(Q.rules.getD i oS).kids≤3)∧e9 nt nf (Q.rules.getD i oS).graph∧(Q.rules.getD i oS).graph.length≤60:=by
 rw[ar,bU a];exact h.rule _ (gy a)
theorem qp.Uu {nt nf:Nat}{Q:Qr}(h:qp nt nf Q){i:Nat}(a:i<Q.aL.length):e9 nt nf (Q.aL.getD i Qh).graph∧(Q.aL.getD i Qh).graph.length≤60:=by
 rw[ar,bU a];exact h.lex _ (gy a)
theorem rE {α:Type}(p:α→Bool)(d:α)(k:Nat)(l:List α):((List.range l.length).map λi=>if p (l.getD i d)=true then k else 0).sum=l.countP p*k:=by
 have h1:((List.range l.length).map λi=>if p (l.getD i d)=true then k else 0).sum=fw (λi=>if p (l.getD i d)=true then k else 0) l.length:=by
  have:=sum_range' (λi=>if p (l.getD i d)=true then k else 0) l.length 0
  rw[←List.range_eq_range',hP]at this;exact this
 rw[h1]
 induction l with
 |nil=>simp[fw]
 |cons a l b=>
  rw[fB,vq,rz]
  have c:((List.range l.length).map λi=>if p (l.getD i d)=true then k else 0).sum=fw (λi=>if p (l.getD i d)=true then k else 0) l.length:=by
   have:=sum_range' (λi=>if p (l.getD i d)=true then k else 0) l.length 0
   rw[←List.range_eq_range',hP]at this;exact this
  have e:=b c
  show(if p a=true then k else 0)+fw (λi=>if p (l.getD i d)=true then k else 0) l.length=_
  rw[e]
  split
  ·rw[jc];omega
  ·simp
def OH (Q:Qr):Nat:=Q.rules.countP λr=>decide (1<r.kids)
theorem OY {nt nf:Nat}{Q:Qr}(h:qp nt nf Q):hC Q+OH Q=Q.rules.length:=by
 unfold hC OH
 have:=h.rule
 generalize Q.rules=l at this
 induction l with
 |nil=>rfl
 |cons a l b=>
  have d:=(this a (by simp)).1
  have:=b λr c=>this r (by simp[c])
  rw[rz,rz,fB]
  by_cases e:a.kids=1
  ·rw[aC (eB e),aA (by simp;omega)];omega
  ·rw[aA (by simp[e]),aC (eB (by omega))];omega
def Cf (Q:Qr)(frm tqo:Nat):Nat:=if tqo=frm+1 then 100 else OH Q*4000000
theorem zb {nt nf:Nat}{Q:Qr}(d:qp nt nf Q){frm tqo m:Nat}(e:frm<tqo)(ht:tqo≤Q.n){c cs:Cs}(f:gh nt nf Q.n c)(g:c.its.length≤300)(h:ij nt nf Q.n frm tqo (λi j=>(c.at_ Q.n i j).length) m cs){i:Nat}(l:i<Q.rules.length):
 ij nt nf Q.n frm tqo (λi j=>(c.at_ Q.n i j).length) m (rQ Q frm tqo cs i)∧Grow Q.n frm tqo cs (rQ Q frm tqo cs i) (if decide (1<(Q.rules.getD i oS).kids)=true then 4000000 else 0):=by
 obtain⟨⟨q,k3⟩,o,_⟩:=d.vg l;unfold rQ
 split
 ·rename_i p
  obtain⟨hk,r⟩:=p;rw[aC (eB hk)];obtain⟨a,b⟩:=yr d.n d.mt e ht _ ((Q.rules.getD i oS).kids.toNat-1) cs _ [] frm m h o (.inr ⟨rfl,by omega⟩) e (λk hk=>by cases hk);exact⟨a,b.mono (BO f g e ht (by omega) (by omega))⟩
 ·exact⟨h,(Grow.refl ..).mono (aP _)⟩
theorem zD {nt nf:Nat}{Q:Qr}(d:qp nt nf Q){w:ax}{frm tqo m:Nat}{c:Nat→Nat→Nat}(g:frm<tqo)(ht:tqo≤Q.n){cs:Cs}(h:ij nt nf Q.n frm tqo c m cs){i:Nat}(j:i<Q.aL.length):
 ij nt nf Q.n frm tqo c m (rM Q w frm tqo cs i)∧Grow Q.n frm tqo cs (rM Q w frm tqo cs i) 1:=by
 obtain⟨f,l⟩:=d.Uu j;unfold rM
 split
 ·obtain⟨f1,f2,_⟩:=te f f.pos
  obtain⟨a,b⟩:=yQ d.n h.ok (e:=⟨frm,tqo,0,gj (Q.aL.getD i Qh).graph 0⟩) (w:=⟨-1,i,[]⟩) ⟨g,ht,aP _,f1,dS f2 l⟩ (λk hk=>by cases hk);exact⟨h.grow a b ht,b⟩
 ·exact⟨h,(Grow.refl ..).mono (aP _)⟩
theorem MT {nt nf:Nat}{Q:Qr}(c:qp nt nf Q){words:List ax}{frm tqo:Nat}(e:frm<tqo)(ht:tqo≤Q.n){cs:Cs}(h:gh nt nf Q.n cs)(g:cs.its.length≤300):
 ij nt nf Q.n frm tqo (λi j=>(cs.at_ Q.n i j).length) 0 (n9 Q words frm tqo cs)∧Grow Q.n frm tqo cs (n9 Q words frm tqo cs) (Cf Q frm tqo):=by
 have f:ij nt nf Q.n frm tqo (λi j=>(cs.at_ Q.n i j).length) 0 cs:=⟨h,λ_ _ _ _=>rfl,aP _⟩
 unfold n9 Cf
 split
 ·obtain⟨a,b⟩:=iH (n:=Q.n) (frm:=frm) (tqo:=tqo) (rM Q (words.getD frm []) frm tqo) (λ_=>1) _ (List.range Q.aL.length) cs f (λk i d h1=>zD c e ht h1 (dt.1 d))
  rw[jh,jT,gW]at b;exact⟨a,b.mono c.xn⟩
 ·obtain⟨a,b⟩:=iH (n:=Q.n) (frm:=frm) (tqo:=tqo) (rQ Q frm tqo) _ _ (List.range Q.rules.length) cs f (λk i d h1=>zb c e ht h g h1 (dt.1 d))
  rw[rE (λr:sq=>decide (1<r.kids)) oS 4000000 Q.rules]at b;exact⟨a,b⟩
end Go.Proofs.YtblifkgpebebmaaGreatDoor
namespace Go.Proofs
open Go.Shelf
def Tryz.HQ:Go.Shelf.Ren:=⟨λ|4=>174|n=>n,λ|0=>0|3=>3|4=>4|9=>9|20=>20|22=>161|25=>165|n=>n,λ|n=>n⟩
theorem Tryz.O6:Go.Proofs.Lays8.n4 Tryz.prog Tryz.HQ:={
 mixed:=by kernel_rfl
 f4:=⟨Tryz.f174.name,by decide,Tryz.func174.trans (congrArg some (by kernel_rfl))⟩
 t0:=Yf
 a0:=Tryz.isAgg0
 z0:=Tryz.sizeOf0
 v0:=Tryz.zeroValue0
 t3:=gV
 a3:=Tryz.isAgg3
 z3:=Tryz.sizeOf3
 v3:=Tryz.zeroValue3
 t4:=IL
 a4:=Tryz.isAgg4
 z4:=Tryz.sizeOf4
 v4:=Tryz.zeroValue4
 t9:=xQ
 a9:=Tryz.isAgg9
 z9:=Tryz.sizeOf9
 v9:=Tryz.zeroValue9
 t20:=Tryz.underlying20
 a20:=Tryz.isAgg20
 z20:=Tryz.sizeOf20
 v20:=Tryz.zeroValue20
 t22:=eV
 a22:=Tryz.isAgg161
 z22:=Tryz.sizeOf161
 v22:=Tryz.zeroValue161}
end Go.Proofs
namespace Go.Proofs.YtblifkgpebebmaaGreatDoor
open Go Go.J Tryz
theorem UU:aI prog 156:=⟨_,func156,rfl,by kernel_rfl⟩
instance:rI prog 58 #[.slice none 0 0]:=⟨by kernel_rfl⟩
instance:rI prog 87 #[.nilFunc]:=⟨by kernel_rfl⟩
theorem al5:(prog.info? 87).map (·.size)=some 1:=by kernel_rfl
theorem aeZ (w:World):cw prog 30 w= .ok #[(0,1)] w:=by kernel_rfl
instance:gp prog 245 1 2:=⟨by kernel_rfl⟩
instance:gp prog 245 2 3:=⟨by kernel_rfl⟩
instance:gp prog 245 3 4:=⟨by kernel_rfl⟩
theorem QU:(prog.info? 161).bind (·.zero)=some (Value.slice none 0 0):=by kernel_rfl
theorem ZD:(prog.info? 161).map (·.bytes)=some 24:=by kernel_rfl
theorem afD:(prog.info? 243).map (·.size)=some 1:=by kernel_rfl
theorem Zq:aI prog 174:=⟨_,func174,rfl,by kernel_rfl⟩
theorem afQ:(prog.info? 270).bind (λi=>i.zero.map Value.cells)=some #[.int .i64 0,.int .i64 0]:=by kernel_rfl
theorem Bs:(prog.info? 270).map (·.size)=some 2:=by kernel_rfl
theorem QV:(prog.info? 270).bind (·.zero)=some (Value.agg #[.int .i64 0,.int .i64 0]):=by kernel_rfl
theorem EH:aI prog 150:=⟨_,func150,rfl,by kernel_rfl⟩
instance:gp prog 245 0 0:=⟨by kernel_rfl⟩
theorem ZI:(prog.info? 270).map (·.bytes)=some 16:=by kernel_rfl
theorem Zh:aI prog 151:=⟨_,func151,rfl,by kernel_rfl⟩
theorem Mo:aI prog 136:=⟨_,func136,rfl,by kernel_rfl⟩
theorem aeY (w:World):cw prog 245 w= .ok #[(0,2),(2,1),(3,1),(4,1)] w:=by kernel_rfl
theorem afP:(prog.info? 245).bind (λi=>i.zero.map Value.cells)=some #[.slice none 0 0,.slice none 0 0,.slice none 0 0,.slice none 0 0,.slice none 0 0]:=by kernel_rfl
theorem UN:aI prog 128:=⟨_,func128,rfl,by kernel_rfl⟩
theorem ZW:aI prog 129:=⟨_,func129,rfl,by kernel_rfl⟩
theorem ZX:aI prog 130:=⟨_,func130,rfl,by kernel_rfl⟩
theorem RH:aI prog 92:=⟨_,func92,rfl,by kernel_rfl⟩
instance:gp prog 183 0 0:=⟨by kernel_rfl⟩
theorem D3:bf prog 183 1=some 1:=by kernel_rfl
instance:type_of%(gp.mk D3):=⟨D3⟩
instance:gp prog 183 2 2:=⟨by kernel_rfl⟩
theorem sz5:(prog.info? 5).map (·.size)=some 1:=by kernel_rfl
theorem zv5:(prog.info? 5).bind (·.zero)=some (Value.int .u8 0):=by kernel_rfl
theorem xj:bf prog 183 3=some 3:=by kernel_rfl
instance:type_of%(gp.mk xj):=⟨xj⟩
theorem by5:(prog.info? 5).map (·.bytes)=some 1:=by kernel_rfl
instance:gp prog 177 1 1:=⟨by kernel_rfl⟩
instance:gp prog 177 0 0:=⟨by kernel_rfl⟩
theorem D2:bf prog 174 0=some 0:=by kernel_rfl
instance:type_of%(gp.mk D2):=⟨D2⟩
theorem Rz:bf prog 174 1=some 1:=by kernel_rfl
theorem Jp:(prog.info? 174).map (·.size)=some 6:=by kernel_rfl
instance:type_of%(pd.mk Jp):=⟨Jp⟩
theorem Zk:aI prog 159:=⟨_,func159,rfl,by kernel_rfl⟩
instance:gp prog 174 2 2:=⟨by kernel_rfl⟩
instance:gp prog 174 3 3:=⟨by kernel_rfl⟩
theorem Jr:(prog.info? 234).map (·.size)=some 3:=by kernel_rfl
instance:type_of%(pd.mk Jr):=⟨Jr⟩
theorem qV:(prog.info? 171).map (·.size)=some 1:=by kernel_rfl
theorem Zi:aI prog 157:=⟨_,func157,rfl,by kernel_rfl⟩
theorem Zj:aI prog 158:=⟨_,func158,rfl,by kernel_rfl⟩
instance:gp prog 180 2 7:=⟨by kernel_rfl⟩
theorem Zf:aI prog 146:=⟨_,func146,rfl,by kernel_rfl⟩
theorem Ze:aI prog 145:=⟨_,func145,rfl,by kernel_rfl⟩
instance:gp prog 180 3 13:=⟨by kernel_rfl⟩
theorem oY:(prog.info? 186).map (·.size)=some 6:=by kernel_rfl
instance:type_of%(pd.mk oY):=⟨oY⟩
theorem tc:bf prog 186 2=some 5:=by kernel_rfl
instance:type_of%(gp.mk tc):=⟨tc⟩
theorem Zd:aI prog 144:=⟨_,func144,rfl,by kernel_rfl⟩
instance:gp prog 200 0 0:=⟨by kernel_rfl⟩
instance:gp prog 200 1 1:=⟨by kernel_rfl⟩
theorem zt:(prog.info? 183).map (·.size)=some 4:=by kernel_rfl
instance:type_of%(pd.mk zt):=⟨zt⟩
theorem Za:aI prog 141:=⟨_,func141,rfl,by kernel_rfl⟩
instance:gp prog 180 5 16:=⟨by kernel_rfl⟩
theorem aeX (w:World):cw prog 186 w= .ok #[(0,4),(4,1),(5,1)] w:=by kernel_rfl
theorem QP:(prog.info? 186).bind (λi=>i.zero.map Value.cells)=some #[.int .i64 0,.int .i64 0,.int .i64 0,.slice none 0 0,.slice none 0 0,.slice none 0 0]:=by kernel_rfl
instance:type_of%(rI.mk QP):=⟨QP⟩
theorem GM:(prog.info? 186).bind (·.zero)=some (Value.agg #[.int .i64 0,.int .i64 0,.int .i64 0,.slice none 0 0,.slice none 0 0,.slice none 0 0]):=by kernel_rfl
theorem Mh:(prog.info? 186).map (·.bytes)=some 96:=by kernel_rfl
theorem Pb:(prog.info? 118).map (·.size)=some 1:=by kernel_rfl
instance:gp prog 180 4 14:=⟨by kernel_rfl⟩
theorem Br:(prog.info? 177).map (·.size)=some 2:=by kernel_rfl
instance:type_of%(pd.mk Br):=⟨Br⟩
theorem Zb:aI prog 142:=⟨_,func142,rfl,by kernel_rfl⟩
theorem tZ:bf prog 186 1=some 4:=by kernel_rfl
instance:type_of%(gp.mk tZ):=⟨tZ⟩
theorem wZ:(prog.info? 200).map (·.size)=some 3:=by kernel_rfl
instance:type_of%(pd.mk wZ):=⟨wZ⟩
theorem KF:(prog.info? 200).bind (·.zero)=some (Value.agg #[.int .i64 0,.int .i64 0,.slice none 0 0]):=by kernel_rfl
theorem UE:(prog.info? 200).map (·.bytes)=some 40:=by kernel_rfl
theorem VE:(prog.info? 184).map (·.size)=some 1:=by kernel_rfl
theorem Zc:aI prog 143:=⟨_,func143,rfl,by kernel_rfl⟩
theorem ag8:(prog.info? 58).map (·.bytes)=some 24:=by kernel_rfl
theorem QO:(prog.info? 177).bind (λi=>i.zero.map Value.cells)=some #[.int .i64 0,.slice none 0 0]:=by kernel_rfl
instance:type_of%(rI.mk QO):=⟨QO⟩
theorem aeV (w:World):cw prog 177 w= .ok #[(0,1),(1,1)] w:=by kernel_rfl
theorem UL:aI prog 121:=⟨_,func121,rfl,by kernel_rfl⟩
theorem Ml:aI prog 120:=⟨_,func120,rfl,by kernel_rfl⟩
instance:gp prog 180 0 0:=⟨by kernel_rfl⟩
theorem Mn:aI prog 122:=⟨_,func122,rfl,by kernel_rfl⟩
theorem UM:aI prog 123:=⟨_,func123,rfl,by kernel_rfl⟩
instance:gp prog 180 1 5:=⟨by kernel_rfl⟩
theorem tY:bf prog 186 0=some 0:=by kernel_rfl
instance:type_of%(gp.mk tY):=⟨tY⟩
theorem Iq:aI prog 124:=⟨_,func124,rfl,by kernel_rfl⟩
theorem Mk:aI prog 118:=⟨_,func118,rfl,by kernel_rfl⟩
theorem V5 (w:World):cw prog 183 w= .ok #[(0,1),(1,1),(2,1),(3,1)] w:=by kernel_rfl
theorem KA:(prog.info? 183).bind (λi=>i.zero.map Value.cells)=some #[.int .i64 0,.int .i64 0,.int .i64 0,.slice none 0 0]:=by kernel_rfl
instance:type_of%(rI.mk KA):=⟨KA⟩
theorem V7 (w:World):cw prog 200 w= .ok #[(0,1),(1,1),(2,1)] w:=by kernel_rfl
theorem KC:(prog.info? 200).bind (λi=>i.zero.map Value.cells)=some #[.int .i64 0,.int .i64 0,.slice none 0 0]:=by kernel_rfl
instance:type_of%(rI.mk KC):=⟨KC⟩
theorem UG:aI prog 106:=⟨_,func106,rfl,by kernel_rfl⟩
theorem QN:(prog.info? 174).bind (λi=>i.zero.map Value.cells)=some #[.int .i64 0,.int .i64 0,.slice none 0 0,.slice none 0 0,.slice none 0 0,.slice none 0 0]:=by kernel_rfl
instance:type_of%(rI.mk QN):=⟨QN⟩
theorem aeU (w:World):cw prog 174 w= .ok #[(0,1),(1,1),(2,1),(3,1),(4,1),(5,1)] w:=by kernel_rfl
theorem U2:(prog.info? 30).bind (·.zero)=some (Value.agg #[.slice none 0 0]):=by kernel_rfl
theorem ZJ:(prog.info? 30).map (·.bytes)=some 24:=by kernel_rfl
instance:rI prog 234 #[.slice none 0 0,.slice none 0 0,.slice none 0 0]:=⟨by kernel_rfl⟩
theorem UK:aI prog 119:=⟨_,func119,rfl,by kernel_rfl⟩
theorem VO:(prog.info? 234).bind (·.zero)=some (Value.agg #[.slice none 0 0,.slice none 0 0,.slice none 0 0]):=by kernel_rfl
theorem ZH:(prog.info? 234).map (·.bytes)=some 72:=by kernel_rfl
theorem afA:(prog.info? 170).map (·.size)=some 1:=by kernel_rfl
instance:gp prog 174 4 4:=⟨by kernel_rfl⟩
instance:gp prog 174 5 5:=⟨by kernel_rfl⟩
theorem VM:(prog.info? 171).bind (·.zero)=some (Value.slice none 0 0):=by kernel_rfl
theorem ZE:(prog.info? 171).map (·.bytes)=some 24:=by kernel_rfl
theorem afB:(prog.info? 172).map (·.size)=some 1:=by kernel_rfl
theorem RJ:aI prog 99:=⟨_,func99,rfl,by kernel_rfl⟩
theorem Zp:aI prog 173:=⟨_,func173,rfl,by kernel_rfl⟩
theorem Zo:aI prog 172:=⟨_,func172,rfl,by kernel_rfl⟩
theorem Zn:aI prog 171:=⟨_,func171,rfl,by kernel_rfl⟩
theorem Zm:aI prog 170:=⟨_,func170,rfl,by kernel_rfl⟩
theorem Zg:aI prog 149:=⟨_,func149,rfl,by kernel_rfl⟩
instance:gp prog 120 0 0:=⟨by kernel_rfl⟩
theorem ZV:aI prog 127:=⟨_,func127,rfl,by kernel_rfl⟩
theorem ZU:aI prog 126:=⟨_,func126,rfl,by kernel_rfl⟩
theorem ZT:aI prog 125:=⟨_,func125,rfl,by kernel_rfl⟩
instance:gp prog 200 2 2:=⟨by kernel_rfl⟩
theorem ah3:aI prog 90:=⟨_,func90,rfl,by kernel_rfl⟩
theorem ah4:aI prog 91:=⟨_,func91,rfl,by kernel_rfl⟩
theorem K9:(prog.info? 120).bind (λi=>i.zero.map Value.cells)=some #[.slice none 0 0,.int .i64 0,.slice none 0 0]:=by kernel_rfl
instance:type_of%(rI.mk K9):=⟨K9⟩
theorem Vx:aI prog 24:=⟨_,func24,rfl,by kernel_rfl⟩
theorem V4 (w:World):cw prog 120 w= .ok #[(0,1),(1,1),(2,1)] w:=by kernel_rfl
theorem Pc:(prog.info? 120).map (·.size)=some 3:=by kernel_rfl
instance:type_of%(pd.mk Pc):=⟨Pc⟩
theorem ah0:aI prog 87:=⟨_,func87,rfl,by kernel_rfl⟩
theorem ah1:aI prog 88:=⟨_,func88,rfl,by kernel_rfl⟩
theorem ah2:aI prog 89:=⟨_,func89,rfl,by kernel_rfl⟩
theorem aeW (w:World):cw prog 180 w= .ok #[(0,5),(5,2),(7,6),(13,1),(14,2),(16,1)] w:=by kernel_rfl
theorem afO:(prog.info? 180).bind (λi=>i.zero.map Value.cells)=some #[.slice none 0 0,.slice none 0 0,.slice none 0 0,.slice none 0 0,.slice none 0 0,.slice none 0 0,.slice none 0 0,.int .i64 0,.int .i64 0,.slice none 0 0,.slice none 0 0,.slice none 0 0,.slice none 0 0,.slice none 0 0,.int .i64 0,.slice none 0 0,.map none]:=by kernel_rfl
theorem Ry:bf prog 120 1=some 1:=by kernel_rfl
instance:gp prog 120 2 2:=⟨by kernel_rfl⟩
theorem R9 {a:Value}(b:a.oneCell'=true)(w:World):(Instr.build 30 #[(0,a)]).run prog w= .ok (.agg #[a]) w:=
 bM U0 (aeZ w) (by simp[Instr.fill,J.bK,J.cells_one b])
theorem yZ {a b:Value}(c:a.oneCell'=true)(h1:b.oneCell'=true)(w:World):(Instr.build 270 #[(0,a),(1,b)]).run prog w= .ok (.agg #[a,b]) w:=
 Hw underlying270 afQ dK (by simp[Instr.fill,J.bK,J.cells_one c,J.cells_one h1])
theorem Mb {a b:Value}(w:World):(Instr.build 245 #[(0,.agg #[a,b])]).run prog w= .ok (.agg #[a,b,.slice none 0 0,.slice none 0 0,.slice none 0 0]) w:=
 bM afP (aeY w) (by simp[Instr.fill,J.bK])
theorem Vo (w:World):(Instr.build 30 #[]).run prog w= .ok (.agg #[.slice none 0 0]) w:=
 bM U0 (aeZ w) (by simp[Instr.fill,J.bK])
theorem Ma {a b c d:Value}(w:World):(Instr.build 186 #[(0,.agg #[a,b,c,d])]).run prog w= .ok (.agg #[a,b,c,d,.slice none 0 0,.slice none 0 0]) w:=
 bM QP (aeX w) (by simp[Instr.fill,J.bK])
theorem Gp {a b:Value}(c:a.oneCell'=true)(h1:b.oneCell'=true)(w:World):(Instr.build 177 #[(0,a),(1,b)]).run prog w= .ok (.agg #[a,b]) w:=
 bM QO (aeV w) (by simp[Instr.fill,J.bK,J.cells_one c,J.cells_one h1])
theorem tL {a b c:Value}(d:a.oneCell'=true)(h1:b.oneCell'=true)(w:World):(Instr.build 183 #[(0,a),(1,b),(3,.agg #[c])]).run prog w= .ok (.agg #[a,b,.int .i64 0,c]) w:=
 bM KA (V5 w) (by simp[Instr.fill,J.bK,J.cells_one d,J.cells_one h1])
theorem Gr {a b:Value}(c:a.oneCell'=true)(h1:b.oneCell'=true)(w:World):(Instr.build 200 #[(0,a),(1,b)]).run prog w= .ok (.agg #[a,b,.slice none 0 0]) w:=
 bM KC (V7 w) (by simp[Instr.fill,J.bK,J.cells_one c,J.cells_one h1])
theorem yX {a b c d:Value}(e:a.oneCell'=true)(h1:b.oneCell'=true)(f:c.oneCell'=true)(w:World):(Instr.build 183 #[(0,a),(1,b),(2,c),(3,.agg #[d])]).run prog w= .ok (.agg #[a,b,c,d]) w:=
 bM KA (V5 w) (by simp[Instr.fill,J.bK,J.cells_one e,J.cells_one h1,J.cells_one f])
theorem yY {a b:Value}(c:a.oneCell'=true)(d:b.oneCell'=true)(w:World):(Instr.build 200 #[(0,a),(2,b)]).run prog w= .ok (.agg #[a,.int .i64 0,b]) w:=
 bM KC (V7 w) (by simp[Instr.fill,J.bK,J.cells_one c,J.cells_one d])
theorem Gn {a b:Value}(c:a.oneCell'=true)(h1:b.oneCell'=true)(w:World):(Instr.build 174 #[(0,a),(1,b)]).run prog w= .ok (.agg #[a,b,.slice none 0 0,.slice none 0 0,.slice none 0 0,.slice none 0 0]) w:=
 bM QN (aeU w) (by simp[Instr.fill,J.bK,J.cells_one c,J.cells_one h1])
theorem ur {j k l m a n b c d e f g h o p i:Value}(q:i.oneCell'=true)(w:World):(Instr.build 180 #[(0,.agg #[j,k,l,m,a]),(1,.agg #[n,b]),(2,.agg #[c,d,e,f,g,h]),(4,.agg #[o,p]),(5,i)]).run prog w= .ok (.agg #[j,k,l,m,a,n,b,c,d,e,f,g,h,.slice none 0 0,o,p,i]) w:=
 bM afO (aeW w) (by simp[Instr.fill,J.bK,J.cells_one q])
theorem Cj (w:World):(Instr.build 120 #[]).run prog w= .ok (.agg #[.slice none 0 0,.int .i64 0,.slice none 0 0]) w:=
 bM K9 (V4 w) (by simp[Instr.fill,J.bK])
theorem Gk {a b:Value}(c:a.oneCell'=true)(h1:b.oneCell'=true)(w:World):(Instr.build 120 #[(0,a),(1,b)]).run prog w= .ok (.agg #[a,b,.slice none 0 0]) w:=
 bM K9 (V4 w) (by simp[Instr.fill,J.bK,J.cells_one c,J.cells_one h1])
def po (n:Nat)(o:List Nat):List Int:=(List.range n).map λi=>if i∈o then(o.idxOf i:Int)else-1
theorem zK (n:Nat)(o:List Nat):(po n o).length=n:=by simp[po]
theorem y7 {n:Nat}{o:List Nat}{i:Nat}(h:i<n):(po n o)[i]?=some (if i∈o then(o.idxOf i:Int)else-1):=by
 unfold po;rw[bP,nc h];rfl
theorem OU {n:Nat}{o:List Nat}{i:Nat}(h:i<n)(b:i∉o):(po n o).set i (o.length:Int)=po n (o++ [i]):=by
 refine pa λj=> ?_
 rcases eO j n with a|a
 ·rw[y7 a]
  by_cases e:j=i
  ·subst e
   rw[fV (by rw[zK];exact a),aC (by simp),List.idxOf_append,aA b];simp
  ·rw[ic (λh=>e h.symm),y7 a]
   by_cases c:j∈o
   ·rw[aC c,aC (by simp[c]),List.idxOf_append,aC c]
   ·rw[aA c,aA (by simp[c,e])]
 ·rw[ib (by rw[cn,zK];exact a),ib (by rw[zK];exact a)]
theorem OT (n:Nat):po n []=List.replicate n (-1):=by
 unfold po;refine pa λj=> ?_
 rw[bP,s8]
 rcases eO j n with a|a
 ·rw[nc a,aC a];simp
 ·rw[ib (by simpa using a),aA (by omega)];rfl
theorem j8 (l:List Int)(k:Nat)(x:Int):(rows aJ l).set (k*1+0) (iv x)=rows aJ (l.set k x):=by
 rw[gW,j3,jO,jO,jk]
theorem gP {l:List Int}{k:Nat}{x:Int}(h:l[k]?=some x):(rows aJ l)[k*1+0]?=some (iv x):=by
 rw[gW,j3,jO,bP,h];rfl
theorem zV (n:Nat):List.replicate n (iv 0)=rows aJ (List.replicate n 0):=by rw[jO,sB]
theorem IU (d e bg bv:Nat)(nv:Value)(g:dD)(G:sy (ay g))(Z:g.nodes.length≤120)(N:(ay g).length=g.nodes.length):∀(f:Nat) (o:List Nat) (i:Nat) (m:Value),m.oneCell'=true→CR (ay g) o→i<g.nodes.length→Lo g.nodes.length o<f→dz prog 156 ([iv i]++ [(Value.pointer (some ⟨d,0,none⟩)),(Value.pointer (some ⟨e,0,none⟩)),(Value.pointer (some ⟨bg,0,none⟩)),(Value.pointer (some ⟨bv,0,none⟩))]).toArray [aB (sl bh g.nv.1 g.nodes),aB (aF cA g.nodes),aW d (.cells [nv].toArray 58 (0,0)),row nv 3 1 g.nodes.length (rows aJ (po g.nodes.length (o))),aW e (.cells [m].toArray 58 (0,0)),row m 3 1 (o).length (rows aJ (cX (o))),aW bg (.cells [g.nv.1].toArray 30 (0,0)),aW bv (.cells [(.func (.func 156) #[] [(Value.pointer (some ⟨d,0,none⟩)),(Value.pointer (some ⟨e,0,none⟩)),(Value.pointer (some ⟨bg,0,none⟩)),(Value.pointer (some ⟨bv,0,none⟩))].toArray)].toArray 87 (0,0))] (λv H'=>∃s,s.oneCell'=true∧H'=[aW d (.cells [nv].toArray 58 (0,0)),row nv 3 1 g.nodes.length (rows aJ (po g.nodes.length (lF (ay g) f o i))),aW e (.cells [s].toArray 58 (0,0)),row s 3 1 (lF (ay g) f o i).length (rows aJ (cX (lF (ay g) f o i))),aW bg (.cells [g.nv.1].toArray 30 (0,0)),aW bv (.cells [(.func (.func 156) #[] [(Value.pointer (some ⟨d,0,none⟩)),(Value.pointer (some ⟨e,0,none⟩)),(Value.pointer (some ⟨bg,0,none⟩)),(Value.pointer (some ⟨bv,0,none⟩))].toArray)].toArray 87 (0,0))]):=by
 intro f
 induction f with
 |zero=>intro o i m _ _ _ h;omega
 |succ f O=> ?_
 intro o i m A w y hu;refine dz.body (args:=[iv i]++ [(Value.pointer (some ⟨d,0,none⟩)),(Value.pointer (some ⟨e,0,none⟩)),(Value.pointer (some ⟨bg,0,none⟩)),(Value.pointer (some ⟨bv,0,none⟩))]) 38 func156 rfl ntmps156 rfl (λc=> ?_);refine g6 ?_;refine St.ee (Ev.cu (.mk rfl) gV trivial (by omega) (gP (y7 y))) ?_;refine g3 ?_;refine St.cond _ rfl (λu=> ?_) (λu=> ?_)
 ·skip
  have r:i∈o:=by by_cases c:i∈o;exact c;rw[aA c]at u;exact absurd (fM u) (by decide)
  have q:lF (ay g) (f+1) o i=o:=by rw[kn,aC r]
  refine g2 ?_;refine St.rV [] [aW d (.cells [nv].toArray 58 (0,0)),row nv 3 1 g.nodes.length (rows aJ (po g.nodes.length (o))),aW e (.cells [m].toArray 58 (0,0)),row m 3 1 (o).length (rows aJ (cX (o))),aW bg (.cells [g.nv.1].toArray 30 (0,0)),aW bv (.cells [(.func (.func 156) #[] [(Value.pointer (some ⟨d,0,none⟩)),(Value.pointer (some ⟨e,0,none⟩)),(Value.pointer (some ⟨bg,0,none⟩)),(Value.pointer (some ⟨bv,0,none⟩))].toArray)].toArray 87 (0,0))] ?_;exact⟨m,A,by rw[q]⟩
 ·skip
  have r:i∉o:=λc=>by rw[aC c]at u;exact absurd (iV u) (by omega)
  have q:lF (ay g) (f+1) o i=nF (ay g) f (o++ [i]) ((ay g).getD i iJ).2:=by rw[kn,aA r]
  have hol:=kh w.nd (n:=g.nodes.length) (λj l=>by have:=w.lt j l;omega)
  have YW:=GA y r
  obtain⟨t,ht⟩:=aE (show i<g.nodes.length by omega)
  have P:=ae ht
  have Q:(ay g).getD i iJ=mD t:=by rw[ar,ka ht];rfl
  have H:((ay g).getD i iJ).2=t.aq.map fS:=by rw[Q];rfl
  refine St.cK cA g.nodes (x:=t) P ?_;refine St.eZ (sl aw t.lv.1 t.aq) [cA t] (λρ h=>h _ (aQ ..)) ?_;refine St.wf t.lv.1 (λSO SN=> ?_)
  have B:CR (ay g) (o++ [i]):=⟨by rw[List.nodup_append];exact⟨w.nd,by simp,by intro a R b S;rw[bO.1 S];rintro rfl;exact r R⟩,λj l=>by rcases cD.1 l with l|l;exact w.lt j l;rw[bO.1 l,N];exact y⟩
  refine g9 ?_;refine St.cI (.mk rfl) (.mk rfl) dK rfl (by omega) (by decide) ?_;refine St.aM nv rfl (show _=rows aJ (po g.nodes.length (o++ [i])) by rw[j8,OU y r]) ?_;refine g6 ?_;refine St.gX rfl (.au rfl) bJ dK eS rfl rfl (by simp[Value.cells]) rfl rfl (λU=> ?_);refine St.aj (.mk rfl) (.mk rfl) bJ dK eS xW (by simp[Value.oneCell',Value.cells]) (by omega) (by omega) rfl rfl rfl rfl (λv21 V=> ?_);refine St.aM v21 (show _=(o++ [i]).length from cS) (show _=rows aJ (cX (o++ [i]))from vd (Int.natCast_nonneg i)) ?_;refine St.bZ v21 (λI _=> ?_);refine St.cH (.mk rfl) (.mk rfl) fE I (by rfl) ?_;refine g15 ?_;refine St.aM nv rfl (show _=rows aJ (po g.nodes.length (nF (ay g) f (o++ [i]) ((((ay g).getD i iJ).2).take (0))))from rfl) ?_;refine St.aM v21 (show _=(nF (ay g) f (o++ [i]) ((((ay g).getD i iJ).2).take (0))).length from rfl) (show _=rows aJ (cX (nF (ay g) f (o++ [i]) ((((ay g).getD i iJ).2).take (0))))from rfl) ?_;refine St.tn (ι:=Nat) (κ:=Value) (λk z T=>(29,iv k)::T) (λk z=>[aW d (.cells [nv].toArray 58 (0,0)),row nv 3 1 g.nodes.length (rows aJ (po g.nodes.length (nF (ay g) f (o++ [i]) ((((ay g).getD i iJ).2).take (k))))),aW e (.cells [z].toArray 58 (0,0)),row z 3 1 (nF (ay g) f (o++ [i]) ((((ay g).getD i iJ).2).take (k))).length (rows aJ (cX (nF (ay g) f (o++ [i]) ((((ay g).getD i iJ).2).take (k))))),aW bg (.cells [g.nv.1].toArray 30 (0,0)),aW bv (.cells [(.func (.func 156) #[] [(Value.pointer (some ⟨d,0,none⟩)),(Value.pointer (some ⟨e,0,none⟩)),(Value.pointer (some ⟨bg,0,none⟩)),(Value.pointer (some ⟨bv,0,none⟩))].toArray)].toArray 87 (0,0)),aB (sl aw t.lv.1 t.aq),aB (sl bh g.nv.1 g.nodes),aB (aF cA g.nodes)]) (λk z=>k≤t.aq.length∧z.oneCell'=true∧CR (ay g) (nF (ay g) f (o++ [i]) ((((ay g).getD i iJ).2).take (k)))) (λk z=>t.aq.length-k) 0 v21 (aD.cons 4 rfl (aD.cons 27 rfl (aD.cons 28 rfl aD.nil))) ⟨aP _,I,B⟩ ?_;rintro k z ⟨hk,hz,J⟩;refine g6 ?_;refine St.cq (λW=> ?_) (λW=> ?_)
  ·obtain⟨p,hp⟩:=aE (show k<t.aq.length by omega)
   have K:((ay g).getD i iJ).2[k]?=some (fS p):=by rw[H];show(t.aq.map fS)[k]?=_;rw[bP,hp];rfl
   obtain⟨_,L,C⟩:=G.at_ (ae K)
   replace L:0≤p.tqo:=L
   replace C:p.tqo.toNat<(ay g).length:=C
   have M:(((ay g).getD i iJ).2).take (k+1)=(((ay g).getD i iJ).2).take k++ [fS p]:=aa K
   obtain⟨j,l⟩:∃j:Nat,j=p.tqo.toNat:=⟨_,rfl⟩
   have D:p.tqo=(j:Int):=by omega
   have X:Lo g.nodes.length (nF (ay g) f (o++ [i]) ((((ay g).getD i iJ).2).take (k)))≤Lo g.nodes.length (o++ [i]):=G9 (λx hx=>(qe (ay g) f _ _).subset hx)
   refine g7 ?_;refine St.ee (Ev.jq (.mk rfl) hp lE trivial dm j5.eq) ?_;refine St.al (λb7=> ?_);refine g3 ?_;refine St.dup (sl bh g.nv.1 g.nodes) ?_;refine St.dup (aF cA g.nodes) ?_;refine g4 ?_;refine St.slot 35 (iv (j:Nat)) rfl (congrArg iv D) ?_;refine St.eh (O (nF (ay g) f (o++ [i]) ((((ay g).getD i iJ).2).take (k))) j z hz J (by omega) (by omega)) UU (.mk rfl) (.au rfl) rfl ?_;rintro v36 _ ⟨s,E,rfl⟩;refine St.R0 ?_
   have F:lF (ay g) f (nF (ay g) f (o++ [i]) ((((ay g).getD i iJ).2).take (k))) j=nF (ay g) f (o++ [i]) ((((ay g).getD i iJ).2).take (k+1)):=by rw[M,C6];show _=lF (ay g) f _ p.tqo.toNat;rw[←l]
   rw[F];refine g8 ?_;refine St.uk (k+1) s ⟨by omega,E,by rw[M,C6];exact QD G _ _ _ J C⟩
  ·obtain rfl:k=t.aq.length:=by omega
   have Y:(((ay g).getD i iJ).2).take t.aq.length=((ay g).getD i iJ).2:=fF (by rw[H,aO];exact aR _)
   rw[Y,←q];refine g4 ?_;refine St.eH ?_;refine St.rV [] [aW d (.cells [nv].toArray 58 (0,0)),row nv 3 1 g.nodes.length (rows aJ (po g.nodes.length (lF (ay g) (f+1) o i))),aW e (.cells [z].toArray 58 (0,0)),row z 3 1 (lF (ay g) (f+1) o i).length (rows aJ (cX (lF (ay g) (f+1) o i))),aW bg (.cells [g.nv.1].toArray 30 (0,0)),aW bv (.cells [(.func (.func 156) #[] [(Value.pointer (some ⟨d,0,none⟩)),(Value.pointer (some ⟨e,0,none⟩)),(Value.pointer (some ⟨bg,0,none⟩)),(Value.pointer (some ⟨bv,0,none⟩))].toArray)].toArray 87 (0,0))] ?_;exact⟨z,hz,rfl⟩
def T9:dh:=⟨0,bR,[]⟩
theorem PB {N:List dh}{k:Nat}{x:dh}(h:N[k]?=some x)(t:Int):(rows bh N).set (k*2+0) (iv t)=rows bh (N.set k ⟨t,x.lv,x.aq⟩):=by
 induction N generalizing k with
 |nil=>cases h
 |cons a N b=>
  cases k with
  |zero=>obtain rfl:=Option.some.inj h;rfl
  |succ k=>
   have:=b (k:=k) h
   show(bh.cells a++rows bh N).set ((k+1)*2+0) (iv t)=bh.cells a++rows bh (N.set k _)
   rw[←this,lK _ _ (by show 2≤_;omega)]
   congr 2
   show(k+1)*2+0-2=_
   omega
theorem PA {N:List dh}{k:Nat}{x:dh}(h:N[k]?=some x)(v:aV)(L:List dx):(rows bh N).set (k*2+1) v.1=rows bh (N.set k ⟨x.type,v,L⟩):=by
 induction N generalizing k with
 |nil=>cases h
 |cons a N b=>
  cases k with
  |zero=>obtain rfl:=Option.some.inj h;rfl
  |succ k=>
   have:=b (k:=k) h
   show(bh.cells a++rows bh N).set ((k+1)*2+1) v.1=bh.cells a++rows bh (N.set k _)
   rw[←this,lK _ _ (by show 2≤_;omega)]
   congr 2
   show(k+1)*2+1-2=_
   omega
def Oe (g:e8)(o:List Nat)(i:Nat):KM:=((g.getD i iJ).1,(g.getD i iJ).2.map λx=>(x.1,(o.idxOf x.2.toNat:Int)))
theorem NJ (g:e8)(r:Nat):gj g r=(xL g r).map (Oe g (xL g r)):=rfl
theorem uh (g:dD)(O:sy (ay g))(hn:g.nodes.length≤120)(hL:∀t∈g.nodes,t.aq.length≤1000000)(r:Nat)(hr:r<g.nodes.length):dz prog 136 #[bA g,iv r] ([aG g].map aB) (λv H'=>H'=[aB (bL (gj (ay g) r) v)]):=by
 refine dz.body (args:=[bA g,iv r]) 88 func136 rfl ntmps136 rfl (λc=> ?_);refine St.cast (H':=[aB (aG g)]) rfl ?_;refine go ?_
 refine St.jN (aG g) (λ_:Unit=>kb g) (λρ h=>⟨(),h⟩) λ_=> ?_
 refine St.cast (H':=[aB (sl bh g.nv.1 g.nodes),aB (aF cA g.nodes),aB (aG g)]) rfl ?_
 have hgl:=dA g
 refine go ?_;refine St.dJ (.mk rfl) rfl (λI=> ?_);refine St.al (λP=> ?_);refine g7 ?_;refine St.sS (m:=g.nodes.length) (.mk rfl) (.mk rfl) bJ dK eS xW rfl rfl (by omega) rfl rfl (λb=> ?_);refine St.aM (.slice (some ⟨b,0,none⟩) g.nodes.length g.nodes.length) rfl (zV _) ?_;refine St.al (λJ=> ?_);refine St.cH (.mk rfl) (.mk rfl) fE rfl (by rfl) ?_;refine g11 ?_;refine St.tn (ι:=Nat) (κ:=List Int) (λk U T=>(20,iv k)::T) (λk U=>[row (.slice (some ⟨b,0,none⟩) g.nodes.length g.nodes.length) 3 1 g.nodes.length (rows aJ (U)),aW J (.cells [(.slice (some ⟨b,0,none⟩) g.nodes.length g.nodes.length)].toArray 58 (0,0)),aW I (.cells [g.nv.1].toArray 30 (0,0)),aW P (.cells [(.slice none 0 0)].toArray 30 (0,0)),aB (sl bh g.nv.1 g.nodes),aB (aF cA g.nodes),aB (aG g)]) (λk U=>k≤g.nodes.length∧U.length=g.nodes.length∧∀i,i<k→U[i]?=some (-1)) (λk U=>g.nodes.length-k) 0 (List.replicate g.nodes.length 0) (aD.cons 1 rfl (aD.cons 2 rfl (aD.cons 4 rfl (aD.cons 5 rfl (aD.cons 19 rfl aD.nil))))) ⟨aP _,by simp,λi y=>by omega⟩ ?_;rintro k U ⟨hk,Q,hU⟩;refine g6 ?_;refine St.cq (λh21=> ?_) (λh21=> ?_)
 ·refine g14 ?_
  refine St.cI (.mk rfl) (.mk rfl) dK rfl (by omega) (by decide) ?_;refine St.aM (.slice (some ⟨b,0,none⟩) g.nodes.length g.nodes.length) rfl (j8 _ _ _) ?_;refine g8 ?_;refine St.uk (k+1) (U.set k (-1)) ⟨by omega,by rw[cn];exact Q,λi y=>by by_cases e:i=k;(rw[e,fV (by omega)]);(rw[ic (λh=>e h.symm)];exact hU i (by omega))⟩
 ·obtain rfl:k=g.nodes.length:=by omega
  have R:U=po g.nodes.length []:=by rw[OT];refine pa λj=> ?_;rw[s8];rcases eO j g.nodes.length with d|d;(rw[hU j d,aC d]);(rw[ib (by omega),aA (by omega)])
  subst R;refine g7 ?_;refine St.al (λS=> ?_);refine g4 ?_;refine St.al (λb8=> ?_);refine g4 ?_;refine St.ee (Ev.func (.gU rfl rfl rfl rfl)) ?_;refine St.cH (.mk rfl) (.mk rfl) al5 rfl (by rfl) ?_;refine g3 ?_;refine St.dw 3 1 ?_;refine St.aM (.slice none 0 0) (show _=([]:List Nat).length from rfl) (show _=rows aJ (cX [])from rfl) ?_;refine St.dup (sl bh g.nv.1 g.nodes) ?_;refine St.dup (aF cA g.nodes) ?_;refine g3 ?_;refine St.eh (IU J S I b8 (.slice (some ⟨b,0,none⟩) g.nodes.length g.nodes.length) g O hn hgl ((ay g).length+1) [] r (.slice none 0 0) rfl ⟨List.nodup_nil,λj d=>by cases d⟩ hr (by rw[Jy];omega)) UU (.mk rfl) (.au rfl) rfl ?_;rintro v30 _ ⟨K,hov,rfl⟩;refine St.R0 ?_
  obtain⟨o,B⟩:∃o,o=lF (ay g) ((ay g).length+1) [] r:=⟨_,rfl⟩
  rw[←B]
  have C:xL (ay g) r=o:=B.symm
  obtain⟨D,E,_⟩:=Od O (r:=r) (by omega);rw[C]at D E
  have hol:=kh D.nd (n:=g.nodes.length) (λj d=>by have:=D.lt j d;omega)
  refine g6 ?_;refine St.nO (Rr:=bh) (g:=T9) (m:=o.length) (sz:=2) rfl (.mk rfl) (.mk rfl) oa jQ GL Mg rfl rfl (by omega) rfl rfl (λa=> ?_);refine St.ee (Ev.build (bF.au rfl) (λw=>R9 rfl w)) ?_;refine St.al (λb9=> ?_);refine g12 ?_;refine St.fact (aF cA (List.replicate o.length T9)) (λρ _ _ x hx=>by rw[wm hx];exact sX _ _) ?_;refine St.tn (ι:=Nat) (κ:=List dh) (λk N T=>(37,iv k)::T) (λk N=>[row (.slice (some ⟨a,0,none⟩) o.length o.length) 163 2 o.length (rows bh (N)),aW b9 (.cells [(.slice (some ⟨a,0,none⟩) o.length o.length)].toArray 30 (0,0)),aW S (.cells [K].toArray 58 (0,0)),row K 3 1 o.length (rows aJ (cX o)),aW I (.cells [g.nv.1].toArray 30 (0,0)),aW P (.cells [(.slice none 0 0)].toArray 30 (0,0)),aW J (.cells [(.slice (some ⟨b,0,none⟩) g.nodes.length g.nodes.length)].toArray 58 (0,0)),row (.slice (some ⟨b,0,none⟩) g.nodes.length g.nodes.length) 3 1 g.nodes.length (rows aJ (po g.nodes.length o)),aB (aF cA N),aB (sl bh g.nv.1 g.nodes),aB (aF cA g.nodes),aB (aG g)]) (λk N=>k≤o.length∧N.length=o.length∧(N.take k).map mD=(o.take k).map (Oe (ay g) o)∧(∀j,k≤j→j<o.length→N[j]?=some T9)∧∀x∈N,bh.wf x) (λk N=>o.length-k) 0 (List.replicate o.length T9) (aD.cons 2 rfl (aD.cons 4 rfl (aD.cons 5 rfl (aD.cons 9 rfl (aD.cons 35 rfl (aD.cons 36 rfl aD.nil)))))) ⟨aP _,by simp,rfl,λj _ d=>by rw[List.getElem?_replicate,if_pos d],λx hx=>by rw[wm hx];exact⟨by decide,by decide⟩⟩ ?_;rintro k N ⟨hk,F,f,G,H⟩;refine g6 ?_;refine St.cq (λh38=> ?_) (λh38=> ?_)
  ·obtain⟨i,y⟩:=aE (show k<o.length by omega)
   have SK:=D.lt i (ae y)
   obtain⟨t,ht⟩:=aE (show i<g.nodes.length by omega)
   have V:=ae ht
   have W:(ay g).getD i iJ=mD t:=by rw[ar,ka ht];rfl
   have X:=G k (aR _) (by omega)
   have NW:=E i (ae y)
   rw[W]at NW
   have htL:=hL t V
   refine St.wf g.nv.1 (λY _=> ?_)
   have htw:aZ t.type:=Y t V
   refine St.cK cA g.nodes (x:=t) V ?_;refine St.eZ (sl aw t.lv.1 t.aq) [cA t] (λρ h=>h _ (aQ ..)) ?_;refine St.wf t.lv.1 (λSO SN=> ?_);refine g8 ?_;refine St.ee (Ev.cu (.mk rfl) gV trivial (by omega) (gP (show(cX o)[k]?=some (i:Int) by rw[bP,y];rfl))) ?_;refine g5 ?_;refine St.dc [row (.slice (some ⟨a,0,none⟩) o.length o.length) 163 2 o.length (rows bh (N))] mixed (λnp ns=> ?_);refine SW.gd 0 ?_;refine SW.gd 1 ?_;refine SW.gd 2 ?_;refine SW.gd 3 ?_;refine SW.gd 4 ?_;refine SW.gd 5 ?_;refine SW.gd 6 ?_;refine SW.gd 7 ?_;refine SW.gd 8 ?_;refine SW.dd 9 rfl (λ_=>Ev.nB (k:=k) rfl (.mk rfl) (.mk rfl) oa jQ (by omega) (by omega)) ?_;refine SW.dd 10 rfl (λ_=>Ev.jY rfl (.mk rfl) tU) ?_;refine SW.t1 11 ?_;refine St.cI (.mk rfl) (.mk rfl) dK rfl (by omega) (by decide) ?_;refine g2 ?_;refine SW.go ?_;refine SW.dn ?_;refine g2 ?_;refine St.aM (.slice (some ⟨a,0,none⟩) o.length o.length) rfl (show _=rows bh (N.set k ⟨t.type,bR,[]⟩)from PB X _) ?_;refine g12 ?_;refine St.dw 165 2 ?_;refine St.aM (.slice none 0 0) (show _=([]:List dx).length from rfl) (show _=rows aw []from rfl) ?_;refine St.tn (ι:=Nat) (κ:=aV×List dx) (λq z T=>(60,iv q)::T) (λq z=>[row (.slice (some ⟨a,0,none⟩) o.length o.length) 163 2 o.length (rows bh (N.set k ⟨t.type,z.1,z.2⟩)),row z.1.1 165 2 (z.2).length (rows aw (z.2)),aW b9 (.cells [(.slice (some ⟨a,0,none⟩) o.length o.length)].toArray 30 (0,0)),aW S (.cells [K].toArray 58 (0,0)),row K 3 1 o.length (rows aJ (cX o)),aW I (.cells [g.nv.1].toArray 30 (0,0)),aW P (.cells [(.slice none 0 0)].toArray 30 (0,0)),aW J (.cells [(.slice (some ⟨b,0,none⟩) g.nodes.length g.nodes.length)].toArray 58 (0,0)),row (.slice (some ⟨b,0,none⟩) g.nodes.length g.nodes.length) 3 1 g.nodes.length (rows aJ (po g.nodes.length o)),aB (sl aw t.lv.1 t.aq),aB (aF cA N),aB (sl bh g.nv.1 g.nodes),aB (aF cA g.nodes),aB (aG g)]) (λq z=>q≤t.aq.length∧z.2.length=q∧z.2.map fS=(t.aq.take q).map (λp=>(p.dF,(o.idxOf p.tqo.toNat:Int)))∧∀x∈z.2,aw.wf x) (λq z=>t.aq.length-q) 0 (bR,[]) (aD.cons 2 rfl (aD.cons 4 rfl (aD.cons 5 rfl (aD.cons 9 rfl (aD.cons 10 rfl (aD.cons 35 rfl (aD.cons 36 rfl (aD.cons 37 rfl (aD.cons 58 rfl (aD.cons 59 rfl aD.nil)))))))))) ⟨aP _,rfl,rfl,λx hx=>by cases hx⟩ ?_;rintro q ⟨lv,L⟩ ⟨hq,hLl,M,l⟩
   dsimp only at hLl M l⊢
   have s:(N.set k ⟨t.type,lv,L⟩)[k]?=some ⟨t.type,lv,L⟩:=fV (by omega)
   refine g6 ?_;refine St.cq (λZ=> ?_) (λZ=> ?_)
   ·obtain⟨p,hp⟩:=aE (show q<t.aq.length by omega)
    have u:p.tqo.toNat∈o:=NW (fS p) (eP (ae hp))
    have hpi:=List.idxOf_lt_length_iff.2 u
    have hpn:=D.lt _ u
    have hp0:0≤p.tqo:=by have h0:=O.at_ (i:=i) (x:=fS p) (by rw[W];exact eP (ae hp));exact h0.2.1
    refine g7 ?_;refine St.ee (Ev.jq (.mk rfl) hp lE trivial dm j5.eq) ?_;refine St.al (λb13=> ?_);refine g3 ?_;refine St.dc [row (.slice (some ⟨a,0,none⟩) o.length o.length) 163 2 o.length (rows bh (N.set k ⟨t.type,lv,L⟩)),row lv.1 165 2 (L).length (rows aw (L))] mixed (λnp ns=> ?_);refine SW.gd 0 ?_;refine SW.gd 1 ?_;refine SW.gd 2 ?_;refine SW.gd 3 ?_;refine SW.gd 4 ?_;refine SW.gd 5 ?_;refine SW.dd 6 rfl (λ_=>Ev.nB (k:=k) rfl (.mk rfl) (.mk rfl) oa jQ (by omega) (by omega)) ?_;refine SW.dd 7 rfl (λ_=>Ev.jY rfl (.mk rfl) tV) ?_;refine SW.gd 9 ?_;refine SW.gd 10 ?_;refine SW.gd 11 ?_;refine SW.gd 12 ?_;refine SW.gd 13 ?_;refine SW.dd 14 rfl (λ_=>Ev.dZ (k:=p.tqo.toNat) (.mk rfl) (.mk rfl) bJ dK (by omega) (by omega)) ?_;refine SW.dd 15 rfl (λ_=>Ev.cu (.mk rfl) gV trivial (by omega) (gP (y7 (by omega)))) ?_;refine SW.slot 79 (iv ((o.idxOf p.tqo.toNat:Nat):Int)) rfl (by rw[aC u]) ?_;refine SW.dd 16 rfl (λ_=>Ev.build (ps:=[(0,(.tmp 74)),(1,(.tmp 79))]) (bF.aX rfl rfl) (λw=>ox rfl rfl w)) ?_;refine SW.slot 80 (.agg #[iv p.dF,iv ((o.idxOf p.tqo.toNat:Nat):Int)]) rfl rfl ?_;refine SW.t2 8 17 ?_ ?_
    focus
     refine St.ee (Ev.cu (.mk rfl) eV trivial (by omega) (eN bh _ k 1 _ s (by decide))) ?_;refine g2 ?_;refine SW.go ?_;refine SW.t1 17 ?_;refine St.gX rfl (.au rfl) eV dm kI rfl rfl (by simp[Value.cells]) rfl rfl (λb81=> ?_);refine g2 ?_;refine SW.go ?_;refine SW.t1 18 ?_;refine St.aj (.mk rfl) (.mk rfl) eV dm kI qD (by simp[Value.oneCell',Value.cells]) (by omega) (by omega) rfl rfl rfl rfl (λv82 akQ=> ?_);refine St.aM v82 (show _=(L++ [(⟨p.dF,o.idxOf p.tqo.toNat⟩:dx)]).length from cS) (show _=rows aw (L++ [(⟨p.dF,o.idxOf p.tqo.toNat⟩:dx)]) by rw[bB];rfl) ?_;refine St.bZ v82 (λA _=> ?_);refine g2 ?_;refine SW.go ?_;refine SW.dd 19 rfl (λ_=>Ev.nB (k:=k) rfl (.mk rfl) (.mk rfl) oa jQ (by omega) (by omega)) ?_;refine SW.dd 20 rfl (λ_=>Ev.jY rfl (.mk rfl) tV) ?_;refine SW.t1 21 ?_;refine St.cI (.mk rfl) (.mk rfl) pY A (by omega) (by decide) ?_;refine g2 ?_;refine SW.go ?_;refine SW.dn ?_
    rotate_left
    focus
     refine St.gX rfl (.au rfl) eV dm kI rfl rfl (by simp[Value.cells]) rfl rfl (λb81=> ?_);refine g2 ?_;refine SW.go ?_;refine SW.t1 8 ?_;refine St.ee (Ev.cu (.mk rfl) eV trivial (by omega) (eN bh _ k 1 _ s (by decide))) ?_;refine g2 ?_;refine SW.go ?_;refine SW.t1 18 ?_;refine St.aj (.mk rfl) (.mk rfl) eV dm kI qD (by simp[Value.oneCell',Value.cells]) (by omega) (by omega) rfl rfl rfl rfl (λv82 akQ=> ?_);refine St.aM v82 (show _=(L++ [(⟨p.dF,o.idxOf p.tqo.toNat⟩:dx)]).length from cS) (show _=rows aw (L++ [(⟨p.dF,o.idxOf p.tqo.toNat⟩:dx)]) by rw[bB];rfl) ?_;refine St.bZ v82 (λA _=> ?_);refine g2 ?_;refine SW.go ?_;refine SW.dd 19 rfl (λ_=>Ev.nB (k:=k) rfl (.mk rfl) (.mk rfl) oa jQ (by omega) (by omega)) ?_;refine SW.dd 20 rfl (λ_=>Ev.jY rfl (.mk rfl) tV) ?_;refine SW.t1 21 ?_;refine St.cI (.mk rfl) (.mk rfl) pY A (by omega) (by decide) ?_;refine g2 ?_;refine SW.go ?_;refine SW.dn ?_
    all_goals
     refine g2 ?_;refine St.aM (.slice (some ⟨a,0,none⟩) o.length o.length) rfl (show _=rows bh (N.set k ⟨t.type,⟨v82,A⟩,L++ [⟨p.dF,o.idxOf p.tqo.toNat⟩]⟩)from(PA s ⟨v82,A⟩ (L++ [⟨p.dF,o.idxOf p.tqo.toNat⟩])).trans (congrArg (rows bh) (List.set_set ..))) ?_;refine g5 ?_;refine St.uk (q+1) (⟨v82,A⟩,L++ [⟨p.dF,o.idxOf p.tqo.toNat⟩]) ⟨by omega,by dsimp only;rw[bQ,hLl];rfl,by dsimp only;rw[cP,M,aa hp,cP];rfl,λx hx=>by rcases cD.1 hx with hx|hx;exact l x hx;rw[bO.1 hx];exact⟨(SO p (ae hp)).1,by show aZ ((o.idxOf p.tqo.toNat:Nat):Int);unfold aZ;omega⟩⟩
   ·obtain rfl:q=t.aq.length:=by omega
    rw[fF (aR _)]at M;refine St.bS lv.1 aw L rfl rfl l ?_;refine St.eZ (aF cA (N.set k ⟨t.type,lv,L⟩)) [aF cA N,sl aw lv.1 L] (λρ h x hx=>by rcases lJ hx with hx|rfl;exact h _ (aQ ..) x hx;exact h _ (cO _ (aQ ..))) ?_
    have aiL:((N.set k ⟨t.type,lv,L⟩).take (k+1)).map mD=(o.take (k+1)).map (Oe (ay g) o):=by rw[aa (fV (by omega)),aa y,List.take_set_of_le (aR _),cP,cP,f];congr 1;show [(t.type,L.map fS)]=[Oe (ay g) o i];rw[M,Oe,W];show _=[(t.type,(t.aq.map fS).map _)];rw[kG];rfl
    refine g11 ?_;refine St.uk (k+1) (N.set k ⟨t.type,lv,L⟩) ⟨by omega,by rw[cn];exact F,aiL,λj h1 h2=>by rw[ic (by omega)];exact G j (by omega) h2,λx hx=>by rcases lJ hx with hx|rfl;exact H x hx;exact htw⟩
  ·obtain rfl:k=o.length:=by omega
   have SD:N.map mD=gj (ay g) r:=by rw[NJ,C];rw[fF (by omega),fF (by omega)]at f;exact f
   refine St.bS (.slice (some ⟨a,0,none⟩) o.length o.length) bh N rfl F.symm H ?_;refine St.eZ (aG ⟨⟨(.slice (some ⟨a,0,none⟩) o.length o.length),rfl⟩,N⟩) [sl bh (.slice (some ⟨a,0,none⟩) o.length o.length) N,aF cA N] (λρ h=>h) ?_;refine St.eZ (bL (gj (ay g) r) (.agg #[(.slice (some ⟨a,0,none⟩) o.length o.length)])) [aG ⟨⟨(.slice (some ⟨a,0,none⟩) o.length o.length),rfl⟩,N⟩] (λρ h=>⟨⟨⟨(.slice (some ⟨a,0,none⟩) o.length o.length),rfl⟩,N⟩,rfl,SD,h _ (aQ ..)⟩) ?_;refine g12 ?_;refine St.rV [_] [aB (bL (gj (ay g) r) (.agg #[(.slice (some ⟨a,0,none⟩) o.length o.length)]))] ?_;exact rfl
theorem T8 {T:List ek}{a b:Nat}(h:both T a b=0):gz T a b=none:=by
 unfold gz
 cases e:comm T a b with
 |nil=>rfl
 |cons m r=>
  have:m∈comm T a b:=by rw[e];exact aQ ..
  rw[l8,h,Nat.zero_testBit]at this;cases this
theorem aeI {T:List ek}{a b m:Nat}(h:(both T a b).testBit m=true)(g:∀i,i<m→(both T a b).testBit i=false):gz T a b=if kD T a b=true then none else some m:=by
 have hm:=l8.2 h
 unfold gz
 cases e:comm T a b with
 |nil=>rw[e]at hm;cases hm
 |cons c r=>
  have hp:(comm T a b).Pairwise (· < ·):=by unfold comm;exact List.Pairwise.filter _ List.pairwise_lt_range
  rw[e]at hp
  have j:c∈comm T a b:=by rw[e];exact aQ ..
  have e2:c=m:=by
   rw[e]at hm
   rcases cJ.1 hm with d|d
   ·exact d.symm
   ·have k:=(jU.1 hp).1 m d
    have f:=g c k
    rw[l8.1 j]at f;cases f
  subst e2;rfl
theorem zJ (T:List ek):yJ T.length (gz T):=λa b m h=>by
 unfold gz at h
 split at h
 ·cases h
 ·rename_i c r e
  split at h
  ·cases h
  ·obtain rfl:=Option.some.inj h
   have:c∈comm T a b:=by rw[e];exact aQ ..
   unfold comm at this;exact dt.1 (qh.1 this).1
def mtV (o:Option Nat)(wr:Bool):Value:= .tuple #[iv ((o.getD 0:Nat):Int),.bool o.isSome,.bool wr]
theorem yG (e f:aV)(T:List ek)(l:im T)(a b:Nat)(o:a<T.length)(p:b<T.length):dz prog 80 #[kB e f,iv a,iv b] ([sl bH e.1 (dg T),sl bH f.1 (de T),tz].map aB) (λv H'=>v=mtV (gz T a b) (kD T a b)∧H'=[]):=by
 refine dz.body (args:=[kB e f,iv a,iv b]) 33 func80 rfl ntmps80 rfl (λc=> ?_);refine St.cast (H':=[aB (sl bH e.1 (dg T)),aB (sl bH f.1 (de T)),aB (tz)]) rfl ?_;refine go ?_
 have j:=l.len
 have t:=ET T
 refine go ?_;refine St.dJ (.mk rfl) rfl (λu=> ?_);refine g6 ?_;refine St.rq mixed (by kernel_rfl) (Mm.drawn _ _) ?_;refine g4 ?_;refine Sq.ee (Ev.ld1 (.mk rfl) (oH o) lj trivial rfl) ?_;refine g4 ?_;refine Sq.ee (Ev.ld1 (.mk rfl) (oH p) lj trivial rfl) ?_;refine Sq.ee (Ev.Yu (.mk rfl) (.mk rfl) ⟨nL _ _ j,nL _ _ j⟩) ?_;refine g5 ?_;refine St.slot 9 (uv (both T a b)) rfl rfl ?_
 have m:both T a b<18446744073709551616:=wF Nat.and_le_left (nL _ _ j)
 refine g5 ?_;refine St.cq (λq=> ?_) (λq=> ?_)
 ·have g:both T a b=0:=by omega
  refine g9 ?_;refine St.rV [_,_,_] [] ?_;exact⟨by rw[A8 g,T8 g];rfl,rfl⟩
 ·have g:both T a b≠0:=by omega
  obtain⟨h,n⟩:=ER g m
  have r:Lib.ctz 64 (both T a b)<T.length:=by rw[oC,qi,fy]at h;exact h.1
  have d:=GD l h n
  have i:=aeI h n
  refine g5 ?_;refine St.ee (Ev.call (Jv (both T a b) m) UH (.au rfl)) ?_;refine g9 ?_;refine St.ee (Ev.cM (k:=(Lib.ctz 64 (both T a b))) (.mk rfl) (.mk rfl) wA lC (by omega) (by omega)) ?_;refine St.ee (Ev.ld1 (.mk rfl) (oH r) lj trivial rfl) ?_;refine g4 ?_;refine St.cq (λs=> ?_) (λs=> ?_)
  ·rw[eB (by omega)]at d
   rw[aC d]at i;refine g9 ?_;refine St.rV [_,_,_] [] ?_;exact⟨by rw[d,i];rfl,rfl⟩
  ·rw[fL (by omega)]at d
   rw[aA (by rw[d];decide)]at i;refine g11 ?_;refine St.rV [_,_,_] [] ?_;exact⟨by rw[d,i];rfl,rfl⟩
theorem find_spec (e:Nat)(g h:aV)(pv tv lv:Value)(rk:Nat→Nat)(B:Nat)(R:List Nat)(I:R.length≤1000000)(P0:List Nat)(x:Qx rk B P0 R)(i0:Nat)(j:i0<R.length):dz prog 150 #[.pointer (some ⟨e,0,none⟩),iv i0] [aW e (.cells [g.1,h.1,pv,tv,lv].toArray 245 (0,0)),row pv 3 1 R.length (rows aJ (cX (P0)))] (λv H'=>∃t,v=iv ((R.getD i0 0:Nat):Int)∧Qx rk B t R∧H'=[aW e (.cells [g.1,h.1,pv,tv,lv].toArray 245 (0,0)),row pv 3 1 R.length (rows aJ (cX (t)))]):=by
 refine dz.body (args:=[.pointer (some ⟨e,0,none⟩),iv i0]) 41 func150 rfl ntmps150 rfl (λc=> ?_);refine g7 ?_;refine St.tn (ι:=Nat) (κ:=List Nat) (λi Q T=>(1,iv i)::T) (λi Q=>[aW e (.cells [g.1,h.1,pv,tv,lv].toArray 245 (0,0)),row pv 3 1 R.length (rows aJ (cX (Q)))]) (λi Q=>i<R.length∧Qx rk B Q R∧R.getD i 0=R.getD i0 0) (λi Q=>B-rk i) i0 P0 (aD.cons 0 rfl (aD.cons 4 rfl aD.nil)) ⟨j,x,rfl⟩ ?_;rintro i Q ⟨l,f,y⟩
 have A:=f.len
 obtain⟨a,m⟩:=aE (show i<Q.length by omega)
 have d:Q.getD i 0=a:=by rw[ar,m];rfl
 have C:=f.lt i l
 rw[d]at C;refine St.lB pv (by omega) (λbs cs n=> ?_);refine g9 ?_;refine St.ee (Ev.cu (.mk rfl) gV trivial (by omega) (gP (show(cX Q)[i]?=some (a:Int) by rw[bP,m];rfl))) ?_;refine g4 ?_;refine St.cq (λo=> ?_) (λo=> ?_)
 ·have D:Q.getD i 0≠i:=by rw[d];omega
  obtain⟨b,u⟩:=aE (show a<Q.length by omega)
  have p:Q.getD a 0=b:=by rw[ar,u];rfl
  obtain⟨w,E,F,q⟩:=f.abV l D;rw[d,p]at w E F q;refine g4 ?_;refine St.dc [row pv 3 1 R.length (rows aJ (cX (Q)))] mixed (λJ K=> ?_);refine SW.gd 0 ?_;refine SW.gd 1 ?_;refine SW.gd 2 ?_;refine SW.gd 3 ?_;refine SW.gd 4 ?_;refine SW.gd 5 ?_;refine SW.gd 6 ?_;refine SW.gd 7 ?_;refine SW.gd 8 ?_;refine SW.gd 9 ?_;refine SW.gd 10 ?_;refine SW.gd 11 ?_;refine SW.gd 12 ?_;refine SW.gd 13 ?_;refine SW.dd 14 rfl (λ_=>Ev.nB (k:=i) n (.mk rfl) (.mk rfl) bJ dK (by omega) (by omega)) ?_;refine SW.t1 15 ?_;refine St.ee (Ev.cu (.mk rfl) gV trivial (by omega) (gP (show(cX Q)[i]?=some (a:Int) by rw[bP,m];rfl))) ?_;refine g2 ?_;refine SW.go ?_;refine SW.dd 16 rfl (λ_=>Ev.nB (k:=a) n (.mk rfl) (.mk rfl) bJ dK (by omega) (by omega)) ?_;refine SW.t1 17 ?_;refine St.ee (Ev.cu (.mk rfl) gV trivial (by omega) (gP (show(cX Q)[a]?=some (b:Int) by rw[bP,u];rfl))) ?_;refine g2 ?_;refine SW.go ?_;refine SW.dd 18 rfl (λ_=>Ev.nB (k:=i) n (.mk rfl) (.mk rfl) bJ dK (by omega) (by omega)) ?_;refine SW.t1 19 ?_;refine St.cI (.mk rfl) (.mk rfl) dK rfl (by omega) (by decide) ?_;refine g2 ?_;refine SW.go ?_;refine SW.dn ?_;refine go ?_;refine St.aM pv rfl (show _=rows aJ (cX (Q.set i b)) by rw[j8,cX,cX,jk]) ?_
  have r:(Q.set i b)[i]?=some b:=fV (by omega)
  refine g7 ?_;refine St.ee (Ev.cu (.mk rfl) gV trivial (by omega) (gP (show(cX (Q.set i b))[i]?=some (b:Int) by rw[bP,r];rfl))) ?_;refine g4 ?_;refine St.nI b (Q.set i b) ⟨by omega,w,by omega⟩ (by have:=f.le b (by omega);omega) (by repeat(first|exact Sub.nil|refine Sub.cons (by first|rfl|exact congrArg (λz=>some (iv z)) (by first|omega|(dsimp only;omega))|exact congrArg (λz=>some (Value.bool z)) (by first|assumption|exact iZ (by assumption))) ?_)) (λ_ hw=>hw.sub)
 ·have s:Q.getD i 0=i:=by rw[d];omega
  have G:=(f.me i l).1 s
  have H:R.getD i0 0=i:=by omega
  refine g12 ?_;refine St.rV [_] [aW e (.cells [g.1,h.1,pv,tv,lv].toArray 245 (0,0)),row pv 3 1 R.length (rows aJ (cX (Q)))] ?_;exact⟨Q,by rw[H];rfl,f,rfl⟩
abbrev CQ:=aV×List dx
def pk (q:CQ):du:=sl aw q.1.1 q.2
def zG (q:CQ):kq:=q.2.map fS
def shf (n:Nat)(p:dx):dx:=⟨p.dF,(n:Int)+p.tqo⟩
theorem Bg (p:dx):∀(l:List dx) (k:Nat),((rows aw l).set (k*2) (iv p.dF)).set (k*2+1) (iv p.tqo)=rows aw (l.set k p)
 | [],k=>by simp[rows]
 |a::l,0=>rfl
 |a::l,k+1=>by
  have:=Bg p l k
  show((aw.cells a++rows aw l).set ((k+1)*2) _).set ((k+1)*2+1) _=aw.cells a++rows aw (l.set k p)
  rw[←this,show(k+1)*2=2+k*2 by omega,lK _ _ (by show 2≤_;omega),lK _ _ (by show 2≤_;omega)]
  congr 2
  ·congr 1;show 2+k*2-2=_;omega
  ·show 2+k*2+1-2=_;omega
theorem FX (n:Nat):rows aJ (cX (List.range n))++ [iv (n:Nat)]=rows aJ (cX (List.range (n+1))):=by
 rw[ub];exact vd (Int.natCast_nonneg n)
theorem uG (l:Nat)(s u:aV)(g:dD)(Y:sy (ay g))(hn:g.nodes.length≤120)(Z:∀t∈g.nodes,t.aq.length≤1000000)(n0:Nat)(hn0:n0≤120)(a:List Int)(ht0:a.length=n0)(f:List CQ)(hl0:f.length=n0)(d b e:Value)(ho:d.oneCell'=true∧b.oneCell'=true∧e.oneCell'=true):dz prog 128 #[.pointer (some ⟨l,0,none⟩),bA g] [aW l (.cells [s.1,u.1,d,b,e].toArray 245 (0,0)),row d 3 1 (List.range n0).length (rows aJ (cX (List.range n0))),row b 3 1 (a).length (rows aJ (a)),row e 161 1 (f).length (rows bT ((f).map Prod.fst)),aB (aF pk (f)),aB (aG g)] (λv H'=>∃(pv tv lv:Value) (ls:List CQ),v=iv (n0:Nat)∧(pv.oneCell'=true∧tv.oneCell'=true∧lv.oneCell'=true)∧ls.map zG=f.map zG++(ay g).map (λn=>n.2.map λx=>(x.1,(n0:Int)+x.2))∧H'=[aW l (.cells [s.1,u.1,pv,tv,lv].toArray 245 (0,0)),row pv 3 1 (List.range (n0+g.nodes.length)).length (rows aJ (cX (List.range (n0+g.nodes.length)))),row tv 3 1 (a++g.nodes.map dh.type).length (rows aJ (a++g.nodes.map dh.type)),row lv 161 1 (ls).length (rows bT ((ls).map Prod.fst)),aB (aF pk (ls))]):=by
 refine dz.body (args:=[.pointer (some ⟨l,0,none⟩),bA g]) 82 func128 rfl ntmps128 rfl (λc=> ?_);refine go ?_
 refine St.jN (aG g) (λ_:Unit=>kb g) (λρ h=>⟨(),h⟩) λ_=> ?_
 refine St.cast (H':=[aB (sl bh g.nv.1 g.nodes),aB (aF cA g.nodes),aW l (.cells [s.1,u.1,d,b,e].toArray 245 (0,0)),row d 3 1 (List.range n0).length (rows aJ (cX (List.range n0))),row b 3 1 (a).length (rows aJ (a)),row e 161 1 (f).length (rows bT ((f).map Prod.fst)),aB (aF pk (f)),aB (aG g)]) rfl ?_
 have hgl:=dA g
 obtain⟨F,G,H⟩:=ho;refine go ?_;refine St.dJ (.mk rfl) rfl (λP=> ?_);refine g10 ?_;refine St.slot 15 (iv (n0:Nat)) rfl (congrArg iv (by omega)) ?_;refine g13 ?_;refine St.aM b (show _=(a++(g.nodes.take (0)).map dh.type).length by rw[sg,lI,gx]) (show _=rows aJ (a++(g.nodes.take (0)).map dh.type) by rw[sg,lI,gx]) ?_;refine St.tn (ι:=Nat) (κ:=Value×Value×Value×List CQ) (λk z T=>(19,iv k)::T) (λk z=>[aW l (.cells [s.1,u.1,z.1,z.2.1,z.2.2.1].toArray 245 (0,0)),row z.1 3 1 (List.range (n0+k)).length (rows aJ (cX (List.range (n0+k)))),row z.2.1 3 1 (a++(g.nodes.take (k)).map dh.type).length (rows aJ (a++(g.nodes.take (k)).map dh.type)),row z.2.2.1 161 1 (z.2.2.2).length (rows bT ((z.2.2.2).map Prod.fst)),aB (aF pk (z.2.2.2)),aW P (.cells [g.nv.1].toArray 30 (0,0)),aB (sl bh g.nv.1 g.nodes),aB (aF cA g.nodes)]) (λk z=>k≤g.nodes.length∧(z.1.oneCell'=true∧z.2.1.oneCell'=true∧z.2.2.1.oneCell'=true)∧z.2.2.2.length=n0+k∧z.2.2.2.map zG=f.map zG++((ay g).take k).map (λn=>n.2.map λx=>(x.1,(n0:Int)+x.2))) (λk z=>g.nodes.length-k) 0 (d,b,e,f) (aD.cons 0 rfl (aD.cons 4 rfl (aD.cons 5 rfl (aD.cons 17 rfl (aD.cons 18 rfl aD.nil))))) ⟨aP _,⟨F,G,H⟩,hl0,by rw[sg,lI,gx]⟩ ?_;rintro k ⟨pv,tv,lv,ls⟩ ⟨hk,⟨h1,Q,R⟩,S,o⟩
 dsimp only at h1 Q R S o⊢
 have hTl:(a++(g.nodes.take (k)).map dh.type).length=n0+k:=by rw[bQ,aO,eX];omega
 have hRl:(List.range (n0+k)).length=n0+k:=jT
 refine g6 ?_;refine St.cq (λI=> ?_) (λI=> ?_)
 ·obtain⟨t,ht⟩:=aE (show k<g.nodes.length by omega)
  have U:=ae ht
  have htL:=Z t U
  have l7:=ka ht
  refine St.cK cA g.nodes (x:=t) U ?_;refine St.eZ (sl aw t.lv.1 t.aq) [cA t] (λρ h=>h _ (aQ ..)) ?_;refine St.wf t.lv.1 (λSO SN=> ?_);refine g8 ?_;refine St.ee (Ev.jq (.mk rfl) ht we trivial jQ j5.eq) ?_;refine St.al (λb7=> ?_);refine g9 ?_;refine St.nO (Rr:=aw) (g:=(⟨0,0⟩:dx)) (m:=t.aq.length) (sz:=2) rfl (.mk rfl) (.mk rfl) eV dm kI qD rfl rfl (by omega) rfl rfl (λj=> ?_);refine g13 ?_;refine St.tn (ι:=Nat) (κ:=List dx) (λq M T=>(31,iv q)::T) (λq M=>[row (.slice (some ⟨j,0,none⟩) t.aq.length t.aq.length) 165 2 t.aq.length (rows aw (M)),aW b7 (.cells [iv t.type,t.lv.1].toArray 163 (0,0)),aW l (.cells [s.1,u.1,pv,tv,lv].toArray 245 (0,0)),row pv 3 1 (List.range (n0+k)).length (rows aJ (cX (List.range (n0+k)))),row tv 3 1 (a++(g.nodes.take (k)).map dh.type).length (rows aJ (a++(g.nodes.take (k)).map dh.type)),row lv 161 1 (ls).length (rows bT ((ls).map Prod.fst)),aB (aF pk (ls)),aW P (.cells [g.nv.1].toArray 30 (0,0)),aB (sl bh g.nv.1 g.nodes),aB (aF cA g.nodes),aB (sl aw t.lv.1 t.aq)]) (λq M=>q≤t.aq.length∧M.length=t.aq.length∧M.take q=(t.aq.take q).map (shf n0)∧∀x∈M,aw.wf x) (λq M=>t.aq.length-q) 0 (List.replicate t.aq.length (⟨0,0⟩:dx)) (aD.cons 0 rfl (aD.cons 4 rfl (aD.cons 5 rfl (aD.cons 6 rfl (aD.cons 7 rfl (aD.cons 8 rfl (aD.cons 17 rfl (aD.cons 18 rfl (aD.cons 19 rfl (aD.cons 29 rfl (aD.cons 30 rfl aD.nil))))))))))) ⟨aP _,by simp,rfl,λx hx=>by rw[List.eq_of_mem_replicate hx];exact⟨by unfold aZ;decide,by unfold aZ;decide⟩⟩ ?_;rintro q M ⟨hq,A,y,B⟩;refine g6 ?_;refine St.cq (λJ=> ?_) (λJ=> ?_)
  ·obtain⟨p,hp⟩:=aE (show q<t.aq.length by omega)
   have C:=ae hp
   obtain⟨_,V,W⟩:=Y.at_ (i:=k) (x:=fS p) (by rw[ar,l7];exact eP C)
   replace V:0≤p.tqo:=V
   replace W:p.tqo.toNat<(ay g).length:=W
   have K:aw.wf (shf n0 p):=⟨(SO p C).1,by show aZ ((n0:Int)+p.tqo);unfold aZ;omega⟩
   refine g8 ?_;refine St.ee (Ev.jq (.mk rfl) hp lE trivial dm j5.eq) ?_;refine St.al (λb10=> ?_);refine g13 ?_;refine St.ee (Ev.build (bF.aX rfl rfl) (λw=>ox rfl rfl w)) ?_;refine St.slot 44 (.agg #[iv p.dF,iv ((n0:Int)+p.tqo)]) rfl rfl ?_;refine go ?_;refine St.Li (k:=q) (.mk rfl) (.mk rfl) dm rfl rfl (by omega) ?_;refine St.aM (.slice (some ⟨j,0,none⟩) t.aq.length t.aq.length) rfl (Bg (shf n0 p) M q) ?_;refine g8 ?_;refine St.uk (q+1) (M.set q (shf n0 p)) ⟨by omega,by rw[cn];exact A,by rw[aa (fV (by omega)),List.take_set_of_le (aR _),y,aa hp,cP];rfl,λx hx=>by rcases lJ hx with hx|rfl;exact B x hx;exact K⟩
  ·obtain rfl:q=t.aq.length:=by omega
   rw[fF (by omega),fF (aR _)]at y;refine St.bS (.slice (some ⟨j,0,none⟩) t.aq.length t.aq.length) aw M rfl A.symm B ?_;refine St.eZ (aF pk (ls++ [(⟨(.slice (some ⟨j,0,none⟩) t.aq.length t.aq.length),rfl⟩,M)])) [aF pk ls,sl aw (.slice (some ⟨j,0,none⟩) t.aq.length t.aq.length) M] (λρ h x hx=>by rcases cD.1 hx with hx|hx;exact h _ (aQ ..) x hx;rw[bO.1 hx];exact h _ (cO _ (aQ ..))) ?_
   have L:(ls++ [((⟨(.slice (some ⟨j,0,none⟩) t.aq.length t.aq.length),rfl⟩:aV),M)]).map zG=f.map zG++((ay g).take (k+1)).map (λn=>n.2.map λx=>(x.1,(n0:Int)+x.2)):=by rw[cP,o,aa l7,cP,dq];congr 2;show [M.map fS]=[(t.aq.map fS).map _];rw[y,kG,kG];rfl
   refine g15 ?_;refine St.slot 54 (iv ((n0+k:Nat):Int)) rfl (congrArg iv (by omega)) ?_;refine St.gX rfl (.au rfl) bJ dK eS rfl rfl (by simp[Value.cells]) rfl rfl (λb55=> ?_);refine St.aj (.mk rfl) (.mk rfl) bJ dK eS xW (by simp[Value.oneCell',Value.cells]) (by omega) (by omega) rfl rfl rfl rfl (λE an1=> ?_);refine St.aM E (show _=(List.range (n0+(k+1))).length by rw[jT,jT];omega) (show _=rows aJ (cX (List.range (n0+(k+1))))from FX (n0+k)) ?_;refine St.bZ E (λD _=> ?_);refine g2 ?_;refine St.cH (.mk rfl) (.mk rfl) fE D (by rfl) ?_;refine g3 ?_;refine St.dc [row tv 3 1 (a++(g.nodes.take (k)).map dh.type).length (rows aJ (a++(g.nodes.take (k)).map dh.type)),aW l (.cells [s.1,u.1,E,tv,lv].toArray 245 (0,0))] mixed (λnp ns=> ?_);refine SW.gd 0 ?_;refine SW.gd 1 ?_;refine SW.gd 2 ?_;refine SW.gd 3 ?_;refine SW.gd 5 ?_;refine SW.gd 6 ?_;refine SW.t2 4 7 ?_ ?_
   focus
    refine g3 ?_;refine SW.go ?_;refine SW.t1 7 ?_;refine St.gX rfl (.au rfl) bJ dK eS rfl rfl (by simp[Value.cells]) rfl rfl (λN=> ?_);refine g2 ?_;refine SW.go ?_;refine SW.t1 8 ?_;refine St.aj (.mk rfl) (.mk rfl) bJ dK eS xW (by simp[Value.oneCell',Value.cells]) (by omega) (by omega) rfl rfl rfl rfl (λv67 O=> ?_);refine St.aM v67 (show _=(a++(g.nodes.take (k+1)).map dh.type).length by rw[aa ht,cP,←dq];exact cS) (show _=rows aJ (a++(g.nodes.take (k+1)).map dh.type) by rw[aa ht,cP,←dq];exact(bB aJ _ t.type).symm) ?_;refine St.bZ v67 (λr _=> ?_);refine g2 ?_;refine SW.go ?_;refine SW.gd 9 ?_;refine SW.gd 10 ?_;refine SW.t1 11 ?_;refine St.cH (.mk rfl) (.mk rfl) fE r (by rfl) ?_;refine g2 ?_;refine SW.go ?_;refine SW.dn ?_
   rotate_left
   focus
    refine St.gX rfl (.au rfl) bJ dK eS rfl rfl (by simp[Value.cells]) rfl rfl (λN=> ?_);refine g2 ?_;refine SW.go ?_;refine SW.t1 4 ?_;refine g3 ?_;refine SW.go ?_;refine SW.t1 8 ?_;refine St.aj (.mk rfl) (.mk rfl) bJ dK eS xW (by simp[Value.oneCell',Value.cells]) (by omega) (by omega) rfl rfl rfl rfl (λv67 O=> ?_);refine St.aM v67 (show _=(a++(g.nodes.take (k+1)).map dh.type).length by rw[aa ht,cP,←dq];exact cS) (show _=rows aJ (a++(g.nodes.take (k+1)).map dh.type) by rw[aa ht,cP,←dq];exact(bB aJ _ t.type).symm) ?_;refine St.bZ v67 (λr _=> ?_);refine g2 ?_;refine SW.go ?_;refine SW.gd 9 ?_;refine SW.gd 10 ?_;refine SW.t1 11 ?_;refine St.cH (.mk rfl) (.mk rfl) fE r (by rfl) ?_;refine g2 ?_;refine SW.go ?_;refine SW.dn ?_
   all_goals
    refine g8 ?_;refine St.gX rfl (.au rfl) C0 pY QU rfl rfl (by simp[Value.cells]) rfl rfl (λb76=> ?_);refine St.aj (.mk rfl) (.mk rfl) C0 pY QU ZD (by simp[Value.oneCell',Value.cells]) (by omega) (by omega) rfl rfl rfl rfl (λv77 an4=> ?_);refine St.aM v77 (show _=(ls++ [((⟨(.slice (some ⟨j,0,none⟩) t.aq.length t.aq.length),rfl⟩:aV),M)]).length from cS) (show _=rows bT ((ls++ [((⟨(.slice (some ⟨j,0,none⟩) t.aq.length t.aq.length),rfl⟩:aV),M)]).map Prod.fst) by rw[cP];exact(bB bT _ (⟨(.slice (some ⟨j,0,none⟩) t.aq.length t.aq.length),rfl⟩:aV)).symm) ?_;refine St.bZ v77 (λX _=> ?_);refine g2 ?_;refine St.cH (.mk rfl) (.mk rfl) afD X (by rfl) ?_;refine g8 ?_;refine St.uk (k+1) (E,v67,v77,ls++ [(⟨(.slice (some ⟨j,0,none⟩) t.aq.length t.aq.length),rfl⟩,M)]) ⟨by omega,⟨D,r,X⟩,by dsimp only;rw[bQ,S];rfl,L⟩
 ·obtain rfl:k=g.nodes.length:=by omega
  have Ea:(ay g).take g.nodes.length=ay g:=fF (by omega)
  rw[Ea]at o;rw[fF (aR _)];refine g12 ?_;refine St.rV [_] [aW l (.cells [s.1,u.1,pv,tv,lv].toArray 245 (0,0)),row pv 3 1 (List.range (n0+g.nodes.length)).length (rows aJ (cX (List.range (n0+g.nodes.length)))),row tv 3 1 (a++g.nodes.map dh.type).length (rows aJ (a++g.nodes.map dh.type)),row lv 161 1 (ls).length (rows bT ((ls).map Prod.fst)),aB (aF pk (ls))] ?_;exact⟨pv,tv,lv,ls,rfl,⟨h1,Q,R⟩,o,rfl⟩
theorem Hu {α:Type}(R:Rp α)(a b:List α):rows R (a++b)=rows R a++rows R b:=CA
theorem Ko (n:Nat)(q:n≤100000000):dz prog 174 #[.slice none 0 0,iv n] [] (λv H'=>v.oneCell'=true∧H'=[row v 165 2 0 []]):=by
 intro w ρ o
 have c:ew ⟨w,ρ,jm [],True⟩ [] ρ w:=o
 by_cases hz:n=0
 ·subst hz
  refine(Any8.slices_Grow_room Tryz.O6 none 0 0 0 w (aR _) (by decide) (by decide) (aR _)).mono ?_;rintro e w' ⟨rfl,rfl⟩;refine⟨_,_,rfl,⟨rfl,rfl⟩,Mm.mk (ρ:=ρ) ?_⟩;refine⟨c.os,c.tape,c.output,c.size,c.AJ,c.fits,c.le,c.new,λE i=> ?_,λE i b d=> ?_,GK _ _⟩
  ·rw[bO.1 i];exact eM.2 ⟨rfl,.inl ⟨rfl,rfl⟩⟩
  ·rw[bO.1 i,eI]at d;cases d
 ·obtain⟨i0,f,r⟩:=dp.1 dm
  obtain⟨i1,m,j⟩:=dp.1 qD;obtain⟨i2,g,l⟩:=pQ.1 kI;rw[f]at m g;obtain rfl:=Option.some.inj m;obtain rfl:=Option.some.inj g;refine(Any8.slices_Grow_grow Tryz.O6 i0 _ f l (by omega) none 0 0 n [] w (aR _) (by omega) (by rw[j];omega) (by omega) (by simp) (λ_=>rfl) (λa h=>by cases h)).mono ?_;rintro e w' ⟨rfl,rfl⟩;rw[hP,Nat.sub_zero]
  have p:=grownCap_ge w n 0 165
  have hle:=grownCap_le_maxLen w n 0 165 (by unfold maxLen;omega)
  refine⟨_,_,rfl,⟨rfl,rfl⟩,Mm.mk (ρ:=ρ) ?_⟩;refine c.drawn.Aq rfl ⟨rfl,aR _⟩ rfl (by show w.heap.size≤(w.heap.push _).size;simp) (λk hk=>RowKit.Below.heap_alloc w.drew _ k hk) (eM.2 ⟨rfl,.inr ⟨w.heap.size,_,_,rfl,aP _,heap_alloc_new w.drew _,aP _,hle,?_,by simp⟩⟩) ?_
  ·simp only[Array.size_append,List.size_toArray,List.length_nil,size_zeroCells]
   show 0+n*2+(grownCap w n 0 165-n)*2=grownCap w n 0 165*2
   omega
  ·intro b d;rw[eI]at d;simp[Value.ownBlock]at d;show w.heap.size≤b;omega
theorem EO (d:Value)(vs:List CQ)(n:vs.length≤10)(j:∀q∈vs,q.2.length≤2000000):dz prog 151 #[d] ([sl bT d (vs.map Prod.fst),aF pk vs].map aB) (λv H'=>v.oneCell'=true∧H'=[row v 165 2 ((vs.map Prod.snd).flatten).length (rows aw (vs.map Prod.snd).flatten)]):=by
 refine dz.body (args:=[d]) 36 func151 rfl ntmps151 rfl (λc=> ?_);refine St.cast (H':=[aB (sl bT d (vs.map Prod.fst)),aB (aF pk vs)]) rfl ?_;refine go ?_
 have o:(vs.map Prod.fst).length=vs.length:=aO _
 refine g18 ?_;refine St.lH (ι:=Nat) (λk T=>(11,iv k)::(3,iv ((((vs.take k).map Prod.snd).flatten).length:Nat))::T) (λk=>[aB (sl bT d (vs.map Prod.fst)),aB (aF pk vs)]) (λk=>k≤vs.length∧(((vs.take k).map Prod.snd).flatten).length≤2000000*k) (λk=>vs.length-k) 0 (aD.cons 0 rfl (aD.cons 2 rfl (aD.cons 9 rfl (aD.cons 10 rfl aD.nil)))) ⟨aP _,aP _⟩ ?_;rintro k ⟨hk,l⟩;refine g6 ?_;refine St.cq (λp=> ?_) (λp=> ?_)
 ·obtain⟨q,a⟩:=aE (show k<vs.length by omega)
  have e:=ae a
  have r:=j q e
  have f:(((vs.take (k+1)).map Prod.snd).flatten).length=(((vs.take k).map Prod.snd).flatten).length+q.2.length:=by rw[aa a,cP,List.flatten_append,bQ];simp
  refine St.cK pk vs (x:=q) e ?_;refine St.eZ (sl aw q.1.1 q.2) [pk q] (λρ h=>h _ (aQ ..)) ?_;refine g7 ?_;refine St.ee (Ev.ld1 (.mk rfl) (show(vs.map Prod.fst)[k]?=some q.1 by rw[bP,a];rfl) eV trivial rfl) ?_;refine g9 ?_;refine St.slot 18 (iv ((((vs.take (k+1)).map Prod.snd).flatten).length:Nat)) rfl (congrArg iv (by omega)) ?_;refine g9 ?_;refine St.ri _ rfl (fL (by omega)) ?_;refine g8 ?_;refine St.aH (k+1) ⟨by omega,by omega⟩
 ·obtain rfl:k=vs.length:=by omega
  rw[fF (aR _)]at l⊢
  obtain⟨g,m⟩:∃g,g=(vs.map Prod.snd).flatten:=⟨_,rfl⟩
  rw[←m]at l⊢;refine g8 ?_;refine St.call (Ko g.length (by omega)) Zq (.aX rfl rfl) rfl ?_;rintro v24 _ ⟨i,rfl⟩;refine St.ao ?_;refine St.aM v24 (show _=([]:List dx).length from rfl) (show _=rows aw []from rfl) ?_;refine g12 ?_;refine St.aM v24 (show _=(((vs.take 0).map Prod.snd).flatten).length from rfl) (show _=rows aw (((vs.take 0).map Prod.snd).flatten)from rfl) ?_;refine St.tn (ι:=Nat) (κ:=Value) (λk z T=>(27,iv k)::(6,z)::T) (λk z=>[row z 165 2 (((vs.take k).map Prod.snd).flatten).length (rows aw (((vs.take k).map Prod.snd).flatten)),aB (sl bT d (vs.map Prod.fst)),aB (aF pk vs)]) (λk z=>k≤vs.length∧z.oneCell'=true∧(((vs.take k).map Prod.snd).flatten).length≤2000000*k) (λk z=>vs.length-k) 0 v24 (aD.cons 2 rfl (aD.cons 25 rfl (aD.cons 26 rfl aD.nil))) ⟨aP _,i,aP _⟩ ?_;rintro k z ⟨hk,hz,w⟩;refine g6 ?_;refine St.cq (λs=> ?_) (λs=> ?_)
  ·obtain⟨q,a⟩:=aE (show k<vs.length by omega)
   have e:=ae a
   have r:=j q e
   have b:((vs.take (k+1)).map Prod.snd).flatten=((vs.take k).map Prod.snd).flatten++q.2:=by rw[aa a,cP,List.flatten_append];simp
   have f:=congrArg List.length b
   rw[bQ]at f;refine St.cK pk vs (x:=q) e ?_;refine St.eZ (sl aw q.1.1 q.2) [pk q] (λρ h=>h _ (aQ ..)) ?_;refine g7 ?_;refine St.ee (Ev.ld1 (.mk rfl) (show(vs.map Prod.fst)[k]?=some q.1 by rw[bP,a];rfl) eV trivial rfl) ?_;refine g6 ?_;refine St.yT (.mk rfl) (.mk rfl) eV dm kI qD (zZ aw _) (by omega) (by omega) rfl rfl trivial rfl (λv33 t=> ?_);refine St.aM v33 (show _=(((vs.take (k+1)).map Prod.snd).flatten).length by rw[b,bQ]) (show _=rows aw (((vs.take (k+1)).map Prod.snd).flatten) by rw[b,Hu]) ?_;rw[show aw.size=2 from rfl];refine St.bZ v33 (λu _=> ?_);refine g9 ?_;refine St.uk (k+1) v33 ⟨by omega,u,by omega⟩
  ·obtain rfl:k=vs.length:=by omega
   rw[fF (aR _)];refine g12 ?_;refine St.rV [_] [row z 165 2 ((vs.map Prod.snd).flatten).length (rows aw (vs.map Prod.snd).flatten)] ?_;exact⟨hz,by rw[m];rfl⟩
theorem LW {α:Type}(R:Rp α){l:List α}{x:α}{j:Nat}(h:j<R.size):(rows R (l++ [x]))[l.length*R.size+j]?=(R.cells x)[j]?:=
 eN R (l++ [x]) l.length j x (by rw[lp (aR _),ff];rfl) h
theorem zX {α:Type}(R:Rp α){l:List α}{x:α}{j k:Nat}(hk:l.length=k)(h:j<R.size):(rows R (l++ [x]))[k*R.size+j]?=(R.cells x)[j]?:=by subst hk;exact LW R h
theorem Ps {p:Pl}{i:Nat}(h:i<p.ty.length):p.ty[i]?=some (p.tt i):=by
 unfold Pl.tt;rw[ar,bU h];rfl
theorem zY (l:List aV)(k:Nat)(v:aV):(rows bT l).set (k*1+0) v.1=rows bT (l.set k v):=by
 rw[gW,j3,vf,vf,jk]
theorem r7 {l:List aV}{k:Nat}{v:aV}(h:l[k]?=some v):(rows bT l)[k*1+0]?=some v.1:=by
 rw[gW,j3,vf,bP,h];rfl
theorem RZ {a b:Int}(h:oG a b<0):a<b:=by unfold oG at h;split at h<;>first|assumption|(split at h<;>omega)
theorem RY {a b:Int}(h:0<oG a b):b<a:=by unfold oG at h;split at h<;>first|omega|(split at h<;>first|assumption|omega)
theorem RX {a b:Int}(h1:¬oG a b<0)(c:¬0<oG a b):a=b:=by unfold oG at h1 c;split at h1<;>first|omega|(split at c<;>omega)
theorem HU {ls:List CQ}{lk:List kq}(h:ls.map zG=lk){i:Nat}{q:CQ}(a:ls[i]?=some q):lk.getD i []=zG q:=by
 subst h;rw[ar,bP,a];rfl
structure Yp (T:List ek)(nf n XQ:Nat)(R:Option Pl)(W:List (Int×Int))(P0:List Nat)(p:Pl)(ls:List CQ):Prop where
 pl:mO T.length nf n p
 wk:CT n W
 uf:UF P0 p.ro
 Yb:ls.map zG=p.lk
 lw:∀q∈ls,∀x∈q.2,aw.wf x
 eq:j9 (gz T) (p.mu W) p W=R
 mu:p.mu W≤XQ
theorem LA (H:Nat)(C D:aV)(pv tv lv:Value)(ho:pv.oneCell'=true∧tv.oneCell'=true∧lv.oneCell'=true)(T:List ek)(hT:im T)(nf n XQ:Nat)(hn:n≤240)(Ng:XQ≤1000000)(P0:List Nat)(p0:Pl)(Ya:List CQ)(a0 y:Int)(ha0:0≤a0∧a0<n)(hb0:0≤y∧y<n)(hpl:mO T.length nf n p0)(huf:UF P0 p0.ro)(Un:Ya.map zG=p0.lk)(hlw:∀q∈Ya,∀x∈q.2,aw.wf x)(hmu:p0.mu [(a0,y)]≤XQ):dz prog 129 #[.pointer (some ⟨H,0,none⟩),iv a0,iv y] [aW H (.cells [C.1,D.1,pv,tv,lv].toArray 245 (0,0)),row pv 3 1 p0.ro.length (rows aJ (cX (P0))),row tv 3 1 p0.ty.length (rows aJ p0.ty),row lv 161 1 (Ya).length (rows bT ((Ya).map Prod.fst)),aB (aF pk (Ya)),aB (sl bH C.1 (dg T)),aB (sl bH D.1 (de T)),aB tz] (λv H'=>∃(r:Bool) (P1:List Nat) (p:Pl) (ls:List CQ),v= .bool r∧(r=false→j9 (gz T) (p0.mu [(a0,y)]) p0 [(a0,y)]=none)∧(r=true→j9 (gz T) (p0.mu [(a0,y)]) p0 [(a0,y)]=some p∧mO T.length nf n p∧UF P1 p.ro∧ls.map zG=p.lk∧∀q∈ls,∀x∈q.2,aw.wf x)∧H'=[aW H (.cells [C.1,D.1,pv,tv,lv].toArray 245 (0,0)),row pv 3 1 p.ro.length (rows aJ (cX (P1))),row tv 3 1 p.ty.length (rows aJ p.ty),row lv 161 1 (ls).length (rows bT ((ls).map Prod.fst)),aB (aF pk (ls))]):=by
 refine dz.body (args:=[.pointer (some ⟨H,0,none⟩),iv a0,iv y]) 175 func129 rfl ntmps129 rfl (λc=> ?_);refine g10 ?_;refine St.ee (Ev.build (bF.aX rfl rfl) (λw=>yZ rfl rfl w)) ?_;refine St.gX rfl (.au rfl) wg Bs QV rfl rfl (by simp[Value.cells]) rfl rfl (λb20=> ?_);refine St.aM (.slice (some ⟨b20,0,none⟩) 1 1) (show _=([(a0,y)]:List (Int×Int)).reverse.length from rfl) (show _=rows M4 ([(a0,y)]:List (Int×Int)).reverse from rfl) ?_;refine g4 ?_;refine St.tn (ι:=Unit) (κ:=Value×List (Int×Int)×List Nat×Pl×List CQ) (λu z T=>(7,z.1)::T) (λu z=>[row z.1 270 2 (z.2.1.reverse).length (rows M4 (z.2.1.reverse)),aW H (.cells [C.1,D.1,pv,tv,lv].toArray 245 (0,0)),row pv 3 1 z.2.2.2.1.ro.length (rows aJ (cX (z.2.2.1))),row tv 3 1 z.2.2.2.1.ty.length (rows aJ z.2.2.2.1.ty),row lv 161 1 (z.2.2.2.2).length (rows bT ((z.2.2.2.2).map Prod.fst)),aB (aF pk (z.2.2.2.2)),aB (sl bH C.1 (dg T)),aB (sl bH D.1 (de T)),aB tz]) (λu z=>z.1.oneCell'=true∧Yp T nf n XQ (j9 (gz T) (p0.mu [(a0,y)]) p0 [(a0,y)]) z.2.1 z.2.2.1 z.2.2.2.1 z.2.2.2.2) (λu z=>z.2.2.2.1.mu z.2.1) () ((.slice (some ⟨b20,0,none⟩) 1 1),[(a0,y)],P0,p0,Ya) (aD.cons 0 rfl aD.nil) ⟨rfl,hpl,λx hx=>by rw[bO.1 hx];exact⟨ha0,hb0⟩,huf,Un,hlw,rfl,hmu⟩ ?_;rintro u ⟨wz,W,P1,p,ls⟩ ⟨hwz,e⟩
 dsimp only at hwz e⊢
 have hWl:=e.mu
 unfold Pl.mu at hWl
 have hRl:=e.pl.lr
 have hTl:=e.pl.lt
 have hLl:=e.pl.ll
 have hll:ls.length=n:=by rw[←hLl,←e.Yb,aO]
 have anS:W.reverse.length=W.length:=CE
 refine g8 ?_;refine St.cq (λh23=> ?_) (λh23=> ?_)
 ·obtain⟨x,w,rfl⟩:∃x w,W=x::w:=by cases W with|nil=>(rw[List.reverse_nil]at h23;exact absurd h23 (by simp))|cons x w=>exact⟨x,w,rfl⟩
  rw[List.reverse_cons]
  have hrv:(w.reverse++ [x]).length=w.length+1:=by rw[bQ,CE];rfl
  have Nr:w.reverse.length=w.length:=CE
  have aoC:(x::w).length=w.length+1:=rfl
  have hx:=e.wk.rt
  obtain⟨⟨hx1,SZ⟩,hx3,hx4⟩:=e.wk x (by simp);refine St.lB wz (by omega) (λbs cs ac5=> ?_);obtain⟨rk,B,hUF⟩:=e.uf
  obtain⟨xa,YX⟩:∃xa,xa=x.1.toNat:=⟨_,rfl⟩
  obtain⟨xb,hxb⟩:∃xb,xb=x.2.toNat:=⟨_,rfl⟩
  rw[←YX,←hxb]at hx
  have hea:x.1=(xa:Int):=by omega
  have heb:x.2=(xb:Int):=by omega
  refine g4 ?_;refine St.dc [aW H (.cells [C.1,D.1,pv,tv,lv].toArray 245 (0,0)),row pv 3 1 p.ro.length (rows aJ (cX P1))] mixed (λnp ns=> ?_);refine SW.gd 0 ?_;refine SW.gd 1 ?_;refine SW.gd 2 ?_;refine SW.gd 3 ?_;refine SW.gd 4 ?_;refine SW.dd 5 rfl (λ_=>Ev.dZ (k:=w.length) (.mk rfl) (.mk rfl) wg Bs (by omega) (by omega)) ?_;refine SW.dd 6 rfl (λ_=>Ev.xk (j:=0) ac5 (.mk rfl) (.mk rfl) underlying270 dK rfl (by decide)) ?_;refine SW.dd 7 rfl (λ_=>Ev.cu (.mk rfl) gV trivial (by omega) (zX M4 (j:=0) Nr (by decide))) ?_;refine SW.slot 31 (iv (xa:Nat)) rfl (congrArg iv hea) ?_;refine SW.gd 9 ?_;refine SW.gd 10 ?_;refine SW.gd 11 ?_;refine SW.gd 12 ?_;refine SW.gd 13 ?_;refine SW.dd 14 rfl (λ_=>Ev.dZ (k:=w.length) (.mk rfl) (.mk rfl) wg Bs (by omega) (by omega)) ?_;refine SW.dd 15 rfl (λ_=>Ev.xk (j:=1) ac5 (.mk rfl) (.mk rfl) underlying270 dK rfl (by decide)) ?_;refine SW.dd 16 rfl (λ_=>Ev.cu (.mk rfl) gV trivial (by omega) (zX M4 (j:=1) Nr (by decide))) ?_;refine SW.slot 40 (iv (xb:Nat)) rfl (congrArg iv heb) ?_;refine SW.t1 8 ?_;refine St.call (find_spec H C D pv tv lv rk B p.ro (by omega) P1 hUF xa (by omega)) EH (.aX rfl rfl) rfl ?_;rintro v32 _ ⟨P2,rfl,hP2,rfl⟩;refine St.dQ ?_;refine g2 ?_;refine SW.go ?_;refine SW.t1 17 ?_;refine St.call (find_spec H C D pv tv lv rk B p.ro (by omega) P2 hP2 xb (by omega)) EH (.aX rfl rfl) rfl ?_;rintro v41 _ ⟨P3,rfl,hP3,rfl⟩;refine St.dQ ?_;refine g2 ?_;refine SW.go ?_;refine SW.gd 18 ?_;refine SW.gd 19 ?_;refine SW.dn ?_;refine g2 ?_
  obtain⟨a,hA⟩:∃a,a=p.ro.getD xa 0:=⟨_,rfl⟩
  obtain⟨b,hB⟩:∃b,b=p.ro.getD xb 0:=⟨_,rfl⟩
  rw[←hA,←hB]
  have I:p.rt x.1.toNat=a:=by rw[←YX];exact hA.symm
  have J:p.rt x.2.toNat=b:=by rw[←hxb];exact hB.symm
  have ha:a<n:=by rw[←I];exact e.pl.AK _ (by omega)
  have hb:b<n:=by rw[←J];exact e.pl.AK _ (by omega)
  have Wk:p.rt a=a:=by rw[←I];exact e.pl.VB _ (by omega)
  have hrb:p.rt b=b:=by rw[←J];exact e.pl.VB _ (by omega)
  have hww:CT n w:=λz hz=>e.wk z (by simp[hz])
  refine g5 ?_;refine St.ee (Ev.pI (h:=w.length) (.mk rfl) (.mk rfl) wg Bs (by omega) (by omega)) ?_;refine St.DS wz w.length (by omega) ?_;refine St.aM (pJ wz 2 0 w.length) Nr.symm (show(rows M4 (w.reverse++ [x])).take (w.length*2)=rows M4 w.reverse by rw[←Nr];exact uJ M4 _ _) ?_;refine St.bZ (pJ wz 2 0 w.length) (λab2 _=> ?_);refine g11 ?_;refine St.cq (λh49=> ?_) (λh49=> ?_)
  ·have ac3:p.rt x.1.toNat=p.rt x.2.toNat:=by omega
   refine g4 ?_;refine St.nI () (pJ wz 2 0 w.length,w,P3,p,ls) ⟨ab2,e.pl,hww,⟨rk,B,hP3⟩,e.Yb,e.lw,by rw[←e.eq,L9 ac3],dS (show p.mu w≤p.mu (x::w) by unfold Pl.mu;rw[fB];omega) e.mu⟩ (by dsimp only;unfold Pl.mu;rw[fB];omega) (by repeat(first|exact Sub.nil|refine Sub.cons (by first|rfl|exact congrArg (λz=>some (iv z)) (by first|omega|(dsimp only;omega))|exact congrArg (λz=>some (Value.bool z)) (by first|assumption|exact iZ (by assumption))) ?_)) (λ_ hw=>hw.sub)
  ·have hne:p.rt x.1.toNat≠p.rt x.2.toNat:=by omega
   have hab:a≠b:=by omega
   obtain⟨ta,hta⟩:∃ta:Nat,p.tt a=(ta:Int):=⟨(p.tt a).toNat,by have:=(e.pl.tt ha).1;omega⟩
   obtain⟨tb,htb⟩:∃tb:Nat,p.tt b=(tb:Int):=⟨(p.tt b).toNat,by have:=(e.pl.tt hb).1;omega⟩
   have anW:=(e.pl.tt ha).2
   have anX:=(e.pl.tt hb).2
   refine g3 ?_;refine St.dc [] mixed (λnp ns=> ?_);refine SW.gd 0 ?_;refine SW.gd 1 ?_;refine SW.gd 2 ?_;refine SW.dd 3 rfl (λ_=>Ev.iT 2 (.mk rfl) wc trivial wY rfl rfl) ?_;refine SW.slot 54 (kB C D) rfl rfl ?_;refine SW.gd 4 ?_;refine SW.gd 5 ?_;refine SW.gd 6 ?_;refine SW.gd 7 ?_;refine SW.gd 8 ?_;refine SW.gd 9 ?_;refine SW.dd 10 rfl (λ_=>Ev.cu (.mk rfl) gV trivial (by omega) (gP (Ps (by omega)))) ?_;refine SW.slot 61 (iv (ta:Nat)) rfl (congrArg iv hta) ?_;refine SW.gd 11 ?_;refine SW.gd 12 ?_;refine SW.gd 13 ?_;refine SW.gd 14 ?_;refine SW.gd 15 ?_;refine SW.gd 16 ?_;refine SW.dd 17 rfl (λ_=>Ev.cu (.mk rfl) gV trivial (by omega) (gP (Ps (by omega)))) ?_;refine SW.slot 68 (iv (tb:Nat)) rfl (congrArg iv htb) ?_;refine SW.dd 18 rfl (λ_=>Ev.call ((yG C D T hT ta tb (by omega) (by omega)).mono λ_ _ h=>h.1) W6 (.ej rfl rfl rfl)) ?_;refine SW.gd 19 ?_;refine SW.gd 20 ?_;refine SW.gd 21 ?_;refine SW.gd 22 ?_;refine SW.gd 23 ?_;refine SW.gd 24 ?_;refine SW.gd 25 ?_;refine SW.dn ?_;refine g8 ?_;refine St.cq (λh74=> ?_) (λh74=> ?_)
   ·have hm:gz T (p.tt (p.rt x.1.toNat)).toNat (p.tt (p.rt x.2.toNat)).toNat=none:=by rw[I,J,hta,htb];simpa using h74
    have Wf:=JE (w:=w) hne hm
    rw[e.eq]at Wf;refine g11 ?_;refine St.rV [_] [aW H (.cells [C.1,D.1,pv,tv,lv].toArray 245 (0,0)),row pv 3 1 p.ro.length (rows aJ (cX (P3))),row tv 3 1 p.ty.length (rows aJ p.ty),row lv 161 1 (ls).length (rows bT ((ls).map Prod.fst)),aB (aF pk (ls))] ?_;exact⟨false,P3,p,ls,rfl,λ_=>Wf,λh=>(by cases h),rfl⟩
   ·obtain⟨m,Ng⟩:=Option.isSome_iff_exists.1 (show(gz T ta tb).isSome=true from by simpa using h74)
    have hm:gz T (p.tt (p.rt x.1.toNat)).toNat (p.tt (p.rt x.2.toNat)).toNat=some m:=by rw[I,J,hta,htb];exact Ng
    have hmT:=zJ T _ _ _ Ng
    have Kw:=Nw (nt:=T.length) (nf:=nf) (n:=n) e.pl (w:=w) ⟨by omega,by omega⟩ hne hm
    rw[I,J]at Kw;refine St.slot 10 (iv (m:Nat)) rfl (by rw[Ng];rfl) ?_;refine g11 ?_;refine St.cI (.mk rfl) (.mk rfl) dK rfl (by omega) (by decide) ?_;refine St.aM pv rfl (show _=rows aJ (cX (P3.set b a)) by rw[j8,cX,cX,jk]) ?_;refine g11 ?_;refine St.cI (.mk rfl) (.mk rfl) dK rfl (by omega) (by decide) ?_;refine St.aM tv rfl (j8 p.ty a (m:Int)) ?_;refine g3 ?_;obtain⟨M,N⟩:=aE (show a<ls.length by omega);obtain⟨O,P⟩:=aE (show b<ls.length by omega);refine St.cK pk ls (x:=M) (ae N) ?_;refine St.eZ (sl aw M.1.1 M.2) [pk M] (λρ h=>h _ (aQ ..)) ?_;refine St.cK pk ls (x:=O) (ae P) ?_;refine St.eZ (sl aw O.1.1 O.2) [pk O] (λρ h=>h _ (aQ ..)) ?_
    have hla:p.ll a=M.2.map fS:=HU e.Yb N
    have hlb:p.ll b=O.2.map fS:=HU e.Yb P
    have hsa:(p.ll a).length≤p.left:=by have h1:=oT (f:=λi=>if p.rt i=i then(p.ll i).length else 0) (show a<p.ro.length by omega);rw[aC Wk]at h1;exact h1
    have hsb:(p.ll b).length≤p.left:=by have h1:=oT (f:=λi=>if p.rt i=i then(p.ll i).length else 0) (show b<p.ro.length by omega);rw[aC hrb]at h1;exact h1
    rw[hla,aO]at hsa;rw[hlb,aO]at hsb;refine g5 ?_;refine St.dc [] mixed (λnp ns=> ?_);refine SW.gd 0 ?_;refine SW.gd 1 ?_;refine SW.gd 2 ?_;refine SW.gd 3 ?_;refine SW.gd 4 ?_;refine SW.gd 5 ?_;refine SW.dd 6 rfl (λ_=>Ev.cu (.mk rfl) eV trivial (by omega) (r7 (show(ls.map Prod.fst)[a]?=some M.1 by rw[bP,N];rfl))) ?_;refine SW.gd 7 ?_;refine SW.gd 8 ?_;refine SW.gd 9 ?_;refine SW.gd 10 ?_;refine SW.gd 11 ?_;refine SW.gd 12 ?_;refine SW.dd 13 rfl (λ_=>Ev.cu (.mk rfl) eV trivial (by omega) (r7 (show(ls.map Prod.fst)[b]?=some O.1 by rw[bP,P];rfl))) ?_;refine SW.gd 14 ?_;refine SW.gd 15 ?_;refine SW.dn ?_;refine g3 ?_;refine St.dw 165 2 ?_;refine St.aM (.slice none 0 0) (show _=([]:List dx).length from rfl) (show _=rows aw []from rfl) ?_;refine St.aM (pJ wz 2 0 w.length) (show _=(w.reverse++([]:List (Int×Int))).length by rw[gx]) (show _=rows M4 (w.reverse++ []) by rw[gx]) ?_;refine St.tn (ι:=Unit) (κ:=Value×List dx×Value×List dx×Value×List dx×Value×List (Int×Int)) (λu2 z T=>(13,z.1)::(14,z.2.2.1)::(15,z.2.2.2.2.1)::(7,z.2.2.2.2.2.2.1)::T) (λu2 z=>[row z.1 165 2 (z.2.1).length (rows aw (z.2.1)),row z.2.2.2.2.2.2.1 270 2 (w.reverse++z.2.2.2.2.2.2.2).length (rows M4 (w.reverse++z.2.2.2.2.2.2.2)),aW H (.cells [C.1,D.1,pv,tv,lv].toArray 245 (0,0)),row pv 3 1 p.ro.length (rows aJ (cX (P3.set b a))),row tv 3 1 p.ty.length (rows aJ (p.ty.set a (m:Int))),row lv 161 1 ls.length (rows bT (ls.map Prod.fst)),aB (aF pk ls),aB (sl aw z.2.2.1 z.2.2.2.1),aB (sl aw z.2.2.2.2.1 z.2.2.2.2.2.1),aB (sl bH C.1 (dg T)),aB (sl bH D.1 (de T)),aB tz]) (λu2 z=>(z.1.oneCell'=true∧z.2.2.2.2.2.2.1.oneCell'=true)∧Dp (p.ll a) (p.ll b) (z.2.1.map fS) (z.2.2.2.1.map fS) (z.2.2.2.2.2.1.map fS) z.2.2.2.2.2.2.2∧((∀x∈z.2.1,aw.wf x)∧(∀x∈z.2.2.2.1,aw.wf x)∧∀x∈z.2.2.2.2.2.1,aw.wf x)∧z.2.1.length+z.2.2.2.1.length+z.2.2.2.2.2.1.length≤2000000∧z.2.2.2.2.2.2.2.length+z.2.2.2.1.length≤1000000) (λu2 z=>z.2.2.2.1.length+z.2.2.2.2.2.1.length) () ((.slice none 0 0),[],M.1.1,M.2,O.1.1,O.2,pJ wz 2 0 w.length,[]) (aD.cons 0 rfl (aD.cons 8 rfl aD.nil)) ⟨⟨rfl,ab2⟩,by rw[hla,hlb];exact Dp.start _ _,⟨λx hx=>(by cases hx),e.lw _ (ae N),e.lw _ (ae P)⟩,by show 0+M.2.length+O.2.length≤_;omega,by show 0+M.2.length≤_;omega⟩ ?_;rintro u2 ⟨Q,L,xv,X,t,Y,vz,V⟩ ⟨⟨hz,R⟩,hM,⟨E,A,F⟩,J8,Dr⟩
    dsimp only at hz R hM E A F J8 Dr⊢
    have an6:(w.reverse++V).length=w.length+V.length:=by rw[bQ,CE]
    refine g7 ?_;refine St.gt _ rfl rfl (λhg=>Ev.move (.mk rfl)) rfl ?_;refine St.gt _ rfl rfl (λhg=>Ev.fk (ai.gv rfl hg) eV) rfl ?_;refine St.gt _ rfl rfl (λhg=>Ev.gtr (ai.gv rfl hg) (.mk rfl)) rfl ?_;refine g3 ?_;refine St.cq (λS6=> ?_) (λS6=> ?_)
    ·obtain⟨d,o,rfl⟩:∃d o,X=d::o:=by cases X with|nil=>exact absurd S6.1 (by simp)|cons a b=>exact⟨a,b,rfl⟩
     obtain⟨g,s,rfl⟩:∃g s,Y=g::s:=by cases Y with|nil=>exact absurd S6.2 (by simp)|cons a b=>exact⟨a,b,rfl⟩
     rw[fB]at J8 Dr;rw[fB]at J8;refine g4 ?_;refine St.dc [] mixed (λnp ns=> ?_);refine SW.gd 0 ?_;refine SW.dd 1 rfl (λ_=>Ev.cM (k:=0) (.mk rfl) (.mk rfl) eV dm (by omega) (by simp)) ?_;refine SW.gd 2 ?_;refine SW.dd 3 rfl (λ_=>Ev.ld1 (.mk rfl) (show(d::o)[0]?=some d from rfl) gV trivial rfl) ?_;refine SW.gd 4 ?_;refine SW.dd 5 rfl (λ_=>Ev.cM (k:=0) (.mk rfl) (.mk rfl) eV dm (by omega) (by simp)) ?_;refine SW.gd 6 ?_;refine SW.dd 7 rfl (λ_=>Ev.ld1 (.mk rfl) (show(g::s)[0]?=some g from rfl) gV trivial rfl) ?_;refine SW.dd 8 rfl (λ_=>Ev.call (ec d.dF g.dF) qF (.aX rfl rfl)) ?_;refine SW.gd 9 ?_;refine SW.dn ?_;refine g9 ?_;refine St.cq (λaaM=> ?_) (λaaM=> ?_)
     ·have YR:=RZ aaM
      have K:=Dp.lt (a:=fS d) (b:=fS g) hM YR
      refine g4 ?_;refine St.ee (Ev.cM (k:=0) (.mk rfl) (.mk rfl) eV dm (by omega) (by simp)) ?_;refine St.ee (Ev.jq (.mk rfl) (show(d::o)[0]?=some d from rfl) lE trivial dm j5.eq) ?_;refine St.slot 148 (.agg #[iv d.dF,iv d.tqo]) rfl rfl ?_;refine St.gX rfl (.au rfl) eV dm kI rfl rfl (by simp[Value.cells]) rfl rfl (λam7=> ?_);refine St.aj (.mk rfl) (.mk rfl) eV dm kI qD (by simp[Value.oneCell',Value.cells]) (by omega) (by omega) rfl rfl rfl rfl (λQB amY=> ?_);refine St.aM QB (show _=(L++ [d]).length from cS) (show _=rows aw (L++ [d]) by rw[bB];rfl) ?_;refine St.bZ QB (λWU _=> ?_);refine g5 ?_;refine St.ee (Ev.rB (l:=1) (.mk rfl) (.mk rfl) eV dm rfl (by simp)) ?_;refine St.part (Rr:=aw) (xs:=(d::o)) xv 1 ((d::o)).length (by simp) (aR _) ?_;refine St.eZ (sl aw (pJ xv aw.size 1 ((d::o)).length) o) [sl aw (pJ xv aw.size 1 ((d::o)).length) ((((d::o)).drop 1).take (((d::o)).length-1))] (λρ h=>by have:=h _ (aQ ..);rwa[show(((d::o)).drop 1).take (((d::o)).length-1)=o from fF (aR _)]at this) ?_;refine g5 ?_;refine St.nI () (QB,L++ [d],pJ xv aw.size 1 (d::o).length,o,t,g::s,vz,V) ⟨⟨WU,R⟩,by rw[cP];exact K,⟨λu hu=>by rcases cD.1 hu with h|h;exact E u h;rw[bO.1 h];exact A d (by simp),λu hu=>A u (by simp[hu]),F⟩,by dsimp only;rw[bQ,fB];simp only[List.length_cons,List.length_nil];omega,by dsimp only;omega⟩ (by dsimp only;simp only[List.length_cons];omega) (by repeat(first|exact Sub.nil|refine Sub.cons (by first|rfl|exact congrArg (λz=>some (iv z)) (by first|omega|(dsimp only;omega))|exact congrArg (λz=>some (Value.bool z)) (by first|assumption|exact iZ (by assumption))) ?_)) (λ_ hw=>hw.sub)
     ·refine g7 ?_
      refine St.cq (λaaO=> ?_) (λaaO=> ?_)
      ·have l7:=RY aaO
       have K:=Dp.gt (a:=fS d) (b:=fS g) hM l7
       refine g4 ?_;refine St.ee (Ev.cM (k:=0) (.mk rfl) (.mk rfl) eV dm (by omega) (by simp)) ?_;refine St.ee (Ev.jq (.mk rfl) (show(g::s)[0]?=some g from rfl) lE trivial dm j5.eq) ?_;refine St.slot 159 (.agg #[iv g.dF,iv g.tqo]) rfl rfl ?_;refine St.gX rfl (.au rfl) eV dm kI rfl rfl (by simp[Value.cells]) rfl rfl (λZ3=> ?_);refine St.aj (.mk rfl) (.mk rfl) eV dm kI qD (by simp[Value.oneCell',Value.cells]) (by omega) (by omega) rfl rfl rfl rfl (λTu amZ=> ?_);refine St.aM Tu (show _=(L++ [g]).length from cS) (show _=rows aw (L++ [g]) by rw[bB];rfl) ?_;refine St.bZ Tu (λaiG _=> ?_);refine g5 ?_;refine St.ee (Ev.rB (l:=1) (.mk rfl) (.mk rfl) eV dm rfl (by simp)) ?_;refine St.part (Rr:=aw) (xs:=(g::s)) t 1 ((g::s)).length (by simp) (aR _) ?_;refine St.eZ (sl aw (pJ t aw.size 1 ((g::s)).length) s) [sl aw (pJ t aw.size 1 ((g::s)).length) ((((g::s)).drop 1).take (((g::s)).length-1))] (λρ h=>by have:=h _ (aQ ..);rwa[show(((g::s)).drop 1).take (((g::s)).length-1)=s from fF (aR _)]at this) ?_;refine g5 ?_;refine St.nI () (Tu,L++ [g],xv,d::o,pJ t aw.size 1 (g::s).length,s,vz,V) ⟨⟨aiG,R⟩,by rw[cP];exact K,⟨λu hu=>by rcases cD.1 hu with h|h;exact E u h;rw[bO.1 h];exact F g (by simp),A,λu hu=>F u (by simp[hu])⟩,by dsimp only;rw[bQ,fB];simp only[List.length_cons,List.length_nil];omega,by dsimp only;rw[fB];omega⟩ (by dsimp only;simp only[List.length_cons];omega) (by repeat(first|exact Sub.nil|refine Sub.cons (by first|rfl|exact congrArg (λz=>some (iv z)) (by first|omega|(dsimp only;omega))|exact congrArg (λz=>some (Value.bool z)) (by first|assumption|exact iZ (by assumption))) ?_)) (λ_ hw=>hw.sub)
      ·have heq:=RX (by omega) (by omega:¬0<oG d.dF g.dF)
       have K:=Dp.eq (a:=fS d) (b:=fS g) hM heq
       refine g4 ?_;refine St.ee (Ev.cM (k:=0) (.mk rfl) (.mk rfl) eV dm (by omega) (by simp)) ?_;refine St.ee (Ev.jq (.mk rfl) (show(d::o)[0]?=some d from rfl) lE trivial dm j5.eq) ?_;refine St.slot 123 (.agg #[iv d.dF,iv d.tqo]) rfl rfl ?_;refine St.gX rfl (.au rfl) eV dm kI rfl rfl (by simp[Value.cells]) rfl rfl (λZ1=> ?_);refine St.aj (.mk rfl) (.mk rfl) eV dm kI qD (by simp[Value.oneCell',Value.cells]) (by omega) (by omega) rfl rfl rfl rfl (λY6 amW=> ?_);refine St.aM Y6 (show _=(L++ [d]).length from cS) (show _=rows aw (L++ [d]) by rw[bB];rfl) ?_;refine St.bZ Y6 (λaiD _=> ?_);refine g4 ?_;refine St.dc [row vz 270 2 (w.reverse++V).length (rows M4 (w.reverse++V))] mixed (λnp ns=> ?_);refine SW.gd 0 ?_;refine SW.gd 1 ?_;refine SW.dd 2 rfl (λ_=>Ev.cM (k:=0) (.mk rfl) (.mk rfl) eV dm (by omega) (by simp)) ?_;refine SW.gd 3 ?_;refine SW.dd 4 rfl (λ_=>Ev.ld1 (.mk rfl) (show(d::o)[0]?=some d from rfl) gV trivial rfl) ?_;refine SW.gd 5 ?_;refine SW.dd 6 rfl (λ_=>Ev.cM (k:=0) (.mk rfl) (.mk rfl) eV dm (by omega) (by simp)) ?_;refine SW.gd 7 ?_;refine SW.dd 8 rfl (λ_=>Ev.ld1 (.mk rfl) (show(g::s)[0]?=some g from rfl) gV trivial rfl) ?_;refine SW.dd 9 rfl (λ_=>Ev.build (ps:=[(0,(.tmp 130)),(1,(.tmp 134))]) (bF.aX rfl rfl) (λw=>yZ rfl rfl w)) ?_;refine SW.t1 10 ?_;refine St.gX rfl (.au rfl) wg Bs QV rfl rfl (by simp[Value.cells]) rfl rfl (λam6=> ?_);refine g2 ?_;refine SW.go ?_;refine SW.t1 11 ?_;refine St.aj (.mk rfl) (.mk rfl) wg Bs QV ZI (by simp[Value.oneCell',Value.cells]) (by omega) (by omega) rfl rfl rfl rfl (λY7 amX=> ?_);refine St.aM Y7 (show _=(w.reverse++(V++ [(d.tqo,g.tqo)])).length by rw[←dq];exact cS) (show _=rows M4 (w.reverse++(V++ [(d.tqo,g.tqo)])) by rw[←dq,bB];rfl) ?_;refine St.bZ Y7 (λNS _=> ?_);refine g2 ?_;refine SW.go ?_;refine SW.gd 12 ?_;refine SW.dn ?_;refine go ?_;refine St.dc [] mixed (λnp ns=> ?_);refine SW.gd 0 ?_;refine SW.dd 1 rfl (λ_=>Ev.rB (l:=1) (.mk rfl) (.mk rfl) eV dm rfl (by simp)) ?_;refine SW.gd 2 ?_;refine SW.dd 3 rfl (λ_=>Ev.rB (l:=1) (.mk rfl) (.mk rfl) eV dm rfl (by simp)) ?_;refine SW.gd 4 ?_;refine SW.gd 5 ?_;refine SW.dn ?_;refine g3 ?_;refine St.part (Rr:=aw) (xs:=(d::o)) xv 1 ((d::o)).length (by simp) (aR _) ?_;refine St.eZ (sl aw (pJ xv aw.size 1 ((d::o)).length) o) [sl aw (pJ xv aw.size 1 ((d::o)).length) ((((d::o)).drop 1).take (((d::o)).length-1))] (λρ h=>by have:=h _ (aQ ..);rwa[show(((d::o)).drop 1).take (((d::o)).length-1)=o from fF (aR _)]at this) ?_;refine St.part (Rr:=aw) (xs:=(g::s)) t 1 ((g::s)).length (by simp) (aR _) ?_;refine St.eZ (sl aw (pJ t aw.size 1 ((g::s)).length) s) [sl aw (pJ t aw.size 1 ((g::s)).length) ((((g::s)).drop 1).take (((g::s)).length-1))] (λρ h=>by have:=h _ (aQ ..);rwa[show(((g::s)).drop 1).take (((g::s)).length-1)=s from fF (aR _)]at this) ?_;refine St.nI () (Y6,L++ [d],pJ xv aw.size 1 (d::o).length,o,pJ t aw.size 1 (g::s).length,s,Y7,V++ [(d.tqo,g.tqo)]) ⟨⟨aiD,NS⟩,by rw[cP];exact K,⟨λu hu=>by rcases cD.1 hu with h|h;exact E u h;rw[bO.1 h];exact A d (by simp),λu hu=>A u (by simp[hu]),λu hu=>F u (by simp[hu])⟩,by dsimp only;rw[bQ];simp only[List.length_cons,List.length_nil];omega,by dsimp only;rw[bQ];simp only[List.length_cons,List.length_nil];omega⟩ (by dsimp only;simp only[List.length_cons];omega) (by repeat(first|exact Sub.nil|refine Sub.cons (by first|rfl|exact congrArg (λz=>some (iv z)) (by first|omega|(dsimp only;omega))|exact congrArg (λz=>some (Value.bool z)) (by first|assumption|exact iZ (by assumption))) ?_)) (λ_ hw=>hw.sub)
    ·have hem:X=[]∨Y=[]:=by rcases S6 with h|h;exact .inl (lG (by omega));exact .inr (lG (by omega))
     obtain⟨hf1,S⟩:=hM.fin (by rcases hem with rfl|rfl;exact .inl rfl;exact .inr rfl);refine St.bS Q aw L rfl rfl E ?_;refine St.VC xv (λU=> ?_);refine St.VC t (λZ=> ?_)
     obtain⟨G,SE⟩:∃G,G=L++(X++Y):=⟨_,rfl⟩
     have ajY:G.map fS=Ap (p.ll a) (p.ll b):=by rw[SE,cP,cP];exact hf1
     have ab4:∀x∈G,aw.wf x:=λx hx=>by rw[SE]at hx;rcases cD.1 hx with hx|hx;exact E x hx;rcases cD.1 hx with hx|hx;exact A x hx;exact F x hx
     have ajZ:(([((⟨Q,hz⟩:aV),L),((⟨xv,U⟩:aV),X),((⟨t,Z⟩:aV),Y)]).map Prod.snd).flatten=G:=by rw[SE];simp
     refine St.eZ (aF pk [((⟨Q,hz⟩:aV),L),((⟨xv,U⟩:aV),X),((⟨t,Z⟩:aV),Y)]) [sl aw Q L,sl aw xv X,sl aw t Y] (λρ h x hx=>by simp only[List.mem_cons,List.not_mem_nil,or_false]at hx;rcases hx with rfl|rfl|rfl;exact h _ (aQ ..);exact h _ (cO _ (aQ ..));exact h _ (cO _ (cO _ (aQ ..)))) ?_;refine St.lB lv (by omega) (λbs2 cs2 akN=> ?_);refine g5 ?_;refine St.dc [row lv 161 1 ls.length (rows bT (ls.map Prod.fst)),aB (aF pk [((⟨Q,hz⟩:aV),L),((⟨xv,U⟩:aV),X),((⟨t,Z⟩:aV),Y)])] mixed (λnp ns=> ?_);refine SW.gd 0 ?_;refine SW.gd 1 ?_;refine SW.gd 2 ?_;refine SW.gd 3 ?_;refine SW.gd 4 ?_;refine SW.gd 5 ?_;refine SW.gd 6 ?_;refine SW.gd 7 ?_;refine SW.t1 8 ?_;refine St.gX rfl (.ej rfl rfl rfl) C0 pY QU rfl rfl (λu hu=>by simp only[List.mem_cons,List.not_mem_nil,or_false]at hu;rcases hu with rfl|rfl|rfl;rw[cells_one hz];rfl;rw[cells_one U];rfl;rw[cells_one Z];rfl) rfl rfl (λMQ=> ?_);refine St.aM (.slice (some ⟨MQ,0,none⟩) 3 3) (show _=([((⟨Q,hz⟩:aV),L),((⟨xv,U⟩:aV),X),((⟨t,Z⟩:aV),Y)].map Prod.fst).length from rfl) (show _=rows bT ([((⟨Q,hz⟩:aV),L),((⟨xv,U⟩:aV),X),((⟨t,Z⟩:aV),Y)].map Prod.fst) by simp only[List.flatMap_cons,List.flatMap_nil,cells_one hz,cells_one U,cells_one Z];rfl) ?_;refine St.bS (.slice (some ⟨MQ,0,none⟩) 3 3) bT ([((⟨Q,hz⟩:aV),L),((⟨xv,U⟩:aV),X),((⟨t,Z⟩:aV),Y)].map Prod.fst) rfl rfl (λ_ _=>trivial) ?_;refine g2 ?_;refine SW.go ?_;refine SW.t1 9 ?_;refine St.ag (EO (.slice (some ⟨MQ,0,none⟩) 3 3) [((⟨Q,hz⟩:aV),L),((⟨xv,U⟩:aV),X),((⟨t,Z⟩:aV),Y)] (by simp) (λq hq=>by simp only[List.mem_cons,List.not_mem_nil,or_false]at hq;rcases hq with rfl|rfl|rfl<;>dsimp only<;>omega)) Zh (.au rfl) rfl ?_;rintro v173 _ ⟨H9,rfl⟩;refine St.ao ?_;rw[ajZ];refine St.bS v173 aw G rfl rfl ab4 ?_;refine g2 ?_;refine SW.go ?_;refine SW.dd 10 rfl (λ_=>Ev.nB (k:=a) akN (.mk rfl) (.mk rfl) C0 pY (by omega) (by omega)) ?_;refine SW.t1 11 ?_;refine St.cI (.mk rfl) (.mk rfl) pY H9 (by omega) (by decide) ?_;refine g2 ?_;refine SW.go ?_;refine SW.dn ?_;refine g2 ?_
     have amP:=e.pl.left (m:=m) ha hb Wk hrb hab
     have hJ2:Yp T nf n XQ (j9 (gz T) (p0.mu [(a0,y)]) p0 [(a0,y)]) (V.reverse++w) (P3.set b a) (p.put a b m) (ls.set a (⟨v173,H9⟩,G)):=⟨e.pl.put ha hb Wk hmT hab,by rw[S];exact hww.put e.pl ha hb,hP3.put (by omega) (by omega) Wk hrb hab,by rw[jk,e.Yb];show p.lk.set a (G.map fS)=_;rw[ajY];rfl,λq hq=>by rcases lJ hq with hq|rfl;exact e.lw q hq;exact ab4,by rw[S,←Kw,e.eq],by have h0:=e.mu;have h1:p.mu (x::w)=p.left+(w.length+1)+1:=rfl;show(p.put a b m).left+(V.reverse++w).length+1≤XQ;rw[bQ,CE,S];omega⟩
     refine St.aM vz (show _=((V.reverse++w).reverse).length by rw[List.reverse_append,List.reverse_reverse]) (show _=rows M4 ((V.reverse++w).reverse) by rw[List.reverse_append,List.reverse_reverse]) ?_;refine St.aM pv (show _=(p.put a b m).ro.length by simp[Pl.put]) rfl ?_;refine St.aM tv (show _=(p.put a b m).ty.length by simp[Pl.put]) (show _=rows aJ (p.put a b m).ty from rfl) ?_;refine St.aM lv (show _=(ls.set a (⟨v173,H9⟩,G)).length by rw[cn]) (show _=rows bT ((ls.set a (⟨v173,H9⟩,G)).map Prod.fst) by rw[jk];exact zY _ _ ⟨v173,H9⟩) ?_;refine St.eZ (aF pk (ls.set a (⟨v173,H9⟩,G))) [aF pk ls,sl aw v173 G] (λρ h x hx=>by rcases lJ hx with hx|rfl;exact h _ (aQ ..) x hx;exact h _ (cO _ (aQ ..))) ?_;refine St.nI () (vz,V.reverse++w,P3.set b a,p.put a b m,ls.set a (⟨v173,H9⟩,G)) ⟨R,hJ2⟩ (by dsimp only;unfold Pl.mu;rw[bQ,CE,fB,S];omega) (by repeat(first|exact Sub.nil|refine Sub.cons (by first|rfl|exact congrArg (λz=>some (iv z)) (by first|omega|(dsimp only;omega))|exact congrArg (λz=>some (Value.bool z)) (by first|assumption|exact iZ (by assumption))) ?_)) (λ_ hw=>hw.sub)
 ·obtain rfl:W=[]:=lG (by omega)
  have SD:=e.eq
  rw[L8]at SD;refine g11 ?_;refine St.rV [_] [aW H (.cells [C.1,D.1,pv,tv,lv].toArray 245 (0,0)),row pv 3 1 p.ro.length (rows aJ (cX (P1))),row tv 3 1 p.ty.length (rows aJ p.ty),row lv 161 1 (ls).length (rows bT ((ls).map Prod.fst)),aB (aF pk (ls))] ?_;exact⟨true,P1,p,ls,rfl,λh=>(by cases h),λ_=>⟨SD.symm,e.pl,e.uf,e.Yb,e.lw⟩,rfl⟩
end Go.Proofs.YtblifkgpebebmaaGreatDoor
