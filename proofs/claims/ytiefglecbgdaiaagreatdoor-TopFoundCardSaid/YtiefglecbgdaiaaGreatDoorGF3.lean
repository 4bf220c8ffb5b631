/-
  Laws of walks through programs, and facts on grammars, trees and queries.
  Conditions: none.
-/
import Derived.Test.YtiefglecbgdaiaaGreatDoorGF2
set_option linter.unusedVariables false
set_option linter.unusedSimpArgs false
namespace Go.Proofs.YtiefglecbgdaiaaGreatDoor
open Go Go.J Tryz
abbrev kM:=List (Int×Int)
def vV:Nat→kM→kM→kM
 |0,xs,a=>xs++a
 |_+1,[],a=>a
 |_+1,x::xs,[]=>x::xs
 |f+1,x::xs,y::a=>if x.1<y.1 then x::vV f xs (y::a)else if y.1<x.1 then y::vV f (x::xs) a else x::vV f xs a
def xT:Nat→kM→kM→List (Int×Int)
 |0,_,_=>[]
 |_+1,[],_=>[]
 |_+1,_::_,[]=>[]
 |f+1,x::xs,y::a=>if x.1<y.1 then xT f xs (y::a)else if y.1<x.1 then xT f (x::xs) a else(x.2,y.2)::xT f xs a
def Ao (xs a:kM):kM:=vV (xs.length+a.length) xs a
def Dw (xs a:kM):List (Int×Int):=xT (xs.length+a.length) xs a
theorem zO (f:Nat)(a:kM):vV f [] a=a:=by cases f<;>rfl
theorem vW (f:Nat)(xs:kM):vV f xs []=xs:=by cases f<;>cases xs<;>simp[vV]
theorem zY (f:Nat)(a:kM):xT f [] a=[]:=by cases f<;>rfl
theorem vY (f:Nat)(xs:kM):xT f xs []=[]:=by cases f<;>cases xs<;>rfl
theorem lQ:∀(f g:Nat) (xs a:kM),xs.length+a.length≤f→xs.length+a.length≤g→vV f xs a=vV g xs a
 |f,g,[],a,_,_=>by rw[zO,zO]
 |f,g,x::xs,[],_,_=>by rw[vW,vW]
 |f+1,g+1,x::xs,y::a,b,c=>by
  simp only[List.length_cons]at b c
  rw[vV,vV,lQ f g xs (y::a) (by simp only[List.length_cons];omega) (by simp only[List.length_cons];omega),lQ f g (x::xs) a (by simp only[List.length_cons];omega) (by simp only[List.length_cons];omega),lQ f g xs a zE zE]
 |0,_,_::_,_::_,h,_=>by simp only[List.length_cons]at h;omega
 |_+1,0,_::_,_::_,_,h=>by simp only[List.length_cons]at h;omega
theorem lT:∀(f g:Nat) (xs a:kM),xs.length+a.length≤f→xs.length+a.length≤g→xT f xs a=xT g xs a
 |f,g,[],a,_,_=>by rw[zY,zY]
 |f,g,x::xs,[],_,_=>by rw[vY,vY]
 |f+1,g+1,x::xs,y::a,b,c=>by
  simp only[List.length_cons]at b c
  rw[xT,xT,lT f g xs (y::a) (by simp only[List.length_cons];omega) (by simp only[List.length_cons];omega),lT f g (x::xs) a (by simp only[List.length_cons];omega) (by simp only[List.length_cons];omega),lT f g xs a zE zE]
 |0,_,_::_,_::_,h,_=>by simp only[List.length_cons]at h;omega
 |_+1,0,_::_,_::_,_,h=>by simp only[List.length_cons]at h;omega
theorem uF (a:kM):Ao [] a=a:=zO _ _
theorem qZ (xs:kM):Ao xs []=xs:=vW _ _
theorem Dy (a:kM):Dw [] a=[]:=zY _ _
theorem zZ (xs:kM):Dw xs []=[]:=vY _ _
theorem fR (x y:Int×Int)(xs a:kM):Ao (x::xs) (y::a)=if x.1<y.1 then x::Ao xs (y::a)else if y.1<x.1 then y::Ao (x::xs) a else x::Ao xs a:=by
 have e:(x::xs).length+(y::a).length=(xs.length+a.length+1)+1:=by simp only[List.length_cons];omega
 show vV _ _ _=_
 rw[e,vV,lQ _ (xs.length+(y::a).length) xs (y::a) (by simp only[List.length_cons];omega) (aQ _),lQ _ ((x::xs).length+a.length) (x::xs) a (by simp only[List.length_cons];omega) (aQ _),lQ _ (xs.length+a.length) xs a zE (aQ _)];rfl
theorem jX (x y:Int×Int)(xs a:kM):Dw (x::xs) (y::a)=if x.1<y.1 then Dw xs (y::a)else if y.1<x.1 then Dw (x::xs) a else(x.2,y.2)::Dw xs a:=by
 have e:(x::xs).length+(y::a).length=(xs.length+a.length+1)+1:=by simp only[List.length_cons];omega
 show xT _ _ _=_
 rw[e,xT,lT _ (xs.length+(y::a).length) xs (y::a) (by simp only[List.length_cons];omega) (aQ _),lT _ ((x::xs).length+a.length) (x::xs) a (by simp only[List.length_cons];omega) (aQ _),lT _ (xs.length+a.length) xs a zE (aQ _)];rfl
theorem nB {C:kM→kM→Prop}(h1:∀a,C [] a)(b:∀x xs,C (x::xs) [])(d:∀x xs y a,x.1<y.1→C xs (y::a)→C (x::xs) (y::a))(e:∀x xs y a,y.1<x.1→C (x::xs) a→C (x::xs) (y::a))(f:∀x xs y a,x.1=y.1→C xs a→C (x::xs) (y::a)):∀(n:Nat) (xs a:kM),xs.length+a.length≤n→C xs a
 |_,[],a,_=>h1 a
 |_,x::xs,[],_=>b x xs
 |n+1,x::xs,y::a,h=>by
  simp only[List.length_cons]at h
  rcases Int.lt_trichotomy x.1 y.1 with c|c|c
  ·exact d _ _ _ _ c (nB h1 b d e f n xs (y::a) (by simp only[List.length_cons];omega))
  ·exact f _ _ _ _ c (nB h1 b d e f n xs a zE)
  ·exact e _ _ _ _ c (nB h1 b d e f n (x::xs) a (by simp only[List.length_cons];omega))
 |0,_::_,_::_,h=>by simp only[List.length_cons]at h;omega
theorem VO (xs a:kM):(Ao xs a).length+(Dw xs a).length=xs.length+a.length:=by
 refine nB (C:=λxs a=>(Ao xs a).length+(Dw xs a).length=xs.length+a.length) ?_ ?_ ?_ ?_ ?_ _ xs a (aQ _)
 ·intro a;rw[uF,Dy];simp
 ·intro x xs;rw[qZ,zZ]
 ·intro x xs y a h b;rw[fR,jX,aB h,aB h];simp only[List.length_cons]at b⊢;omega
 ·intro x xs y a h b
  have c:¬x.1<y.1:=by omega
  rw[fR,jX,aA c,aA c,aB h,aB h];simp only[List.length_cons]at b⊢;omega
 ·intro x xs y a h b
  have c:¬x.1<y.1:=by omega
  have d:¬y.1<x.1:=by omega
  rw[fR,jX,aA c,aA c,aA d,aA d];simp only[List.length_cons]at b⊢;omega
theorem xr {z:Int×Int}(xs a:kM):z∈Ao xs a→z∈xs∨z∈a:=by
 refine nB (C:=λxs a=>z∈Ao xs a→z∈xs∨z∈a) ?_ ?_ ?_ ?_ ?_ _ xs a (aQ _)
 ·intro a h;rw[uF]at h;exact .inr h
 ·intro x xs h;rw[qZ]at h;exact .inl h
 ·intro x xs y a h b hz;rw[fR,aB h]at hz
  rcases bT.1 hz with rfl|hz
  ·exact .inl (by simp)
  ·rcases b hz with h|h
   ·exact .inl (by simp[h])
   ·exact .inr h
 ·intro x xs y a h b hz;rw[fR,aA zE,aB h]at hz
  rcases bT.1 hz with rfl|hz
  ·exact .inr (by simp)
  ·rcases b hz with h|h
   ·exact .inl h
   ·exact .inr (by simp[h])
 ·intro x xs y a h b hz;rw[fR,aA zE,aA zE]at hz
  rcases bT.1 hz with rfl|hz
  ·exact .inl (by simp)
  ·rcases b hz with h|h
   ·exact .inl (by simp[h])
   ·exact .inr (by simp[h])
theorem VN {z:Int×Int}(xs a:kM):z∈Dw xs a→(∃x∈xs,z.1=x.2)∧∃y∈a,z.2=y.2:=by
 refine nB (C:=λxs a=>z∈Dw xs a→(∃x∈xs,z.1=x.2)∧∃y∈a,z.2=y.2) ?_ ?_ ?_ ?_ ?_ _ xs a (aQ _)
 ·intro a h;rw[Dy]at h;cases h
 ·intro x xs h;rw[zZ]at h;cases h
 ·intro x xs y a h b hz;rw[jX,aB h]at hz
  obtain⟨⟨u,hu,e⟩,c⟩:=b hz;exact⟨⟨u,by simp[hu],e⟩,c⟩
 ·intro x xs y a h b hz;rw[jX,aA zE,aB h]at hz
  obtain⟨c,⟨u,hu,e⟩⟩:=b hz;exact⟨c,⟨u,by simp[hu],e⟩⟩
 ·intro x xs y a h b hz;rw[jX,aA zE,aA zE]at hz
  rcases bT.1 hz with rfl|hz
  ·exact⟨⟨x,by simp,rfl⟩,⟨y,by simp,rfl⟩⟩
  ·obtain⟨⟨u,hu,e⟩,⟨v,d,e2⟩⟩:=b hz
   exact⟨⟨u,by simp[hu],e⟩,⟨v,by simp[d],e2⟩⟩
def lI (l:kM):List Int:=l.map (·.1)
theorem Ku {k:Int}(xs b:kM):k∈lI xs∨k∈lI b→k∈lI (Ao xs b):=by
 refine nB (C:=λxs b=>k∈lI xs∨k∈lI b→k∈lI (Ao xs b)) ?_ ?_ ?_ ?_ ?_ _ xs b (aQ _)
 ·intro b h;rw[uF];rcases h with h|h
  ·cases h
  ·exact h
 ·intro x xs h;rw[qZ];rcases h with h|h
  ·exact h
  ·cases h
 ·intro x xs y b h a hk;rw[fR,aB h]
  simp only[lI,List.map_cons,List.mem_cons]at hk a⊢
  rcases hk with(hk|hk)|hk
  ·exact .inl hk
  ·exact .inr (a (.inl hk))
  ·exact .inr (a (.inr hk))
 ·intro x xs y b h a hk;rw[fR,aA zE,aB h]
  simp only[lI,List.map_cons,List.mem_cons]at hk a⊢
  rcases hk with hk|hk|hk
  ·exact .inr (a (.inl hk))
  ·exact .inl hk
  ·exact .inr (a (.inr hk))
 ·intro x xs y b h a hk;rw[fR,aA zE,aA zE]
  simp only[lI,List.map_cons,List.mem_cons]at hk a⊢
  rcases hk with(hk|hk)|hk|hk
  ·exact .inl hk
  ·exact .inr (a (.inl hk))
  ·exact .inl zE
  ·exact .inr (a (.inr hk))
def sO (l:kM):Prop:=l.Pairwise λx y=>x.1<y.1
theorem Ti (xs a:kM):sO xs→sO a→sO (Ao xs a):=by
 refine nB (C:=λxs a=>sO xs→sO a→sO (Ao xs a)) ?_ ?_ ?_ ?_ ?_ _ xs a (aQ _)
 ·intro a _ h;rw[uF];exact h
 ·intro x xs h _;rw[qZ];exact h
 ·intro x xs y a h b hx hy;rw[fR,aB h]
  obtain⟨h1,d⟩:=fw.1 hx;obtain⟨c,e⟩:=fw.1 hy;refine fw.2 ⟨λz hz=> ?_,b d hy⟩
  rcases xr _ _ hz with hz|hz
  ·exact h1 z hz
  ·rcases bT.1 hz with rfl|hz
   ·exact h
   ·have:=c z hz;omega
 ·intro x xs y a h b hx hy;rw[fR,aA zE,aB h]
  obtain⟨h1,d⟩:=fw.1 hx;obtain⟨c,e⟩:=fw.1 hy;refine fw.2 ⟨λz hz=> ?_,b hx e⟩
  rcases xr _ _ hz with hz|hz
  ·rcases bT.1 hz with rfl|hz
   ·exact h
   ·have:=h1 z hz;omega
  ·exact c z hz
 ·intro x xs y a h b hx hy;rw[fR,aA zE,aA zE]
  obtain⟨h1,d⟩:=fw.1 hx;obtain⟨c,e⟩:=fw.1 hy;refine fw.2 ⟨λz hz=> ?_,b d e⟩
  rcases xr _ _ hz with hz|hz
  ·exact h1 z hz
  ·have:=c z hz;omega
def fb (f:Nat→Nat):Nat→Nat
 |0=>0
 |n+1=>fb f n+f n
theorem zw {f g:Nat→Nat}:∀{n:Nat},(∀i,i<n→f i=g i)→fb f n=fb g n
 |0,_=>rfl
 |n+1,h=>by rw[fb,fb,zw λi a=>h i zE,h n zE]
theorem zx {f g:Nat→Nat}{a:Nat}:∀{n:Nat},(∀i,i<n→i≠a→f i=g i)→a<n→fb f n+g a=fb g n+f a
 |0,_,h=>by omega
 |n+1,h,d=>by
  rw[fb,fb]
  by_cases e:a=n
  ·subst e
   rw[zw λi b=>h i zE zE];omega
  ·have:=zx (n:=n) (λi b c=>h i zE c) zE
   rw[h n zE (λx=>e x.symm)];omega
structure Pl where
 ro:List Nat
 ty:List Int
 lk:List kM
def Pl.rt (p:Pl)(i:Nat):Nat:=p.ro.getD i 0
def Pl.tt (p:Pl)(i:Nat):Int:=p.ty.getD i 0
def Pl.ll (p:Pl)(i:Nat):kM:=p.lk.getD i []
def Pl.put (p:Pl)(a b m:Nat):Pl:=⟨p.ro.map λx=>if x=b then a else x,p.ty.set a m,p.lk.set a (Ao (p.ll a) (p.ll b))⟩
def ik (mt:Nat→Nat→Option Nat):Nat→Pl→List (Int×Int)→Option Pl
 |0,_,_=>none
 |_+1,p,[]=>some p
 |f+1,p,x::w=>
  if p.rt x.1.toNat=p.rt x.2.toNat then ik mt f p w
  else match mt (p.tt (p.rt x.1.toNat)).toNat (p.tt (p.rt x.2.toNat)).toNat with
   |none=>none
   |some m=>ik mt f (p.put (p.rt x.1.toNat) (p.rt x.2.toNat) m) ((Dw (p.ll (p.rt x.1.toNat)) (p.ll (p.rt x.2.toNat))).reverse++w)
def Pl.left (p:Pl):Nat:=fb (λi=>if p.rt i=i then(p.ll i).length else 0) p.ro.length
def Pl.mu (p:Pl)(w:List (Int×Int)):Nat:=p.left+w.length+1
structure lg (nt nf n:Nat)(p:Pl):Prop where
 lr:p.ro.length=n
 lt:p.ty.length=n
 ll:p.lk.length=n
 AP:∀i,i<n→p.rt i<n
 XY:∀i,i<n→p.rt (p.rt i)=p.rt i
 tys:∀t∈p.ty,0≤t∧t<nt
 TK:∀l∈p.lk,∀x∈l,(0≤x.1∧x.1<nf)∧0≤x.2∧x.2<n
 asc:∀l∈p.lk,sO l
theorem lg.tt {nt nf n:Nat}{p:Pl}(h:lg nt nf n p){i:Nat}(a:i<n):0≤p.tt i∧p.tt i<nt:=by
 unfold Pl.tt;rw[aZ,aj (by rw[h.lt];exact a)];exact h.tys _ (fq _)
theorem lg.lm {nt nf n:Nat}{p:Pl}(h:lg nt nf n p){i:Nat}(a:i<n):p.ll i∈p.lk:=by
 unfold Pl.ll;rw[aZ,aj (by rw[h.ll];exact a)];exact fq _
theorem Pl.JS {p:Pl}{a b m i:Nat}(c:i<p.ro.length):(p.put a b m).rt i=if p.rt i=b then a else p.rt i:=by
 unfold Pl.rt Pl.put
 simp only[List.getD_eq_getElem?_getD,List.getElem?_map,List.getElem?_eq_getElem c,Option.map_some,Option.getD_some]
theorem Pl.R7 {p:Pl}{a b m i:Nat}(c:a<p.lk.length):(p.put a b m).ll i=if i=a then Ao (p.ll a) (p.ll b)else p.ll i:=by
 unfold Pl.ll Pl.put
 simp only[List.getD_eq_getElem?_getD]
 by_cases e:i=a
 ·subst e;rw[fp c,aB rfl];rfl
 ·rw[gV (λh=>e h.symm),aA e]
theorem lg.put {nt nf n:Nat}{p:Pl}(h:lg nt nf n p){a b m:Nat}(f:a<n)(j:b<n)(k:p.rt a=a)(hm:m<nt)(o:a≠b):lg nt nf n (p.put a b m):=by
 have g:∀i,i<n→(p.put a b m).rt i=if p.rt i=b then a else p.rt i:=λi d=>Pl.JS (by rw[h.lr];exact d)
 refine⟨by simp[Pl.put,h.lr],by simp[Pl.put,h.lt],by simp[Pl.put,h.ll],λi d=> ?_,λi d=> ?_,λt ht=> ?_,λl c=> ?_,λl c=> ?_⟩
 ·rw[g i d];split
  ·exact f
  ·exact h.AP i d
 ·rw[g i d];split
  ·rw[g a f,k,aA o]
  ·rename_i e
   rw[g _ (h.AP i d),h.XY i d,aA e]
 ·rcases nP ht with ht|ht
  ·exact h.tys t ht
  ·subst ht;exact⟨by omega,by omega⟩
 ·rcases nP c with c|c
  ·exact h.TK l c
  ·subst c
   intro x hx
   rcases xr _ _ hx with hx|hx
   ·exact h.TK _ (h.lm f) x hx
   ·exact h.TK _ (h.lm j) x hx
 ·rcases nP c with c|c
  ·exact h.asc l c
  ·subst c
   exact Ti _ _ (h.asc _ (h.lm f)) (h.asc _ (h.lm j))
theorem lg.left {nt nf n:Nat}{p:Pl}(h:lg nt nf n p){a b m:Nat}(j:a<n)(r:b<n)(s:p.rt a=a)(k:p.rt b=b)(l:a≠b):(p.put a b m).left+(Dw (p.ll a) (p.ll b)).length=p.left:=by
 have o:∀i,i<n→(p.put a b m).rt i=if p.rt i=b then a else p.rt i:=λi c=>Pl.JS (by rw[h.lr];exact c)
 have q:∀i,(p.put a b m).ll i=if i=a then Ao (p.ll a) (p.ll b)else p.ll i:=λi=>Pl.R7 (by rw[h.ll];exact j)
 have hlen:=VO (p.ll a) (p.ll b)
 unfold Pl.left
 have t:(p.put a b m).ro.length=n:=by simp[Pl.put,h.lr]
 rw[t,h.lr]
 -- in u:b is no root any more
 have s1:=zx (n:=n) (a:=b) (f:=λi=>if i=b then 0 else if p.rt i=i then(p.ll i).length else 0) (g:=λi=>if p.rt i=i then(p.ll i).length else 0) (λi _ c=>aA c) r
 have s2:=zx (n:=n) (a:=a) (f:=λi=>if(p.put a b m).rt i=i then((p.put a b m).ll i).length else 0) (g:=λi=>if i=b then 0 else if p.rt i=i then(p.ll i).length else 0) (λi c d=>by
  rw[o i c,q i,aA d]
  by_cases e:p.rt i=b
  ·rw[aB e,aA (λh=>d h.symm)]
   by_cases e2:i=b
   ·rw[aB e2]
   ·rw[aA e2,aA (λh=>e2 (by rw[←e,h]))]
  ·rw[aA e,aA (show i≠b from λv=>e (by rw[v,k]))]) j
 rw[aB rfl,aB k]at s1;rw[o a j,s,aA l,aB rfl,q a,aB rfl,aA l,aB rfl]at s2;omega
def Pl.of (x y:de):Pl:=⟨List.range (x.length+y.length),x.map (·.1)++y.map (·.1),x.map (·.2)++y.map λn=>n.2.map λl=>(l.1,(x.length:Int)+l.2)⟩
def q7 (p:Pl):de:=(List.range p.ro.length).map λi=>(p.tt i,if p.rt i=i then(p.ll i).map (λl=>(l.1,(p.rt l.2.toNat:Int)))else [])
def ka (g:de):Nat→List Nat→Nat→List Nat
 |0,o,_=>o
 |f+1,o,i=>if i∈o then o else(g.getD i gu).2.foldl (λo x=>ka g f o x.2.toNat) (o++ [i])
def gY (g:de)(r:Nat):de:=let o:=ka g (g.length+1) [] r;o.map λi=>((g.getD i gu).1,(g.getD i gu).2.map λx=>(x.1,(o.idxOf x.2.toNat:Int)))
def dE (mt:Nat→Nat→Option Nat)(x:de)(node:Nat)(y:de):Option de:=
 (ik mt ((Pl.of x y).mu [((node:Int),(x.length:Int))]) (Pl.of x y) [((node:Int),(x.length:Int))]).map λp=>gY (q7 p) (p.rt 0)
structure dp (nt nf:Nat)(g:de):Prop where
 pos:0<g.length
 nd:∀n∈g,(0≤n.1∧n.1<nt)∧sO n.2∧∀x∈n.2,(0≤x.1∧x.1<nf)∧0≤x.2∧x.2<g.length
theorem dp.at_ {nt nf:Nat}{g:de}(h:dp nt nf g){i:Nat}(a:i<g.length):(0≤(g.getD i gu).1∧(g.getD i gu).1<nt)∧sO (g.getD i gu).2∧∀x∈(g.getD i gu).2,(0≤x.1∧x.1<nf)∧0≤x.2∧x.2<g.length:=by
 refine h.nd _ ?_;rw[aZ,aj a];exact fq a
theorem dp.lk {nt nf:Nat}{g:de}(h:dp nt nf g):tL g:=⟨h.pos,λn a x hx=>by
 obtain⟨_,_,b⟩:=h.nd n a;obtain⟨c,d,e⟩:=b x hx
 exact⟨c.1,d,by omega⟩⟩
theorem Cv (F:Int×Int→Int){l:kM}(h:sO l):sO (l.map λx=>(x.1,F x)):=by
 unfold sO at h⊢;rw[oq];exact h
theorem Vd {n i:Nat}(h:i<n):(List.range n).getD i 0=i:=by
 rw[aZ,jy h];rfl
theorem Pl.Qn {nt nf:Nat}{x y:de}(hx:dp nt nf x)(hy:dp nt nf y):lg nt nf (x.length+y.length) (Pl.of x y):=by
 refine⟨by simp[Pl.of],by simp[Pl.of],by simp[Pl.of],λi b=> ?_,λi b=> ?_,λt ht=> ?_,λl c=> ?_,λl c=> ?_⟩
 ·show(List.range _).getD i 0<_;rw[Vd b];exact b
 ·show(List.range _).getD ((List.range _).getD i 0) 0=(List.range _).getD i 0;rw[Vd b,Vd b]
 ·rcases cI.1 ht with h|h<;>obtain⟨n,a,rfl⟩:=cA.1 h
  ·exact(hx.nd n a).1
  ·exact(hy.nd n a).1
 ·rcases cI.1 c with h|h<;>obtain⟨n,a,rfl⟩:=cA.1 h<;>intro z hz
  ·obtain⟨h1,d,e⟩:=(hx.nd n a).2.2 z hz
   exact⟨h1,d,by omega⟩
  ·obtain⟨u,hu,rfl⟩:=cA.1 hz
   obtain⟨h1,d,e⟩:=(hy.nd n a).2.2 u hu;exact⟨h1,by dsimp only;omega,by dsimp only;omega⟩
 ·rcases cI.1 c with h|h<;>obtain⟨n,a,rfl⟩:=cA.1 h
  ·exact(hx.nd n a).2.1
  ·exact Cv _ (hy.nd n a).2.1
def Co (n:Nat)(w:List (Int×Int)):Prop:=∀x∈w,(0≤x.1∧x.1<n)∧0≤x.2∧x.2<n
theorem Co.rt {n:Nat}{x:Int×Int}{w:List (Int×Int)}(h:Co n (x::w)):x.1.toNat<n∧x.2.toNat<n:=by
 obtain⟨h1,a⟩:=h x (by simp);exact⟨by omega,by omega⟩
theorem Co.put {nt nf n:Nat}{p:Pl}(hp:lg nt nf n p){a b:Nat}(c:a<n)(d:b<n){w:List (Int×Int)}(h:Co n w):Co n ((Dw (p.ll a) (p.ll b)).reverse++w):=λz hz=>by
 rcases cI.1 hz with hz|hz
 ·obtain⟨⟨u,hu,e⟩,⟨v,f,e2⟩⟩:=VN _ _ (List.mem_reverse.1 hz)
  have h1:=(hp.TK _ (hp.lm c) u hu).2
  have g:=(hp.TK _ (hp.lm d) v f).2
  exact⟨by rw[e];exact h1,by rw[e2];exact g⟩
 ·exact h z hz
def xG (nt:Nat)(mt:Nat→Nat→Option Nat):Prop:=∀a b m,mt a b=some m→m<nt
theorem Mz {mt:Nat→Nat→Option Nat}{p:Pl}{x:Int×Int}{w:List (Int×Int)}(h:p.rt x.1.toNat=p.rt x.2.toNat):ik mt (p.mu (x::w)) p (x::w)=ik mt (p.mu w) p w:=by
 have e:p.mu (x::w)=p.mu w+1:=by unfold Pl.mu;simp only[List.length_cons];omega
 rw[e,ik,aB h]
theorem L6 {mt:Nat→Nat→Option Nat}{p:Pl}{x:Int×Int}{w:List (Int×Int)}(h:p.rt x.1.toNat≠p.rt x.2.toNat)(hm:mt (p.tt (p.rt x.1.toNat)).toNat (p.tt (p.rt x.2.toNat)).toNat=none):ik mt (p.mu (x::w)) p (x::w)=none:=by
 have e:p.mu (x::w)=p.mu w+1:=by unfold Pl.mu;simp only[List.length_cons];omega
 rw[e,ik,aA h,hm]
theorem Q5 {nt nf n:Nat}{mt:Nat→Nat→Option Nat}{p:Pl}(hp:lg nt nf n p){x:Int×Int}{w:List (Int×Int)}{m:Nat}(hx:x.1.toNat<n∧x.2.toNat<n)(h:p.rt x.1.toNat≠p.rt x.2.toNat)(hm:mt (p.tt (p.rt x.1.toNat)).toNat (p.tt (p.rt x.2.toNat)).toNat=some m):
 ik mt (p.mu (x::w)) p (x::w)=ik mt ((p.put (p.rt x.1.toNat) (p.rt x.2.toNat) m).mu ((Dw (p.ll (p.rt x.1.toNat)) (p.ll (p.rt x.2.toNat))).reverse++w)) (p.put (p.rt x.1.toNat) (p.rt x.2.toNat) m) ((Dw (p.ll (p.rt x.1.toNat)) (p.ll (p.rt x.2.toNat))).reverse++w):=by
 have a:=hp.left (m:=m) (hp.AP _ hx.1) (hp.AP _ hx.2) (hp.XY _ hx.1) (hp.XY _ hx.2) h
 have e:p.mu (x::w)=(p.put (p.rt x.1.toNat) (p.rt x.2.toNat) m).mu ((Dw (p.ll (p.rt x.1.toNat)) (p.ll (p.rt x.2.toNat))).reverse++w)+1:=by
  unfold Pl.mu;simp only[List.length_cons,List.length_append,List.length_reverse];omega
 rw[e,ik,aA h,hm]
theorem My {mt:Nat→Nat→Option Nat}{p:Pl}:ik mt (p.mu []) p []=some p:=by
 show ik mt (p.left+0+1) p []=_;rw[ik]
theorem Dl {nt nf n:Nat}{mt:Nat→Nat→Option Nat}(a:xG nt mt):∀(f:Nat) (p:Pl) (w:List (Int×Int)) (q:Pl),lg nt nf n p→Co n w→ik mt f p w=some q→lg nt nf n q∧∀i,i<n→∀k∈lI (p.ll (p.rt i)),k∈lI (q.ll (q.rt i))
 |0,_,_,_,_,_,h=>by cases h
 |f+1,p,[],q,hp,_,h=>by
  rw[ik]at h;obtain rfl:=Option.some.inj h;exact⟨hp,λ_ _ _ h=>h⟩
 |f+1,p,x::w,q,hp,hw,h=>by
  have hx:=hw.rt
  have d:Co n w:=λz hz=>hw z (by simp[hz])
  rw[ik]at h
  split at h
  ·exact Dl a f p w q hp d h
  ·rename_i l
   split at h
   ·cases h
   ·rename_i m hm
    have c:=hp.AP _ hx.1
    have g:=hp.AP _ hx.2
    have o:=hp.XY _ hx.1
    have t:=hp.XY _ hx.2
    have r:=hp.put (b:=p.rt x.2.toNat) c g o (a _ _ _ hm) l
    obtain⟨h1,s⟩:=Dl a f _ _ q r (d.put hp c g) h;refine⟨h1,λi j k hk=>s i j k ?_⟩;rw[Pl.JS (by rw[hp.lr];exact j),Pl.R7 (by rw[hp.ll];exact c)]
    by_cases e:p.rt i=p.rt x.2.toNat
    ·rw[aB e,aB rfl];rw[e]at hk;exact Ku _ _ (.inr hk)
    ·rw[aA e]
     split
     ·rename_i e2;rw[e2]at hk;exact Ku _ _ (.inl hk)
     ·exact hk
theorem tx (p:Pl):(q7 p).length=p.ro.length:=by simp[q7]
theorem Yj {p:Pl}{i:Nat}(h:i<p.ro.length):(q7 p).getD i gu=(p.tt i,if p.rt i=i then(p.ll i).map (λl=>(l.1,(p.rt l.2.toNat:Int)))else []):=by
 unfold q7
 rw[aZ,aw,jy h];rfl
theorem Pe {nt nf n:Nat}{p:Pl}(hp:lg nt nf n p)(b:0<n):dp nt nf (q7 p):=by
 refine⟨by rw[tx,hp.lr];exact b,λd hd=> ?_⟩;unfold q7 at hd;obtain⟨i,a,rfl⟩:=cA.1 hd;rw[cU,hp.lr]at a;rw[tx,hp.lr];refine⟨hp.tt a,?_,λx hx=> ?_⟩
 ·dsimp only;split
  ·exact Cv _ (hp.asc _ (hp.lm a))
  ·exact List.Pairwise.nil
 ·dsimp only at hx
  split at hx
  ·obtain⟨u,hu,rfl⟩:=cA.1 hx
   obtain⟨h1,c,e⟩:=hp.TK _ (hp.lm a) u hu
   have:=hp.AP u.2.toNat zE
   exact⟨h1,by dsimp only;omega,by dsimp only;omega⟩
  ·cases hx
def Nh (n:Nat)(o:List Nat):Nat:=((List.range n).filter λj=>decide (j∉o)).length
theorem HM {n:Nat}{o o':List Nat}(h:∀j∈o,j∈o'):Nh n o'≤Nh n o:=by
 unfold Nh;rw[←MB,←MB]
 refine List.countP_mono_left λj _ a=> ?_
 rw[eJ]at a⊢
 exact λb=>a (h j b)
theorem HO {n:Nat}{o:List Nat}{i:Nat}(b:i<n)(c:i∉o):Nh n (o++ [i])<Nh n o:=by
 unfold Nh;rw[←MB,←MB]
 have key:∀l:List Nat,i∈l→l.Nodup→l.countP (λj=>decide (j∉o++ [i]))+1≤l.countP (λj=>decide (j∉o)):=by
  intro l
  induction l with
  |nil=>intro h;cases h
  |cons x l d=>
   intro hm hd;obtain⟨hx,hd⟩:=List.nodup_cons.1 hd;rw[sL,sL]
   by_cases e:x=i
   ·subst e
    rw[aA (by simp),aB (by simpa using c)]
    have:=List.countP_mono_left (l:=l) (p:=λj=>decide (j∉o++ [x])) (q:=λj=>decide (j∉o)) (λj _ a=>by
     rw[eJ]at a⊢;exact λf=>a (by simp[f]))
    omega
   ·have:=d ((bT.1 hm).resolve_left λh=>e h.symm) hd
    have e2:decide (x∉o++ [i])=decide (x∉o):=by rw[decide_eq_decide];simp[e]
    rw[e2];omega
 have:=key (List.range n) (cU.2 b) List.nodup_range
 omega
theorem Ly (n:Nat):Nh n []=n:=by
 unfold Nh;rw[List.filter_eq_self.2 (by simp),db]
def mj (g:de)(f:Nat)(o:List Nat)(l:kM):List Nat:=l.foldl (λo x=>ka g f o x.2.toNat) o
theorem kL (g:de)(f:Nat)(o:List Nat)(i:Nat):ka g (f+1) o i=if i∈o then o else mj g f (o++ [i]) (g.getD i gu).2:=rfl
theorem CR (g:de)(f:Nat)(o:List Nat)(l:kM)(x:Int×Int):mj g f o (l++ [x])=ka g f (mj g f o l) x.2.toNat:=by
 unfold mj;rw[qv];rfl
structure Cm (g:de)(o:List Nat):Prop where
 nd:o.Nodup
 lt:∀j∈o,j<g.length
theorem M0 (g:de):∀(f:Nat) (o:List Nat) (i:Nat),o<+:ka g f o i:=by
 intro f
 induction f with
 |zero=>intro o i;exact List.prefix_refl _
 |succ f b=>
  intro o i;rw[kL]
  split
  ·exact List.prefix_refl _
  ·have:∀(l:kM) (o:List Nat),o<+:mj g f o l:=by
    intro l
    induction l with
    |nil=>intro o;exact List.prefix_refl _
    |cons x l a=>intro o;exact(b o _).trans (a _)
   exact(List.prefix_append o [i]).trans (this _ _)
theorem qq (g:de)(f:Nat):∀(l:kM) (o:List Nat),o<+:mj g f o l
 | [],o=>List.prefix_refl _
 |x::l,o=>(M0 g f o _).trans (qq g f l _)
theorem WC (g:de)(f:Nat)(o:List Nat)(i:Nat){j:Nat}(h:j∈o):j∈ka g f o i:=(M0 g f o i).subset h
theorem Sh {g:de}(k:tL g):∀(f:Nat) (o:List Nat) (i:Nat),Cm g o→i<g.length→Cm g (ka g f o i):=by
 intro f
 induction f with
 |zero=>intro o i h _;exact h
 |succ f m=>
  intro o i h n;rw[kL]
  split
  ·exact h
  ·rename_i p
   have h1:Cm g (o++ [i]):=⟨by rw[List.nodup_append];exact⟨h.nd,by simp,by intro a q b r;rw[bN.1 r];rintro rfl;exact p q⟩,λj c=>by
    rcases cI.1 c with c|c
    ·exact h.lt j c
    ·rw[bN.1 c];exact n⟩
   have:∀(l:kM) (o:List Nat),(∀x∈l,x.2.toNat<g.length)→Cm g o→Cm g (mj g f o l):=by
    intro l
    induction l with
    |nil=>intro o _ h;exact h
    |cons x l d=>intro o e h;exact d _ (λy hy=>e y (by simp[hy])) (m _ _ h (e x (by simp)))
   exact this _ _ (λx hx=>(k.at_ hx).2.2) h1
theorem aaN {g:de}{f:Nat}{o:List Nat}{i:Nat}:i∈ka g (f+1) o i:=by
 rw[kL]
 split
 ·rename_i h;exact h
 ·exact(qq g f _ _).subset (by simp)
theorem WB {g:de}(k:tL g):∀(f:Nat) (o:List Nat) (i:Nat),i<g.length→Nh g.length o<f→∀j∈ka g f o i,j∈o∨∀x∈(g.getD j gu).2,x.2.toNat∈ka g f o i:=by
 intro f
 induction f with
 |zero=>intro o i _ h;omega
 |succ f m=>
  intro o i p hu j a;rw[kL]at a⊢
  split at a
  ·exact .inl a
  ·rename_i d
   rw[aA d]
   have q:=HO p d
   have step:∀(l:kM) (o:List Nat),(∀x∈l,x.2.toNat<g.length)→Nh g.length o<f→(∀j∈mj g f o l,j∈o∨∀x∈(g.getD j gu).2,x.2.toNat∈mj g f o l)∧∀x∈l,x.2.toNat∈mj g f o l:=by
    intro l
    induction l with
    |nil=>intro o _ _;exact⟨λj a=> .inl a,λx hx=>by cases hx⟩
    |cons x l b=>
     intro o e hu
     have hm:=HM (n:=g.length) (o:=o) (o':=ka g f o x.2.toNat) λj a=>WC g f o _ a
     obtain⟨c,a2⟩:=b (ka g f o x.2.toNat) (λy hy=>e y (by simp[hy])) zE
     have hp:=(qq g f l (ka g f o x.2.toNat)).subset
     refine⟨λj a=> ?_,λy hy=> ?_⟩
     ·rcases c j a with h|h
      ·rcases m o x.2.toNat (e x (by simp)) hu j h with h|h
       ·exact .inl h
       ·exact .inr λy hy=>hp (h y hy)
      ·exact .inr h
     ·rcases bT.1 hy with rfl|hy
      ·cases f with
       |zero=>omega
       |succ f=>exact hp aaN
      ·exact a2 y hy
   obtain⟨c,a2⟩:=step (g.getD i gu).2 (o++ [i]) (λx hx=>(k.at_ hx).2.2) zE
   rcases c j a with h|h
   ·rcases cI.1 h with h|h
    ·exact .inl h
    ·rw[bN.1 h];exact .inr a2
   ·exact .inr h
def xQ (g:de)(r:Nat):List Nat:=ka g (g.length+1) [] r
theorem Qw {g:de}(b:tL g){r:Nat}(c:r<g.length):Cm g (xQ g r)∧(∀j∈xQ g r,∀x∈(g.getD j gu).2,x.2.toNat∈xQ g r)∧(xQ g r)[0]?=some r:=by
 refine⟨Sh b _ _ _ ⟨List.nodup_nil,λj a=>by cases a⟩ c,λj a=> ?_,?_⟩
 ·rcases WB b _ _ _ c (by rw[Ly];omega) j a with h|h
  ·cases h
  ·exact h
 ·unfold xQ
  rw[kL,aA (by simp)];obtain⟨t,ht⟩:=qq g g.length (g.getD r gu).2 ([]++ [r])
  rw[←ht];rfl
theorem kH {o:List Nat}{n:Nat}(h:o.Nodup)(a:∀j∈o,j<n):o.length≤n:=by
 have:o.length≤(List.range n).length:=h.length_le_of_subset λj b=>cU.2 (a j b)
 rwa[db]at this
theorem tq (g:de)(r:Nat):gY g r=(xQ g r).map λi=>((g.getD i gu).1,(g.getD i gu).2.map λx=>(x.1,((xQ g r).idxOf x.2.toNat:Int))):=rfl
theorem tu {nt nf:Nat}{g:de}(b:dp nt nf g){r:Nat}(f:r<g.length):dp nt nf (gY g r)∧(gY g r).length≤g.length∧lI ((gY g r).getD 0 gu).2=lI (g.getD r gu).2:=by
 obtain⟨h1,h,a⟩:=Qw b.lk f
 have j:0<(xQ g r).length:=by
  cases e:xQ g r with
  |nil=>rw[e]at a;cases a
  |cons=>simp
 refine⟨⟨by rw[tq,aR];exact j,λd hd=> ?_⟩,by rw[tq,aR];exact kH h1.nd h1.lt,?_⟩
 ·rw[tq]at hd
  obtain⟨i,c,rfl⟩:=cA.1 hd;obtain⟨k,a2,a3⟩:=b.at_ (h1.lt i c);refine⟨k,Cv _ a2,λx hx=> ?_⟩;obtain⟨u,hu,rfl⟩:=cA.1 hx
  have:=List.idxOf_lt_length_iff.2 (h i c u hu)
  rw[tq,aR];exact⟨(a3 u hu).1,by dsimp only;omega,by dsimp only;omega⟩
 ·rw[tq,aZ,aw,a]
  simp[lI,List.map_map,Function.comp_def]
theorem V4 {nt nf:Nat}{mt:Nat→Nat→Option Nat}(b:xG nt mt){x y z:de}(hx:dp nt nf x)(hy:dp nt nf y){node:Nat}(l:node<x.length)(h:dE mt x node y=some z):
 dp nt nf z∧z.length≤x.length+y.length∧∀k∈lI (x.getD 0 gu).2,k∈lI (z.getD 0 gu).2:=by
 have c:=hx.pos
 have f:=hy.pos
 obtain⟨p,hp,rfl⟩:=dX.1 h;obtain⟨h1,g⟩:=Dl b _ _ _ p (Pl.Qn hx hy) (λu hu=>by rw[bN.1 hu];exact⟨⟨by dsimp only;omega,by dsimp only;omega⟩,by dsimp only;omega,by dsimp only;omega⟩) hp
 have i:=Pe h1 zE
 have a:=h1.AP 0 zE
 obtain⟨f1,f2,f3⟩:=tu i (r:=p.rt 0) (by rw[tx,h1.lr];exact a);rw[tx,h1.lr]at f2;refine⟨f1,f2,λk hk=> ?_⟩;rw[f3,Yj (by rw[h1.lr];exact a),aB (h1.XY 0 zE)]
 have j:=g 0 zE k (by
  show k∈lI ((Pl.of x y).lk.getD ((List.range _).getD 0 0) [])
  rw[Vd zE]
  show k∈lI ((x.map (·.2)++_).getD 0 [])
  rw[aZ,oh (by simpa using c),aw];rw[aZ]at hk
  cases e:x[0]? with
  |none=>rw[e]at hk;exact hk
  |some d=>rw[e]at hk;exact hk)
 simpa[lI,List.map_map,Function.comp_def]using j
structure Tc (rk:Nat→Nat)(B:Nat)(P R:List Nat):Prop where
 len:P.length=R.length
 lt:∀i,i<R.length→P.getD i 0<R.length
 rt:∀i,i<R.length→R.getD (P.getD i 0) 0=R.getD i 0
 me:∀i,i<R.length→(P.getD i 0=i↔R.getD i 0=i)
 up:∀i,i<R.length→P.getD i 0≠i→rk i<rk (P.getD i 0)
 le:∀i,i<R.length→rk i≤B
def UF (P R:List Nat):Prop:=∃rk B,Tc rk B P R
theorem FZ {α:Type}{l:List α}{i j:Nat}{x d:α}(h:i<l.length):(l.set i x).getD j d=if j=i then x else l.getD j d:=by
 rw[aZ,aZ]
 by_cases e:j=i
 ·subst e;rw[fp h,aB rfl];rfl
 ·rw[gV (λh=>e h.symm),aA e]
theorem Tc.adN {rk:Nat→Nat}{B:Nat}{P R:List Nat}(h:Tc rk B P R){i:Nat}(b:i<R.length)(g:P.getD i 0≠i):
 Tc rk B (P.set i (P.getD (P.getD i 0) 0)) R∧rk i<rk (P.getD (P.getD i 0) 0)∧R.getD (P.getD (P.getD i 0) 0) 0=R.getD i 0∧P.getD (P.getD i 0) 0<R.length:=by
 have h1:=h.lt i b
 have k:=h.lt _ h1
 have m:=h.up i b g
 have l:R.getD (P.getD (P.getD i 0) 0) 0=R.getD i 0:=by rw[h.rt _ h1,h.rt i b]
 have d:rk i<rk (P.getD (P.getD i 0) 0):=by
  by_cases e:P.getD (P.getD i 0) 0=P.getD i 0
  ·rw[e];exact m
  ·have:=h.up _ h1 e;omega
 have c:∀j,(P.set i (P.getD (P.getD i 0) 0)).getD j 0=if j=i then P.getD (P.getD i 0) 0 else P.getD j 0:=λj=>FZ (by rw[h.len];exact b)
 refine⟨⟨by rw[eC];exact h.len,λj a=> ?_,λj a=> ?_,λj a=> ?_,λj a f=> ?_,h.le⟩,d,l,k⟩
 ·rw[c];split
  ·exact k
  ·exact h.lt j a
 ·rw[c];split
  ·rename_i e;rw[e];exact l
  ·exact h.rt j a
 ·rw[c];split
  ·rename_i e;subst e
   refine⟨λe=> ?_,λe=>absurd ((h.me j a).2 e) g⟩
   rw[e]at d;omega
  ·exact h.me j a
 ·rw[c]at f⊢
  split
  ·rename_i e;subst e;exact d
  ·rename_i e;rw[aA e]at f;exact h.up j a f
theorem Tc.put {rk:Nat→Nat}{B:Nat}{P R:List Nat}(h:Tc rk B P R){a b:Nat}(f:a<R.length)(o:b<R.length)(i:R.getD a 0=a)(p:R.getD b 0=b)(k:a≠b):
 UF (P.set b a) (R.map λx=>if x=b then a else x):=by
 have g:∀j,(P.set b a).getD j 0=if j=b then a else P.getD j 0:=λj=>FZ (by rw[h.len];exact o)
 have hm:∀j,j<R.length→(R.map λx=>if x=b then a else x).getD j 0=if R.getD j 0=b then a else R.getD j 0:=λj c=>by
  simp only[List.getD_eq_getElem?_getD,List.getElem?_map,List.getElem?_eq_getElem c,Option.map_some,Option.getD_some]
 have l:=(h.me a f).2 i
 refine⟨λx=>if x=a then rk a+rk b+1 else rk x,B+B+1,by rw[eC,aR];exact h.len,λj c=> ?_,λj c=> ?_,λj c=> ?_,λj c d=> ?_,λj c=> ?_⟩<;>rw[aR]at c
 ·rw[g,aR];split
  ·exact f
  ·exact h.lt j c
 ·rw[g,hm j c];split
  ·rename_i e;subst e
   rw[hm a f,i,aA k,p,aB rfl]
  ·rw[hm _ (h.lt j c),h.rt j c]
 ·rw[g,hm j c]
  by_cases e:j=b
  ·subst e;rw[aB rfl,p,aB rfl]
  ·rw[aA e]
   by_cases e2:R.getD j 0=b
   ·rw[aB e2]
    refine⟨λm=> ?_,λm=> ?_⟩
    ·have:=(h.me j c).1 m;rw[this]at e2;exact absurd e2 e
    ·subst m;rw[i]at e2;exact absurd e2 k
   ·rw[aA e2];exact h.me j c
 ·rw[g]at d⊢
  by_cases e:j=b
  ·subst e
   rw[aB rfl,aA (λx=>k x.symm),aB rfl];omega
  ·rw[aA e]at d⊢
   have hu:=h.up j c d
   have n:j≠a:=λx=>by rw[x]at d;exact d l
   rw[aA n]
   split
   ·rename_i e2;rw[e2]at hu;omega
   ·exact hu
 ·have:=h.le j c
  have:=h.le a f
  have:=h.le b o
  split<;>omega
theorem UF.range (n:Nat):UF (List.range n) (List.range n):=
 ⟨λ_=>0,0,rfl,λi a=>by rw[db]at a⊢;rw[Vd a];exact a,λi a=>by rw[db]at a;rw[Vd a,Vd a],λi a=>Iff.rfl,λi a h=>by rw[db]at a;exact absurd (Vd a) h,λi a=>aQ _⟩
structure ER (x0 y0 l x y:kM)(w:List (Int×Int)):Prop where
 l:l++Ao x y=Ao x0 y0
 w:w++Dw x y=Dw x0 y0
theorem ER.start (x y:kM):ER x y [] x y []:=⟨rfl,rfl⟩
theorem ER.lt {x0 y0 l x y:kM}{w:List (Int×Int)}{a b:Int×Int}(h:ER x0 y0 l (a::x) (b::y) w)(c:a.1<b.1):ER x0 y0 (l++ [a]) x (b::y) w:=by
 obtain⟨h1,d⟩:=h;rw[fR,aB c]at h1;rw[jX,aB c]at d;exact⟨by rw[cr];exact h1,d⟩
theorem ER.gt {x0 y0 l x y:kM}{w:List (Int×Int)}{a b:Int×Int}(h:ER x0 y0 l (a::x) (b::y) w)(c:b.1<a.1):ER x0 y0 (l++ [b]) (a::x) y w:=by
 obtain⟨h1,d⟩:=h
 have e:¬a.1<b.1:=by omega
 rw[fR,aA e,aB c]at h1;rw[jX,aA e,aB c]at d;exact⟨by rw[cr];exact h1,d⟩
theorem ER.eq {x0 y0 l x y:kM}{w:List (Int×Int)}{a b:Int×Int}(h:ER x0 y0 l (a::x) (b::y) w)(f:a.1=b.1):ER x0 y0 (l++ [a]) x y (w++ [(a.2,b.2)]):=by
 obtain⟨h1,d⟩:=h
 have e:¬a.1<b.1:=by omega
 have c:¬b.1<a.1:=by omega
 rw[fR,aA e,aA c]at h1;rw[jX,aA e,aA c]at d;exact⟨by rw[cr];exact h1,by rw[cr];exact d⟩
theorem ER.fin {x0 y0 l x y:kM}{w:List (Int×Int)}(h:ER x0 y0 l x y w)(he:x=[]∨y=[]):l++(x++y)=Ao x0 y0∧w=Dw x0 y0:=by
 obtain⟨h1,a⟩:=h
 rcases he with rfl|rfl
 ·rw[uF]at h1;rw[Dy,fV]at a;exact⟨h1,a⟩
 ·rw[qZ]at h1;rw[zZ,fV]at a;exact⟨by rw[fV];exact h1,a⟩
theorem wD:∀(l:List eM) (U:List Nat),(nM U l).length=U.length+l.length
 | [],U=>rfl
 |t::l,U=>by rw[nM,wD l];simp;omega
theorem uh (l:List eM):(BB l).length=l.length:=by unfold BB;rw[wD];simp
theorem pT:∀(l m:List eM) (U:List Nat),nM U (l++m)=nM (nM U l) m
 | [],_,_=>rfl
 |t::l,m,U=>by rw[jg,nM,nM,pT l m]
theorem CQ:∀(l:List eM) (U:List Nat) (i:Nat),i<U.length→(nM U l)[i]?=U[i]?
 | [],_,_,_=>rfl
 |t::l,U,i,h=>by rw[nM,CQ l _ i (by simp;omega),oh h]
theorem Sg (l:List eM)(t:eM):BB (l++ [t])=BB l++ [SZ (BB l) l.length t.2]:=by
 unfold BB;rw[pT,nM,nM,wD];simp
theorem AD (l:List eM)(k i:Nat)(h:i<k)(hk:k≤l.length):(BB (l.take k)).getD i 0=(BB l).getD i 0:=by
 have e:BB l=nM (BB (l.take k)) (l.drop k):=by unfold BB;rw[←pT,jN]
 rw[e,aZ,aZ,CQ _ _ _ (by rw[uh,cy];omega)]
theorem Sf {l:List eM}{k:Nat}{t:eM}(h:l[k]?=some t):(BB l).getD k 0=SZ (BB (l.take k)) k t.2:=by
 have hk:=ag h
 rw[←AD l (k+1) k (Nat.lt_succ_self _) hk,aO h,Sg]
 have e:(l.take k).length=k:=by rw[cy];omega
 rw[aZ,jM (by rw[uh,e];exact aQ _),uh,e,eX];rfl
theorem Ks (g:Int→Nat)(j:Nat):∀(ps:List Int) (u:Nat),(ps.foldl (λu p=>u|||g p) u).testBit j=(u.testBit j||ps.any λp=>(g p).testBit j)
 | [],u=>by simp
 |p::ps,u=>by rw[im,Ks g j ps,Nat.testBit_or,List.any_cons,Bool.or_assoc]
theorem Sa (U:List Nat)(i:Nat)(ps:List Int)(j:Nat):(SZ U i ps).testBit j=(decide (i=j)||ps.any λp=>(U.getD p.toNat 0).testBit j):=by
 unfold SZ;rw[Ks,Nat.testBit_two_pow]
structure iJ (l:List eM):Prop where
 len:l.length≤60
 par:∀(i:Nat) (t:eM),l[i]?=some t→∀p∈t.2,0≤p∧p<i
theorem LQ {i:Int}:∀{ps:List Int} {last:Int},(rX i last ps).1=0→rX i last ps=(0,0)∧∀p∈ps,0≤p∧p<i
 | [],_,_=>⟨rfl,λp h=>by cases h⟩
 |p::ps,last,h=>by
  rw[rX]at h⊢
  by_cases h1:p<0∨i≤p
  ·rw[aB h1]at h;exact absurd h (by simp)
  ·rw[aA h1]at h⊢
   by_cases b:p≤last
   ·rw[aB b]at h;exact absurd h (by simp)
   ·rw[aA b]at h⊢
    obtain⟨e,k⟩:=LQ h;refine⟨e,λq a=> ?_⟩
    rcases bT.1 a with rfl|a
    ·omega
    ·exact k q a
theorem CK:∀{l:List eM} {known:List ab} {i:Nat},(kz known i l).1=0→kz known i l=(0,0)∧∀(k:Nat) (t:eM),l[k]?=some t→∀p∈t.2,0≤p∧p<(i+k:Nat)
 | [],_,_,_=>⟨rfl,λk t h=>by simp at h⟩
 |t::l,known,i,h=>by
  rw[kz]at h⊢
  by_cases h1:isName t.1=false
  ·rw[aB h1]at h;exact absurd h (by simp)
  rw[aA h1]at h⊢
  by_cases c:t.1∈known
  ·rw[aB c]at h;exact absurd h (by simp)
  rw[aA c]at h⊢
  by_cases d:decide (i=0)≠decide (t.2.length=0)
  ·rw[aB d]at h;exact absurd h (by simp)
  rw[aA d]at h⊢
  by_cases a:(rX i (-1) t.2).1≠0
  ·rw[aB a]at h;exact absurd h a
  rw[aA a]at h⊢;obtain⟨e,k⟩:=CK h;refine⟨e,λj u b=> ?_⟩
  cases j with
  |zero=>
   simp only[List.getElem?_cons_zero,Option.some.injEq]at b
   subst b;intro p hp
   have:=(LQ (fK.1 a)).2 p hp
   omega
  |succ j=>
   rw[CZ]at b;intro p hp
   have:=k j u b p hp
   omega
theorem Jy {l:List eM}(h:(B6 l).1=0):B6 l=(0,0)∧0<l.length∧iJ l:=by
 unfold B6 at h⊢
 by_cases h1:l.length=0∨60<l.length
 ·rw[aB h1]at h;exact absurd h (by simp)
 ·rw[aA h1]at h⊢
  obtain⟨e,k⟩:=CK h;refine⟨e,by omega,by omega,λi t a p hp=> ?_⟩
  have:=k i t a p hp
  omega
section
variable {l:List eM}
theorem Vv {i:Nat}(a:l.length≤i)(j:Nat):gp l i j=false:=by
 unfold gp;rw[aZ,fT (by rw[uh];exact a)];exact Nat.zero_testBit _
theorem sub_lt {i j:Nat}(h:gp l i j=true):i<l.length:=by
 rcases cJ i l.length with k|k
 ·exact k
 ·rw[Vv k]at h;cases h
theorem qm (b:iJ l){i:Nat}{t:eM}(a:l[i]?=some t)(j:Nat):gp l i j=(decide (i=j)||t.2.any λp=>gp l p.toNat j):=by
 show((BB l).getD i 0).testBit j=_
 rw[Sf a,Sa]
 congr 1
 rw[rh,uq,uq]
 have e:∀p∈t.2,(BB (l.take i)).getD p.toNat 0=(BB l).getD p.toNat 0:=λp hp=>by
  have:=b.par i t a p hp
  exact AD l i _ zE (Nat.le_of_lt (ag a))
 constructor
 ·rintro ⟨p,hp,h⟩;rw[e p hp]at h;exact⟨p,hp,h⟩
 ·rintro ⟨p,hp,h⟩;exact⟨p,hp,by rw[e p hp];exact h⟩
theorem sub_self (a:iJ l){i:Nat}(b:i<l.length):gp l i i=true:=by
 rw[qm a (aj b)];simp
theorem w5 (b:iJ l){i j:Nat}(h:gp l i j=true):i=j∨∃t p,l[i]?=some t∧p∈t.2∧0≤p∧p<i∧gp l p.toNat j=true:=by
 have a:=sub_lt h
 rw[qm b (aj a)]at h
 simp only[Bool.or_eq_true,decide_eq_true_eq,List.any_eq_true]at h
 rcases h with h|⟨p,hp,h⟩
 ·exact .inl h
 ·have:=b.par i _ (aj a) p hp
  exact .inr ⟨_,p,aj a,hp,this.1,this.2,h⟩
theorem sub_le (a:iJ l):∀{i j:Nat},gp l i j=true→j≤i:=by
 intro i
 induction i using Nat.strongRecOn with
 |ind i b=>
  intro j h
  rcases w5 a h with rfl|⟨t,p,_,_,d,h1,c⟩
  ·exact aQ _
  ·have:=b p.toNat zE c
   omega
theorem w6 (a:iJ l):∀{i j k:Nat},gp l i j=true→gp l j k=true→gp l i k=true:=by
 intro i
 induction i using Nat.strongRecOn with
 |ind i c=>
  intro j k h1 b
  rcases w5 a h1 with rfl|⟨t,p,ht,hp,e,f,d⟩
  ·exact b
  ·have:=c p.toNat zE d b
   rw[qm a ht]
   simp only[Bool.or_eq_true,List.any_eq_true]
   exact .inr ⟨p,hp,this⟩
theorem Rn (a:iJ l):∀{i j:Nat},gp l i j=true→i≠j→∃z t,gp l i z=true∧l[z]?=some t∧(j:Int)∈t.2∧j<z:=by
 intro i
 induction i using Nat.strongRecOn with
 |ind i b=>
  intro j h c
  rcases w5 a h with e|⟨t,p,ht,hp,o,q,d⟩
  ·exact absurd e c
  ·by_cases e:p.toNat=j
   ·have f:p=(j:Int):=by omega
    subst f;exact⟨i,t,sub_self a (ag ht),ht,hp,by omega⟩
   ·obtain⟨z,u,g,k,m,n⟩:=b p.toNat zE d e
    refine⟨z,u,?_,k,m,n⟩;rw[qm a ht]
    simp only[Bool.or_eq_true,List.any_eq_true]
    exact .inr ⟨p,hp,g⟩
structure yE (l:List eM)(a i:Nat)(M:List Bool):Prop where
 len:M.length=l.length
 snd:∀x,M[x]?=some true→gp l a x=true
 top:M[a]?=some true
 cls:∀(y:Nat) (t:eM),i<y→M[y]?=some true→l[y]?=some t→∀p∈t.2,M[p.toNat]?=some true
theorem yE.start (c:iJ l){a:Nat}(b:a<l.length):yE l a a ((List.replicate l.length false).set a true):=by
 refine⟨by simp,λx hx=> ?_,by rw[List.getElem?_set_self (by simp;exact b)],λy t hy hm _=> ?_⟩
 ·by_cases e:a=x
  ·subst e;exact sub_self c b
  ·rw[gV e,sM]at hx
   split at hx<;>simp at hx
 ·rw[gV zE,sM]at hm
  split at hm<;>simp at hm
theorem yE.done (c:iJ l){a b:Nat}{M:List Bool}(h:yE l a b M):∀(n y:Nat),a-y=n→b≤y→gp l a y=true→M[y]?=some true:=by
 intro n
 induction n using Nat.strongRecOn with
 |ind n d=>
  intro y j hy f
  by_cases e:a=y
  ·subst e;exact h.top
  ·obtain⟨z,t,h1,g,i,k⟩:=Rn c f e
   have hz:=sub_le c h1
   have:=d (a-z) zE z rfl zE h1
   have:=h.cls z t zE this g _ i
   simpa using this
theorem yE.fin (d:iJ l){a b:Nat}{M:List Bool}(h:yE l a b M)(f:b<l.length):M[b]?=some (gp l a b):=by
 cases e:gp l a b with
 |true=>exact h.done d _ b rfl (aQ _) e
 |false=>
  have c:b<M.length:=by rw[h.len];exact f
  rw[aj c]
  cases e2:M[b]with
  |false=>rfl
  |true=>
   have:=h.snd b (by rw[aj c,e2])
   rw[e]at this;cases this
theorem yE.skip {a i:Nat}{M:List Bool}(h:yE l a (i+1) M)(hm:M[i+1]?≠some true):yE l a i M:=
 ⟨h.len,h.snd,h.top,λy t hy b=>by
  by_cases e:y=i+1
  ·subst e;exact absurd b hm
  ·exact h.cls y t zE b⟩
structure OD (l:List eM)(a i:Nat)(t:eM)(k:Nat)(M:List Bool):Prop where
 ok:yE l a i M
 at_:M[i]?=some true
 upto:∀p∈t.2.take k,M[p.toNat]?=some true
theorem OD.step (c:iJ l){a i k:Nat}{t:eM}{M:List Bool}{p:Int}(h:OD l a i t k M)(d:l[i]?=some t)(hp:t.2[k]?=some p):OD l a i t (k+1) (M.set p.toNat true):=by
 have f:=c.par i t d p (aa hp)
 have g:=ag d
 have mono:∀x,M[x]?=some true→(M.set p.toNat true)[x]?=some true:=λx hx=>by
  by_cases e:p.toNat=x
  ·subst e;rw[fp (ag hx)]
  ·rw[gV e];exact hx
 refine⟨⟨by rw[eC];exact h.ok.len,λx hx=> ?_,mono _ h.ok.top,λy u hy hm hu q b=> ?_⟩,mono _ h.at_,λq b=> ?_⟩
 ·by_cases e:p.toNat=x
  ·subst e
   refine w6 c (h.ok.snd i h.at_) ?_;rw[qm c d]
   simp only[Bool.or_eq_true,List.any_eq_true]
   exact .inr ⟨p,aa hp,sub_self c zE⟩
  ·rw[gV e]at hx;exact h.ok.snd x hx
 ·rw[gV zE]at hm
  exact mono _ (h.ok.cls y u hy hm hu q b)
 ·rw[aO hp]at b
  rcases cI.1 b with b|b
  ·exact mono _ (h.upto q b)
  ·rw[bN.1 b,fp (by rw[h.ok.len];omega)]
theorem OD.done {a i:Nat}{t:eM}{M:List Bool}(h:OD l a (i+1) t t.2.length M)(c:l[i+1]?=some t):yE l a i M:=
 ⟨h.ok.len,h.ok.snd,h.ok.top,λy u hy hm hu q b=>by
  by_cases e:y=i+1
  ·subst e
   rw[c]at hu;cases hu
   exact h.upto q (by rw[fW];exact b)
  ·exact h.ok.cls y u zE hm hu q b⟩
end
def Lz (T:List eM)(i:Nat):Nat:=(BB T).getD i 0
def upQ (T:List eM)(k:Nat)(ps:List Int):Nat:=ps.foldl (λu p=>u|||Lz T p.toNat) (2^k)
theorem Sc (T:List eM)(k:Nat)(ps:List Int)(p:Int):upQ T k (ps++ [p])=upQ T k ps|||Lz T p.toNat:=by unfold upQ;rw[qv];rfl
theorem SY {T:List eM}(a:iJ T){k:Nat}{t:eM}(h:T[k]?=some t):Lz T k=upQ T k t.2:=by
 have e:∀(ps:List Int) (u:Nat),(∀p∈ps,0≤p∧p<k)→ps.foldl (λu p=>u|||(BB (T.take k)).getD p.toNat 0) u=ps.foldl (λu p=>u|||Lz T p.toNat) u:=by
  intro ps
  induction ps with
  |nil=>intro u _;rfl
  |cons p ps b=>
   intro u hp
   have d:=hp p (aV ..)
   rw[im,im,AD T k p.toNat zE (Nat.le_of_lt (ag h))]
   exact b _ λq c=>hp q (bV _ c)
 show(BB T).getD k 0=_
 rw[Sf h];exact e t.2 _ (a.par k t h)
theorem aaG {T:List eM}(b:iJ T):∀k:Nat,Lz T k<2^(k+1):=by
 intro k
 induction k using Nat.strongRecOn with
 |ind k c=>
  rcases cJ k T.length with h|h
  ·rw[SY b (aj h)]
   have hp:=b.par k _ (aj h)
   generalize (T[k]).2=ps at hp
   have e:∀(ps:List Int) (u:Nat),(∀p∈ps,0≤p∧p<k)→u<2^(k+1)→ps.foldl (λu p=>u|||Lz T p.toNat) u<2^(k+1):=by
    intro ps
    induction ps with
    |nil=>intro u _ h;exact h
    |cons p ps a=>
     intro u hp hu
     have f:=hp p (aV ..)
     refine a _ (λq d=>hp q (bV _ d)) (Nat.or_lt_two_pow hu ?_);exact fI (c p.toNat zE) (AG zE zE)
   exact e ps _ hp (AH zE zE)
  ·show(BB T).getD k 0<_
   rw[aZ,fT (by rw[uh];exact h)];exact Nat.pow_pos zE
theorem wC {T:List eM}(a:iJ T){k:Nat}(hk:k<60):Lz T k<18446744073709551616:=
 fI (aaG a k) (show 2^(k+1)≤2^64 from AG (by decide) zE)
theorem Sb {T:List eM}(a:iJ T){k:Nat}(hk:k<60):∀{ps:List Int},(∀p∈ps,0≤p∧p<k)→upQ T k ps<18446744073709551616:=by
 have e:∀(ps:List Int) (u:Nat),(∀p∈ps,0≤p∧p<k)→u<18446744073709551616→ps.foldl (λu p=>u|||Lz T p.toNat) u<18446744073709551616:=by
  intro ps
  induction ps with
  |nil=>intro u _ h;exact h
  |cons p ps b=>
   intro u hp hu
   have d:=hp p (aV ..)
   exact b _ (λq c=>hp q (bV _ c)) (Nat.or_lt_two_pow (n:=64) hu (wC a zE))
 intro ps hp;exact e ps _ hp (show 2^k<2^64 from AH (by decide) zE)
def kS (T:List eM)(k j:Nat):Nat:=(List.range k).foldl (λa i=>if gp T i j then a|||2^i else a) 0
theorem r5 (T:List eM)(k j:Nat):kS T (k+1) j=if gp T k j then kS T k j|||2^k else kS T k j:=by
 unfold kS;rw[mU,qv];rfl
theorem Kk (T:List eM)(j:Nat):∀k:Nat,kS T k j<2^k
 |0=>by show(0:Nat)<2^0;omega
 |k+1=>by
  have a:=fI (Kk T j k) (AG (n:=2) zE (Nat.le_succ k))
  rw[r5]
  split
  ·exact Nat.or_lt_two_pow a (AH zE zE)
  ·exact a
theorem mw (T:List eM)(j:Nat){k:Nat}(hk:k≤60):kS T k j<18446744073709551616:=
 fI (Kk T j k) (show 2^k≤2^64 from AG (by decide) zE)
theorem qT (T:List eM)(j i:Nat):∀k:Nat,(kS T k j).testBit i=(decide (i<k)&&gp T i j)
 |0=>by show(0:Nat).testBit i=_;simp
 |k+1=>by
  rw[r5]
  have a:=qT T j i k
  by_cases e:i=k
  ·subst e
   cases h:gp T i j with
   |true=>simp[a,Nat.testBit_two_pow]
   |false=>simp[a]
  ·have e2:decide (i<k+1)=decide (i<k):=by rw[decide_eq_decide];omega
   rw[e2]
   split
   ·rw[Nat.testBit_or,a,Nat.testBit_two_pow,e9 (p:=k=i) (λh=>e h.symm),Bool.or_false]
   ·exact a
def dN (T:List eM):List Nat:=(List.range T.length).map (Lz T)
def dM (T:List eM):List Nat:=(List.range T.length).map (kS T T.length)
theorem zH {f:Nat→Nat}{n:Nat}{U:List Nat}(b:U.length=n)(h:∀i,i<n→U[i]?=some (f i)):U=(List.range n).map f:=by
 refine jh λi=> ?_
 rw[aw]
 rcases cJ i n with a|a
 ·rw[h i a,jy a];rfl
 ·rw[fT zE,fT (by simpa using a)];rfl
theorem Sd {T:List eM}{i:Nat}(h:i<T.length):(dN T)[i]?=some (Lz T i):=by unfold dN;rw[aw,jy h];rfl
theorem oG {T:List eM}{i:Nat}(h:i<T.length):(dM T)[i]?=some (kS T T.length i):=by unfold dM;rw[aw,jy h];rfl
theorem Se (T:List eM):(dN T).length=T.length:=by simp[dN]
theorem FJ (T:List eM):(dM T).length=T.length:=by simp[dM]
def both (T:List eM)(a b:Nat):Nat:=kS T T.length a&&&kS T T.length b
theorem oB (T:List eM)(a b i:Nat):(both T a b).testBit i=(decide (i<T.length)&&(gp T i a&&gp T i b)):=by
 unfold both;rw[Nat.testBit_and,qT,qT]
 cases decide (i<T.length)<;>simp
theorem kU {T:List eM}{a b i:Nat}:i∈comm T a b↔(both T a b).testBit i=true:=by
 unfold comm;rw[po,cU,oB];simp only[Bool.and_eq_true,decide_eq_true_eq]
theorem AF {T:List eM}{a b:Nat}(h:both T a b=0):je T a b=false:=by
 unfold je
 split
 ·rfl
 ·rename_i m r e
  have:m∈comm T a b:=by rw[e];exact aV ..
  rw[kU,h,Nat.zero_testBit]at this;cases this
theorem HT {T:List eM}(k:iJ T){a b m:Nat}(h:(both T a b).testBit m=true)(q:∀i,i<m→(both T a b).testBit i=false):je T a b=decide (kS T T.length m≠both T a b):=by
 have hm:=kU.2 h
 unfold je
 split
 ·rename_i e;rw[e]at hm;cases hm
 ·rename_i d r e
  have hp:(comm T a b).Pairwise (· < ·):=by unfold comm;exact List.Pairwise.filter _ List.pairwise_lt_range
  rw[e]at hp
  have s:d∈comm T a b:=by rw[e];exact aV ..
  have e2:d=m:=by
   rw[e]at hm
   rcases bT.1 hm with l|l
   ·exact l.symm
   ·have t:=(fw.1 hp).1 m l
    have p:=q d t
    rw[kU.1 s]at p;cases p
  subst e2
  have n:=h
  rw[oB,pV,pV,eJ]at n;rw[rh,uq,eJ]
  constructor
  ·rintro ⟨i,u,f⟩ o
   have c:(both T a b).testBit i=true:=kU.1 (by rw[e];exact bV _ u)
   rw[←o,qT,pV]at c
   rw[c.2]at f;cases f
  ·intro f
   apply Decidable.byContradiction
   intro o;refine f (Nat.eq_of_testBit_eq λi=> ?_);rw[qT,oB];rw[rh,pV,pV,eJ]
   constructor
   ·rintro ⟨c,g⟩
    exact⟨c,by rw[w6 k g n.2.1,w6 k g n.2.2];rfl⟩
   ·rintro ⟨c,g⟩
    refine⟨c,?_⟩
    have j:i∈comm T a b:=kU.2 (by rw[oB,g,dI c];rfl)
    rw[e]at j
    rcases bT.1 j with rfl|j
    ·exact sub_self k c
    ·cases v:gp T i d with
     |true=>rfl
     |false=>exact absurd ⟨i,j,by rw[v];rfl⟩ o
def ga (T:List eM)(a b:Nat):Option Nat:=match comm T a b with
 | []=>none
 |m::_=>if je T a b=true then none else some m
def lJ (x:de):de:=gY x (rZ x 0).toNat
def mg (mt:Nat→Nat→Option Nat)(x:de)(a:Int)(y:de):Option de:=match dE mt x (rZ x a).toNat y with
 |some z=>if z.length≤60 then some z else none
 |none=>none
structure o8 where
 frm:Nat
 tqo:Nat
 cV:Nat
 gr:de
structure o9 where
 rule:Int
 lex:Int
 kids:List Nat
structure iq where
 ed:o8
 bb:List o9
 bW:List Int
def ed0:o8:=⟨0,0,0,[]⟩
def er:iq:=⟨ed0,[],[]⟩
structure Cs where
 its:List iq
 sp:List (List Nat)
def jR (i:Int):UInt8:=UInt8.ofNat (i%256).toNat
def vR (l:kM):ab:=l.flatMap λx=>[jR x.1,jR x.2]
def zA (g:de):ab:=g.flatMap λn=>jR n.1::jR (n.2.length:Nat)::vR n.2
def fD (e:o8):ab:=jR (e.frm:Nat)::jR (e.tqo:Nat)::jR (e.cV:Nat)::zA e.gr
def xN (its:List iq)(k:ab):Option Nat:=its.findIdx? λit=>decide (fD it.ed=k)
def sx (w:o9):Int:=if w.rule<0 then 1000+w.lex else w.rule
def iq.put (it:iq)(w:o9):iq:=⟨it.ed,it.bb++ [w],if sx w∈it.bW then it.bW else it.bW++ [sx w]⟩
def iK (n:Nat)(cs:Cs)(e:o8)(w:o9):Cs:=match xN cs.its (fD e)with
 |some i=>⟨cs.its.modify i λit=>it.put w,cs.sp⟩
 |none=>⟨cs.its++ [(⟨e,[],[]⟩:iq).put w],cs.sp.modify (e.frm*(n+1)+e.tqo) λl=>l++ [cs.its.length]⟩
structure Qr where
 n:Nat
 mt:Nat→Nat→Option Nat
 adm:Nat→Nat→Int→Bool
 rules:List ry
 aK:List Eb
def Cs.at_ (cs:Cs)(n i j:Nat):List Nat:=cs.sp.getD (i*(n+1)+j) []
def Cs.ed (cs:Cs)(e:Nat):o8:=(cs.its.getD e er).ed
def Y9 (Q:Qr)(cs:Cs)(rule a e:Nat):Bool:=(cs.its.getD e er).bW.any (Q.adm rule a)
def jo (Q:Qr)(cs:Cs)(rule:Nat)(x:de)(a e:Nat):Option de:=if Y9 Q cs rule a e=true then mg Q.mt x a (cs.ed e).gr else none
def rQ (Q:Qr)(rule frm tqo:Nat):Nat→Cs→de→List Nat→Nat→Cs
 |0,cs,x,kids,a=>(cs.at_ Q.n a tqo).foldl (λcs e=>match jo Q cs rule x (kids.length+1) e with
  |none=>cs
  |some y=>iK Q.n cs ⟨frm,tqo,0,lJ y⟩ ⟨rule,0,kids++ [e]⟩) cs
 |l+1,cs,x,kids,a=>(List.range' (a+1) (tqo-(l+1)-a)).foldl (λcs en=>(cs.at_ Q.n a en).foldl (λcs e=>match jo Q cs rule x (kids.length+1) e with
  |none=>cs
  |some y=>rQ Q rule frm tqo l cs y (kids++ [e]) en) cs) cs
def pR (Q:Qr)(frm tqo e:Nat)(cs:Cs)(i:Nat):Cs:=
 if(Q.rules.getD i mc).kids≠1 then cs else match jo Q cs i (Q.rules.getD i mc).graph 1 e with
  |none=>cs
  |some x=>iK Q.n cs ⟨frm,tqo,(cs.ed e).cV+1,lJ x⟩ ⟨i,0,[e]⟩
def pS (Q:Qr)(frm tqo:Nat):Nat→Nat→Cs→Cs
 |0,_,cs=>cs
 |f+1,k,cs=>if k<(cs.at_ Q.n frm tqo).length then
   (if(cs.ed ((cs.at_ Q.n frm tqo).getD k 0)).cV=3 then pS Q frm tqo f (k+1) cs
    else pS Q frm tqo f (k+1) ((List.range Q.rules.length).foldl (pR Q frm tqo ((cs.at_ Q.n frm tqo).getD k 0)) cs))
  else cs
def gi (Q:Qr):Nat:=Q.rules.countP λr=>decide (r.kids=1)
def jW (r:Nat):Nat→Nat
 |0=>0
 |k+1=>r*(1+jW r k)
def qg (Q:Qr)(cs:Cs)(l:List Nat):Nat:=(l.map λe=>1+jW (gi Q) (3-(cs.ed e).cV)).sum
def qY (Q:Qr)(w:ab)(frm tqo:Nat)(cs:Cs)(i:Nat):Cs:=if(Q.aK.getD i LI).word=w then iK Q.n cs ⟨frm,tqo,0,gY (Q.aK.getD i LI).graph 0⟩ ⟨-1,i,[]⟩else cs
def qh (Q:Qr)(frm tqo:Nat)(cs:Cs)(i:Nat):Cs:=if 1<(Q.rules.getD i mc).kids∧(Q.rules.getD i mc).kids≤(tqo:Int)-frm then rQ Q i frm tqo ((Q.rules.getD i mc).kids.toNat-1) cs (Q.rules.getD i mc).graph [] frm else cs
def lD (Q:Qr)(words:List ab)(frm tqo:Nat)(cs:Cs):Cs:=
 if tqo=frm+1 then(List.range Q.aK.length).foldl (qY Q (words.getD frm []) frm tqo) cs else(List.range Q.rules.length).foldl (qh Q frm tqo) cs
def oQ (Q:Qr)(words:List ab)(frm tqo:Nat)(cs:Cs):Cs:=
 pS Q frm tqo (qg Q (lD Q words frm tqo cs) ((lD Q words frm tqo cs).at_ Q.n frm tqo)+1) 0 (lD Q words frm tqo cs)
def xP (Q:Qr)(words:List ab)(len:Nat):Nat→Nat→Cs→Option Cs
 |0,_,cs=>some cs
 |m+1,frm,cs=>if 300<(oQ Q words frm (frm+len) cs).its.length then none else xP Q words len m (frm+1) (oQ Q words frm (frm+len) cs)
def xH (Q:Qr)(words:List ab):Nat→Nat→Cs→Option Cs
 |0,_,cs=>some cs
 |m+1,len,cs=>(xP Q words len (Q.n+1-len) 0 cs).bind λcs=>xH Q words m (len+1) cs
def kf (a b:Int):Int:=if a<b then-1 else if b<a then 1 else 0
def sc (a b:Int):Int:=if a=0 then b else a
def jA {α:Type}(f:α→α→Int):List α→List α→Int
 | [],[]=>0
 | [],_::_=> -1
 |_::_,[]=>1
 |a::l,b::m=>if f a b≠0 then f a b else jA f l m
def Ex (p q:Int×Int):Int:=sc (kf p.1 q.1) (kf p.2 q.2)
def xI (x y:Nw):Int:=sc (kf x.1 y.1) (sc (kf x.2.length y.2.length) (jA Ex x.2 y.2))
def xZ (x y:o8):Int:=sc (kf x.frm y.frm) (sc (kf x.tqo y.tqo) (sc (kf x.cV y.cV) (jA xI x.gr y.gr)))
def Ms {α:Type}(f:α→α→Int)(a:α):List α→List α
 | []=>[a]
 |b::l=>if f a b<0 then a::b::l else b::Ms f a l
def Vt {α:Type}(f:α→α→Int):List α→List α
 | []=>[]
 |a::l=>Ms f a (Vt f l)
def jB (its:List iq):List Nat:=Vt (λi j=>xZ (its.getD i er).ed (its.getD j er).ed) (List.range its.length)
def ku (o:List Nat)(i:Nat):Nat:=o.idxOf i
def fH (its:List iq):List iq:=(jB its).map λi=>⟨(its.getD i er).ed,(its.getD i er).bb.map λw=>⟨w.rule,w.lex,w.kids.map (ku (jB its))⟩,(its.getD i er).bW⟩
def Me (mt:Nat→Nat→Option Nat)(n:Nat)(start:de)(its:List iq):List Nat:=(List.range its.length).filter λi=>decide ((its.getD i er).ed.frm=0)&&decide ((its.getD i er).ed.tqo=n)&&(dE mt (its.getD i er).ed.gr 0 start).isSome
def JG (g:ep):List de:=g.rules.map (λr=>lJ r.graph)++g.aK.map (·.graph)
def JP (g:ep)(top:Int):Int:=if 0≤top∧top<g.rules.length then top else if 1000≤top∧top<1000+g.aK.length then g.rules.length+top-1000 else-1
def YA (g:ep)(mt:Nat→Nat→Option Nat)(rule a:Nat)(top:Int):Bool:=
 decide (0≤JP g top)&&decide (rule<g.rules.length)&&decide (1≤a)&&decide ((a:Int)≤(g.rules.getD rule mc).kids)&&(dE mt (g.rules.getD rule mc).graph (rZ (g.rules.getD rule mc).graph a).toNat ((JG g).getD (JP g top).toNat [])).isSome
def qrG (g:ep)(words:List ab):Qr:=⟨words.length,ga g.types,YA g (ga g.types),g.rules,g.aK⟩
def xW:Nat→List ab→Int×Int
 |_,[]=>(0,0)
 |i,w::l=>if isWord w=false then(10,(i:Int))else xW (i+1) l
def Ae (aK:List Eb):Nat→List ab→Int×Int
 |_,[]=>(0,0)
 |i,w::l=>if w∈aK.map (·.word)then Ae aK (i+1) l else(6,(i:Int))
def sX (g:ep)(words:List ab):Int×Int:=if words.length=0∨12<words.length then(9,-2)else if(xW 0 words).1≠0 then xW 0 words else Ae g.aK 0 words
def Et (g:ep)(words:List ab):Option (List iq):=(xH (qrG g words) words words.length 1 ⟨[],List.replicate (words.length*(words.length+1)) []⟩).map λcs=>fH cs.its
def ek (g:ep)(words:List ab):(List iq×List Nat)×(Int×Int):=
 if(kq g).1≠0 then(([],[]),kq g)else if(sX g words).1≠0 then(([],[]),sX g words)else match Et g words with
  |none=>(([],[]),(17,-2))
  |some its=>((its,Me (ga g.types) words.length g.start its),(0,0))
structure Xy where
 wt:Int
 code:List Int
 tree:dA
structure Ch0 where
 rk:Xy
 AE:Nat
 XW:List Nat
structure Nl0 where
 done:List Xy
 next:List Ch0
 begun:Bool
def nl0:Nl0:=⟨[],[],false⟩
abbrev Ht:=List Nl0
structure kg where
 its:List iq
 rules:List Int
 aK:List Int
def wy0:o9:=⟨0,0,[]⟩
def kg.AE (B:kg)(e w:Nat):o9:=(B.its.getD e er).bb.getD w wy0
def IG (g:ep)(its:List iq):kg:=⟨its,g.rules.map (·.weight),g.aK.map (·.weight)⟩
inductive px:dA→Prop
 |mk {r l:Int} {ks:List dA} (h:ks.length≤1000) (k:∀t∈ks,px t):px (.mk r l ks)
def q8 (B:kg)(e:Nat):Nat:=((B.its.getD e er).ed.tqo-(B.its.getD e er).ed.frm)*4+(B.its.getD e er).ed.cV
def Ha (B:kg)(e:Nat):Nat:=8*((B.its.getD e er).ed.tqo-(B.its.getD e er).ed.frm)-7+(B.its.getD e er).ed.cV
def O1 (B:kg)(e:Nat):Nat:=(B.its.getD e er).bb.length
def MT (B:kg)(l:List Nat):Nat:=(l.map (Ha B)).sum
theorem MU (B:kg)(k:Nat)(l:List Nat):MT B (k::l)=Ha B k+MT B l:=by unfold MT;rw[eV,ot]
structure qG (B:kg):Prop where
 lex:∀e w,e<B.its.length→w<O1 B e→(B.AE e w).rule<0→(B.AE e w).kids=[]∧(B.AE e w).lex<B.aK.length∧1≤Ha B e
 rule:∀e w,e<B.its.length→w<O1 B e→¬(B.AE e w).rule<0→(B.AE e w).rule<B.rules.length∧(B.AE e w).kids.length≤3∧(∀k∈(B.AE e w).kids,k<B.its.length∧q8 B k<q8 B e)∧MT B (B.AE e w).kids+1≤Ha B e
 sz:∀e w,e<B.its.length→w<O1 B e→ -1≤(B.AE e w).rule∧(B.AE e w).rule≤1000∧0≤(B.AE e w).lex∧(B.AE e w).lex≤1000
 wr:∀x∈B.rules,-1000000≤x∧x≤1000000
 wx:∀x∈B.aK,-1000000≤x∧x≤1000000
 bd:∀e,e<B.its.length→Ha B e≤100
 ht:∀e,e<B.its.length→q8 B e<60
 nw:∀e,e<B.its.length→O1 B e≤1117240000000
def agO (x:Xy):Prop:= -(1000000*(x.code.length:Int))≤x.wt∧x.wt≤1000000*(x.code.length:Int)
def agM (x:Xy):Prop:=∀v∈x.code,0≤v∧v≤2000
def agN (t:dA):Prop:= -1≤t.rule∧t.rule≤1000∧0≤t.lex∧t.lex≤1000
structure aa4 (B:kg)(e:Nat)(x:Xy):Prop where
 len:x.code.length≤Ha B e
 wt:agO x
 cd:agM x
 thin:px x.tree
 rt:agN x.tree
structure TN (B:kg)(e D:Nat)(c:Ch0):Prop where
 rk:aa4 B e c.rk
 AE:c.AE<O1 B e
 len:c.XW.length=(B.AE e c.AE).kids.length
 rks:∀r∈c.XW,r≤D
theorem TN.mono {B:kg}{e D a:Nat}{c:Ch0}(h:TN B e D c)(hd:D≤a):TN B e a c:=⟨h.rk,h.AE,h.len,λr b=>cz (h.rks r b) hd⟩
structure Xu (B:kg)(e:Nat)(x:Nl0):Prop where
 done:∀k∈x.done,aa4 B e k
 next:∀c∈x.next,TN B e x.done.length c
 dl:x.done.length+q8 B e≤262
 new:x.begun=false→x.done=[]∧x.next=[]
 nl:x.next.length≤O1 B e+3*x.done.length
structure OC (B:kg)(st:Ht):Prop where
 len:st.length=B.its.length
 nl:∀(e:Nat) (x:Nl0),st[e]?=some x→Xu B e x
theorem OC.at_ {B:kg}{st:Ht}(h:OC B st){e:Nat}(he:e<B.its.length):∃x,st[e]?=some x∧st.getD e nl0=x∧Xu B e x:=by
 have a:e<st.length:=by rw[h.len];exact he
 exact⟨st[e],aj a,by rw[aZ,aj a];rfl,h.nl e _ (aj a)⟩
theorem OC.set {B:kg}{st:Ht}(h:OC B st){e:Nat}{y:Nl0}(hy:Xu B e y):OC B (st.set e y):=by
 refine⟨by rw[eC];exact h.len,λi x hx=> ?_⟩
 by_cases a:e=i
 ·subst a
  have b:e<st.length:=by have:=(eh.1 hx).1;rwa[eC]at this
  rw[fp b]at hx;obtain rfl:=Option.some.inj hx;exact hy
 ·rw[gV a]at hx;exact h.nl i x hx
def Kp (B:kg)(e:Nat)(st a:Ht):Prop:=∀i,q8 B e≤q8 B i→a[i]?=st[i]?
theorem Kp.refl (B:kg)(e:Nat)(st:Ht):Kp B e st st:=λ_ _=>rfl
theorem Kp.trans {B:kg}{e:Nat}{a b c:Ht}(h:Kp B e a b)(k:Kp B e b c):Kp B e a c:=λi d=>(k i d).trans (h i d)
def Hp (B:kg)(e:Nat)(st a:Ht):Prop:=∀i,q8 B e<q8 B i→a[i]?=st[i]?
theorem Hp.refl (B:kg)(e:Nat)(st:Ht):Hp B e st st:=λ_ _=>rfl
theorem Hp.trans {B:kg}{e:Nat}{a b c:Ht}(h:Hp B e a b)(k:Hp B e b c):Hp B e a c:=λi d=>(k i d).trans (h i d)
theorem Kp.hp {B:kg}{e:Nat}{a b:Ht}(h:Kp B e a b):Hp B e a b:=λi c=>h i (Nat.le_of_lt c)
theorem Hp.set {B:kg}{e:Nat}(st:Ht)(y:Nl0):Hp B e st (st.set e y):=λi a=>gV (λh=>by subst h;omega)
section
variable {B:kg}{f:Nat}{get:Ht→Nat→Nat→Ht×Option Xy}
end
def ahW (g:ep)(c:List ab):Bool:=decide ((ek g c).2.1=0)&&decide (0<(ek g c).1.2.length)
def OE:List (List ab)→List Nat→Prop
 | [],[]=>True
 |s::b,a::c=>a<s.length∧OE b c
 |_,_=>False
theorem OE.len:∀{b:List (List ab)} {c:List Nat},OE b c→c.length=b.length
 | [],[],_=>rfl
 |s::b,a::c,h=>by rw[eU,eU,h.2.len]
 | [],_::_,h=>h.elim
 |_::_,[],h=>h.elim
theorem OE.at:∀{c:List (List ab)} {d:List Nat},OE c d→∀{i a:Nat} {s:List ab},d[i]?=some a→c[i]?=some s→a<s.length
 | [],[],_,i,a,s,h,_=>by simp at h
 |s::c,a::d,h,0,b,t,h1,e=>by
  obtain rfl:=Option.some.inj h1;obtain rfl:=Option.some.inj e;exact h.1
 |s::c,a::d,h,i+1,b,t,h1,e=>h.2.at (i:=i) h1 e
 | [],_::_,h,_,_,_,_,_=>h.elim
 |_::_,[],h,_,_,_,_,_=>h.elim
theorem qV {α β:Type}(f:α→List β)(m:Nat):∀(l:List α),(∀x∈l,(f x).length=m)→(l.flatMap f).length=l.length*m
 | [],_=>(Nat.zero_mul m).symm
 |x::l,h=>by rw[iE,bJ,h x (by simp),qV f m l (λy hy=>h y (by simp[hy])),eU,Nat.succ_mul,Nat.add_comm]
def aa7 (g:ep)(outs:List (List ab))(c:List ab):List (List ab):=if ahW g c=true then outs++ [c]else outs
mutual
def oT (g:ep):dA→Int
 | .mk r l ks=>if r<0 then((g.aK.map (·.weight))[l.toNat]?).getD 0 else((g.rules.map (·.weight))[r.toNat]?).getD 0+il g ks
def il (g:ep):List dA→Int
 | []=>0
 |t::l=>oT g t+il g l
end
mutual
def B3 (g:ep):dA→Bool
 | .mk r l ks=>if r<0 then decide (0≤l)&&decide (l<g.aK.length)else decide (r<g.rules.length)&&ub g ks
def ub (g:ep):List dA→Bool
 | []=>true
 |t::l=>B3 g t&&ub g l
end
mutual
def qE:dA→Nat
 | .mk _ _ ks=>1+iH ks
def iH:List dA→Nat
 | []=>0
 |t::l=>qE t+iH l
end
theorem Vx (g:ep)(r l:Int)(ks:List dA):oT g (.mk r l ks)=if r<0 then((g.aK.map (·.weight))[l.toNat]?).getD 0 else((g.rules.map (·.weight))[r.toNat]?).getD 0+il g ks:=by rw[oT]
theorem aaD (g:ep)(r l:Int)(ks:List dA):B3 g (.mk r l ks)=if r<0 then decide (0≤l)&&decide (l<g.aK.length)else decide (r<g.rules.length)&&ub g ks:=by rw[B3]
theorem ZV (r l:Int)(ks:List dA):qE (.mk r l ks)=1+iH ks:=by rw[qE]
theorem CC (g:ep):∀(a b:List dA),il g (a++b)=il g a+il g b
 | [],b=>by rw[nQ,il,Int.zero_add]
 |t::a,b=>by rw[jg,il,il,CC g a b,Int.add_assoc]
theorem GH:∀(a b:List dA),iH (a++b)=iH a+iH b
 | [],b=>by rw[nQ,iH,iW]
 |t::a,b=>by rw[jg,iH,iH,GH a b,pt]
theorem H8 {g:ep}:∀{l:List dA},ub g l=true→∀t∈l,B3 g t=true
 | [],_,_,h=>by cases h
 |x::l,h,t,ht=>by
  rw[ub,pV]at h
  rcases bT.1 ht with rfl|ht
  ·exact h.1
  ·exact H8 h.2 t ht
theorem Lr {g:ep}:∀{l:List dA},(∀t∈l,B3 g t=true)→ub g l=true
 | [],_=>by rw[ub]
 |x::l,h=>by rw[ub,h x (by simp),Lr λt ht=>h t (by simp[ht])];rfl
theorem GJ:∀{l:List dA} {t:dA},t∈l→qE t≤iH l
 | [],_,h=>by cases h
 |x::l,t,h=>by
  rw[iH]
  rcases bT.1 h with rfl|h
  ·exact Nat.le_add_right _ _
  ·exact cz (GJ h) (Nat.le_add_left _ _)
theorem GI:∀(l:List dA),l.length≤iH l
 | []=>aP _
 |x::l=>by
  cases x with
  |mk r w ks=>
   rw[iH,qE,eU]
   have:=GI l
   omega
theorem Bk {l:List dA}(k:Nat):iH (l.take k)≤iH l:=by
 have h:=GH (l.take k) (l.drop k)
 rw[jN]at h;omega
structure T6 (g:ep):Prop where
 r:∀x∈g.rules,0≤x.weight∧x.weight≤1000000
 x:∀x∈g.aK,0≤x.weight∧x.weight≤1000000
theorem Ky {l:List Int}(h:∀x∈l,0≤x∧x≤1000000)(i:Nat):0≤(l[i]?).getD 0∧(l[i]?).getD 0≤1000000:=by
 rcases cJ i l.length with a|a
 ·rw[aj a];exact h _ (fq a)
 ·rw[fT a];exact⟨Int.le_refl _,by decide⟩
mutual
theorem Lg {g:ep}(h:T6 g):∀t:dA,0≤oT g t∧oT g t≤1000000*(qE t:Int)
 | .mk r l ks=>by
  rw[oT,qE]
  have h1:=Ky (l:=g.aK.map (·.weight)) (λx hx=>by obtain⟨y,hy,rfl⟩:=cA.1 hx;exact h.x y hy) l.toNat
  have a:=Ky (l:=g.rules.map (·.weight)) (λx hx=>by obtain⟨y,hy,rfl⟩:=cA.1 hx;exact h.r y hy) r.toNat
  have b:=zy h ks
  split
  ·push_cast;omega
  ·push_cast;omega
theorem zy {g:ep}(h:T6 g):∀l:List dA,0≤il g l∧il g l≤1000000*(iH l:Int)
 | []=>by rw[il,iH];exact⟨Int.le_refl _,by decide⟩
 |t::l=>by
  rw[il,iH]
  have h1:=Lg h t
  have a:=zy h l
  push_cast;omega
end
theorem Jq {g:ep}{l:List dA}{k:Nat}{t:dA}(h:l[k]?=some t):il g (l.take (k+1))=il g (l.take k)+oT g t:=by
 rw[List.take_add_one,h,CC];show _+(il g [t])=_;rw[il,il,Int.add_zero]
def dU:Nat:=1099511627776
def mulC (n m:Nat):Nat:=if dU/m<n then dU else n*m
def yd (get:Nat→Nat)(x:o9):Nat:=x.kids.foldl (λn k=>mulC n (get k)) 1
def cntF (its:List iq):Nat→Nat→Nat
 |0,_=>0
 |f+1,i=>(its.getD i er).bb.foldl (λs x=>min (s+yd (cntF its f) x) dU) 0
def kp (l k:List dA):List dA:=l.flatMap λt=>k.map λs=> .mk t.rule 0 (t.kids++ [s])
def pH (get:Nat→List dA)(x:o9):List dA:=x.kids.foldl (λl k=>kp l (get k)) [.mk x.rule x.lex []]
def jO (its:List iq):Nat→Nat→List dA
 |0,_=>[]
 |f+1,i=>(its.getD i er).bb.flatMap (pH (jO its f))
theorem Qd {a b:Nat}(f:1≤b):mulC (min a dU) (min b dU)=min (a*b) dU:=by
 have g:dU=1099511627776:=rfl
 unfold mulC
 rcases cJ b dU with h|h
 ·rw[gB (Nat.le_of_lt h)]
  by_cases h1:dU/b<min a dU
  ·rw[aB h1]
   rw[Nat.div_lt_iff_lt_mul zE]at h1
   have c:min a dU*b≤a*b:=fJ _ (Nat.min_le_left _ _)
   rw[Nat.min_eq_right zE]
  ·rw[aA h1]
   rw[Nat.div_lt_iff_lt_mul zE]at h1
   rcases Nat.le_total a dU with d|d
   ·rw[gB d]at h1⊢
    rw[gB zE]
   ·rw[Nat.min_eq_right d]at h1⊢
    have e:b=1:=by
     rcases cJ 1 b with c|c
     ·have:=tA dU c;omega
     ·omega
    subst e;rw[e8,e8,Nat.min_eq_right d]
 ·rw[Nat.min_eq_right h,Nat.div_self zE]
  rcases cJ 1 (min a dU)with h1|h1
  ·rw[aB h1]
   have c:2*b≤a*b:=fJ _ zE
   rw[Nat.min_eq_right zE]
  ·rw[aA zE]
   rcases cJ a 1 with c|c
   ·obtain rfl:a=0:=by omega
    simp
   ·obtain rfl:a=1:=by omega
    rw[gB zE,nz,nz,Nat.min_eq_right h]
theorem tP (l k:List dA):(kp l k).length=l.length*k.length:=by
 unfold kp
 induction l with
 |nil=>simp
 |cons t l a=>rw[iE,bJ,aR,a,eU,ji,nz,Nat.add_comm]
theorem uD (get:Nat→List dA):∀(ks:List Nat) (l:List dA),(∀k∈ks,1≤(get k).length)→l.length≤(ks.foldl (λl k=>kp l (get k)) l).length
 | [],_,_=>aQ _
 |k::ks,l,h=>by
  have h1:=h k (aV ..)
  have a:=uD get ks (kp l (get k)) λq b=>h q (bV _ b)
  rw[tP]at a
  have c:l.length*1≤l.length*(get k).length:=tA _ h1
  rw[im];omega
theorem BQ (get:Nat→List dA)(cnt:Nat→Nat):∀(ks:List Nat) (l:List dA),(∀k∈ks,1≤(get k).length∧cnt k=min (get k).length dU)→ks.foldl (λn k=>mulC n (cnt k)) (min l.length dU)=min (ks.foldl (λl k=>kp l (get k)) l).length dU
 | [],_,_=>rfl
 |k::ks,l,h=>by
  obtain⟨h1,a⟩:=h k (aV ..);rw[im,im,a,Qd h1,←tP]
  exact BQ get cnt ks (kp l (get k)) λq b=>h q (bV _ b)
theorem PJ {get:Nat→List dA}{cnt:Nat→Nat}{x:o9}(h:∀k∈x.kids,1≤(get k).length∧cnt k=min (get k).length dU):yd cnt x=min (pH get x).length dU:=
 BQ get cnt x.kids [.mk x.rule x.lex []] h
theorem QU {get:Nat→List dA}{x:o9}(h:∀k∈x.kids,1≤(get k).length):1≤(pH get x).length:=uD get x.kids [.mk x.rule x.lex []] h
theorem Ey {get:Nat→List dA}{cnt:Nat→Nat}:∀(ws:List o9) (a:Nat),(∀x∈ws,yd cnt x=min (pH get x).length dU)→ws.foldl (λs x=>min (s+yd cnt x) dU) (min a dU)=min (a+(ws.flatMap (pH get)).length) dU
 | [],a,_=>rfl
 |x::ws,a,h=>by
  have e:min (min a dU+min (pH get x).length dU) dU=min (a+(pH get x).length) dU:=by omega
  rw[im,h x (aV ..),e,Ey ws _ λy hy=>h y (bV _ hy),iE,bJ,pt]
theorem K9 {B:kg}{e:Nat}{x:o9}(hx:x∈(B.its.getD e er).bb):∃w,w<O1 B e∧B.AE e w=x:=by
 obtain⟨w,hw,rfl⟩:=lB.1 hx;refine⟨w,hw,?_⟩;unfold kg.AE
 rw[aZ,aj hw];rfl
theorem vS {B:kg}(a:qG B){e:Nat}(he:e<B.its.length){x:o9}(hx:x∈(B.its.getD e er).bb):∀k∈x.kids,k<B.its.length∧q8 B k<q8 B e:=by
 obtain⟨w,hw,rfl⟩:=K9 hx;intro k hk
 by_cases b:(B.AE e w).rule<0
 ·rw[(a.lex e w he hw b).1]at hk;cases hk
 ·exact(a.rule e w he hw b).2.2.1 k hk
def mq (its:List iq):Prop:=∀e,e<its.length→(its.getD e er).bb≠ []
theorem xp {B:kg}(b:qG B)(hw:mq B.its):∀(f e:Nat),e<B.its.length→q8 B e<f→1≤(jO B.its f e).length
 |0,_,_,h=>by omega
 |f+1,e,he,h=>by
  rw[jO]
  have h1:=hw e he
  have hk:=λx hx=>vS b he (x:=x) hx
  match a:(B.its.getD e er).bb,h1 with
  |x::ws,_=>
   have hx:x∈(B.its.getD e er).bb:=by rw[a];exact aV ..
   have:=QU (get:=jO B.its f) (x:=x) λk c=>by
    have:=hk x hx k c
    exact xp b hw f k this.1 zE
   rw[iE,bJ];omega
theorem DD {B:kg}(a:qG B)(hw:mq B.its):∀(f e:Nat),e<B.its.length→q8 B e<f→cntF B.its f e=min (jO B.its f e).length dU
 |0,_,_,h=>by omega
 |f+1,e,he,h=>by
  rw[cntF,jO]
  have hk:=λx hx=>vS a he (x:=x) hx
  have:=Ey (get:=jO B.its f) (cnt:=cntF B.its f) (B.its.getD e er).bb 0 λx hx=>PJ λk c=>by
   have b:=hk x hx k c
   exact⟨xp a hw f k b.1 zE,DD a hw f k b.1 zE⟩
  rw[iW]at this;exact this
theorem yN {g h:Nat→List dA}:∀(ks:List Nat) (l:List dA),(∀k∈ks,g k=h k)→ks.foldl (λl k=>kp l (g k)) l=ks.foldl (λl k=>kp l (h k)) l
 | [],_,_=>rfl
 |k::ks,l,e=>by
  rw[im,im,e k (aV ..)]
  exact yN ks _ λq a=>e q (bV _ a)
theorem JA {g h:Nat→List dA}{x:o9}(e:∀k∈x.kids,g k=h k):pH g x=pH h x:=yN x.kids _ e
theorem zP {g h:Nat→Nat}:∀(ks:List Nat) (l:Nat),(∀k∈ks,g k=h k)→ks.foldl (λn k=>mulC n (g k)) l=ks.foldl (λn k=>mulC n (h k)) l
 | [],_,_=>rfl
 |k::ks,l,e=>by
  rw[im,im,e k (aV ..)]
  exact zP ks _ λq a=>e q (bV _ a)
theorem IL {g h:Nat→Nat}{x:o9}(e:∀k∈x.kids,g k=h k):yd g x=yd h x:=zP x.kids _ e
theorem G0 {B:kg}(b:qG B):∀(f a e:Nat),e<B.its.length→q8 B e<f→q8 B e<a→jO B.its f e=jO B.its a e
 |0,_,_,_,h,_=>by omega
 |_+1,0,_,_,_,h=>by omega
 |f+1,a+1,e,he,h,g=>by
  rw[jO,jO]
  have hk:=λx hx=>vS b he (x:=x) hx
  have hm:∀x∈(B.its.getD e er).bb,pH (jO B.its f) x=pH (jO B.its a) x:=λx hx=>JA λk c=>by
   have d:=hk x hx k c
   exact G0 b f a k d.1 zE zE
  rw[List.flatMap_def,List.flatMap_def,qw hm]
theorem pa {g h:o9→Nat}:∀(ws:List o9) (a:Nat),(∀x∈ws,g x=h x)→ws.foldl (λs x=>min (s+g x) dU) a=ws.foldl (λs x=>min (s+h x) dU) a
 | [],_,_=>rfl
 |x::ws,a,e=>by
  rw[im,im,e x (aV ..)]
  exact pa ws _ λy hy=>e y (bV _ hy)
theorem Ez {B:kg}(b:qG B):∀(f a e:Nat),e<B.its.length→q8 B e<f→q8 B e<a→cntF B.its f e=cntF B.its a e
 |0,_,_,_,h,_=>by omega
 |_+1,0,_,_,_,h=>by omega
 |f+1,a+1,e,he,h,g=>by
  rw[cntF,cntF]
  have hk:=λx hx=>vS b he (x:=x) hx
  exact pa _ _ λx hx=>IL λk c=>by
   have d:=hk x hx k c
   exact Ez b f a k d.1 zE zE
def Us (r l:Int):Int:=if r<0 then 1000+l else r
mutual
def iu:dA→List Int
 | .mk r l ks=>Us r l::jr ks
def jr:List dA→List Int
 | []=>[]
 |t::l=>iu t++jr l
end
mutual
def WS (g:ep):dA→Bool
 | .mk r l ks=>if r<0 then decide (r= -1)&&decide (0≤l)&&decide (ks.length=0)else decide (r<1000)&&decide (l=0)&&decide ((ks.length:Int)=((g.rules.map (·.kids))[r.toNat]?).getD 0)&&I6 g ks
def I6 (g:ep):List dA→Bool
 | []=>true
 |t::l=>WS g t&&I6 g l
end
def xR (g:ep)(a b:dA):Int:=sc (kf (oT g a) (oT g b)) (jA kf (iu a) (iu b))
section
variable {B:kg}{f:Nat}{get:Ht→Nat→Nat→Ht×Option Xy}
end
theorem lE {a b:Nat}(c:a<256)(d:b<256)(h:jR (a:Int)=jR (b:Int)):a=b:=by
 have:=congrArg UInt8.toNat h
 unfold jR at this
 simp only[UInt8.toNat_ofNat']at this
 omega
theorem Q7 {e d:o8}(he:e.frm<256∧e.tqo<256)(hd:d.frm<256∧d.tqo<256)(h:fD e=fD d):e.frm=d.frm∧e.tqo=d.tqo:=by
 unfold fD at h
 simp only[List.cons.injEq]at h
 exact⟨lE he.1 hd.1 h.1,lE he.2 hd.2 h.2.1⟩
theorem zB {its:List iq}{k:ab}{i:Nat}(h:xN its k=some i):∃it,its[i]?=some it∧fD it.ed=k:=by
 obtain⟨a,h1,_⟩:=List.findIdx?_eq_some_iff_getElem.1 h;exact⟨_,aj a,gU h1⟩
theorem Q9 {its:List iq}{k:ab}(h:xN its k=none):∀it∈its,fD it.ed≠k:=λit hit=>by
 have:=List.findIdx?_eq_none_iff.1 h it hit
 exact l3 (by simpa using this)
def slt (n i j:Nat):Nat:=i*(n+1)+j
theorem E8 {n i j a b:Nat}(e:j≤n)(f:b≤n)(h:slt n i j=slt n a b):i=a∧j=b:=by
 unfold slt at h
 have h1:(i*(n+1)+j)/(n+1)=i:=by rw[Nat.mul_comm,Nat.mul_add_div zE,Nat.div_eq_of_lt zE,fU]
 have c:(a*(n+1)+b)/(n+1)=a:=by rw[Nat.mul_comm,Nat.mul_add_div zE,Nat.div_eq_of_lt zE,fU]
 have d:i=a:=by rw[←h1,←c,h]
 subst d;exact⟨rfl,by omega⟩
theorem sk {n i j:Nat}(a:i<n)(b:j≤n):slt n i j<n*(n+1):=by
 unfold slt
 have:(i+1)*(n+1)≤n*(n+1):=fJ _ a
 rw[ji]at this;omega
structure Grow (n frm tqo:Nat)(cs fA:Cs)(a:Nat):Prop where
 more:cs.its.length≤fA.its.length
 most:fA.its.length≤cs.its.length+a
 Hg:fA.sp.length=cs.sp.length
 Zb:∀k,k≠slt n frm tqo→fA.sp.getD k []=cs.sp.getD k []
 own:(fA.sp.getD (slt n frm tqo) []).length≤(cs.sp.getD (slt n frm tqo) []).length+a
 ed:∀i,i<cs.its.length→fA.ed i=cs.ed i
 new:∀i,cs.its.length≤i→i<fA.its.length→(fA.ed i).frm=frm∧(fA.ed i).tqo=tqo
 far:∀i,i<cs.its.length→¬((cs.ed i).frm=frm∧(cs.ed i).tqo=tqo)→fA.its.getD i er=cs.its.getD i er
 bb:∀i,i<fA.its.length→(fA.its.getD i er).bb.length≤(cs.its.getD i er).bb.length+a
theorem Grow.refl (n frm tqo:Nat)(cs:Cs):Grow n frm tqo cs cs 0:=
 ⟨aQ _,aQ _,rfl,λ_ _=>rfl,aQ _,λ_ _=>rfl,λi h1 a=>by omega,λ_ _ _=>rfl,λ_ _=>aQ _⟩
theorem Grow.trans {n frm tqo:Nat}{x y z:Cs}{a b:Nat}(h:Grow n frm tqo x y a)(k:Grow n frm tqo y z b):Grow n frm tqo x z (a+b):=by
 refine⟨cz h.more k.more,by have:=h.most;have:=k.most;omega,k.Hg.trans h.Hg,λi d=>(k.Zb i d).trans (h.Zb i d),by have:=h.own;have:=k.own;omega,λi d=> ?_,λi h1 f=> ?_,λi d g=> ?_,λi d=> ?_⟩
 ·rw[k.ed i (fI d h.more),h.ed i d]
 ·by_cases c:i<y.its.length
  ·rw[k.ed i c];exact h.new i h1 c
  ·exact k.new i zE f
 ·rw[k.far i (fI d h.more) (by rw[h.ed i d];exact g),h.far i d g]
 ·have h1:=k.bb i d
  by_cases c:i<y.its.length
  ·have f:=h.bb i c;omega
  ·have e:y.its.getD i er=er:=by rw[aZ,fT zE];rfl
   rw[e]at h1
   have:er.bb.length=0:=rfl
   omega
theorem Grow.mono {n frm tqo:Nat}{x y:Cs}{a b:Nat}(h:Grow n frm tqo x y a)(d:a≤b):Grow n frm tqo x y b:=
 ⟨h.more,by have:=h.most;omega,h.Hg,h.Zb,by have:=h.own;omega,h.ed,h.new,h.far,λi c=>by have:=h.bb i c;omega⟩
structure gH (nt nf n:Nat)(cs:Cs):Prop where
 Hg:cs.sp.length=n*(n+1)
 idx:∀l∈cs.sp,∀e∈l,e<cs.its.length
 tot:(cs.sp.map List.length).sum=cs.its.length
 prt:∀i j e,j≤n→e∈cs.sp.getD (slt n i j) []→(cs.ed e).frm=i∧(cs.ed e).tqo=j
 gr:∀it∈cs.its,it.ed.frm<it.ed.tqo∧it.ed.tqo≤n∧it.ed.cV≤3∧dp nt nf it.ed.gr∧it.ed.gr.length≤60
 bW:∀it∈cs.its,it.bW.length≤it.bb.length
 kids:∀it∈cs.its,∀w∈it.bb,∀k∈w.kids,k<cs.its.length
theorem gH.I7 {nt nf n:Nat}{cs:Cs}(h:gH nt nf n cs){k e:Nat}(he:e∈cs.sp.getD k []):e<cs.its.length:=by
 rw[aZ]at he
 cases c:cs.sp[k]? with
 |none=>rw[c]at he;cases he
 |some l=>rw[c]at he;exact h.idx l (aa c) e he
theorem iq.E0 (it:iq)(w:o9):(it.put w).bb=it.bb++ [w]:=rfl
theorem Js {l:List (List Nat)}{k:Nat}(x:Nat)(h:k<l.length):((l.modify k λm=>m++ [x]).map List.length).sum=(l.map List.length).sum+1:=by
 induction l generalizing k with
 |nil=>cases h
 |cons a l b=>
  cases k with
  |zero=>simp;omega
  |succ k=>
   rw[List.modify_succ_cons,eV,eV,ot,ot,b (by simpa using h)];omega
theorem getD_modify {α:Type}{l:List α}{f:α→α}{i j:Nat}{d:α}(h:j<l.length):(l.modify i f).getD j d=if i=j then f (l.getD j d)else l.getD j d:=by
 simp only[List.getD_eq_getElem?_getD,List.getElem?_modify,List.getElem?_eq_getElem h,Option.map_some,Option.getD_some]
 split<;>simp_all
theorem yO {nt nf n:Nat}(I:n≤12){cs:Cs}(h:gH nt nf n cs){e:o8}{w:o9}(he:e.frm<e.tqo∧e.tqo≤n∧e.cV≤3∧dp nt nf e.gr∧e.gr.length≤60)(hk:∀k∈w.kids,k<cs.its.length):
 gH nt nf n (iK n cs e w)∧Grow n e.frm e.tqo cs (iK n cs e w) 1:=by
 have A:slt n e.frm e.tqo<cs.sp.length:=by rw[h.Hg];exact sk zE he.2.1
 unfold iK
 cases D:xN cs.its (fD e)with
 |some i=>
  dsimp only
  obtain⟨it,hit,E⟩:=zB D
  have hm:=aa hit
  obtain⟨g1,g2,g3,g4,g5⟩:=h.gr it hm;obtain⟨s1,s2⟩:=Q7 (e:=it.ed) (d:=e) ⟨by omega,by omega⟩ ⟨by omega,by omega⟩ E
  have J:i<cs.its.length:=(eh.1 hit).1
  have s:cs.its.getD i er=it:=by rw[aZ,hit];rfl
  have t:∀x∈cs.its.modify i (λit=>it.put w),x∈cs.its∨x=it.put w:=λx hx=>by
   obtain⟨j,a⟩:=List.mem_iff_getElem?.1 hx;rw[List.getElem?_modify]at a
   split at a
   ·rename_i e2;subst e2;rw[hit]at a;exact .inr (Option.some.inj a).symm
   ·simp at a;exact .inl (aa a)
  have B:∀j,j<cs.its.length→(⟨cs.its.modify i λit=>it.put w,cs.sp⟩:Cs).ed j=cs.ed j:=λj a=>by
   unfold Cs.ed;rw[getD_modify a]
   split<;>rfl
  refine⟨⟨h.Hg,λl u x hx=>by rw[pn];exact h.idx l u x hx,by rw[pn];exact h.tot,λo p g q b=> ?_,λx hx=> ?_,λx hx=> ?_,λx hx v f k m=> ?_⟩,⟨by rw[pn];exact aQ _,by rw[pn];omega,rfl,λ_ _=>rfl,Nat.le_succ _,λj a=> ?_,λj h1 y=>by rw[pn]at y;omega,λj a C=> ?_,λj a=> ?_⟩⟩
  ·rw[B g (h.I7 b)]
   exact h.prt o p g q b
  ·rcases t x hx with hx|rfl
   ·exact h.gr x hx
   ·exact h.gr it hm
  ·rcases t x hx with hx|rfl
   ·exact h.bW x hx
   ·have:=h.bW it hm
    show(if sx w∈it.bW then it.bW else it.bW++ [sx w]).length≤(it.bb++ [w]).length
    rw[bJ]
    split
    ·simp;omega
    ·rw[bJ];simp;omega
  ·rw[pn]
   rcases t x hx with hx|rfl
   ·exact h.kids x hx v f k m
   ·rcases cI.1 f with f|f
    ·exact h.kids it hm v f k m
    ·rw[bN.1 f]at m;exact hk k m
  ·exact B j a
  ·rw[getD_modify a,aA]
   rintro rfl;exact C (by unfold Cs.ed;rw[s];exact⟨s1,s2⟩)
  ·rw[pn]at a
   rw[getD_modify a]
   split
   ·rw[iq.E0,bJ];simp
   ·omega
 |none=>
  dsimp only
  have hlen:(cs.its++ [(⟨e,[],[]⟩:iq).put w]).length=cs.its.length+1:=by simp
  have hold:∀j,j<cs.its.length→(cs.its++ [(⟨e,[],[]⟩:iq).put w]).getD j er=cs.its.getD j er:=λj a=>by
   rw[aZ,oh a,←aZ]
  have z:(cs.its++ [(⟨e,[],[]⟩:iq).put w]).getD cs.its.length er=(⟨e,[],[]⟩:iq).put w:=by
   rw[aZ,jM (aQ _),eX];rfl
  refine⟨⟨by rw[pn];exact h.Hg,λl u x hx=> ?_,by rw[hlen,←h.tot];exact Js _ A,λo p g q b=> ?_,λx hx=> ?_,λx hx=> ?_,λx hx v f k m=> ?_⟩,⟨by rw[hlen];omega,by rw[hlen];omega,by rw[pn],λk F=> ?_,?_,λj a=> ?_,λj h1 y=> ?_,λj a C=>hold j a,λj a=> ?_⟩⟩
  ·rw[hlen]
   obtain⟨j,a⟩:=List.mem_iff_getElem?.1 u;rw[List.getElem?_modify]at a
   split at a
   ·obtain⟨l0,h1,rfl⟩:=dX.1 a
    rcases cI.1 hx with hx|hx
    ·have:=h.idx l0 (aa h1) x hx;omega
    ·rw[bN.1 hx];omega
   ·simp at a
    have:=h.idx l (aa a) x hx;omega
  ·have r:∀l0,g∈cs.sp.getD (slt n o p) []→(⟨cs.its++ [(⟨e,[],[]⟩:iq).put w],l0⟩:Cs).ed g=cs.ed g:=λl0 hx=>by unfold Cs.ed;rw[hold g (h.I7 hx)]
   by_cases c:slt n o p<cs.sp.length
   ·dsimp only at b
    rw[getD_modify c]at b
    split at b
    ·rename_i e2
     obtain⟨G,H⟩:=E8 he.2.1 q e2
     rcases cI.1 b with hx|hx
     ·rw[r _ hx];exact h.prt o p g q hx
     ·rw[bN.1 hx];unfold Cs.ed;dsimp only;rw[z];exact⟨G,H⟩
    ·rw[r _ b];exact h.prt o p g q b
   ·dsimp only at b
    rw[aZ,fT (by rw[pn];omega)]at b
    cases b
  ·rcases cI.1 hx with hx|hx
   ·exact h.gr x hx
   ·rw[bN.1 hx];exact he
  ·rcases cI.1 hx with hx|hx
   ·exact h.bW x hx
   ·rw[bN.1 hx]
    show(if sx w∈([]:List Int)then([]:List Int)else []++ [sx w]).length≤(([]:List o9)++ [w]).length
    rw[aA (by simp)];exact aQ _
  ·rw[hlen]
   rcases cI.1 hx with hx|hx
   ·have:=h.kids x hx v f k m;omega
   ·rw[bN.1 hx]at f
    rw[iq.E0,nQ]at f;rw[bN.1 f]at m
    have:=hk k m;omega
  ·by_cases c:k<cs.sp.length
   ·rw[getD_modify c,aA (λe2=>F e2.symm)]
   ·rw[aZ,aZ,fT (by rw[pn];omega),fT zE]
  ·rw[getD_modify A,aB (show e.frm*(n+1)+e.tqo=slt n e.frm e.tqo from rfl),bJ];simp
  ·unfold Cs.ed;rw[hold j a]
  ·rw[hlen]at y
   obtain rfl:j=cs.its.length:=by omega
   unfold Cs.ed;rw[z];exact⟨rfl,rfl⟩
  ·rw[hlen]at a
   by_cases c:j<cs.its.length
   ·rw[hold j c];omega
   ·obtain rfl:j=cs.its.length:=by omega
    rw[z,iq.E0];simp
structure Room (cs:Cs)(m:Nat):Prop where
 its:cs.its.length+m≤1400000000000
 bb:∀it∈cs.its,it.bb.length+m≤3000000000000
theorem Room.at_ {cs:Cs}{m i:Nat}(h:Room cs m):(cs.its.getD i er).bb.length+m≤3000000000000:=by
 by_cases c:i<cs.its.length
 ·rw[aZ,aj c];exact h.bb _ (fq c)
 ·rw[aZ,fT zE]
  show 0+m≤_
  have:=h.its;omega
theorem Room.grow {n frm tqo:Nat}{cs fA:Cs}{a b:Nat}(h:Room cs (a+b))(k:Grow n frm tqo cs fA a):Room fA b:=by
 refine⟨by have:=k.most;have:=h.its;omega,λit hit=> ?_⟩;obtain⟨i,c,rfl⟩:=lB.1 hit
 have h1:=k.bb i c
 have d:=h.at_ (i:=i)
 rw[aZ,aj c]at h1
 have h1:(fA.its[i]).bb.length≤_:=h1
 omega
theorem Room.mono {cs:Cs}{a b:Nat}(h:Room cs b)(c:a≤b):Room cs a:=⟨by have:=h.its;omega,λit hit=>by have:=h.bb it hit;omega⟩
theorem gq {β:Type}{n frm tqo:Nat}(f:Cs→β→Cs)(b:β→Nat)(I:Cs→Prop):∀(l:List β) (cs:Cs),I cs→(∀cs x,x∈l→I cs→I (f cs x)∧Grow n frm tqo cs (f cs x) (b x))→I (l.foldl f cs)∧Grow n frm tqo cs (l.foldl f cs) ((l.map b).sum)
 | [],cs,h,_=>⟨h,Grow.refl ..⟩
 |x::l,cs,h,a=>by
  obtain⟨h1,c⟩:=a cs x (by simp) h
  obtain⟨d,e⟩:=gq f b I l (f cs x) h1 λcs y hy=>a cs y (by simp[hy])
  exact⟨d,c.trans e⟩
def TT (n frm tqo:Nat)(c:Nat→Nat→Nat)(cs:Cs):Prop:=∀i j,j≤n→¬(i=frm∧j=tqo)→(cs.at_ n i j).length=c i j
theorem TT.grow {n frm tqo:Nat}{c:Nat→Nat→Nat}{cs fA:Cs}{a:Nat}(h:TT n frm tqo c cs)(k:Grow n frm tqo cs fA a)(ht:tqo≤n):TT n frm tqo c fA:=λi j b d=>by
 rw[←h i j b d]
 show(fA.sp.getD (slt n i j) []).length=(cs.sp.getD (slt n i j) []).length
 rw[k.Zb _ λe=>d (E8 b ht e)]
def l7 (c:Nat→Nat→Nat)(tqo:Nat):Nat→Nat→Nat
 |0,a=>c a tqo
 |l+1,a=>((List.range' (a+1) (tqo-(l+1)-a)).map λen=>c a en*l7 c tqo l en).sum
theorem jK {β:Type}(l:List β)(k:Nat):(l.map λ_=>k).sum=l.length*k:=by
 induction l with
 |nil=>simp
 |cons x l a=>rw[eV,ot,a,eU,ji];omega
structure iG (nt nf n frm tqo:Nat)(c:Nat→Nat→Nat)(m:Nat)(cs:Cs):Prop where
 ok:gH nt nf n cs
 len:TT n frm tqo c cs
 BW:m≤cs.its.length
theorem iG.grow {nt nf n frm tqo:Nat}{c:Nat→Nat→Nat}{m a:Nat}{cs fA:Cs}(h:iG nt nf n frm tqo c m cs)(b:gH nt nf n fA)(k:Grow n frm tqo cs fA a)(ht:tqo≤n):iG nt nf n frm tqo c m fA:=
 ⟨b,h.len.grow k ht,cz h.BW k.more⟩
theorem A0 {nt nf:Nat}{x:de}(h:dp nt nf x)(k:Int):(rZ x k).toNat<x.length:=by
 unfold rZ
 split
 ·rename_i y e
  have:=(h.at_ h.pos).2.2 y (List.mem_of_find?_eq_some e)
  omega
 ·exact h.pos
theorem Jo {nt nf:Nat}{mt:Nat→Nat→Option Nat}(c:xG nt mt){x y z:de}{k:Int}(hx:dp nt nf x)(hy:dp nt nf y)(h:mg mt x k y=some z):dp nt nf z∧z.length≤60∧∀j∈lI (x.getD 0 gu).2,j∈lI (z.getD 0 gu).2:=by
 unfold mg at h
 split at h
 ·rename_i u e
  split at h
  ·obtain rfl:=Option.some.inj h
   obtain⟨a,_,b⟩:=V4 c hx hy (A0 hx k) e;exact⟨a,by assumption,b⟩
  ·cases h
 ·cases h
theorem qc {nt nf:Nat}{x:de}(hx:dp nt nf x)(c:x.length≤60):dp nt nf (lJ x)∧(lJ x).length≤60:=by
 obtain⟨a,b,_⟩:=tu hx (A0 hx 0);exact⟨a,cz b c⟩
theorem wB {nt nf n:Nat}{Q:Qr}(a:xG nt Q.mt){cs:Cs}(h:gH nt nf n cs){rule b e:Nat}{x y:de}(hx:dp nt nf x)(he:e<cs.its.length)(hy:jo Q cs rule x b e=some y):dp nt nf y∧y.length≤60∧∀j∈lI (x.getD 0 gu).2,j∈lI (y.getD 0 gu).2:=by
 unfold jo at hy
 split at hy
 ·refine Jo a hx ?_ hy
  unfold Cs.ed;rw[aZ,aj he];exact(h.gr _ (fq he)).2.2.2.1
 ·cases hy
theorem gH.qP {nt nf n:Nat}{cs:Cs}(h:gH nt nf n cs){i j e:Nat}(he:e∈cs.at_ n i j):e<cs.its.length:=by
 unfold Cs.at_ at he;rw[aZ]at he
 cases c:cs.sp[i*(n+1)+j]? with
 |none=>rw[c]at he;cases he
 |some l=>rw[c]at he;exact h.idx l (aa c) e he
theorem yk {nt nf:Nat}{Q:Qr}(s:Q.n≤12)(j:xG nt Q.mt){rule frm tqo:Nat}(t:frm<tqo)(ht:tqo≤Q.n)(c:Nat→Nat→Nat):∀(l:Nat) (cs:Cs) (x:de) (kids:List Nat) (a m:Nat),iG nt nf Q.n frm tqo c m cs→dp nt nf x→(frm<a∨(a=frm∧1≤l))→a<tqo→(∀k∈kids,k<m)→
 iG nt nf Q.n frm tqo c m (rQ Q rule frm tqo l cs x kids a)∧Grow Q.n frm tqo cs (rQ Q rule frm tqo l cs x kids a) (l7 c tqo l a)
 |0,cs,x,kids,a,m,g,hx,z,A,hk=>by
  have o:∀e∈cs.at_ Q.n a tqo,e<cs.its.length:=λe he=>g.ok.qP he
  have:=gq (n:=Q.n) (frm:=frm) (tqo:=tqo) (λcs e=>match jo Q cs rule x (kids.length+1) e with
   |none=>cs
   |some y=>iK Q.n cs ⟨frm,tqo,0,lJ y⟩ ⟨rule,0,kids++ [e]⟩) (λ_=>1) (λfA=>iG nt nf Q.n frm tqo c m fA∧cs.its.length≤fA.its.length) (cs.at_ Q.n a tqo) cs ⟨g,aQ _⟩ (λd e he ⟨h1,f⟩=>by
    have h:=fI (o e he) f
    cases hy:jo Q d rule x (kids.length+1) e with
    |none=>exact⟨⟨h1,f⟩,(Grow.refl ..).mono (aP _)⟩
    |some y=>
     dsimp only
     obtain⟨p,u,_⟩:=wB j h1.ok hx h hy;obtain⟨m1,m2⟩:=qc p u
     obtain⟨B,a2⟩:=yO s h1.ok (e:=⟨frm,tqo,0,lJ y⟩) (w:=⟨rule,0,kids++ [e]⟩) ⟨t,ht,aP _,m1,m2⟩ (λk b=>by
      rcases cI.1 b with b|b
      ·have:=hk k b;have:=h1.BW;omega
      ·rw[bN.1 b];exact h)
     exact⟨⟨h1.grow B a2 ht,cz f a2.more⟩,a2⟩)
  rw[jK,e8,g.len a tqo ht zE]at this;exact⟨this.1.1,this.2⟩
 |l+1,cs,x,kids,a,m,g,hx,z,A,hk=>by
  refine gq (n:=Q.n) (frm:=frm) (tqo:=tqo) (λcs en=>(cs.at_ Q.n a en).foldl (λcs e=>match jo Q cs rule x (kids.length+1) e with
   |none=>cs
   |some y=>rQ Q rule frm tqo l cs y (kids++ [e]) en) cs) (λen=>c a en*l7 c tqo l en) (iG nt nf Q.n frm tqo c m) (List.range' (a+1) (tqo-(l+1)-a)) cs g (λd en C h1=> ?_)
  obtain⟨i,D,rfl⟩:=List.mem_range'.1 C
  have q:a+1+1*i<tqo:=by omega
  have o:∀e∈d.at_ Q.n a (a+1+1*i),e<d.its.length:=λe he=>h1.ok.qP he
  have:=gq (n:=Q.n) (frm:=frm) (tqo:=tqo) (λcs e=>match jo Q cs rule x (kids.length+1) e with
   |none=>cs
   |some y=>rQ Q rule frm tqo l cs y (kids++ [e]) (a+1+1*i)) (λ_=>l7 c tqo l (a+1+1*i)) (iG nt nf Q.n frm tqo c (max m d.its.length)) (d.at_ Q.n a (a+1+1*i)) d ⟨h1.ok,h1.len,by have:=h1.BW;omega⟩ (λv e he f=>by
    have h:e<max m d.its.length:=by have:=o e he;omega
    have r:=fI h f.BW
    cases hy:jo Q v rule x (kids.length+1) e with
    |none=>exact⟨f,(Grow.refl ..).mono (aP _)⟩
    |some y=>
     dsimp only
     obtain⟨p,u,_⟩:=wB j f.ok hx r hy
     exact yk s j t ht c l v y (kids++ [e]) (a+1+1*i) _ f p (.inl zE) q (λk b=>by
      rcases cI.1 b with b|b
      ·have:=hk k b;omega
      ·rw[bN.1 b];exact h))
  rw[jK,h1.len a _ zE zE]at this;exact⟨⟨this.1.ok,this.1.len,by have:=this.1.BW;omega⟩,this.2⟩
theorem H0 (f:Nat→Nat)(a:Nat):∀b:Nat,fb f (a+b)=fb f a+fb (λj=>f (a+j)) b
 |0=>rfl
 |b+1=>by rw[←pt,fb,fb,H0 f a b];omega
theorem zu (f:Nat→Nat)(b:Nat):∀a:Nat,fb f (a*b)=fb (λi=>fb (λj=>f (i*b+j)) b) a
 |0=>by rw[Nat.zero_mul];rfl
 |a+1=>by rw[ji,nz,H0,zu f b a];rfl
theorem CB (f:Nat→Nat)(a:Nat):∀b:Nat,fb f a≤fb f (a+b)
 |0=>aQ _
 |b+1=>by rw[←pt,fb];have:=CB f a b;omega
theorem y8 {f:Nat→Nat}{a b:Nat}(h:a≤b):fb f a≤fb f b:=by
 obtain⟨k,rfl⟩:=Nat.exists_eq_add_of_le h;exact CB f a k
theorem oS {f:Nat→Nat}{i n:Nat}(h:i<n):f i≤fb f n:=by
 have:=y8 (f:=f) (show i+1≤n from h)
 rw[fb]at this;omega
theorem Rv {f:Nat→Nat}{i j n:Nat}(b:i<n)(d:j<n)(e:i≠j):f i+f j≤fb f n:=by
 rcases Nat.lt_or_gt_of_ne e with c|c
 ·have h1:=oS (f:=f) c
  have a:=y8 (f:=f) (show j+1≤n from d)
  rw[fb]at a;omega
 ·have h1:=oS (f:=f) c
  have a:=y8 (f:=f) (show i+1≤n from b)
  rw[fb]at a;omega
theorem sum_range' (f:Nat→Nat):∀(k s:Nat),((List.range' s k).map f).sum+fb f s=fb f (s+k)
 |0,s=>by simp
 |k+1,s=>by
  rw[List.range'_succ,eV,ot]
  have:=sum_range' f k (s+1)
  rw[fb]at this
  rw[show s+(k+1)=s+1+k by omega];omega
theorem w7 (f:Nat→Nat):∀n:Nat,fb f (n+1)=f 0+fb (λi=>f (i+1)) n
 |0=>by simp[fb]
 |n+1=>by rw[fb,w7 f n,fb];omega
theorem H3 {α:Type}(f:α→Nat)(d:α):∀l:List α,(l.map f).sum=fb (λk=>f (l.getD k d)) l.length
 | []=>rfl
 |a::l=>by
  rw[eV,ot,eU,w7,H3 f d l];rfl
theorem Jr {β:Type}{f g:β→Nat}:∀{l:List β},(∀x∈l,f x≤g x)→(l.map f).sum≤(l.map g).sum
 | [],_=>aQ _
 |x::l,h=>by
  rw[eV,eV,ot,ot]
  have:=h x (by simp)
  have:=Jr (f:=f) (g:=g) (l:=l) λy hy=>h y (by simp[hy])
  omega
theorem Li {β:Type}(f:β→Nat)(k:Nat):∀l:List β,(l.map λx=>f x*k).sum=(l.map f).sum*k
 | []=>by simp
 |x::l=>by rw[eV,eV,ot,ot,Li f k l,ji]
def Au (c:Nat→Nat→Nat)(n i:Nat):Nat:=fb (c i) (n+1)
theorem RS {nt nf n:Nat}{cs:Cs}(h:gH nt nf n cs):fb (Au (λi j=>(cs.at_ n i j).length) n) n=cs.its.length:=by
 have:=H3 List.length [] cs.sp
 rw[h.tot,h.Hg,zu]at this;exact this.symm
theorem RQ {c:Nat→Nat→Nat}{n a s k:Nat}(h:s+k≤n+1):((List.range' s k).map (c a)).sum≤Au c n a:=by
 have h1:=sum_range' (c a) k s
 have b:=y8 (f:=c a) h
 unfold Au;omega
theorem yg {c:Nat→Nat→Nat}{n tqo l a K:Nat}(ht:tqo≤n)(b:∀en,a<en→en<tqo→l7 c tqo l en≤K):l7 c tqo (l+1) a≤Au c n a*K:=by
 show((List.range' (a+1) (tqo-(l+1)-a)).map λen=>c a en*l7 c tqo l en).sum≤_
 refine cz (Jr (g:=λen=>c a en*K) λen d=> ?_) ?_
 ·obtain⟨i,f,rfl⟩:=List.mem_range'.1 d
  exact tA _ (b _ zE zE)
 ·rw[Li]
  by_cases e:tqo-(l+1)-a=0
  ·rw[e];simp
  ·exact fJ _ (RQ zE)
theorem UJ {c:Nat→Nat→Nat}{n frm tqo A M:Nat}(ht:tqo≤n)(d:Au c n frm≤A)(g:∀i,frm<i→i<n→Au c n i≤M):l7 c tqo 1 frm≤A*M∧l7 c tqo 2 frm≤A*(M*M):=by
 have h:∀en,frm<en→en<tqo→l7 c tqo 0 en≤M:=λen h1 j=>cz (oS (f:=c en) (show tqo<n+1 by omega)) (g en h1 zE)
 have h1:∀en,frm<en→en<tqo→l7 c tqo 1 en≤M*M:=λen h1 j=>cz (yg (l:=0) ht λe a b=>h e zE b) (fJ _ (g en h1 zE))
 exact⟨cz (yg (l:=0) ht h) (fJ _ d),cz (yg (l:=1) ht h1) (fJ _ d)⟩
theorem UO:∀A,A≤300→A*((300-A)*(300-A))≤4000000:=by decide+kernel
theorem VW:∀A,A≤300→A*(300-A)≤4000000:=by decide+kernel
theorem BU {nt nf n:Nat}{cs:Cs}(h:gH nt nf n cs)(o:cs.its.length≤300){frm tqo l:Nat}(p:frm<tqo)(ht:tqo≤n)(h1:1≤l)(b:l≤2):l7 (λi j=>(cs.at_ n i j).length) tqo l frm≤4000000:=by
 obtain⟨c,e⟩:∃c:Nat→Nat→Nat,c=λi j=>(cs.at_ n i j).length:=⟨_,rfl⟩
 have a:=RS h
 rw[←e]at a⊢
 have d:frm<n:=by omega
 have q:=oS (f:=Au c n) d
 have g:∀i,frm<i→i<n→Au c n i≤300-Au c n frm:=λi h1 b=>by
  have:=Rv (f:=Au c n) d b zE;omega
 obtain⟨k,m⟩:=UJ (c:=c) ht (aQ _) g
 rcases(show l=1∨l=2 by omega)with rfl|rfl
 ·exact cz k (VW _ zE)
 ·exact cz m (UO _ zE)
structure rK (nt nf:Nat)(Q:Qr):Prop where
 n:Q.n≤12
 mt:xG nt Q.mt
 rn:Q.rules.length≤40
 xn:Q.aK.length≤100
 rule:∀r∈Q.rules,(1≤r.kids∧r.kids≤3)∧dp nt nf r.graph∧r.graph.length≤60
 lex:∀x∈Q.aK,dp nt nf x.graph∧x.graph.length≤60
theorem rK.vg {nt nf:Nat}{Q:Qr}(h:rK nt nf Q){i:Nat}(a:i<Q.rules.length):(1≤(Q.rules.getD i mc).kids∧(Q.rules.getD i mc).kids≤3)∧dp nt nf (Q.rules.getD i mc).graph∧(Q.rules.getD i mc).graph.length≤60:=by
 rw[aZ,aj a];exact h.rule _ (fq a)
theorem rK.XL {nt nf:Nat}{Q:Qr}(h:rK nt nf Q){i:Nat}(a:i<Q.aK.length):dp nt nf (Q.aK.getD i LI).graph∧(Q.aK.getD i LI).graph.length≤60:=by
 rw[aZ,aj a];exact h.lex _ (fq a)
theorem rG {α:Type}(p:α→Bool)(d:α)(k:Nat)(l:List α):((List.range l.length).map λi=>if p (l.getD i d)=true then k else 0).sum=l.countP p*k:=by
 have h1:((List.range l.length).map λi=>if p (l.getD i d)=true then k else 0).sum=fb (λi=>if p (l.getD i d)=true then k else 0) l.length:=by
  have:=sum_range' (λi=>if p (l.getD i d)=true then k else 0) l.length 0
  rw[←List.range_eq_range',iW]at this;exact this
 rw[h1]
 induction l with
 |nil=>simp[fb]
 |cons a l b=>
  rw[eU,w7,sL]
  have c:((List.range l.length).map λi=>if p (l.getD i d)=true then k else 0).sum=fb (λi=>if p (l.getD i d)=true then k else 0) l.length:=by
   have:=sum_range' (λi=>if p (l.getD i d)=true then k else 0) l.length 0
   rw[←List.range_eq_range',iW]at this;exact this
  have e:=b c
  show(if p a=true then k else 0)+fb (λi=>if p (l.getD i d)=true then k else 0) l.length=_
  rw[e]
  split
  ·rw[ji];omega
  ·simp
def QZ (Q:Qr):Nat:=Q.rules.countP λr=>decide (1<r.kids)
theorem Qq {nt nf:Nat}{Q:Qr}(h:rK nt nf Q):gi Q+QZ Q=Q.rules.length:=by
 unfold gi QZ
 have:=h.rule
 generalize Q.rules=l at this
 induction l with
 |nil=>rfl
 |cons a l b=>
  have d:=(this a (by simp)).1
  have:=b λr c=>this r (by simp[c])
  rw[sL,sL,eU]
  by_cases e:a.kids=1
  ·rw[aB (dI e),aA (by simp;omega)];omega
  ·rw[aA (by simp[e]),aB (dI zE)];omega
def Cy (Q:Qr)(frm tqo:Nat):Nat:=if tqo=frm+1 then 100 else QZ Q*4000000
theorem zi {nt nf:Nat}{Q:Qr}(d:rK nt nf Q){frm tqo m:Nat}(e:frm<tqo)(ht:tqo≤Q.n){c cs:Cs}(f:gH nt nf Q.n c)(g:c.its.length≤300)(h:iG nt nf Q.n frm tqo (λi j=>(c.at_ Q.n i j).length) m cs){i:Nat}(l:i<Q.rules.length):
 iG nt nf Q.n frm tqo (λi j=>(c.at_ Q.n i j).length) m (qh Q frm tqo cs i)∧Grow Q.n frm tqo cs (qh Q frm tqo cs i) (if decide (1<(Q.rules.getD i mc).kids)=true then 4000000 else 0):=by
 obtain⟨⟨q,k3⟩,o,_⟩:=d.vg l;unfold qh
 split
 ·rename_i p
  obtain⟨hk,r⟩:=p;rw[aB (dI hk)];obtain⟨a,b⟩:=yk d.n d.mt e ht _ ((Q.rules.getD i mc).kids.toNat-1) cs _ [] frm m h o (.inr ⟨rfl,by omega⟩) e (λk hk=>by cases hk);exact⟨a,b.mono (BU f g e ht zE zE)⟩
 ·exact⟨h,(Grow.refl ..).mono (aP _)⟩
theorem zF {nt nf:Nat}{Q:Qr}(d:rK nt nf Q){w:ab}{frm tqo m:Nat}{c:Nat→Nat→Nat}(g:frm<tqo)(ht:tqo≤Q.n){cs:Cs}(h:iG nt nf Q.n frm tqo c m cs){i:Nat}(j:i<Q.aK.length):
 iG nt nf Q.n frm tqo c m (qY Q w frm tqo cs i)∧Grow Q.n frm tqo cs (qY Q w frm tqo cs i) 1:=by
 obtain⟨f,l⟩:=d.XL j;unfold qY
 split
 ·obtain⟨f1,f2,_⟩:=tu f f.pos
  obtain⟨a,b⟩:=yO d.n h.ok (e:=⟨frm,tqo,0,gY (Q.aK.getD i LI).graph 0⟩) (w:=⟨-1,i,[]⟩) ⟨g,ht,aP _,f1,cz f2 l⟩ (λk hk=>by cases hk);exact⟨h.grow a b ht,b⟩
 ·exact⟨h,(Grow.refl ..).mono (aP _)⟩
theorem OW {nt nf:Nat}{Q:Qr}(c:rK nt nf Q){words:List ab}{frm tqo:Nat}(e:frm<tqo)(ht:tqo≤Q.n){cs:Cs}(h:gH nt nf Q.n cs)(g:cs.its.length≤300):
 iG nt nf Q.n frm tqo (λi j=>(cs.at_ Q.n i j).length) 0 (lD Q words frm tqo cs)∧Grow Q.n frm tqo cs (lD Q words frm tqo cs) (Cy Q frm tqo):=by
 have f:iG nt nf Q.n frm tqo (λi j=>(cs.at_ Q.n i j).length) 0 cs:=⟨h,λ_ _ _ _=>rfl,aP _⟩
 unfold lD Cy
 split
 ·obtain⟨a,b⟩:=gq (n:=Q.n) (frm:=frm) (tqo:=tqo) (qY Q (words.getD frm []) frm tqo) (λ_=>1) _ (List.range Q.aK.length) cs f (λk i d h1=>zF c e ht h1 (cU.1 d))
  rw[jK,db,e8]at b;exact⟨a,b.mono c.xn⟩
 ·obtain⟨a,b⟩:=gq (n:=Q.n) (frm:=frm) (tqo:=tqo) (qh Q frm tqo) _ _ (List.range Q.rules.length) cs f (λk i d h1=>zi c e ht h g h1 (cU.1 d))
  rw[rG (λr:ry=>decide (1<r.kids)) mc 4000000 Q.rules]at b;exact⟨a,b⟩
structure I0 (nt nf n frm tqo ch:Nat)(cs fA:Cs)(a:Nat):Prop where
 ok:gH nt nf n fA
 gr:Grow n frm tqo cs fA a
 news:∃news,fA.at_ n frm tqo=cs.at_ n frm tqo++news∧news.length≤a∧∀e∈news,(fA.ed e).cV=ch
theorem I0.refl {nt nf n frm tqo ch:Nat}{cs:Cs}(h:gH nt nf n cs):I0 nt nf n frm tqo ch cs cs 0:=⟨h,Grow.refl ..,[],by simp,aQ _,λe h=>by cases h⟩
theorem I0.mono {nt nf n frm tqo ch:Nat}{cs fA:Cs}{a b:Nat}(h:I0 nt nf n frm tqo ch cs fA a)(c:a≤b):I0 nt nf n frm tqo ch cs fA b:=
 let⟨news,h1,e,d⟩:=h.news
 ⟨h.ok,h.gr.mono c,news,h1,by omega,d⟩
theorem I0.trans {nt nf n frm tqo ch:Nat}{x y z:Cs}{a b:Nat}(h:I0 nt nf n frm tqo ch x y a)(k:I0 nt nf n frm tqo ch y z b):I0 nt nf n frm tqo ch x z (a+b):=by
 obtain⟨u,h1,f,c⟩:=h.news;obtain⟨v,d,g,k3⟩:=k.news;refine⟨k.ok,h.gr.trans k.gr,u++v,by rw[d,h1,cr],by rw[bJ];omega,λe he=> ?_⟩
 rcases cI.1 he with he|he
 ·rw[k.gr.ed e (h.ok.qP (show e∈y.at_ n frm tqo by rw[h1];simp[he]))];exact c e he
 ·exact k3 e he
theorem Te {n:Nat}(cs:Cs)(e:o8)(w:o9)(h:slt n e.frm e.tqo<cs.sp.length):∃news,(iK n cs e w).at_ n e.frm e.tqo=cs.at_ n e.frm e.tqo++news∧news.length≤1∧∀i∈news,(iK n cs e w).ed i=e:=by
 unfold iK
 cases b:xN cs.its (fD e)with
 |some i=>exact⟨[],by simp[Cs.at_],aP _,λi h=>by cases h⟩
 |none=>
  refine⟨[cs.its.length],?_,aQ _,λi a=> ?_⟩
  ·unfold Cs.at_
   dsimp only
   rw[getD_modify (show e.frm*(n+1)+e.tqo<cs.sp.length from h),aB rfl]
  ·rw[bN.1 a]
   unfold Cs.ed
   dsimp only
   rw[aZ,jM (aQ _),eX];rfl
theorem Lx {nt nf:Nat}{Q:Qr}(c:rK nt nf Q){frm tqo:Nat}(d:frm<tqo)(ht:tqo≤Q.n){cs:Cs}(h:gH nt nf Q.n cs){e ch i:Nat}(he:e<cs.its.length)(f:(cs.ed e).cV=ch)(s:ch<3)(g:i<Q.rules.length):
 I0 nt nf Q.n frm tqo (ch+1) cs (pR Q frm tqo e cs i) (if decide ((Q.rules.getD i mc).kids=1)=true then 1 else 0):=by
 obtain⟨_,l,_⟩:=c.vg g;unfold pR
 by_cases hk:(Q.rules.getD i mc).kids=1
 ·rw[aA (λx=>x hk),aB (dI hk)]
  cases hy:jo Q cs i (Q.rules.getD i mc).graph 1 e with
  |none=>exact(I0.refl h).mono (aP _)
  |some x=>
   dsimp only
   obtain⟨m,o,_⟩:=wB c.mt h l he hy;obtain⟨m1,m2⟩:=qc m o;obtain⟨a,b⟩:=yO c.n h (e:=⟨frm,tqo,(cs.ed e).cV+1,lJ x⟩) (w:=⟨i,0,[e]⟩) ⟨d,ht,by dsimp only;omega,m1,m2⟩ (λk hk=>by rw[bN.1 hk];exact he);obtain⟨news,p,q,n3⟩:=Te cs ⟨frm,tqo,(cs.ed e).cV+1,lJ x⟩ ⟨i,0,[e]⟩ (by rw[h.Hg];exact sk (by dsimp only;omega) ht);exact⟨a,b,news,p,q,λj r=>by rw[n3 j r];dsimp only;rw[f]⟩
 ·rw[aB hk,aA (λx=>hk (gU x))]
  exact I0.refl h
theorem AA {nt nf:Nat}{Q:Qr}(a:rK nt nf Q){frm tqo:Nat}(b:frm<tqo)(ht:tqo≤Q.n){e ch:Nat}(c:ch<3):∀(l:List Nat) (cs:Cs),(∀i∈l,i<Q.rules.length)→gH nt nf Q.n cs→e<cs.its.length→(cs.ed e).cV=ch→
 I0 nt nf Q.n frm tqo (ch+1) cs (l.foldl (pR Q frm tqo e) cs) ((l.map λi=>if decide ((Q.rules.getD i mc).kids=1)=true then 1 else 0).sum)
 | [],cs,_,h,_,_=>I0.refl h
 |i::l,cs,d,h,he,f=>by
  have h1:=Lx a b ht h he f c (d i (by simp))
  have g:=AA a b ht c l (pR Q frm tqo e cs i) (λj k=>d j (by simp[k])) h1.ok (fI he h1.gr.more) (by rw[h1.gr.ed e he];exact f)
  exact h1.trans g
theorem CP {nt nf:Nat}{Q:Qr}(a:rK nt nf Q){frm tqo:Nat}(b:frm<tqo)(ht:tqo≤Q.n){e ch:Nat}(c:ch<3){cs:Cs}(h:gH nt nf Q.n cs)(he:e<cs.its.length)(d:(cs.ed e).cV=ch):
 I0 nt nf Q.n frm tqo (ch+1) cs ((List.range Q.rules.length).foldl (pR Q frm tqo e) cs) (gi Q):=by
 have:=AA a b ht c (List.range Q.rules.length) cs (λi f=>cU.1 f) h he d
 rw[rG (λr:ry=>decide (r.kids=1)) mc 1 Q.rules,e8]at this;exact this
def vX (Q:Qr)(cs:Cs)(l:List Nat):Nat:=(l.map λe=>jW (gi Q) (3-(cs.ed e).cV)).sum
theorem oM {α:Type}(f:α→Nat){l:List α}{k:Nat}{a:α}(h:l[k]?=some a):((l.drop k).map f).sum=f a+((l.drop (k+1)).map f).sum:=by
 rw[bA h,eV,ot]
theorem uE {α:Type}{f g:α→Nat}{l:List α}(h:∀a∈l,f a=g a):(l.map f).sum=(l.map g).sum:=by rw[qw h]
theorem HL {nt nf:Nat}{Q:Qr}(m:rK nt nf Q){frm tqo:Nat}(o:frm<tqo)(ht:tqo≤Q.n){cs:Cs}(h:gH nt nf Q.n cs){k e:Nat}(hk:(cs.at_ Q.n frm tqo)[k]?=some e)(q:(cs.ed e).cV≠3){fA:Cs}(b:fA=(List.range Q.rules.length).foldl (pR Q frm tqo e) cs):
 gH nt nf Q.n fA∧Grow Q.n frm tqo cs fA (gi Q)∧k+1≤(fA.at_ Q.n frm tqo).length∧qg Q fA ((fA.at_ Q.n frm tqo).drop (k+1))+1≤qg Q cs ((cs.at_ Q.n frm tqo).drop k)∧gi Q+vX Q fA ((fA.at_ Q.n frm tqo).drop (k+1))≤vX Q cs ((cs.at_ Q.n frm tqo).drop k):=by
 have c:=aa hk
 have d:=h.qP c
 have r:(cs.ed e).cV≤3:=by
  unfold Cs.ed;rw[aZ,aj d];exact(h.gr _ (fq d)).2.2.1
 have hu:=CP m o ht (e:=e) (ch:=(cs.ed e).cV) zE h d rfl
 rw[←b]at hu;obtain⟨news,f,g,n3⟩:=hu.news
 have s:=ag hk
 have hd:(fA.at_ Q.n frm tqo).drop (k+1)=(cs.at_ Q.n frm tqo).drop (k+1)++news:=by rw[f,List.drop_append_of_le_length zE]
 have hold:∀j∈(cs.at_ Q.n frm tqo).drop (k+1),fA.ed j=cs.ed j:=λj a=>hu.gr.ed j (h.qP (HU a))
 have p:3-(cs.ed e).cV=(2-(cs.ed e).cV)+1:=by omega
 have i:jW (gi Q) (3-(cs.ed e).cV)=gi Q*(1+jW (gi Q) (2-(cs.ed e).cV)):=by rw[p];rfl
 have l:∀j∈news,jW (gi Q) (3-(fA.ed j).cV)=jW (gi Q) (2-(cs.ed e).cV):=λj a=>by rw[n3 j a];congr 1;omega
 have hmul:news.length*(1+jW (gi Q) (2-(cs.ed e).cV))≤gi Q*(1+jW (gi Q) (2-(cs.ed e).cV)):=fJ _ g
 refine⟨hu.ok,hu.gr,by rw[f,bJ];omega,?_,?_⟩
 ·unfold qg
  rw[hd,cL,List.sum_append,oM _ hk,uE (λj a=>by rw[hold j a]:∀j∈(cs.at_ Q.n frm tqo).drop (k+1),1+jW (gi Q) (3-(fA.ed j).cV)=1+jW (gi Q) (3-(cs.ed j).cV)),
   uE (λj a=>by rw[l j a]:∀j∈news,1+jW (gi Q) (3-(fA.ed j).cV)=1+jW (gi Q) (2-(cs.ed e).cV)),jK,i]
  omega
 ·unfold vX
  rw[hd,cL,List.sum_append,oM _ hk,uE (λj a=>by rw[hold j a]:∀j∈(cs.at_ Q.n frm tqo).drop (k+1),jW (gi Q) (3-(fA.ed j).cV)=jW (gi Q) (3-(cs.ed j).cV)),
   uE (λj a=>by rw[l j a]:∀j∈news,jW (gi Q) (3-(fA.ed j).cV)=jW (gi Q) (2-(cs.ed e).cV)),jK,i]
  rw[Nat.mul_add,e8]at hmul⊢
  have:news.length*jW (gi Q) (2-(cs.ed e).cV)≤gi Q*jW (gi Q) (2-(cs.ed e).cV):=fJ _ g
  omega
theorem EI {nt nf:Nat}{Q:Qr}(d:rK nt nf Q){frm tqo:Nat}(e:frm<tqo)(ht:tqo≤Q.n):∀(f k:Nat) (cs:Cs),gH nt nf Q.n cs→gH nt nf Q.n (pS Q frm tqo f k cs)∧Grow Q.n frm tqo cs (pS Q frm tqo f k cs) (vX Q cs ((cs.at_ Q.n frm tqo).drop k))
 |0,k,cs,h=>⟨h,(Grow.refl ..).mono (aP _)⟩
 |f+1,k,cs,h=>by
  rw[pS]
  split
  ·rename_i hk
   have c:(cs.at_ Q.n frm tqo)[k]?=some ((cs.at_ Q.n frm tqo).getD k 0):=by rw[aZ,aj hk];rfl
   split
   ·obtain⟨a,b⟩:=EI d e ht f (k+1) cs h
    refine⟨a,b.mono ?_⟩;unfold vX
    rw[oM _ c];omega
   ·rename_i g
    obtain⟨s1,s2,j,l,i⟩:=HL d e ht h c g rfl;obtain⟨a,b⟩:=EI d e ht f (k+1) _ s1;exact⟨a,(s2.trans b).mono i⟩
  ·exact⟨h,(Grow.refl ..).mono (aP _)⟩
theorem R2 (r:Nat):∀k:Nat,k≤3→jW r k≤jW r 3
 |0,_=>aP _
 |1,_=>by
  show r*(1+0)≤r*(1+r*(1+r*(1+0)))
  exact tA _ zE
 |2,_=>by
  show r*(1+r*(1+0))≤r*(1+r*(1+r*(1+0)))
  exact tA _ (Nat.add_le_add_left (tA _ zE) _)
 |3,_=>aQ _
def vy:Nat:=1117240000000
theorem ajB:∀r,r≤40→(40-r)*4000000*(1+jW r 3)≤1117240000000:=by decide+kernel
theorem ajC:∀r,r≤40→100*(1+jW r 3)≤1117240000000:=by decide+kernel
def WM (len frm:Nat)(cs:Cs):Prop:=∀i,i<cs.its.length→(cs.ed i).tqo-(cs.ed i).frm<len∨((cs.ed i).tqo-(cs.ed i).frm=len∧(cs.ed i).frm<frm)
theorem Mc {nt nf n len frm:Nat}{cs:Cs}(h:gH nt nf n cs)(a:WM len frm cs)(ht:frm+len≤n):cs.at_ n frm (frm+len)=[]:=by
 cases e:cs.at_ n frm (frm+len)with
 |nil=>rfl
 |cons x l=>
  have hx:x∈cs.sp.getD (slt n frm (frm+len)) []:=by show x∈cs.at_ n frm (frm+len);rw[e];simp
  obtain⟨h1,b⟩:=h.prt _ _ x ht hx
  have:=a x (h.I7 hx)
  omega
theorem BL {nt nf:Nat}{Q:Qr}(a:rK nt nf Q){frm tqo:Nat}:Cy Q frm tqo*(1+jW (gi Q) 3)≤vy:=by
 have h1:=Qq a
 have b:=a.rn
 unfold Cy vy
 split
 ·exact ajC _ zE
 ·refine cz (fJ _ ?_) (ajB (gi Q) zE)
  exact fJ _ zE
theorem VU (Q:Qr)(cs:Cs)(l:List Nat):vX Q cs l≤l.length*jW (gi Q) 3:=by
 unfold vX;rw[←jK]
 exact Jr λe _=>R2 _ _ zE
structure nV (nt nf n len frm:Nat)(cs:Cs):Prop where
 ok:gH nt nf n cs
 BW:cs.its.length≤300
 bb:∀it∈cs.its,it.bb.length≤vy
 fresh:WM len frm cs
theorem nV.room {nt nf n len frm:Nat}{cs:Cs}(h:nV nt nf n len frm cs):Room cs vy:=⟨by have:=h.BW;unfold vy;omega,λit hit=>by have:=h.bb it hit;unfold vy at*;omega⟩
theorem EC {nt nf len:Nat}{Q:Qr}(a:rK nt nf Q){words:List ab}{frm:Nat}(f:1≤len)(ht:frm+len≤Q.n){cs:Cs}(h:nV nt nf Q.n len frm cs):
 gH nt nf Q.n (lD Q words frm (frm+len) cs)∧Grow Q.n frm (frm+len) cs (lD Q words frm (frm+len) cs) (Cy Q frm (frm+len))∧Cy Q frm (frm+len)+vX Q (lD Q words frm (frm+len) cs) ((lD Q words frm (frm+len) cs).at_ Q.n frm (frm+len))≤vy:=by
 obtain⟨c,b⟩:=OW a (words:=words) (show frm<frm+len by omega) ht h.ok h.BW;refine⟨c.ok,b,?_⟩
 have g:=b.own
 have i:(cs.sp.getD (slt Q.n frm (frm+len)) []).length=0:=by
  have:=Mc h.ok h.fresh ht
  show(cs.at_ Q.n frm (frm+len)).length=0
  rw[this];rfl
 have h1:=VU Q (lD Q words frm (frm+len) cs) ((lD Q words frm (frm+len) cs).at_ Q.n frm (frm+len))
 have d:((lD Q words frm (frm+len) cs).at_ Q.n frm (frm+len)).length≤Cy Q frm (frm+len):=by
  show((lD Q words frm (frm+len) cs).sp.getD (slt Q.n frm (frm+len)) []).length≤_
  omega
 have e:=BL a (frm:=frm) (tqo:=frm+len)
 rw[Nat.mul_add,e8]at e
 have j:=fJ (jW (gi Q) 3) d
 omega
theorem Rj {nt nf len:Nat}{Q:Qr}(a:rK nt nf Q){words:List ab}{frm:Nat}(c:1≤len)(ht:frm+len≤Q.n){cs:Cs}(h:nV nt nf Q.n len frm cs):
 gH nt nf Q.n (oQ Q words frm (frm+len) cs)∧Grow Q.n frm (frm+len) cs (oQ Q words frm (frm+len) cs) vy:=by
 obtain⟨d,e,f⟩:=EC a (words:=words) c ht h;obtain⟨g,b⟩:=EI a (show frm<frm+len by omega) ht (qg Q (lD Q words frm (frm+len) cs) ((lD Q words frm (frm+len) cs).at_ Q.n frm (frm+len))+1) 0 (lD Q words frm (frm+len) cs) d;rw[List.drop_zero]at b;exact⟨g,(e.trans b).mono f⟩
theorem Gv {nt nf len:Nat}{Q:Qr}(b:rK nt nf Q){words:List ab}{frm:Nat}(d:1≤len)(ht:frm+len≤Q.n){cs:Cs}(h:nV nt nf Q.n len frm cs)(hm:¬300<(oQ Q words frm (frm+len) cs).its.length):
 nV nt nf Q.n len (frm+1) (oQ Q words frm (frm+len) cs):=by
 obtain⟨g1,g2⟩:=Rj b (words:=words) d ht h;refine⟨g1,by omega,λit hit=> ?_,λi a=> ?_⟩
 ·obtain⟨i,a,rfl⟩:=lB.1 hit
  have e:(oQ Q words frm (frm+len) cs).its[i]=(oQ Q words frm (frm+len) cs).its.getD i er:=by rw[aZ,aj a];rfl
  rw[e]
  by_cases c:i<cs.its.length
  ·have g:=h.fresh i c
   rw[g2.far i c (λj=>by omega),aZ,aj c];exact h.bb _ (fq c)
  ·have h1:=g2.bb i a
   have e2:cs.its.getD i er=er:=by rw[aZ,fT zE];rfl
   rw[e2]at h1
   have:er.bb.length=0:=rfl
   omega
 ·by_cases c:i<cs.its.length
  ·rw[g2.ed i c]
   have:=h.fresh i c;omega
  ·obtain⟨f,e2⟩:=g2.new i zE a
   rw[f,e2];omega
theorem Lc {nt nf n len frm:Nat}{cs:Cs}(h:nV nt nf n len frm cs):nV nt nf n (len+1) 0 cs:=⟨h.ok,h.BW,h.bb,λi a=>by have:=h.fresh i a;omega⟩
def xK (c:Nat→Nat→Nat)(tqo:Nat):Nat→Nat→Nat
 |0,_=>1
 |l+1,en=>l7 c tqo l en
def nb (l a tqo:Nat):Nat:=if l=0 then tqo else a+1
def rO (l a tqo:Nat):Nat:=if l=0 then 1 else tqo-l-a
def tc (Q:Qr)(rule frm tqo l:Nat)(x:de)(kids:List Nat)(en:Nat)(cs:Cs)(e:Nat):Cs:=match jo Q cs rule x (kids.length+1) e with
 |none=>cs
 |some y=>match l with
  |0=>iK Q.n cs ⟨frm,tqo,0,lJ y⟩ ⟨rule,0,kids++ [e]⟩
  |l+1=>rQ Q rule frm tqo l cs y (kids++ [e]) en
def MY (Q:Qr)(rule frm tqo l:Nat)(x:de)(kids:List Nat)(a:Nat)(cs:Cs)(en:Nat):Cs:=(cs.at_ Q.n a en).foldl (tc Q rule frm tqo l x kids en) cs
theorem Km (Q:Qr)(rule frm tqo l:Nat)(cs:Cs)(x:de)(kids:List Nat)(a:Nat):rQ Q rule frm tqo l cs x kids a=(List.range' (nb l a tqo) (rO l a tqo)).foldl (MY Q rule frm tqo l x kids a) cs:=by
 cases l with
 |zero=>rfl
 |succ l=>rfl
theorem UI (c:Nat→Nat→Nat)(tqo l a:Nat):l7 c tqo l a=((List.range' (nb l a tqo) (rO l a tqo)).map λen=>c a en*xK c tqo l en).sum:=by
 cases l with
 |zero=>show c a tqo=(([tqo].map λen=>c a en*1)).sum;simp
 |succ l=>rfl
theorem DK {l a tqo i:Nat}(c:a<tqo)(b:i<rO l a tqo):a<nb l a tqo+i∧nb l a tqo+i≤tqo∧(l=0→nb l a tqo+i=tqo)∧(1≤l→nb l a tqo+i<tqo):=by
 unfold nb rO at*
 by_cases h:l=0
 ·rw[aB h]at b⊢;omega
 ·rw[aA h]at b⊢;omega
theorem FN {nt nf:Nat}{Q:Qr}(d:Q.n≤12)(f:xG nt Q.mt){rule frm tqo:Nat}(g:frm<tqo)(ht:tqo≤Q.n)(c:Nat→Nat→Nat){l:Nat}{cs:Cs}{x:de}{kids:List Nat}{m en e:Nat}(a:iG nt nf Q.n frm tqo c m cs)(hx:dp nt nf x)(h:frm<en∧(1≤l→en<tqo))(hk:∀k∈kids,k<cs.its.length)(he:e<cs.its.length):
 iG nt nf Q.n frm tqo c m (tc Q rule frm tqo l x kids en cs e)∧Grow Q.n frm tqo cs (tc Q rule frm tqo l x kids en cs e) (xK c tqo l en):=by
 unfold tc
 cases hy:jo Q cs rule x (kids.length+1) e with
 |none=>exact⟨a,(Grow.refl ..).mono (aP _)⟩
 |some y=>
  dsimp only
  obtain⟨i,p,_⟩:=wB f a.ok hx he hy
  have j:∀k∈kids++ [e],k<cs.its.length:=λk b=>by
   rcases cI.1 b with b|b
   ·exact hk k b
   ·rw[bN.1 b];exact he
  cases l with
  |zero=>
   obtain⟨m1,m2⟩:=qc i p;obtain⟨q,a2⟩:=yO d a.ok (e:=⟨frm,tqo,0,lJ y⟩) (w:=⟨rule,0,kids++ [e]⟩) ⟨g,ht,aP _,m1,m2⟩ j;exact⟨a.grow q a2 ht,a2⟩
  |succ l=>
   have r:iG nt nf Q.n frm tqo c cs.its.length cs:=⟨a.ok,a.len,aQ _⟩
   obtain⟨o,e2⟩:=yk d f g ht c l cs y (kids++ [e]) en _ r i (.inl h.1) (h.2 zE) j;exact⟨⟨o.ok,o.len,cz a.BW e2.more⟩,e2⟩
theorem BV {nt nf:Nat}{Q:Qr}(g:Q.n≤12)(h:xG nt Q.mt){rule frm tqo:Nat}(i:frm<tqo)(ht:tqo≤Q.n)(c:Nat→Nat→Nat){l:Nat}{cs:Cs}{x:de}{kids:List Nat}{m en:Nat}(j:iG nt nf Q.n frm tqo c m cs)(hx:dp nt nf x)(o:frm<en∧(1≤l→en<tqo))(hk:∀k∈kids,k<cs.its.length)(L:List Nat)(p:∀e∈L,e<cs.its.length):
 iG nt nf Q.n frm tqo c m (L.foldl (tc Q rule frm tqo l x kids en) cs)∧Grow Q.n frm tqo cs (L.foldl (tc Q rule frm tqo l x kids en) cs) (L.length*xK c tqo l en):=by
 have:=gq (n:=Q.n) (frm:=frm) (tqo:=tqo) (tc Q rule frm tqo l x kids en) (λ_=>xK c tqo l en) (λfA=>iG nt nf Q.n frm tqo c m fA∧cs.its.length≤fA.its.length) L cs ⟨j,aQ _⟩ (λq e he ⟨h1,d⟩=>by
  obtain⟨a,b⟩:=FN g h i ht c (l:=l) (rule:=rule) h1 hx o (λk f=>fI (hk k f) d) (fI (p e he) d)
  exact⟨⟨a,cz d b.more⟩,b⟩)
 rw[jK]at this;exact⟨this.1.1,this.2⟩
theorem PU {nt nf:Nat}{Q:Qr}(g:Q.n≤12)(i:xG nt Q.mt){rule frm tqo:Nat}(j:frm<tqo)(ht:tqo≤Q.n)(c:Nat→Nat→Nat){l a:Nat}{cs:Cs}{x:de}{kids:List Nat}{m:Nat}(o:iG nt nf Q.n frm tqo c m cs)(hx:dp nt nf x)(u:frm<a∨(a=frm∧1≤l))(hk:∀k∈kids,k<cs.its.length)(E:List Nat)(p:∀en∈E,a<en∧en≤tqo∧(1≤l→en<tqo)):
 iG nt nf Q.n frm tqo c m (E.foldl (MY Q rule frm tqo l x kids a) cs)∧Grow Q.n frm tqo cs (E.foldl (MY Q rule frm tqo l x kids a) cs) ((E.map λen=>c a en*xK c tqo l en).sum):=by
 have:=gq (n:=Q.n) (frm:=frm) (tqo:=tqo) (MY Q rule frm tqo l x kids a) (λen=>c a en*xK c tqo l en) (λfA=>iG nt nf Q.n frm tqo c m fA∧cs.its.length≤fA.its.length) E cs ⟨o,aQ _⟩ (λq en r ⟨h1,f⟩=>by
  obtain⟨v,e2,s⟩:=p en r;obtain⟨t,b⟩:=BV g i j ht c (l:=l) (rule:=rule) h1 hx (en:=en) ⟨by omega,s⟩ (λk d=>fI (hk k d) f) (q.at_ Q.n a en) (λe he=>h1.ok.qP he);rw[h1.len a en zE (by intro h;omega)]at b
  exact⟨⟨t,cz f b.more⟩,b⟩)
 exact⟨this.1.1,this.2⟩
theorem w8 {f:Nat→Nat}{E:List Nat}{i en:Nat}(h:E[i]?=some en):((E.take i).map f).sum+f en≤(E.map f).sum:=by
 have a:=(eh.1 h)
 obtain⟨a,rfl⟩:=a
 have e:E=E.take i++E[i]::E.drop (i+1):=by rw[←List.drop_eq_getElem_cons a,jN]
 have e2:(E.map f).sum=((E.take i).map f).sum+(f E[i]+((E.drop (i+1)).map f).sum):=by
  conv=>lhs;rw[e]
  rw[cL,List.sum_append,eV,ot]
 omega
theorem iU (i:Nat){α:Type}(f:α→Nat→α)(a:α):(List.range (i+1)).foldl f a=f ((List.range i).foldl f a) i:=by rw[mU,qv];rfl
theorem QJ {nt nf len:Nat}{Q:Qr}(c:rK nt nf Q){w:ab}{frm tqo i:Nat}(d:frm<tqo)(ht:tqo≤Q.n){cs:Cs}(h:nV nt nf Q.n len frm cs)(e:i<Q.aK.length):
 iG nt nf Q.n frm tqo (λi j=>(cs.at_ Q.n i j).length) 0 ((List.range i).foldl (qY Q w frm tqo) cs)∧Room ((List.range i).foldl (qY Q w frm tqo) cs) 1:=by
 have f:iG nt nf Q.n frm tqo (λi j=>(cs.at_ Q.n i j).length) 0 cs:=⟨h.ok,λ_ _ _ _=>rfl,aP _⟩
 obtain⟨a,b⟩:=gq (n:=Q.n) (frm:=frm) (tqo:=tqo) (qY Q w frm tqo) (λ_=>1) _ (List.range i) cs f (λk j g h1=>zF c d ht h1 (Nat.lt_trans (cU.1 g) e));rw[jK,db,e8]at b
 have:=c.xn
 exact⟨a,Room.grow (h.room.mono (by unfold vy;omega)) b⟩
theorem RU {nt nf len:Nat}{Q:Qr}(c:rK nt nf Q){frm tqo i:Nat}(l:frm<tqo)(ht:tqo≤Q.n)(m:tqo≠frm+1){cs:Cs}(h:nV nt nf Q.n len frm cs)(d:i<Q.rules.length):
 iG nt nf Q.n frm tqo (λi j=>(cs.at_ Q.n i j).length) 0 ((List.range i).foldl (qh Q frm tqo) cs)∧(1<(Q.rules.getD i mc).kids→Room ((List.range i).foldl (qh Q frm tqo) cs) (l7 (λi j=>(cs.at_ Q.n i j).length) tqo ((Q.rules.getD i mc).kids.toNat-1) frm)):=by
 have o:iG nt nf Q.n frm tqo (λi j=>(cs.at_ Q.n i j).length) 0 cs:=⟨h.ok,λ_ _ _ _=>rfl,aP _⟩
 obtain⟨a,b⟩:=gq (n:=Q.n) (frm:=frm) (tqo:=tqo) (qh Q frm tqo) (λi=>if decide (1<(Q.rules.getD i mc).kids)=true then 4000000 else 0) _ (List.range i) cs o (λs j p h1=>zi c l ht h.ok h.BW h1 (Nat.lt_trans (cU.1 p) d));refine⟨a,λhk=> ?_⟩
 have e:=w8 (f:=λi=>if decide (1<(Q.rules.getD i mc).kids)=true then 4000000 else 0) (show(List.range Q.rules.length)[i]?=some i from jy d)
 rw[List.take_range,gB zE,rG (λr:ry=>decide (1<r.kids)) mc 4000000 Q.rules]at e
 have q:=BL c (frm:=frm) (tqo:=tqo)
 have g:Cy Q frm tqo≤vy:=cz (Nat.le_mul_of_pos_right _ zE) q
 unfold Cy at g;rw[aA m]at g
 have k:Q.rules.countP (λr:ry=>decide (1<r.kids))*4000000≤vy:=g
 rw[aB (dI hk)]at e
 have k3:=(c.vg d).1.2
 exact(Room.grow (h.room.mono (cz e k)) b).mono (BU h.ok h.BW l ht zE zE)
theorem SQ {nt nf:Nat}{Q:Qr}(l:rK nt nf Q){frm tqo i k e:Nat}(m:frm<tqo)(ht:tqo≤Q.n){cs:Cs}(h:gH nt nf Q.n cs)(o:Room cs (vX Q cs ((cs.at_ Q.n frm tqo).drop k)))(hk:(cs.at_ Q.n frm tqo)[k]?=some e)(t:(cs.ed e).cV≠3)(c:i<Q.rules.length):
 gH nt nf Q.n ((List.range i).foldl (pR Q frm tqo e) cs)∧Grow Q.n frm tqo cs ((List.range i).foldl (pR Q frm tqo e) cs) (gi Q)∧((Q.rules.getD i mc).kids=1→Room ((List.range i).foldl (pR Q frm tqo e) cs) 1):=by
 have a:=aa hk
 have b:=h.qP a
 have u:(cs.ed e).cV≤3:=by
  unfold Cs.ed;rw[aZ,aj b];exact(h.gr _ (fq b)).2.2.1
 have hu:=AA l m ht (e:=e) (ch:=(cs.ed e).cV) zE (List.range i) cs (λj p=>Nat.lt_trans (cU.1 p) c) h b rfl
 have d:=w8 (f:=λi=>if decide ((Q.rules.getD i mc).kids=1)=true then 1 else 0) (show(List.range Q.rules.length)[i]?=some i from jy c)
 rw[List.take_range,gB zE,rG (λr:ry=>decide (r.kids=1)) mc 1 Q.rules,e8]at d
 have g:_≤gi Q:=d
 refine⟨hu.ok,hu.gr.mono zE,λq=> ?_⟩;rw[aB (dI q)]at g;refine Room.grow (o.mono ?_) hu.gr;refine cz g ?_;unfold vX;rw[oM _ hk]
 have s:3-(cs.ed e).cV=(2-(cs.ed e).cV)+1:=by omega
 rw[s]
 have:gi Q*1≤gi Q*(1+jW (gi Q) (2-(cs.ed e).cV)):=tA _ zE
 show gi Q≤gi Q*(1+jW (gi Q) (2-(cs.ed e).cV))+_
 omega
theorem SR {Q:Qr}{frm tqo f k e:Nat}{cs:Cs}(hk:(cs.at_ Q.n frm tqo)[k]?=some e)(a:(cs.ed e).cV=3)(b:qg Q cs ((cs.at_ Q.n frm tqo).drop k)<f):
 ∃f2,pS Q frm tqo f k cs=pS Q frm tqo f2 (k+1) cs∧qg Q cs ((cs.at_ Q.n frm tqo).drop (k+1))<f2∧qg Q cs ((cs.at_ Q.n frm tqo).drop (k+1))<qg Q cs ((cs.at_ Q.n frm tqo).drop k):=by
 obtain⟨f2,rfl⟩:∃f2,f=f2+1:=⟨f-1,by omega⟩
 have hd:(cs.at_ Q.n frm tqo).getD k 0=e:=by rw[aZ,hk];rfl
 have hp:qg Q cs ((cs.at_ Q.n frm tqo).drop k)=(1+jW (gi Q) (3-(cs.ed e).cV))+qg Q cs ((cs.at_ Q.n frm tqo).drop (k+1)):=by unfold qg;exact oM _ hk
 refine⟨f2,?_,by omega,by omega⟩;rw[pS,aB (ag hk),hd,aB a]
theorem aaF {Q:Qr}{frm tqo f k e:Nat}{cs:Cs}(hk:(cs.at_ Q.n frm tqo)[k]?=some e)(a:(cs.ed e).cV≠3)(b:qg Q cs ((cs.at_ Q.n frm tqo).drop k)<f):
 ∃f2,pS Q frm tqo f k cs=pS Q frm tqo f2 (k+1) ((List.range Q.rules.length).foldl (pR Q frm tqo e) cs)∧qg Q cs ((cs.at_ Q.n frm tqo).drop k)<f2+1:=by
 obtain⟨f2,rfl⟩:∃f2,f=f2+1:=⟨f-1,by omega⟩
 have hd:(cs.at_ Q.n frm tqo).getD k 0=e:=by rw[aZ,hk];rfl
 exact⟨f2,by rw[pS,aB (ag hk),hd,aA a],b⟩
theorem W8 {Q:Qr}{frm tqo f k:Nat}{cs:Cs}(hk:(cs.at_ Q.n frm tqo).length≤k):pS Q frm tqo f k cs=cs:=by
 cases f with
 |zero=>rfl
 |succ f=>rw[pS,aA zE]
theorem Fo {N:Nat}(e:N≤256):∀(l m:kM) (u v:ab),l.length=m.length→(∀x∈l,(0≤x.1∧x.1<N)∧0≤x.2∧x.2<N)→(∀x∈m,(0≤x.1∧x.1<N)∧0≤x.2∧x.2<N)→vR l++u=vR m++v→l=m∧u=v
 | [],[],u,v,_,_,_,h=>⟨rfl,h⟩
 | [],_::_,_,_,h,_,_,_=>by cases h
 |_::_,[],_,_,h,_,_,_=>by cases h
 |a::l,b::m,u,v,f,c,d,h=>by
  have h:jR a.1::jR a.2::(vR l++u)=jR b.1::jR b.2::(vR m++v):=h
  rw[List.cons.injEq,List.cons.injEq]at h;obtain⟨h1,g,i⟩:=h;obtain⟨⟨j,a2⟩,a3,a4⟩:=c a (by simp);obtain⟨⟨k,z⟩,n,A⟩:=d b (by simp);obtain⟨p,q⟩:=a;obtain⟨r,s⟩:=b
  dsimp only at*
  have B:=lE (a:=p.toNat) (b:=r.toNat) zE zE (by rw[um j,um k];exact h1)
  have e2:=lE (a:=q.toNat) (b:=s.toNat) zE zE (by rw[um a3,um n];exact g)
  obtain⟨o,t⟩:=Fo e l m u v (by simpa using f) (λx hx=>c x (by simp[hx])) (λx hx=>d x (by simp[hx])) i
  have w:p=r:=by omega
  have y:q=s:=by omega
  exact⟨by rw[o,w,y],t⟩
def O5 (g:de):Prop:=∀n∈g,(0≤n.1∧n.1<(256:Nat))∧n.2.length<256∧∀x∈n.2,(0≤x.1∧x.1<(256:Nat))∧0≤x.2∧x.2<(256:Nat)
theorem Fm:∀(l m:de),O5 l→O5 m→zA l=zA m→l=m
 | [],[],_,_,_=>rfl
 | [],_::_,_,_,h=>by cases h
 |_::_,[],_,_,h=>by cases h
 |a::l,b::m,c,d,h=>by
  have h:jR a.1::jR (a.2.length:Nat)::(vR a.2++zA l)=jR b.1::jR (b.2.length:Nat)::(vR b.2++zA m):=h
  rw[List.cons.injEq,List.cons.injEq]at h;obtain⟨h1,e,f⟩:=h;obtain⟨⟨g,a2⟩,a3,a4⟩:=c a (by simp);obtain⟨⟨i,u⟩,j,k⟩:=d b (by simp);obtain⟨p,q⟩:=a;obtain⟨r,s⟩:=b
  dsimp only at*
  have v:=lE (a:=p.toNat) (b:=r.toNat) zE zE (by rw[um g,um i];exact h1)
  have e2:=lE a3 j e
  obtain⟨n,o⟩:=Fo (aQ 256) q s (zA l) (zA m) e2 a4 k f
  have t:p=r:=by omega
  rw[t,n,Fm l m (λx hx=>c x (by simp[hx])) (λx hx=>d x (by simp[hx])) o]
theorem dp.wQ {nt nf:Nat}{g:de}(h:dp nt nf g)(k:nt≤250)(l:nf≤250)(m:g.length≤60):O5 g:=λn d=>by
 obtain⟨h1,e,c⟩:=h.nd n d;refine⟨by omega,?_,λx hx=> ?_⟩
 ·have f:(n.2.map λz=>z.1.toNat).Nodup:=by
   unfold List.Nodup;rw[oq];exact uo (λ{a b} p q r=>by have:=(c a p).1;have:=(c b q).1;omega) e
  have:=kH f (n:=nf) (λj i=>by obtain⟨z,hz,rfl⟩:=cA.1 i;have:=(c z hz).1;omega)
  rw[aR]at this;omega
 ·have:=c x hx;omega
theorem key_inj {e d:o8}(he:e.frm<256∧e.tqo<256∧e.cV<256∧O5 e.gr)(hd:d.frm<256∧d.tqo<256∧d.cV<256∧O5 d.gr)(h:fD e=fD d):e=d:=by
 unfold fD at h;rw[List.cons.injEq,List.cons.injEq,List.cons.injEq]at h;obtain⟨h1,a,b,c⟩:=h
 have f:=lE he.1 hd.1 h1
 have e2:=lE he.2.1 hd.2.1 a
 have g:=lE he.2.2.1 hd.2.2.1 b
 have i:=Fm _ _ he.2.2.2 hd.2.2.2 c
 cases e;cases d;simp_all
def hG (cs:Cs)(tqo:Nat):Nat→List Nat→Prop
 |a,[]=>a=tqo
 |a,k::l=>k<cs.its.length∧(cs.ed k).frm=a∧hG cs tqo (cs.ed k).tqo l
def sF (mt:Nat→Nat→Option Nat):de→Nat→List de→Option de
 |x,_,[]=>some x
 |x,k,y::l=>match mg mt x ((k:Nat):Int) y with
  |none=>none
  |some z=>sF mt z (k+1) l
theorem CA {mt:Nat→Nat→Option Nat}:∀{l:List de} {x z:de} {k:Nat} (y:de),sF mt x k l=some z→sF mt x k (l++ [y])=mg mt z ((k+l.length:Nat):Int) y
 | [],x,z,k,y,h=>by
  obtain rfl:=Option.some.inj h
  show(match mg mt x ((k:Nat):Int) y with|none=>none|some z=>sF mt z (k+1) [])=mg mt x ((k+0:Nat):Int) y
  rw[fU]
  cases mg mt x ((k:Nat):Int) y<;>rfl
 |a::l,x,z,k,y,h=>by
  rw[jg,sF];rw[sF]at h
  cases b:mg mt x ((k:Nat):Int) a with
  |none=>rw[b]at h;cases h
  |some w=>
   rw[b]at h
   dsimp only at h⊢
   rw[CA y h,eU,show k+1+l.length=k+(l.length+1) by omega]
def IJ (cs:Cs):List Nat→Nat
 | [k]=>(cs.ed k).cV+1
 |_=>0
def yM (Q:Qr)(words:List ab)(cs:Cs)(e:o8)(w:o9):Prop:=
 (w.rule= -1∧w.kids=[]∧e.tqo=e.frm+1∧e.cV=0∧∃i:Nat,i<Q.aK.length∧w.lex=i∧(Q.aK.getD i LI).word=words.getD e.frm []∧e.gr=gY (Q.aK.getD i LI).graph 0)∨
 (∃i:Nat,i<Q.rules.length∧w.rule=i∧w.lex=0∧((w.kids.length:Nat):Int)=(Q.rules.getD i mc).kids∧hG cs e.tqo e.frm w.kids∧e.cV=IJ cs w.kids∧∃y,sF Q.mt (Q.rules.getD i mc).graph 1 (w.kids.map λk=>(cs.ed k).gr)=some y∧e.gr=lJ y)
def ff (Q:Qr)(words:List ab)(cs:Cs):Prop:=∀it∈cs.its,∀w∈it.bb,yM Q words cs it.ed w
structure rL (cs fA:Cs):Prop where
 more:cs.its.length≤fA.its.length
 ed:∀i,i<cs.its.length→fA.ed i=cs.ed i
theorem Grow.stay {n frm tqo a:Nat}{cs fA:Cs}(h:Grow n frm tqo cs fA a):rL cs fA:=⟨h.more,h.ed⟩
theorem rL.refl (cs:Cs):rL cs cs:=⟨aQ _,λ_ _=>rfl⟩
theorem rL.trans {x y z:Cs}(h:rL x y)(k:rL y z):rL x z:=⟨cz h.more k.more,λi a=>by rw[k.ed i (fI a h.more),h.ed i a]⟩
theorem hG.stay {cs fA:Cs}(h:rL cs fA){tqo:Nat}:∀{l:List Nat} {a:Nat},hG cs tqo a l→hG fA tqo a l
 | [],_,k=>k
 |i::l,a,⟨b,c,k3⟩=>⟨fI b h.more,by rw[h.ed i b];exact c,by rw[h.ed i b];exact hG.stay h k3⟩
theorem hG.lt {cs:Cs}{tqo:Nat}:∀{l:List Nat} {a:Nat},hG cs tqo a l→∀k∈l,k<cs.its.length
 | [],_,_,_,h=>by cases h
 |i::l,a,⟨b,_,k3⟩,k,h=>by
  rcases bT.1 h with rfl|h
  ·exact b
  ·exact hG.lt k3 k h
theorem hG.snoc {cs:Cs}{b tqo e:Nat}(he:e<cs.its.length)(h1:(cs.ed e).frm=b)(c:(cs.ed e).tqo=tqo):∀{l:List Nat} {a:Nat},hG cs b a l→hG cs tqo a (l++ [e])
 | [],a,k=>⟨he,by rw[h1];exact k.symm,c⟩
 |i::l,a,⟨d,f,k3⟩=>⟨d,f,hG.snoc he h1 c k3⟩
theorem Qa {cs fA:Cs}(h:rL cs fA){l:List Nat}(a:∀k∈l,k<cs.its.length):(l.map λk=>(fA.ed k).gr)=l.map λk=>(cs.ed k).gr:=qw λk hk=>by rw[h.ed k (a k hk)]
theorem yM.stay {Q:Qr}{words:List ab}{cs fA:Cs}(h:rL cs fA){e:o8}{w:o9}(k:yM Q words cs e w):yM Q words fA e w:=by
 rcases k with k|⟨i,c,d,k3,f,a,g,y,j,l⟩
 ·exact .inl k
 ·have b:=a.lt
  refine .inr ⟨i,c,d,k3,f,a.stay h,?_,y,by rw[Qa h b];exact j,l⟩;rw[g]
  match hk:w.kids with
  | []=>rfl
  | [q]=>show _=(fA.ed q).cV+1;rw[h.ed q (b q (by rw[hk];simp))];rfl
  |_::_::_=>rfl
theorem Cp {nt nf n:Nat}(r:n≤12)(p:nt≤250)(q:nf≤250){Q:Qr}{words:List ab}{cs:Cs}(h:gH nt nf n cs)(g:ff Q words cs){e:o8}{w:o9}(he:e.frm<e.tqo∧e.tqo≤n∧e.cV≤3∧dp nt nf e.gr∧e.gr.length≤60)(hk:∀k∈w.kids,k<cs.its.length)(hw:yM Q words cs e w):ff Q words (iK n cs e w):=by
 have b:=(yO r h he hk).2.stay
 have AO:∀it∈cs.its,∀w∈it.bb,yM Q words (iK n cs e w) it.ed w→True:=λ_ _ _ _ _=>trivial
 intro it hit v a
 have l:(∃i,xN cs.its (fD e)=some i)∨xN cs.its (fD e)=none:=by
  cases xN cs.its (fD e)with
  |none=>exact .inr rfl
  |some i=>exact .inl ⟨i,rfl⟩
 rcases l with⟨i,f⟩|f
 ·have m:(iK n cs e w).its=cs.its.modify i λit=>it.put w:=by unfold iK;rw[f]
  rw[m]at hit;obtain⟨j,d,rfl⟩:=lB.1 hit;rw[pn]at d;rw[List.getElem_modify]at a⊢;obtain⟨x,hx,o⟩:=zB f
  by_cases c:i=j
  ·subst c
   rw[aB rfl]at a⊢
   have s:cs.its[i]=x:=by rw[aj d]at hx;exact Option.some.inj hx
   rcases cI.1 a with a|a
   ·exact(g _ (fq d) v a).stay b
   ·rw[bN.1 a]
    obtain⟨g1,g2,g3,g4,g5⟩:=h.gr cs.its[i] (fq d)
    have t:cs.its[i].ed=e:=key_inj ⟨by omega,by omega,by omega,g4.wQ p q g5⟩ ⟨by omega,by omega,by omega,he.2.2.2.1.wQ p q he.2.2.2.2⟩ (by rw[s];exact o)
    show yM Q words _ cs.its[i].ed w
    rw[t];exact hw.stay b
  ·rw[aA c]at a⊢
   exact(g _ (fq d) v a).stay b
 ·have m:(iK n cs e w).its=cs.its++ [(⟨e,[],[]⟩:iq).put w]:=by unfold iK;rw[f]
  rw[m]at hit
  rcases cI.1 hit with hit|hit
  ·exact(g it hit v a).stay b
  ·rw[bN.1 hit]at a⊢
   have a:v∈([]:List o9)++ [w]:=a
   rw[nQ]at a;rw[bN.1 a];exact hw.stay b
theorem vM {β:Type}(f:Cs→β→Cs)(I:Cs→Prop):∀(l:List β) (cs:Cs),I cs→(∀cs x,x∈l→I cs→I (f cs x))→I (l.foldl f cs)
 | [],_,h,_=>h
 |x::l,cs,h,a=>vM f I l (f cs x) (a cs x (by simp) h) λcs y hy=>a cs y (by simp[hy])
theorem HD {Q:Qr}{cs:Cs}{rule a e:Nat}{x y:de}(h:jo Q cs rule x a e=some y):mg Q.mt x a (cs.ed e).gr=some y:=by
 unfold jo at h
 split at h
 ·exact h
 ·cases h
theorem UZ {nt nf:Nat}{Q:Qr}(A:Q.n≤12)(I:nt≤250)(J:nf≤250)(B:xG nt Q.mt){words:List ab}{rule frm tqo:Nat}(K:rule<Q.rules.length)(C:frm<tqo)(ht:tqo≤Q.n)(c:Nat→Nat→Nat):∀(l:Nat) (cs:Cs) (x:de) (kids:List Nat) (a:Nat),
 iG nt nf Q.n frm tqo c 0 cs→dp nt nf x→(frm<a∨(a=frm∧1≤l))→a<tqo→ff Q words cs→hG cs a frm kids→((kids.length+l+1:Nat):Int)=(Q.rules.getD rule mc).kids→sF Q.mt (Q.rules.getD rule mc).graph 1 (kids.map λk=>(cs.ed k).gr)=some x→
 ff Q words (rQ Q rule frm tqo l cs x kids a):=by
 intro l
 induction l using Nat.strongRecOn with|_ l L=> ?_
 intro cs x kids a M hx X N s b D O;rw[Km]
 have t:∀z∈List.range' (nb l a tqo) (rO l a tqo),a<z∧z≤tqo∧(1≤l→z<tqo)∧(l=0→z=tqo):=λz hz=>by
  obtain⟨j,P,rfl⟩:=List.mem_range'.1 hz
  have:=DK N P
  rw[nz];exact⟨this.1,this.2.1,this.2.2.2,this.2.2.1⟩
 refine(vM (MY Q rule frm tqo l x kids a) (λfA=>iG nt nf Q.n frm tqo c 0 fA∧ff Q words fA∧rL cs fA) _ cs ⟨M,s,rL.refl _⟩ (λd en R ⟨s1,S,E⟩=> ?_)).2.1;obtain⟨Y,e2,F,T⟩:=t en R
 have g:∀e∈d.at_ Q.n a en,e<d.its.length:=λe he=>s1.ok.qP he
 have h:∀e∈d.at_ Q.n a en,(d.ed e).frm=a∧(d.ed e).tqo=en:=λe he=>s1.ok.prt a en e zE he
 have inner:=vM (tc Q rule frm tqo l x kids en) (λfA=>iG nt nf Q.n frm tqo c 0 fA∧ff Q words fA∧rL d fA) (d.at_ Q.n a en) d ⟨s1,S,rL.refl _⟩ (λf e he ⟨s2,u,p⟩=> ?_)
 ·exact⟨inner.1,inner.2.1,E.trans inner.2.2⟩
 have r:e<f.its.length:=fI (g e he) p.more
 have G:=p.ed e (g e he)
 have v:=E.trans p
 have i:∀k∈kids,k<f.its.length:=λk hk=>fI (b.lt k hk) v.more
 obtain⟨g1,g2⟩:=FN A B C ht c (l:=l) (rule:=rule) s2 hx (en:=en) ⟨by omega,F⟩ i r;refine⟨g1,?_,p.trans g2.stay⟩;unfold tc
 cases hy:jo Q f rule x (kids.length+1) e with
 |none=>exact u
 |some y=>
  dsimp only
  obtain⟨H,U,_⟩:=wB B s2.ok hx r hy
  have V:=HD hy
  have m:hG f en frm (kids++ [e]):=hG.snoc r (by rw[G];exact(h e he).1) (by rw[G];exact(h e he).2) (b.stay v)
  have w:((kids++ [e]).map λk=>(f.ed k).gr)=(kids.map λk=>(cs.ed k).gr)++ [(f.ed e).gr]:=by rw[cL,Qa v b.lt];rfl
  have o:sF Q.mt (Q.rules.getD rule mc).graph 1 ((kids++ [e]).map λk=>(f.ed k).gr)=some y:=by
   rw[w,CA _ O,aR,Nat.add_comm 1];exact V
  cases l with
  |zero=>
   dsimp only
   obtain⟨m1,m2⟩:=qc H U
   have W:=T rfl
   subst W;refine Cp A I J s2.ok u ⟨C,ht,aP _,m1,m2⟩ (λk hk=> ?_) (.inr ⟨rule,K,rfl,rfl,by rw[←D,bJ];simp,m,?_,y,o,rfl⟩)
   ·rcases cI.1 hk with hk|hk
    ·exact i k hk
    ·rw[bN.1 hk];exact r
   ·cases kids with
    |nil=>
     have:frm=a:=b
     omega
    |cons q kids=>
     cases kids with
     |nil=>rfl
     |cons _ _=>rfl
  |succ l=>
   dsimp only
   exact L l zE f y (kids++ [e]) en s2 H (.inl zE) (F zE) u m (by rw[←D,bJ];simp;omega) o
theorem VE {nt nf:Nat}{Q:Qr}(a:rK nt nf Q)(e:nt≤250)(f:nf≤250){words:List ab}{w:ab}{frm tqo i:Nat}(hw:w=words.getD frm [])(g:tqo=frm+1)(ht:tqo≤Q.n){cs:Cs}(h:gH nt nf Q.n cs)(b:ff Q words cs)(c:i<Q.aK.length):ff Q words (qY Q w frm tqo cs i):=by
 obtain⟨d,j⟩:=a.XL c;unfold qY
 split
 ·rename_i l
  obtain⟨f1,f2,_⟩:=tu d d.pos;exact Cp a.n e f h b ⟨by dsimp only;omega,ht,aP _,f1,cz f2 j⟩ (λk hk=>by cases hk) (.inl ⟨rfl,rfl,g,rfl,i,c,rfl,by rw[l,hw],rfl⟩)
 ·exact b
theorem Vi {nt nf:Nat}{Q:Qr}(a:rK nt nf Q)(f:nt≤250)(g:nf≤250){words:List ab}{frm tqo i:Nat}{c:Nat→Nat→Nat}(b:frm<tqo)(ht:tqo≤Q.n){cs:Cs}(h:iG nt nf Q.n frm tqo c 0 cs)(d:ff Q words cs)(e:i<Q.rules.length):ff Q words (qh Q frm tqo cs i):=by
 obtain⟨⟨k,k3⟩,j,_⟩:=a.vg e;unfold qh
 split
 ·rename_i l
  exact UZ a.n f g a.mt e b ht c _ cs _ [] frm h j (.inr ⟨rfl,by omega⟩) b d rfl (by show((0+((Q.rules.getD i mc).kids.toNat-1)+1:Nat):Int)=_;omega) rfl
 ·exact d
theorem W9 {nt nf:Nat}{Q:Qr}(b:rK nt nf Q)(f:nt≤250)(g:nf≤250){words:List ab}{frm tqo e i:Nat}(j:frm<tqo)(ht:tqo≤Q.n){cs:Cs}(h:gH nt nf Q.n cs)(c:ff Q words cs)(he:e<cs.its.length)(a:(cs.ed e).frm=frm∧(cs.ed e).tqo=tqo)(q:(cs.ed e).cV<3)(d:i<Q.rules.length):ff Q words (pR Q frm tqo e cs i):=by
 obtain⟨_,l,_⟩:=b.vg d;unfold pR
 split
 ·exact c
 ·rename_i hk
  cases hy:jo Q cs i (Q.rules.getD i mc).graph 1 e with
  |none=>exact c
  |some x=>
   dsimp only
   obtain⟨m,o,_⟩:=wB b.mt h l he hy;obtain⟨m1,m2⟩:=qc m o
   have p:=HD hy
   refine Cp b.n f g h c ⟨j,ht,by dsimp only;omega,m1,m2⟩ (λk hk=>by rw[bN.1 hk];exact he) (.inr ⟨i,d,rfl,rfl,?_,⟨he,a.1,a.2⟩,rfl,x,?_,rfl⟩)
   ·show((1:Nat):Int)=_
    omega
   ·show(match mg Q.mt _ ((1:Nat):Int) (cs.ed e).gr with|none=>none|some z=>sF Q.mt z (1+1) [])=some x
    rw[p];rfl
theorem Tl {nt nf:Nat}{Q:Qr}(d:rK nt nf Q)(f:nt≤250)(g:nf≤250){words:List ab}{frm tqo:Nat}(e:frm<tqo)(ht:tqo≤Q.n){cs:Cs}(h:gH nt nf Q.n cs)(m:cs.its.length≤300)(k:ff Q words cs):ff Q words (lD Q words frm tqo cs):=by
 have l:iG nt nf Q.n frm tqo (λi j=>(cs.at_ Q.n i j).length) 0 cs:=⟨h,λ_ _ _ _=>rfl,aP _⟩
 unfold lD
 split
 ·rename_i o
  exact(vM (qY Q (words.getD frm []) frm tqo) (λfA=>iG nt nf Q.n frm tqo (λi j=>(cs.at_ Q.n i j).length) 0 fA∧ff Q words fA) _ cs ⟨l,k⟩ (λp i c ⟨a,b⟩=>⟨(zF d e ht a (cU.1 c)).1,VE d f g rfl o ht a.ok b (cU.1 c)⟩)).2
 ·exact(vM (qh Q frm tqo) (λfA=>iG nt nf Q.n frm tqo (λi j=>(cs.at_ Q.n i j).length) 0 fA∧ff Q words fA) _ cs ⟨l,k⟩ (λp i c ⟨a,b⟩=>⟨(zi d e ht h m a (cU.1 c)).1,Vi d f g e ht a b (cU.1 c)⟩)).2
theorem AB {nt nf:Nat}{Q:Qr}(g:rK nt nf Q)(p:nt≤250)(q:nf≤250){words:List ab}{frm tqo:Nat}(j:frm<tqo)(ht:tqo≤Q.n):∀(f k:Nat) (cs:Cs),gH nt nf Q.n cs→ff Q words cs→ff Q words (pS Q frm tqo f k cs)
 |0,_,_,_,h=>h
 |f+1,k,cs,c,h=>by
  rw[pS]
  split
  ·rename_i hk
   have r:(cs.at_ Q.n frm tqo)[k]?=some ((cs.at_ Q.n frm tqo).getD k 0):=by rw[aZ,aj hk];rfl
   have m:=aa r
   have d:=c.qP m
   have s:=c.prt frm tqo _ zE m
   split
   ·exact AB g p q j ht f (k+1) cs c h
   ·rename_i w
    have x:(cs.ed ((cs.at_ Q.n frm tqo).getD k 0)).cV≤3:=by
     have:cs.ed ((cs.at_ Q.n frm tqo).getD k 0)=(cs.its[(cs.at_ Q.n frm tqo).getD k 0]'d).ed:=by unfold Cs.ed;rw[aZ (l:=cs.its),aj d];rfl
     rw[this];exact(c.gr _ (fq d)).2.2.1
    have t:(cs.ed ((cs.at_ Q.n frm tqo).getD k 0)).cV<3:=by omega
    have hu:=CP g j ht (e:=(cs.at_ Q.n frm tqo).getD k 0) (ch:=(cs.ed ((cs.at_ Q.n frm tqo).getD k 0)).cV) t c d rfl
    refine AB g p q j ht f (k+1) _ hu.ok ?_;refine(vM (pR Q frm tqo ((cs.at_ Q.n frm tqo).getD k 0)) (λfA=>gH nt nf Q.n fA∧ff Q words fA∧rL cs fA) _ cs ⟨c,h,rL.refl _⟩ (λz i v ⟨a,b,y⟩=> ?_)).2.1
    have o:=fI d y.more
    have u:=y.ed _ d
    have h1:=Lx g j ht a o (by rw[u]) t (cU.1 v)
    exact⟨h1.ok,W9 g p q j ht a b o (by rw[u];exact s) (by rw[u];exact t) (cU.1 v),y.trans h1.gr.stay⟩
  ·exact h
theorem Ld {nt nf len:Nat}{Q:Qr}(a:rK nt nf Q)(b:nt≤250)(c:nf≤250){words:List ab}{frm:Nat}(d:1≤len)(ht:frm+len≤Q.n){cs:Cs}(h:nV nt nf Q.n len frm cs)(e:ff Q words cs):ff Q words (oQ Q words frm (frm+len) cs):=by
 obtain⟨f,_,_⟩:=EC a (words:=words) d ht h;exact AB a b c zE ht _ _ _ f (Tl a b c zE ht h.ok h.BW e)
theorem QL {nf nn i:Int}:∀{l:kM} {last:Int},(Am nf nn i last l).1=0→(∀x∈l,last<x.1)∧sO l∧∀x∈l,(0≤x.1∧x.1<nf)∧0≤x.2∧x.2<nn
 | [],_,_=>⟨λ_ h=>(by cases h),.nil,λ_ h=>(by cases h)⟩
 |x::l,last,h=>by
  rw[Am]at h
  by_cases h1:x.1<0∨nf≤x.1∨x.2<0∨nn≤x.2
  ·rw[aB h1]at h;exact absurd h (by simp)
  rw[aA h1]at h
  by_cases d:x.1≤last
  ·rw[aB d]at h;exact absurd h (by simp)
  rw[aA d]at h;obtain⟨a,b,c⟩:=QL h;refine⟨λy hy=> ?_,.cons (λy hy=>a y hy) b,λy hy=> ?_⟩
  ·rcases bT.1 hy with rfl|hy
   ·omega
   ·have:=a y hy;omega
  ·rcases bT.1 hy with rfl|hy
   ·omega
   ·exact c y hy
theorem uB {nt nf nn:Int}:∀{l:de} {i:Nat},(eW nt nf nn i l).1=0→∀n∈l,(0≤n.1∧n.1<nt)∧sO n.2∧∀x∈n.2,(0≤x.1∧x.1<nf)∧0≤x.2∧x.2<nn
 | [],_,_,_,h=>by cases h
 |y::l,i,h,n,d=>by
  rw[eW]at h
  by_cases h1:y.1<0∨nt≤y.1
  ·rw[aB h1]at h;exact absurd h (by simp)
  rw[aA h1]at h
  by_cases a:(Am nf nn i (-1) y.2).1≠0
  ·rw[aB a]at h;exact absurd h a
  rw[aA a]at h
  rcases bT.1 d with rfl|d
  ·obtain⟨_,b,c⟩:=QL (fK.1 a)
   exact⟨by omega,b,c⟩
  ·exact uB h n d
theorem QP {nt nf:Nat}{g:de}(h:(fE nt nf g).1=0):dp nt nf g∧g.length≤60:=by
 unfold fE at h
 by_cases h1:g.length=0∨60<g.length
 ·rw[aB h1]at h;exact absurd h (by simp)
 rw[aA h1]at h;exact⟨⟨by omega,λn a=>uB h n a⟩,by omega⟩
theorem wF {T:List eM}{Fs:List o7}{g:de}(h:(dB T Fs g).1=0):dp T.length Fs.length g∧g.length≤60:=by
 unfold dB at h
 by_cases h1:(fE T.length Fs.length g).1≠0
 ·rw[aB h1]at h;exact absurd h h1
 ·exact QP (fK.1 h1)
theorem JO {g:de}{kids:Int}(h:nD g kids=true)(a:kids≤3):∀k:Int,0≤k→k≤kids→0≤rZ g k:=λk b hk=>by
 unfold nD at h
 have:=j8.1 h k.toNat (cU.2 zE)
 rw[show((k.toNat:Nat):Int)=k by omega,dI hk]at this
 simpa using this
structure Hw (nt nf:Nat)(r:ry):Prop where
 kids:1≤r.kids∧r.kids≤3
 wt:0≤r.weight∧r.weight≤1000000
 gr:dp nt nf r.graph
 len:r.graph.length≤60
 rZ:∀k:Int,0≤k→k≤r.kids→0≤rZ r.graph k
structure OB (nt nf:Nat)(x:Eb):Prop where
 word:isWord x.word=true
 wt:0≤x.weight∧x.weight≤1000000
 gr:dp nt nf x.graph
 len:x.graph.length≤60
structure EZ (g:ep):Prop where
 ty:iJ g.types
 ft:g.bh.length≤40
 rn:g.rules.length≤40
 xn:g.aK.length≤100
 rule:∀r∈g.rules,Hw g.types.length g.bh.length r
 lex:∀x∈g.aK,OB g.types.length g.bh.length x
 start:dp g.types.length g.bh.length g.start∧g.start.length≤60
theorem RY {T:List eM}{Fs:List o7}{r:ry}(h:nE T Fs r=0):Hw T.length Fs.length r:=by
 unfold nE at h
 by_cases h1:r.kids<1∨3<r.kids∨r.weight<0∨1000000<r.weight
 ·rw[aB h1]at h;exact absurd h (by decide)
 rw[aA h1]at h
 by_cases c:(dB T Fs r.graph).1≠0
 ·rw[aB c]at h;exact absurd h c
 rw[aA c]at h
 by_cases d:nD r.graph r.kids=false
 ·rw[aB d]at h;exact absurd h (by decide)
 obtain⟨a,b⟩:=wF (fK.1 c);exact⟨by omega,by omega,a,b,JO (by simpa using d) zE⟩
theorem VC {T:List eM}{Fs:List o7}{x:Eb}(h:uA T Fs x=0):OB T.length Fs.length x:=by
 unfold uA at h
 by_cases c:isWord x.word=false
 ·rw[aB c]at h;exact absurd h (by decide)
 rw[aA c]at h
 by_cases h1:x.weight<0∨1000000<x.weight
 ·rw[aB h1]at h;exact absurd h (by decide)
 rw[aA h1]at h
 by_cases d:(dB T Fs x.graph).1≠0
 ·rw[aB d]at h;exact absurd h d
 obtain⟨a,b⟩:=wF (fK.1 d);exact⟨by simpa using c,by omega,a,b⟩
theorem Bx {T:List eM}{Fs:List o7}:∀{l:List ry} {known:List ab} {i:Nat},(gz T Fs known i l).1=0→∀r∈l,Hw T.length Fs.length r
 | [],_,_,_,_,h=>by cases h
 |y::l,known,i,h,r,b=>by
  rw[gz]at h
  by_cases h1:isName y.name=false
  ·rw[aB h1]at h;exact absurd h (by simp)
  rw[aA h1]at h
  by_cases c:y.name∈known
  ·rw[aB c]at h;exact absurd h (by simp)
  rw[aA c]at h
  by_cases a:nE T Fs y≠0
  ·rw[aB a]at h;exact absurd h a
  rw[aA a]at h
  rcases bT.1 b with rfl|b
  ·exact RY (fK.1 a)
  ·exact Bx h r b
theorem Bh {T:List eM}{Fs:List o7}:∀{l:List Eb} {i:Nat},(gy T Fs i l).1=0→∀x∈l,OB T.length Fs.length x
 | [],_,_,_,h=>by cases h
 |y::l,i,h,x,hx=>by
  rw[gy]at h
  by_cases a:uA T Fs y≠0
  ·rw[aB a]at h;exact absurd h a
  rw[aA a]at h
  rcases bT.1 hx with rfl|hx
  ·exact VC (fK.1 a)
  ·exact Bh h x hx
theorem Pf {g:ep}(h:(kq g).1=0):EZ g:=by
 unfold kq at h
 by_cases h1:(ig g.types g.bh).1≠0
 ·rw[aB h1]at h;exact absurd h h1
 rw[aA h1]at h
 by_cases f:g.bh.length≤3
 ·rw[aB f]at h;exact absurd h (by simp)
 rw[aA f]at h
 by_cases i:40<g.rules.length∨100<g.aK.length
 ·rw[aB i]at h;exact absurd h (by simp)
 rw[aA i]at h
 by_cases b:(gz g.types g.bh [] 0 g.rules).1≠0
 ·rw[aB b]at h;exact absurd h b
 rw[aA b]at h
 by_cases c:(gy g.types g.bh 0 g.aK).1≠0
 ·rw[aB c]at h;exact absurd h c
 rw[aA c]at h
 by_cases d:(dB g.types g.bh g.start).1≠0
 ·rw[aB d]at h;exact absurd h d
 have a:=fK.1 h1
 unfold ig at a
 by_cases j:40<g.bh.length
 ·rw[aB j]at a;exact absurd a (by simp)
 rw[aA j]at a
 by_cases e:(B6 g.types).1≠0
 ·rw[aB e]at a;exact absurd a e
 obtain⟨_,_,ht⟩:=Jy (fK.1 e);exact⟨ht,by omega,by omega,by omega,Bx (fK.1 b),Bh (fK.1 c),wF (fK.1 d)⟩
theorem Gt {nt nf n:Nat}:nV nt nf n 1 0 ⟨[],List.replicate (n*(n+1)) []⟩:=by
 have a:∀k,(List.replicate (n*(n+1)) ([]:List Nat)).getD k []=[]:=λk=>by
  rw[aZ,sM]
  split<;>rfl
 refine⟨⟨nO ..,λl b e he=> ?_,?_,λi j e _ he=> ?_,λit h=>(by cases h),λit h=>(by cases h),λit h=>(by cases h)⟩,aP _,λit h=>(by cases h),λi h=>(by cases h)⟩
 ·rw[(List.mem_replicate.1 b).2]at he;cases he
 ·show((List.replicate (n*(n+1)) ([]:List Nat)).map List.length).sum=0
  rw[uw];simp
 ·rw[show(⟨[],List.replicate (n*(n+1)) []⟩:Cs).sp=List.replicate (n*(n+1)) []from rfl,a]at he;cases he
structure PF {α:Type}(f:α→α→Int)(k:α→List Int):Prop where
 app:∀a b u v,eb (k a++u) (k b++v)=true↔f a b<0∨(f a b=0∧eb u v=true)
 eq:∀a b,f a b=0↔a=b
theorem vE {a b:Int}:kf a b<0↔a<b:=by unfold kf;split;omega;split<;>omega
theorem iP {a b:Int}:kf a b=0↔a=b:=by unfold kf;split;omega;split<;>omega
theorem pM {a b:Int}:sc a b<0↔a<0∨(a=0∧b<0):=by unfold sc;split<;>omega
theorem ng {a b:Int}:sc a b=0↔a=0∧b=0:=by unfold sc;split<;>omega
theorem PF.int:PF kf (λa:Int=>[a]):=⟨λa b u v=>by
 show eb (a::u) (b::v)=true↔_
 rw[eb,vE,iP];simp,λa b=>iP⟩
theorem PF.pair {α β:Type}{f:α→α→Int}{g:β→β→Int}{k:α→List Int}{h:β→List Int}(F:PF f k)(G:PF g h):PF (λx y:α×β=>sc (f x.1 y.1) (g x.2 y.2)) (λx=>k x.1++h x.2):=⟨λa b u v=>by
 rw[cr,cr,F.app,G.app,pM,ng]
 constructor
 ·rintro (h1|⟨h1,c|⟨c,d⟩⟩)
  ·exact .inl (.inl h1)
  ·exact .inl (.inr ⟨h1,c⟩)
  ·exact .inr ⟨⟨h1,c⟩,d⟩
 ·rintro ((h1|⟨h1,c⟩)|⟨⟨h1,c⟩,d⟩)
  ·exact .inl h1
  ·exact .inr ⟨h1,.inl c⟩
  ·exact .inr ⟨h1,.inr ⟨c,d⟩⟩,λa b=>by
 rw[ng,F.eq,G.eq]
 exact⟨λ⟨h1,c⟩=>Prod.ext h1 c,λh=>by rw[h];exact⟨rfl,rfl⟩⟩⟩
theorem PF.list {α:Type}{f:α→α→Int}{k:α→List Int}(F:PF f k):∀(l m:List α) (u v:List Int),l.length=m.length→(eb (l.flatMap k++u) (m.flatMap k++v)=true↔jA f l m<0∨(jA f l m=0∧eb u v=true))
 | [],[],u,v,_=>by simp[jA]
 |a::l,b::m,u,v,h=>by
  rw[iE,iE,cr,cr,F.app,PF.list F l m u v (by simpa using h),jA]
  by_cases e:f a b=0
  ·rw[aA (λx=>x e),e]
   exact⟨λh=>h.elim (λx=>absurd x (by decide)) (λx=>x.2),λh=> .inr ⟨rfl,h⟩⟩
  ·rw[aB e]
   exact⟨λh=>h.elim .inl (λx=>absurd x.1 e),λh=>h.elim .inl (λx=>absurd x.1 e)⟩
 | [],_::_,_,_,h=>by cases h
 |_::_,[],_,_,h=>by cases h
theorem IK {α:Type}{f:α→α→Int}(he:∀a b,f a b=0↔a=b):∀l m:List α,jA f l m=0↔l=m
 | [],[]=>by simp[jA]
 | [],_::_=>by simp[jA]
 |_::_,[]=>by simp[jA]
 |a::l,b::m=>by
  rw[jA]
  by_cases e:f a b=0
  ·rw[aA (λx=>x e),IK he l m,(he a b).1 e];simp
  ·rw[aB e]
   exact⟨λx=>absurd x e,λx=>by rw[List.cons.injEq]at x;exact absurd ((he a b).2 x.1) e⟩
theorem PF.lens {α:Type}{f:α→α→Int}{k:α→List Int}(F:PF f k):PF (λl m:List α=>sc (kf l.length m.length) (jA f l m)) (λl=>(l.length:Int)::l.flatMap k):=⟨λl m u v=>by
 show eb ((l.length:Int)::(l.flatMap k++u)) ((m.length:Int)::(m.flatMap k++v))=true↔_
 rw[eb,pM,ng,vE,iP,Bool.or_eq_true,pV,eJ,eJ]
 by_cases e:(l.length:Int)=m.length
 ·rw[F.list l m u v zE]
  constructor
  ·rintro (h|⟨_,h|h⟩)
   ·exact .inl (.inl h)
   ·exact .inl (.inr ⟨e,h⟩)
   ·exact .inr ⟨⟨e,h.1⟩,h.2⟩
  ·rintro ((h|h)|h)
   ·exact .inl h
   ·exact .inr ⟨e,.inl h.2⟩
   ·exact .inr ⟨e,.inr ⟨h.1.2,h.2⟩⟩
 ·constructor
  ·rintro (h|⟨h,_⟩)
   ·exact .inl (.inl h)
   ·exact absurd h e
  ·rintro ((h|h)|h)
   ·exact .inl h
   ·exact absurd h.1 e
   ·exact absurd h.1.1 e,λl m=>by
 rw[ng,iP,IK F.eq]
 exact⟨λh=>h.2,λh=>by rw[h];exact⟨rfl,rfl⟩⟩⟩
theorem PF.node:PF xI (λx:Nw=>([x.1]++((x.2.length:Int)::x.2.flatMap λp=>[p.1]++ [p.2])):Nw→List Int):=PF.pair PF.int (PF.lens (PF.pair PF.int PF.int))
abbrev kN (x:Nw):List Int:=[x.1]++((x.2.length:Int)::x.2.flatMap λp=>[p.1]++ [p.2])
theorem PG:∀l m:de,eb (l.flatMap kN) (m.flatMap kN)=true↔jA xI l m<0
 | [],[]=>by simp[jA,eb]
 | [],b::m=>by rw[iE];simp[jA,eb]
 |a::l,[]=>by rw[iE];simp[jA,eb]
 |a::l,b::m=>by
  rw[iE,iE,PF.node.app,PG l m,jA]
  by_cases e:xI a b=0
  ·rw[aA (λx=>x e),e]
   exact⟨λh=>h.elim (λx=>absurd x (by decide)) (λx=>x.2),λh=> .inr ⟨rfl,h⟩⟩
  ·rw[aB e]
   exact⟨λh=>h.elim id (λx=>absurd x.1 e),.inl⟩
def kE (x:o8):List Int:=[(x.frm:Int)]++([(x.tqo:Int)]++([(x.cV:Int)]++x.gr.flatMap kN))
theorem DA (x y:o8):xZ x y<0↔eb (kE x) (kE y)=true:=by
 unfold kE xZ;rw[PF.int.app,PF.int.app,PF.int.app,pM,pM,pM,PG]
theorem YR (x y:o8):xZ x y=0↔x=y:=by
 unfold xZ;rw[ng,ng,ng,iP,iP,iP,IK PF.node.eq]
 cases x;cases y
 simp only[o8.mk.injEq,Int.natCast_inj]
theorem Kd (x:o8):¬xZ x x<0:=by rw[DA,fQ];decide
theorem BP {x y z:o8}(h:xZ x y<0)(k:xZ y z<0):xZ x z<0:=by rw[DA]at*;exact ef h k
theorem zI {x y z:List Int}(h:¬eb x y=true)(k:¬eb y z=true):¬eb x z=true:=λc=>by
 rcases iD y z with h1|h1|h1
 ·exact k h1
 ·subst h1;exact h c
 ·exact h (ef c h1)
theorem yZ {x y z:o8}(h:¬xZ x y<0)(k:¬xZ y z<0):¬xZ x z<0:=by rw[DA]at*;exact zI h k
theorem ZL {x y:List Int}(h:¬eb x y=true)(k:¬eb y x=true):x=y:=by
 rcases iD x y with h1|h1|h1
 ·exact absurd h1 h
 ·exact h1
 ·exact absurd h1 k
theorem UC {x y:o8}(h:¬xZ x y<0)(k:¬xZ y x<0):xZ x y=0:=by
 rcases Int.lt_trichotomy (xZ x y) 0 with h1|h1|h1
 ·exact absurd h1 h
 ·exact h1
 ·rw[DA]at h k
  have:=ZL h k
  -- j lists n equal,I B comes ahead of j other;then all parts n equal
  exfalso
  have e:∀a b:o8,kE a=kE b→¬0<xZ a b:=by
   intro a b o;unfold kE at o;rw[Cd,Cd,Cd,Cd,Cd,Cd,List.cons.injEq,List.cons.injEq,List.cons.injEq]at o;obtain⟨h1,C,D,E⟩:=o
   have J:jA xI a.gr b.gr≤0:=by
    refine Int.not_lt.1 λK=> ?_
    have gen:∀l m:de,l.flatMap kN=m.flatMap kN→jA xI l m=0:=by
     intro l
     induction l with
     |nil=>intro m hm;cases m with
      |nil=>rfl
      |cons b m=>rw[iE]at hm;cases hm
     |cons a l r=>
      intro m hm
      cases m with
      |nil=>rw[iE]at hm;cases hm
      |cons b m=>
       rw[iE,iE]at hm
       have F:¬xI a b<0:=λf=>by
        have:=(PF.node.app a b (l.flatMap kN) (m.flatMap kN)).2 (.inl f)
        rw[hm,fQ]at this;cases this
       have G:¬xI b a<0:=λf=>by
        have:=(PF.node.app b a (m.flatMap kN) (l.flatMap kN)).2 (.inl f)
        rw[hm,fQ]at this;cases this
       have tr:∀x y:Nw,¬xI x y<0→¬xI y x<0→xI x y=0:=by
        intro x y p q;unfold xI at p q⊢;rw[pM,pM,vE,iP,vE,iP]at p q;rw[ng,ng,iP,iP]
        have t1:x.1=y.1:=by omega
        have t2:(x.2.length:Int)=y.2.length:=by omega
        refine⟨t1,t2,?_⟩
        have g:¬jA Ex x.2 y.2<0:=by omega
        have i:¬jA Ex y.2 x.2<0:=by omega
        clear p q t1
        generalize x.2=u at*
        generalize y.2=v at*
        induction u generalizing v with
        |nil=>cases v with
         |nil=>rfl
         |cons _ _=>simp at t2;omega
        |cons c u r=>
         cases v with
         |nil=>simp at t2;omega
         |cons d v=>
          rw[jA]at g i⊢
          have t:Ex c d=0:=by
           have w:¬Ex c d<0:=λf=>g (by rw[aB zE];exact f)
           have z:¬Ex d c<0:=λf=>i (by rw[aB zE];exact f)
           unfold Ex at w z⊢;rw[pM,vE,iP,vE]at w z
           rw[ng,iP,iP];omega
          have s:c=d:=(PF.pair PF.int PF.int).eq c d|>.1 t
          subst s;rw[aA (λx=>x t)]at g i⊢;exact r v (by simpa using t2) g i
       have A:=tr a b F G
       have H:=(PF.node.eq a b).1 A
       subst H;rw[jA,aA (λx=>x A)];exact r m (List.append_cancel_left hm)
    have:=gen a.gr b.gr E
    omega
   unfold xZ;rw[iP.2 h1,iP.2 C,iP.2 D]
   show ¬0<jA xI a.gr b.gr
   omega
  exact e x y this h1
theorem vQ {α:Type}(f:α→α→Int)(a:α):∀l:List α,(Ms f a l).Perm (a::l)
 | []=> .refl _
 |b::l=>by
  rw[Ms];split
  ·exact .refl _
  ·exact((vQ f a l).cons b).trans (.swap _ _ _)
theorem kK {α:Type}(f:α→α→Int):∀l:List α,(Vt f l).Perm l
 | []=> .refl _
 |a::l=>(vQ f a _).trans ((kK f l).cons a)
theorem wV {α:Type}{f:α→α→Int}{Z:α→Prop}(g:∀a b c,Z a→Z b→Z c→¬f a b<0→¬f b c<0→¬f a c<0)(has:∀a b,Z a→Z b→f a b<0→¬f b a<0)(a:α)(d:Z a):∀l:List α,(∀x∈l,Z x)→l.Pairwise (λx y=>¬f y x<0)→(Ms f a l).Pairwise (λx y=>¬f y x<0)
 | [],_,_=>Cc _ _
 |b::l,hz,h=>by
  have e:=hz b (by simp)
  rw[Ms];split
  ·rename_i c
   refine List.Pairwise.cons (λx hx=> ?_) h
   rcases bT.1 hx with rfl|hx
   ·exact has _ _ d e c
   ·exact g x b a (hz x (by simp[hx])) e d ((fw.1 h).1 x hx) (has _ _ d e c)
  ·rename_i c
   refine List.Pairwise.cons (λx hx=> ?_) (wV g has a d l (λx hx=>hz x (by simp[hx])) (fw.1 h).2)
   rcases bT.1 ((vQ f a l).mem_iff.1 hx)with rfl|hx
   ·exact c
   ·exact(fw.1 h).1 x hx
theorem we {α:Type}{f:α→α→Int}{Z:α→Prop}(d:∀a b c,Z a→Z b→Z c→¬f a b<0→¬f b c<0→¬f a c<0)(has:∀a b,Z a→Z b→f a b<0→¬f b a<0):∀l:List α,(∀x∈l,Z x)→(Vt f l).Pairwise (λx y=>¬f y x<0)
 | [],_=> .nil
 |a::l,hz=>wV d has a (hz a (by simp)) _ (λx hx=>hz x (by simp[(kK f l).mem_iff.1 hx])) (we d has l λx hx=>hz x (by simp[hx]))
theorem Qv {its:List iq}(hd:(its.map λx=>fD x.ed).Nodup){l:List Nat}(hp:l.Perm (List.range its.length))(n:l.Pairwise (λa b=>¬xZ (its.getD b er).ed (its.getD a er).ed<0)):l=jB its:=by
 have h1:=kK (λi j=>xZ (its.getD i er).ed (its.getD j er).ed) (List.range its.length)
 have o:=we (f:=λi j=>xZ (its.getD i er).ed (its.getD j er).ed) (Z:=λ_=>True) (λa b c _ _ _=>yZ) (λa b _ _ h k=>Kd _ (BP h k)) (List.range its.length) (λ_ _=>trivial)
 refine(hp.trans h1.symm).eq_of_pairwise (λa b d g p q=> ?_) n o
 have d:=cU.1 (hp.mem_iff.1 d)
 have g:=cU.1 (h1.mem_iff.1 g)
 have e:=(YR _ _).1 (UC p q)
 refine Decidable.byContradiction λr=> ?_
 have m:∀i,i<its.length→(its.map λx=>fD x.ed)[i]?=some (fD (its.getD i er).ed):=λi s=>by
  rw[aw,aZ,aj s];rfl
 refine r ?_;exact(List.getElem?_inj (l:=its.map λx=>fD x.ed) (by rw[aR];exact d) hd).1 (by rw[m a d,m b g,e])
theorem LC {nt nf len:Nat}{Q:Qr}(b:rK nt nf Q)(g:nt≤250)(i:nf≤250){words:List ab}(c:1≤len):∀(m frm:Nat) (cs a:Cs),frm+m+len≤Q.n+1→nV nt nf Q.n len frm cs→ff Q words cs→xP Q words len m frm cs=some a→nV nt nf Q.n len (frm+m) a∧ff Q words a
 |0,frm,cs,a,_,h,d,e=>by obtain rfl:=Option.some.inj e;exact⟨h,d⟩
 |m+1,frm,cs,a,hm,h,d,e=>by
  have e2:(if 300<(oQ Q words frm (frm+len) cs).its.length then none else xP Q words len m (frm+1) (oQ Q words frm (frm+len) cs))=some a:=e
  by_cases f:300<(oQ Q words frm (frm+len) cs).its.length
  ·rw[aB f]at e2;cases e2
  ·rw[aA f]at e2
   have:=LC b g i c m (frm+1) _ a zE (Gv b c zE h f) (Ld b g i c zE h d) e2
   rw[show frm+(m+1)=frm+1+m by omega];exact this
theorem KK {nt nf:Nat}{Q:Qr}(c:rK nt nf Q)(d:nt≤250)(f:nf≤250){words:List ab}:∀(m len:Nat) (cs a:Cs),1≤len→len+m≤Q.n+1→nV nt nf Q.n len 0 cs→ff Q words cs→xH Q words m len cs=some a→nV nt nf Q.n (len+m) 0 a∧ff Q words a
 |0,len,cs,a,_,_,h,b,e=>by obtain rfl:=Option.some.inj e;exact⟨h,b⟩
 |m+1,len,cs,a,i,hm,h,b,e=>by
  have e2:((xP Q words len (Q.n+1-len) 0 cs).bind λcs=>xH Q words m (len+1) cs)=some a:=e
  obtain⟨g,h1,j⟩:=o6.1 e2;obtain⟨k,a2⟩:=LC c d f i _ 0 cs g zE h b h1
  have:=KK c d f m (len+1) g a zE zE (Lc k) a2 j
  rw[show len+(m+1)=len+1+m by omega];exact this
theorem EB {cs:Cs}{tqo:Nat}:∀(l:List Nat) (a:Nat),hG cs tqo a l→∀k∈l,k<cs.its.length
 |k::l,a,h,q,b=>by
  rcases bT.1 b with rfl|b
  ·exact h.1
  ·exact EB l _ h.2.2 q b
def X9 (e:o8):Nat:=(e.tqo-e.frm)*4+e.cV
def Tk (e:o8):Nat:=8*(e.tqo-e.frm)-7+e.cV
theorem aaO {cs:Cs}{e:o8}(c:∀k,k<cs.its.length→(cs.ed k).frm<(cs.ed k).tqo∧(cs.ed k).cV≤3):∀kids:List Nat,hG cs e.tqo e.frm kids→1≤kids.length→kids.length≤3→e.cV=IJ cs kids→
 (∀k∈kids,X9 (cs.ed k)<X9 e)∧(kids.map λk=>Tk (cs.ed k)).sum+1≤Tk e
 | [k],h,_,_,a=>by
  obtain⟨h1,g,d⟩:=h
  have d:(cs.ed k).tqo=e.tqo:=d
  have hk:=c k h1
  have a:e.cV=(cs.ed k).cV+1:=a
  unfold X9 Tk;refine⟨λq b=> ?_,?_⟩
  ·rw[bN]at b;subst b;omega
  ·simp only[List.map_cons,List.map_nil,List.sum_cons,List.sum_nil];omega
 | [k,l],h,_,_,a=>by
  obtain⟨h1,g,d,j,f⟩:=h
  have f:(cs.ed l).tqo=e.tqo:=f
  have hk:=c k h1
  have n:=c l d
  have a:e.cV=0:=a
  unfold X9 Tk;refine⟨λq b=> ?_,?_⟩
  ·simp only[List.mem_cons,List.not_mem_nil,or_false]at b
   rcases b with rfl|rfl<;>omega
  ·simp only[List.map_cons,List.map_nil,List.sum_cons,List.sum_nil];omega
 | [k,l,m],h,_,_,a=>by
  obtain⟨h1,g,d,j,f,o,i⟩:=h
  have i:(cs.ed m).tqo=e.tqo:=i
  have hk:=c k h1
  have n:=c l d
  have hm:=c m f
  have a:e.cV=0:=a
  unfold X9 Tk;refine⟨λq b=> ?_,?_⟩
  ·simp only[List.mem_cons,List.not_mem_nil,or_false]at b
   rcases b with rfl|rfl|rfl<;>omega
  ·simp only[List.map_cons,List.map_nil,List.sum_cons,List.sum_nil];omega
 | [],_,h,_,_=>by cases h
 |_::_::_::_::_,_,_,h,_=>by simp only[List.length_cons]at h;omega
theorem zT (its:List iq):(jB its).Perm (List.range its.length):=kK _ _
theorem Du (its:List iq):(jB its).length=its.length:=by rw[(zT its).length_eq,db]
theorem Za {its:List iq}{i:Nat}(h:i∈jB its):i<its.length:=cU.1 ((zT its).mem_iff.1 h)
theorem Jn {its:List iq}{j:Nat}(h:j<its.length):∃i,i<its.length∧(fH its).getD j er=⟨(its.getD i er).ed,(its.getD i er).bb.map λw=>⟨w.rule,w.lex,w.kids.map (ku (jB its))⟩,(its.getD i er).bW⟩:=by
 have a:j<(jB its).length:=by rw[Du];exact h
 refine⟨(jB its)[j],Za (fq a),?_⟩;unfold fH
 rw[aZ,aw,aj a];rfl
theorem y5 {its:List iq}{k:Nat}(h:k<its.length):ku (jB its) k<its.length∧((fH its).getD (ku (jB its) k) er).ed=(its.getD k er).ed:=by
 have hm:k∈jB its:=(zT its).mem_iff.2 (cU.2 h)
 have a:(jB its).idxOf k<(jB its).length:=List.idxOf_lt_length_of_mem hm
 refine⟨by unfold ku;rw[←Du its];exact a,?_⟩;unfold fH ku
 rw[aZ,aw,aj a,List.getElem_idxOf a];rfl
theorem sU {cs:Cs}{k:Nat}(h:k<cs.its.length):cs.its.getD k er∈cs.its:=by rw[aZ,aj h];exact fq h
theorem rF (its:List iq):(fH its).length=its.length:=by unfold fH;rw[aR,Du]
theorem Xi {l:List Int}(h:∀x∈l,0≤x∧x≤1000000):∀x∈l,-1000000≤x∧x≤1000000:=λx hx=>by have:=h x hx;omega
theorem Zp {nt nf len frm:Nat}{Q:Qr}(A:rK nt nf Q){words:List ab}{cs:Cs}(h:nV nt nf Q.n len frm cs)(B:ff Q words cs)(hk:∀r∈Q.rules,1≤r.kids∧r.kids≤3){R X:List Int}(J:R.length=Q.rules.length)(K:X.length=Q.aK.length)(L:∀x∈R,0≤x∧x≤1000000)(M:∀x∈X,0≤x∧x≤1000000):
 qG ⟨fH cs.its,R,X⟩:=by
 have U:=A.n
 have V:=A.rn
 have N:=A.xn
 have s:∀k,k<cs.its.length→(cs.ed k).frm<(cs.ed k).tqo∧(cs.ed k).tqo≤Q.n∧(cs.ed k).cV≤3:=λk m=>by
  obtain⟨O,a2,a3,_⟩:=h.ok.gr _ (sU m);exact⟨O,a2,a3⟩
 have o:∀e,e<(⟨fH cs.its,R,X⟩:kg).its.length→∃i,i<cs.its.length∧((⟨fH cs.its,R,X⟩:kg).its.getD e er).ed=cs.ed i∧O1 ⟨fH cs.its,R,X⟩ e=(cs.its.getD i er).bb.length∧∀w,w<O1 ⟨fH cs.its,R,X⟩ e→∃a∈(cs.its.getD i er).bb,(⟨fH cs.its,R,X⟩:kg).AE e w=⟨a.rule,a.lex,a.kids.map (ku (jB cs.its))⟩:=λe he=>by
  have he:e<(fH cs.its).length:=he
  rw[rF]at he;obtain⟨i,b,c⟩:=Jn he;refine⟨i,b,by show((fH cs.its).getD e er).ed=_;rw[c];rfl,by unfold O1;show((fH cs.its).getD e er).bb.length=_;rw[c];exact aR _,λw hw=> ?_⟩
  have hw:w<((fH cs.its).getD e er).bb.length:=hw
  rw[c]at hw
  have G:w<(cs.its.getD i er).bb.length:=by rwa[show _=(cs.its.getD i er).bb.length from aR _]at hw
  refine⟨_,fq G,?_⟩;unfold kg.AE
  show((fH cs.its).getD e er).bb.getD w wy0=_
  rw[c]
  show((cs.its.getD i er).bb.map _).getD w wy0=_
  rw[aZ,aw,aj G];rfl
 have g:∀e,q8 ⟨fH cs.its,R,X⟩ e=X9 (((⟨fH cs.its,R,X⟩:kg).its.getD e er).ed):=λ_=>rfl
 have y:∀e,Ha ⟨fH cs.its,R,X⟩ e=Tk (((⟨fH cs.its,R,X⟩:kg).its.getD e er).ed):=λ_=>rfl
 have H:∀k,k<cs.its.length→((⟨fH cs.its,R,X⟩:kg).its.getD (ku (jB cs.its) k) er).ed=cs.ed k:=λk m=>(y5 m).2
 refine⟨λe w he hw l=> ?_,λe w he hw l=> ?_,λe w he hw=> ?_,Xi L,Xi M,λe he=> ?_,λe he=> ?_,λe he=> ?_⟩
 ·obtain⟨i,b,f,_,d⟩:=o e he
  obtain⟨a,t,u⟩:=d w hw;rw[u]at l⊢
  have I:=s i b
  rcases B _ (sU b) a t with⟨p,C,P,D,j,c,z,_⟩|⟨j,c,p,_⟩
  ·refine⟨by show a.kids.map _=[];rw[C];rfl,by show a.lex<(X.length:Int);rw[z,K];omega,?_⟩
   rw[y,f];unfold Tk;omega
  ·have l:a.rule<0:=l
   omega
 ·obtain⟨i,b,f,_,d⟩:=o e he
  obtain⟨a,t,u⟩:=d w hw;rw[u]at l⊢
  rcases B _ (sU b) a t with⟨p,_⟩|⟨j,c,p,C,P,D,z,_⟩
  ·have l:¬a.rule<0:=l
   omega
  ·have S:=hk _ (show Q.rules.getD j mc∈Q.rules by rw[aZ,aj c];exact fq c)
   have E:=EB _ _ D
   obtain⟨c1,c2⟩:=aaO (e:=cs.ed i) (λk m=>⟨(s k m).1,(s k m).2.2⟩) a.kids D zE zE z;refine⟨by show a.rule<(R.length:Int);rw[p,J];omega,by show(a.kids.map _).length≤3;rw[aR];omega,λk F=> ?_,?_⟩
   ·obtain⟨q,v,rfl⟩:=cA.1 (show k∈a.kids.map (ku (jB cs.its))from F)
    refine⟨by show _<(fH cs.its).length;rw[rF];exact(y5 (E q v)).1,?_⟩;rw[g,g,f,H q (E q v)];exact c1 q v
   ·show((a.kids.map (ku (jB cs.its))).map (Ha ⟨fH cs.its,R,X⟩)).sum+1≤_
    rw[y,f,iX,show a.kids.map (Ha ⟨fH cs.its,R,X⟩∘ku (jB cs.its))=a.kids.map λk=>Tk (cs.ed k)from qw λq v=>by show Ha _ _=_;rw[y,H q (E q v)]];exact c2
 ·obtain⟨i,b,f,_,d⟩:=o e he
  obtain⟨a,t,u⟩:=d w hw;rw[u]
  show-1≤a.rule∧a.rule≤1000∧0≤a.lex∧a.lex≤1000
  rcases B _ (sU b) a t with⟨p,_,_,_,j,c,z,_⟩|⟨j,c,p,C,_⟩<;>omega
 ·obtain⟨i,b,f,_⟩:=o e he
  have I:=s i b
  rw[y,f];unfold Tk;omega
 ·obtain⟨i,b,f,_⟩:=o e he
  have I:=s i b
  rw[g,f];unfold X9;omega
 ·obtain⟨i,b,_,T,_⟩:=o e he
  rw[T]
  have:=h.bb _ (sU b)
  unfold vy at this;omega
theorem mB {α:Type}{I:Cs→Prop}{f:Cs→α→Cs}(h:∀cs a,I cs→I (f cs a)):∀(l:List α) (cs:Cs),I cs→I (l.foldl f cs)
 | [],_,b=>b
 |a::l,cs,b=>mB h l (f cs a) (h cs a b)
theorem Kw {Q:Qr}{I:Cs→Prop}(c:∀cs e w,I cs→I (iK Q.n cs e w)){rule frm tqo:Nat}:∀(l:Nat) (cs:Cs) (x:de) (kids:List Nat) (a:Nat),I cs→I (rQ Q rule frm tqo l cs x kids a)
 |0,cs,x,kids,a,b=>by
  rw[rQ];refine mB (λcs e h=> ?_) _ _ b
  cases jo Q cs rule x (kids.length+1) e with
  |none=>exact h
  |some y=>exact c _ _ _ h
 |l+1,cs,x,kids,a,b=>by
  rw[rQ];refine mB (λcs en h=>mB (λcs e h=> ?_) _ _ h) _ _ b
  cases jo Q cs rule x (kids.length+1) e with
  |none=>exact h
  |some y=>exact Kw c l _ _ _ _ h
theorem Uk {Q:Qr}{I:Cs→Prop}(b:∀cs e w,I cs→I (iK Q.n cs e w)){frm tqo e i:Nat}{cs:Cs}(a:I cs):I (pR Q frm tqo e cs i):=by
 unfold pR
 split
 ·exact a
 ·cases jo Q cs i (Q.rules.getD i mc).graph 1 e with
  |none=>exact a
  |some x=>exact b _ _ _ a
theorem yw {Q:Qr}{I:Cs→Prop}(a:∀cs e w,I cs→I (iK Q.n cs e w)){frm tqo:Nat}:∀(f k:Nat) (cs:Cs),I cs→I (pS Q frm tqo f k cs)
 |0,_,_,h=>h
 |f+1,k,cs,h=>by
  rw[pS]
  split
  ·split
   ·exact yw a f _ _ h
   ·exact yw a f _ _ (mB (λ_ _ h=>Uk a h) _ _ h)
  ·exact h
theorem Uj {Q:Qr}{I:Cs→Prop}(a:∀cs e w,I cs→I (iK Q.n cs e w)){words:List ab}{frm tqo:Nat}{cs:Cs}(b:I cs):I (lD Q words frm tqo cs):=by
 unfold lD
 split
 ·refine mB (λcs i h=> ?_) _ _ b
  unfold qY
  split
  ·exact a _ _ _ h
  ·exact h
 ·refine mB (λcs i h=> ?_) _ _ b
  unfold qh
  split
  ·exact Kw a _ _ _ _ _ h
  ·exact h
theorem Kx {Q:Qr}{I:Cs→Prop}(b:∀cs e w,I cs→I (iK Q.n cs e w)){words:List ab}{len:Nat}:∀(m frm:Nat) (cs a:Cs),I cs→xP Q words len m frm cs=some a→I a
 |0,_,cs,a,h,e=>by obtain rfl:=Option.some.inj e;exact h
 |m+1,frm,cs,a,h,e=>by
  rw[xP]at e
  split at e
  ·cases e
  ·exact Kx b m _ _ _ (by unfold oQ;exact yw b _ _ _ (Uj b h)) e
theorem Kv {Q:Qr}{I:Cs→Prop}(b:∀cs e w,I cs→I (iK Q.n cs e w)){words:List ab}:∀(m len:Nat) (cs a:Cs),I cs→xH Q words m len cs=some a→I a
 |0,_,cs,a,h,e=>by obtain rfl:=Option.some.inj e;exact h
 |m+1,len,cs,a,h,e=>by
  have e2:((xP Q words len (Q.n+1-len) 0 cs).bind λcs=>xH Q words m (len+1) cs)=some a:=e
  obtain⟨c,h1,d⟩:=o6.1 e2;exact Kv b m (len+1) c a (Kx b _ _ _ _ h h1) d
def O8 (cs:Cs):Prop:=∀it∈cs.its,it.bb≠ []
theorem Y8 {n:Nat}(cs:Cs)(e:o8)(w:o9)(h:O8 cs):O8 (iK n cs e w):=by
 unfold iK
 cases xN cs.its (fD e)with
 |some i=>
  intro it hit;obtain⟨j,a⟩:=List.mem_iff_getElem?.1 hit
  have a:(cs.its.modify i λit=>it.put w)[j]?=some it:=a
  rw[List.getElem?_modify]at a
  cases hx:cs.its[j]? with
  |none=>rw[hx]at a;cases a
  |some x=>
   rw[hx]at a
   have a:(if i=j then x.put w else x)=it:=Option.some.inj a
   by_cases c:i=j
   ·rw[aB c]at a
    rw[←a]
    show x.bb++ [w]≠ []
    simp
   ·rw[aA c]at a
    rw[←a];exact h x (aa hx)
 |none=>
  intro it hit
  rcases cI.1 hit with hit|hit
  ·exact h it hit
  ·rw[bN.1 hit]
   show []++ [w]≠ []
   simp
theorem Zr {its:List iq}(h:∀it∈its,it.bb≠ []):mq (fH its):=λe he=>by
 rw[rF]at he;obtain⟨i,a,b⟩:=Jn he;rw[b]
 have hm:its.getD i er∈its:=by rw[aZ,aj a];exact fq a
 have:=h _ hm
 show(its.getD i er).bb.map _≠ []
 simpa using this
theorem Zf (g:ep)(words:List ab):mq (ek g words).1.1:=by
 have a:mq []:=λe he=>by cases he
 unfold ek
 split
 ·exact a
 ·split
  ·exact a
  ·cases b:Et g words with
   |none=>exact a
   |some its=>
    unfold Et at b;obtain⟨cs,c,rfl⟩:=dX.1 b;exact Zr (Kv (I:=O8) (λcs e w h=>Y8 cs e w h) _ _ _ _ (λit hit=>by cases hit) c)
abbrev ic (its:List iq)(e:Nat):o8:=(its.getD e er).ed
structure WyA (g:ep)(words:List ab)(its:List iq):Prop where
 ed:∀e,e<its.length→(ic its e).frm<(ic its e).tqo∧(ic its e).tqo≤words.length∧(ic its e).cV≤3
 wy:∀e,e<its.length→∀x∈(its.getD e er).bb,
  (x.rule= -1∧x.kids=[]∧(ic its e).tqo=(ic its e).frm+1∧(ic its e).cV=0∧∃i:Nat,i<g.aK.length∧x.lex=i∧(g.aK.getD i LI).word=words.getD (ic its e).frm [])∨
  (∃i:Nat,i<g.rules.length∧x.rule=i∧x.lex=0∧((x.kids.length:Nat):Int)=(g.rules.getD i mc).kids∧hG ⟨its,[]⟩ (ic its e).tqo (ic its e).frm x.kids∧(ic its e).cV=IJ ⟨its,[]⟩ x.kids)
structure TQ (g:ep)(words:List ab)(its:List iq)(full:List Nat):Prop where
 bs:qG (IG g its)
 bb:mq its
 wy:WyA g words its
 BW:its.length≤300
 ful:∀e∈full,e<its.length∧(ic its e).frm=0∧(ic its e).tqo=words.length
 fln:full.length≤300
 n:1≤words.length∧words.length≤12
 gd:EZ g
theorem Gu {its:List iq}{sp:List (List Nat)}{tqo:Nat}:∀(l:List Nat) (a:Nat),hG ⟨its,sp⟩ tqo a l→hG ⟨fH its,[]⟩ tqo a (l.map (ku (jB its)))
 | [],_,h=>h
 |k::l,a,⟨h1,b,c⟩=>by
  obtain⟨d,f⟩:=y5 (show k<its.length from h1)
  have e:(Cs.ed ⟨fH its,[]⟩ (ku (jB its) k))=Cs.ed ⟨its,sp⟩ k:=f
  refine⟨by show _<(fH its).length;rw[rF];exact d,by rw[e];exact b,?_⟩;rw[e];exact Gu l _ c
theorem UB {its:List iq}{sp:List (List Nat)}{l:List Nat}(a:∀k∈l,k<its.length):IJ ⟨fH its,[]⟩ (l.map (ku (jB its)))=IJ ⟨its,sp⟩ l:=by
 match l,a with
 | [],_=>rfl
 | [k],a=>
  have b:=(y5 (a k (aV ..))).2
  have e:(Cs.ed ⟨fH its,[]⟩ (ku (jB its) k))=Cs.ed ⟨its,sp⟩ k:=b
  show(Cs.ed ⟨fH its,[]⟩ (ku (jB its) k)).cV+1=(Cs.ed ⟨its,sp⟩ k).cV+1
  rw[e]
 |_::_::_,_=>rfl
theorem adA (T:List eM):xG T.length (ga T):=λa b m h=>by
 unfold ga at h
 split at h
 ·cases h
 ·rename_i c r e
  split at h
  ·cases h
  ·obtain rfl:=Option.some.inj h
   have:c∈comm T a b:=by rw[e];exact aV ..
   unfold comm at this;exact cU.1 (po.1 this).1
theorem Dx {g:ep}{words:List ab}(h:(ek g words).2.1=0):TQ g words (ek g words).1.1 (ek g words).1.2∧(ek g words).2=(0,0)∧(kq g).1=0:=by
 have d:=Zf g words
 unfold ek at h d⊢
 by_cases h1:(kq g).1≠0
 ·rw[aB h1]at h;exact absurd h h1
 rw[aA h1]at h d⊢
 have z:(kq g).1=0:=fK.1 h1
 have a:=Pf z
 by_cases f:(sX g words).1≠0
 ·rw[aB f]at h;exact absurd h f
 rw[aA f]at h d⊢
 have hw:1≤words.length∧words.length≤12:=by
  unfold sX at f
  by_cases c:words.length=0∨12<words.length
  ·rw[aB c]at f;exact absurd (by decide) f
  ·omega
 cases m:Et g words with
 |none=>rw[m]at h;have h:(17:Int)=0:=h;omega
 |some its=>
  rw[m]at d
  have d:mq its:=d
  dsimp only
  refine⟨?_,rfl,z⟩;unfold Et at m;obtain⟨cs,D,rfl⟩:=dX.1 m
  have A:rK g.types.length g.bh.length (qrG g words):=⟨hw.2,adA _,a.rn,a.xn,λr b=>⟨(a.rule r b).kids,(a.rule r b).gr,(a.rule r b).len⟩,λx hx=>⟨(a.lex x hx).gr,(a.lex x hx).len⟩⟩
  have H:=a.ty.len
  have I:=a.ft
  obtain⟨p,a2⟩:=KK A zE zE (words:=words) words.length 1 ⟨[],List.replicate (words.length*(words.length+1)) []⟩ cs (aQ _) (by show 1+words.length≤words.length+1;omega) Gt (λit hit=>by cases hit) D
  have B:(fH cs.its).length≤300:=by rw[rF];exact p.BW
  have C:∀e,e<(fH cs.its).length→∃i,i<cs.its.length∧ic (fH cs.its) e=cs.ed i∧((fH cs.its).getD e er).bb=(cs.its.getD i er).bb.map λw=>⟨w.rule,w.lex,w.kids.map (ku (jB cs.its))⟩:=λe he=>by
   rw[rF]at he;obtain⟨i,l,k⟩:=Jn he;exact⟨i,l,by unfold ic;rw[k];rfl,by rw[k]⟩
  refine⟨Zp A p a2 (λr b=>(a.rule r b).kids) (aR _) (aR _) (λx hx=>by obtain⟨r,b,rfl⟩:=cA.1 hx;exact(a.rule r b).wt) (λx hx=>by obtain⟨r,b,rfl⟩:=cA.1 hx;exact(a.lex r b).wt),d,⟨λe he=> ?_,λe he x hx=> ?_⟩,B,λe he=> ?_,?_,hw,a⟩
  ·obtain⟨i,l,q,_⟩:=C e he
   rw[q]
   have:=p.ok.gr _ (sU l)
   exact⟨this.1,this.2.1,this.2.2.1⟩
  ·obtain⟨i,l,q,s⟩:=C e he
   rw[s]at hx;obtain⟨n,E,rfl⟩:=cA.1 hx;rw[q]
   rcases a2 _ (sU l) n E with⟨t,u,v,o,j,k,y,F,_⟩|⟨j,k,t,u,v,o,y,_⟩
   ·exact .inl ⟨t,by show n.kids.map _=[];rw[u];rfl,v,o,j,k,y,F⟩
   ·exact .inr ⟨j,k,t,u,by show((n.kids.map _).length:Int)=_;rw[aR];exact v,Gu _ _ o,by rw[show(cs.ed i).cV=IJ cs n.kids from y];exact(UB (sp:=cs.sp) (EB _ _ o)).symm⟩
  ·obtain⟨G,e2⟩:=po.1 he
   simp only[Bool.and_eq_true,decide_eq_true_eq]at e2
   exact⟨cU.1 G,e2.1.1,e2.1.2⟩
  ·show(Me _ _ _ _).length≤300
   unfold Me;exact cz (AJ _ _) (by rw[db];exact B)
def qF (Φ:Nat→dA→Prop):List Nat→List dA→Prop
 | [],[]=>True
 |k::ks,t::a=>Φ k t∧qF Φ ks a
 |_,_=>False
theorem qF.len {Φ:Nat→dA→Prop}:∀{ks:List Nat} {a:List dA},qF Φ ks a→a.length=ks.length
 | [],[],_=>rfl
 |_::_,_::_,h=>by rw[eU,eU,qF.len h.2]
 | [],_::_,h=>h.elim
 |_::_,[],h=>h.elim
theorem qF.mono {Φ Ψ:Nat→dA→Prop}:∀{ks:List Nat} {b:List dA},(∀k∈ks,∀t,Φ k t→Ψ k t)→qF Φ ks b→qF Ψ ks b
 | [],[],_,_=>trivial
 |k::ks,t::b,h,a=>⟨h k (aV ..) t a.1,qF.mono (λq c=>h q (bV _ c)) a.2⟩
 | [],_::_,_,h=>h.elim
 |_::_,[],_,h=>h.elim
theorem qF.mem {Φ:Nat→dA→Prop}{Ψ:dA→Prop}:∀{ks:List Nat} {b:List dA},(∀k∈ks,∀t,Φ k t→Ψ t)→qF Φ ks b→∀t∈b,Ψ t
 | [],[],_,_,_,h=>by cases h
 |k::ks,t::b,h,a,s,c=>by
  rcases bT.1 c with rfl|c
  ·exact h k (aV ..) _ a.1
  ·exact qF.mem (λq d=>h q (bV _ d)) a.2 s c
 | [],_::_,_,h,_,_=>h.elim
 |_::_,[],_,h,_,_=>h.elim
theorem KJ {l k:List dA}{t:dA}(h:t∈kp l k):∃a∈l,∃s∈k,t= .mk a.rule 0 (a.kids++ [s]):=by
 unfold kp at h;obtain⟨a,b,h⟩:=List.mem_flatMap.1 h;obtain⟨s,c,rfl⟩:=cA.1 h;exact⟨a,b,s,c,rfl⟩
theorem G1 {get:Nat→List dA}:∀(ks:List Nat) (l:List dA) (t:dA),t∈ks.foldl (λl k=>kp l (get k)) l→∃a∈l,∃d,qF (λk s=>s∈get k) ks d∧t=if ks=[]then a else .mk a.rule 0 (a.kids++d)
 | [],l,t,h=>⟨t,h,[],trivial,by rw[aB rfl]⟩
 |k::ks,l,t,h=>by
  rw[im]at h;obtain⟨b,e,d,h1,f⟩:=G1 ks _ t h;obtain⟨a,g,s,i,rfl⟩:=KJ e;refine⟨a,g,s::d,⟨i,h1⟩,?_⟩;rw[aA (by simp),f]
  by_cases c:ks=[]
  ·subst c
   rw[aB rfl]
   cases d with
   |nil=>rfl
   |cons _ _=>exact h1.elim
  ·rw[aA c]
   show dA.mk a.rule 0 ((a.kids++ [s])++d)=_
   rw[cr];rfl
theorem QT {get:Nat→List dA}{x:o9}{t:dA}(h:t∈pH get x):∃b,qF (λk s=>s∈get k) x.kids b∧t= .mk x.rule (if x.kids=[]then x.lex else 0) b:=by
 obtain⟨a,e,b,h1,d⟩:=G1 x.kids _ t h;rw[bN.1 e]at d;refine⟨b,h1,?_⟩;rw[d]
 by_cases c:x.kids=[]
 ·rw[aB c,aB c]
  rw[c]at h1
  cases b with
  |nil=>rfl
  |cons _ _=>exact h1.elim
 ·rw[aA c,aA c];rfl
theorem xm {g:ep}{words:List ab}{its:List iq}(q:WyA g words its)(d:qG (IG g its)){Φ:Nat→dA→Prop}
 (r:∀(e i:Nat),e<its.length→i<g.aK.length→(g.aK.getD i LI).word=words.getD (ic its e).frm []→(ic its e).tqo=(ic its e).frm+1→(ic its e).cV=0→1≤Ha (IG g its) e→Φ e (.mk (-1) i []))
 (u:∀(e i:Nat) (kids:List Nat) (b:List dA),e<its.length→i<g.rules.length→((kids.length:Nat):Int)=(g.rules.getD i mc).kids→hG ⟨its,[]⟩ (ic its e).tqo (ic its e).frm kids→(ic its e).cV=IJ ⟨its,[]⟩ kids→(∀k∈kids,k<its.length∧q8 (IG g its) k<q8 (IG g its) e)→kids.length≤3→MT (IG g its) kids+1≤Ha (IG g its) e→qF Φ kids b→Φ e (.mk i 0 b)):
 ∀(f e:Nat) (t:dA),e<its.length→t∈jO its f e→Φ e t
 |0,_,_,_,h=>by cases h
 |f+1,e,t,he,h=>by
  rw[jO]at h;obtain⟨x,hx,h⟩:=List.mem_flatMap.1 h;obtain⟨b,h1,rfl⟩:=QT h;obtain⟨w,v,j⟩:=K9 (B:=IG g its) hx
  rcases q.wy e he x hx with⟨c,l,m,n,i,o,p,y⟩|⟨i,o,c,l,m,n,p⟩
  ·have a:=(d.lex e w he v (by rw[j,c];decide)).2.2
   rw[c,p];rw[l]at h1⊢
   cases b with
   |nil=>rw[aB rfl];exact r e i he o y m n a
   |cons _ _=>exact h1.elim
  ·have a:=d.rule e w he v (by rw[j,c];omega)
   rw[j]at a;rw[c,l,ite_self];exact u e i x.kids b he o m n p a.2.2.1 a.2.1 a.2.2.2 (h1.mono λk hk s z=>xm q d r u f k s (a.2.2.1 k hk).1 z)
theorem KN {g:ep}:∀{l:List dA},(∀t∈l,WS g t=true)→I6 g l=true
 | [],_=>by rw[I6]
 |x::l,h=>by rw[I6,h x (by simp),KN λt ht=>h t (by simp[ht])];rfl
theorem Cr {B:kg}:∀{ks:List Nat} {a:List dA},qF (λk t=>qE t≤Ha B k) ks a→iH a≤MT B ks
 | [],[],_=>aQ _
 |k::ks,t::a,h=>by
  rw[iH,MU]
  have:=Cr h.2
  have h1:qE t≤Ha B k:=h.1
  omega
 | [],_::_,h=>h.elim
 |_::_,[],h=>h.elim
structure Y2 (g:ep)(t:dA):Prop where
 tr:B3 g t=true
 ar:WS g t=true
 thin:px t
 nn:qE t≤100
theorem Pb {g:ep}{words:List ab}{its:List iq}{full:List Nat}(h:TQ g words its full)(f:Nat){e:Nat}(he:e<its.length){t:dA}(ht:t∈jO its f e):Y2 g t:=by
 have key:=xm h.wy h.bs (Φ:=λe t=>(B3 g t=true∧WS g t=true∧px t)∧qE t≤Ha (IG g its) e) (λe i he b hw h1 l c=> ?_) (λe i kids m he b hk n o p q c a=> ?_) f e t he ht
 ·exact⟨key.1.1,key.1.2.1,key.1.2.2,cz key.2 (h.bs.bd e he)⟩
 ·refine⟨⟨?_,?_,.mk (by simp) (λ_ h=>by cases h)⟩,by rw[qE,iH];exact c⟩
  ·rw[B3,aB (by decide),pV,eJ,eJ];omega
  ·rw[WS,aB (by decide)];simp
 ·have d:=a.len
  have r:=h.gd.rn
  have j:=Cr (a.mono λk _ t h=>h.2)
  refine⟨⟨?_,?_,.mk zE (a.mem λk _ t h=>h.1.2.2)⟩,by rw[qE];omega⟩
  ·rw[B3,aA zE,pV,eJ]
   exact⟨by omega,Lr (a.mem λk _ t h=>h.1.1)⟩
  ·rw[WS,aA zE]
   simp only[Bool.and_eq_true,decide_eq_true_eq]
   refine⟨⟨⟨by omega,trivial⟩,?_⟩,KN (a.mem λk _ t h=>h.1.2.1)⟩
   rw[d,hk,CY,aw,aZ,aj b];rfl
theorem Mf {g:ep}{i:Nat}(a:i<g.rules.length):(g.rules.map ry.kids).getD i 0=(g.rules.getD i mc).kids:=by
 rw[aZ,aZ,aw,aj a];rfl
def lvE (its:List iq)(e:Nat):Nat:=(ic its e).tqo-(ic its e).frm
abbrev aaZ (g:ep)(its:List iq)(e:Nat)(t:dA):Prop:=qE t≤Ha (IG g its) e∧∀(d ch:Nat) (s:HZ),ch+(ic its e).cV≤3→d+q8 (IG g its) e≤52→s.nodes+qE t≤200→nu (g.rules.map ry.kids) g.aK.length t d ch s=(⟨s.nodes+qE t,s.leaves+lvE its e⟩,0,0)
theorem FT {g:ep}{its:List iq}{tqo:Nat}(i:∀e,e<its.length→(ic its e).frm<(ic its e).tqo):∀(ks:List Nat) (b:List dA) (a:Nat),hG ⟨its,[]⟩ tqo a ks→qF (aaZ g its) ks b→a≤tqo∧∀(d ch:Nat) (s:HZ),(∀k∈ks,ch+(ic its k).cV≤3∧d+q8 (IG g its) k≤52)→s.nodes+iH b≤200→kX (g.rules.map ry.kids) g.aK.length b d ch s=(⟨s.nodes+iH b,s.leaves+(tqo-a)⟩,0,0)
 | [],[],a,c,_=>by
  have c:a=tqo:=c
  subst c;exact⟨aQ _,λd ch s _ _=>by rw[kX,iH,eX];rfl⟩
 |k::ks,t::b,a,c,j=>by
  obtain⟨h1,l,m⟩:=c;obtain⟨i1,i2⟩:=FT i ks b _ m j.2
  have hk:=i k h1
  have l:(ic its k).frm=a:=l
  have i1:(ic its k).tqo≤tqo:=i1
  refine⟨by omega,λd ch s f n=> ?_⟩;rw[iH]at n⊢
  have e:=j.1.2 d ch s (f k (aV ..)).1 (f k (aV ..)).2 zE
  rw[kX,e,aA (by simp)];rw[i2 d ch ⟨s.nodes+qE t,s.leaves+lvE its k⟩ (λq o=>f q (bV _ o)) (by show s.nodes+qE t+iH b≤200;omega)];unfold lvE
  have p:s.nodes+qE t+iH b=s.nodes+(qE t+iH b):=by omega
  have e2:s.leaves+((ic its k).tqo-(ic its k).frm)+(tqo-(Cs.ed ⟨its,[]⟩ k).tqo)=s.leaves+(tqo-a):=by
   show s.leaves+((ic its k).tqo-(ic its k).frm)+(tqo-(ic its k).tqo)=_
   omega
  simp only[p,e2]
 | [],_::_,_,_,h=>h.elim
 |_::_,[],_,_,h=>h.elim
theorem Ug {g:ep}{words:List ab}{its:List iq}{full:List Nat}(h:TQ g words its full)(f:Nat){e:Nat}(he:e<its.length){t:dA}(ht:t∈jO its f e):jv g t=(0,0):=by
 have y:∀e,e<its.length→(ic its e).frm<(ic its e).tqo:=λe he=>(h.wy.ed e he).1
 have key:=xm h.wy h.bs (Φ:=aaZ g its) (λe i he u hw h1 E v=> ?_) (λe i kids a he u hk z j w F v m=> ?_) f e t he ht
 ·have A:=h.wy.ed e he
  have l:=h.n
  have B:=h.bs.bd e he
  have x:q8 (IG g its) e=((ic its e).tqo-(ic its e).frm)*4+(ic its e).cV:=rfl
  have o:=key.2 1 0 ⟨0,0⟩ zE zE (by show 0+_≤_;have:=key.1;omega)
  unfold jv;rw[o,aA (by simp),aA (by show ¬12<0+lvE its e;unfold lvE;omega)]
 ·refine⟨by rw[qE,iH];exact v,λd ch s j hd l=> ?_⟩
  have x:q8 (IG g its) e=((ic its e).tqo-(ic its e).frm)*4+(ic its e).cV:=rfl
  rw[nu];rw[qE,iH]at l⊢;rw[aA zE,aA zE,aA zE,aA (by simp),aA (by simp),kX];unfold lvE;rw[h1]
  simp
 ·have G:=h.gd.rn
  have b:=m.len
  have C:=Cr (m.mono λk _ t h=>h.1)
  obtain⟨_,D⟩:=FT y kids a _ z m;refine⟨by rw[qE];omega,λd ch s H hd l=> ?_⟩
  have x:q8 (IG g its) e=((ic its e).tqo-(ic its e).frm)*4+(ic its e).cV:=rfl
  have A:=h.wy.ed e he
  rw[qE]at l⊢;rw[nu,aA zE,aA (by rw[aR];omega),aA (by simp),if_neg (by rw[if_pos zE,Int.toNat_natCast,Mf u,b,hk];simp)]
  have p:(if a.length=1 then ch+1 else 0)≤3∧∀k∈kids,(if a.length=1 then ch+1 else 0)+(ic its k).cV≤3:=by
   by_cases c:a.length=1
   ·rw[aB c]
    match kids,b,j with
    | [k],_,j=>
     have j:(ic its e).cV=(ic its k).cV+1:=j
     refine⟨by omega,λq r=> ?_⟩
     rw[bN.1 r];omega
    | [],b,_=>exact absurd (b.symm.trans c) (by simp)
    |_::_::_,b,_=>exact absurd (b.symm.trans c) (by simp)
   ·rw[aA c]
    refine⟨by omega,λq r=> ?_⟩
    have:=(h.wy.ed q (w q r).1).2.2
    omega
  rw[aA zE,D (d+1) _ _ (λk hk=>⟨p.2 k hk,by have:=(w k hk).2;omega⟩) (by show s.nodes+1+iH a≤200;omega)]
  have o:s.nodes+1+iH a=s.nodes+(1+iH a):=by omega
  show((⟨s.nodes+1+iH a,(if 0≤((i:Nat):Int)then s.leaves else s.leaves+1)+_⟩:HZ),(0:Int),(0:Int))=_
  rw[aB zE,o];rfl
mutual
def QW (g:ep):dA→List ab
 | .mk r l ks=>if r<0 then [(g.aK.getD l.toNat LI).word]else G3 g ks
def G3 (g:ep):List dA→List ab
 | []=>[]
 |t::l=>QW g t++G3 g l
end
theorem S4 {α:Type}(l:List α){a b c:Nat}(h1:a≤b)(d:b≤c):(l.drop a).take (b-a)++(l.drop b).take (c-b)=(l.drop a).take (c-a):=by
 have e:c-a=(b-a)+(c-b):=by omega
 rw[e,List.take_add,List.drop_drop,show a+(b-a)=b by omega]
theorem LH {g:ep}{words:List ab}{its:List iq}{tqo:Nat}(f:∀e,e<its.length→(ic its e).frm<(ic its e).tqo):∀(ks:List Nat) (c:List dA) (a:Nat),hG ⟨its,[]⟩ tqo a ks→qF (λe t=>QW g t=(words.drop (ic its e).frm).take ((ic its e).tqo-(ic its e).frm)) ks c→a≤tqo∧G3 g c=(words.drop a).take (tqo-a)
 | [],[],a,b,_=>by
  have b:a=tqo:=b
  subst b;rw[G3,eX,nR];exact⟨aQ _,rfl⟩
 |k::ks,t::c,a,b,i=>by
  obtain⟨h1,d,j⟩:=b;obtain⟨i1,i2⟩:=LH f ks c _ j i.2
  have hk:=f k h1
  have d:(ic its k).frm=a:=d
  have i1:(ic its k).tqo≤tqo:=i1
  refine⟨by omega,?_⟩
  have l:QW g t=(words.drop (ic its k).frm).take ((ic its k).tqo-(ic its k).frm):=i.1
  rw[G3,l,i2,d];exact S4 words zE i1
 | [],_::_,_,_,h=>h.elim
 |_::_,[],_,_,h=>h.elim
theorem Yi {g:ep}{words:List ab}{its:List iq}{full:List Nat}(h:TQ g words its full)(f:Nat){e:Nat}(he:e<its.length){t:dA}(ht:t∈jO its f e):QW g t=(words.drop (ic its e).frm).take ((ic its e).tqo-(ic its e).frm):=by
 refine xm h.wy h.bs (Φ:=λe t=>QW g t=(words.drop (ic its e).frm).take ((ic its e).tqo-(ic its e).frm)) (λe i he b hw h1 l c=> ?_) (λe i kids d he b hk j m n o c k=> ?_) f e t he ht
 ·have p:=h.wy.ed e he
  rw[QW,aB (by decide),CY,hw,h1,show(ic its e).frm+1-(ic its e).frm=1 by omega]
  have a:(ic its e).frm<words.length:=by omega
  rw[aZ,aj a,List.take_one,List.head?_drop,aj a];rfl
 ·rw[QW,aA zE]
  exact(LH (λe he=>(h.wy.ed e he).1) kids d _ j k).2
end Go.Proofs.YtiefglecbgdaiaaGreatDoor
namespace Go.Proofs.YtiefglecbgdaiaaGreatDoor
open Go Go.J Go.Sort
theorem Ke:∀l m:List Int,eb l m=true↔jA kf l m<0
 | [],[]=>by simp[jA,eb]
 | [],b::m=>by simp[jA,eb]
 |a::l,[]=>by simp[jA,eb]
 |a::l,b::m=>by
  refine Iff.trans (show eb (a::l) (b::m)=true↔_ from PF.int.app a b l m) ?_;rw[Ke l m,jA]
  by_cases e:kf a b=0
  ·rw[aA (λx=>x e),e]
   exact⟨λh=>h.elim (λx=>absurd x (by decide)) (λx=>x.2),λh=> .inr ⟨rfl,h⟩⟩
  ·rw[aB e]
   exact⟨λh=>h.elim id (λx=>absurd x.1 e),.inl⟩
theorem Dt (g:ep)(a b:dA):xR g a b<0↔eb (oT g a::iu a) (oT g b::iu b)=true:=by
 unfold xR;rw[pM,←Ke];exact(show eb (oT g a::iu a) (oT g b::iu b)=true↔_ from PF.int.app _ _ _ _).symm
theorem zS (g:ep):SWO (ltOf (xR g)):=by
 refine⟨λx=>e9 ?_,λx y z h1 a=>dI ?_,λx y z h1 a=>e9 ?_⟩
 ·rw[Dt,fQ];decide
 ·have h1:=gU h1
  have a:=gU a
  rw[Dt]at h1 a⊢;exact ef h1 a
 ·have h1:=l3 h1
  have a:=l3 a
  rw[Dt]at h1 a⊢;exact zI h1 a
def wG (g:ep):ep:=⟨[],[],g.rules.map λr=>⟨[],[],r.kids,r.weight,.mk 0 [] 0 (.mk [] []) []⟩,g.aK.map λx=>⟨[],[],x.weight,.mk 0 [] 0 (.mk [] []) []⟩,[]⟩
def OQ (its:List iq)(full:List Nat):List dA:=full.flatMap (jO its 60)
def lG (g:ep)(words:List ab):List dA×(Int×Int):=
 if(ek g words).2.1≠0 then([],(ek g words).2)else if 200<(OQ (ek g words).1.1 (ek g words).1.2).length then([],(17,-1))
 else(Gw (xR (wG g)) (OQ (ek g words).1.1 (ek g words).1.2),(0,0))
theorem Kt {g:ep}{words:List ab}{t:dA}(h:t∈(lG g words).1):(ek g words).2.1=0∧t∈OQ (ek g words).1.1 (ek g words).1.2:=by
 unfold lG at h
 by_cases h1:(ek g words).2.1≠0
 ·rw[aB h1]at h;cases h
 rw[aA h1]at h
 by_cases a:200<(OQ (ek g words).1.1 (ek g words).1.2).length
 ·rw[aB a]at h;cases h
 rw[aA a]at h;exact⟨fK.1 h1,(C7 (zS _) _).mem_iff.1 h⟩
theorem Ui (g:ep)(words:List ab):(lG g words).1.length≤200:=by
 unfold lG
 split
 ·exact aP _
 ·split
  ·exact aP _
  ·rename_i h
   show(Gw _ _).length≤200
   rw[(C7 (zS _) _).length_eq];omega
theorem Uh {g:ep}{words:List ab}{t:dA}(h:t∈(lG g words).1):jv g t=(0,0)∧Y2 g t∧QW g t=words:=by
 obtain⟨h1,b⟩:=Kt h
 have a:=(Dx h1).1
 obtain⟨e,he,ht⟩:=List.mem_flatMap.1 b;obtain⟨f1,f2,f3⟩:=a.ful e he;refine⟨Ug a 60 f1 ht,Pb a 60 f1 ht,?_⟩;rw[Yi a 60 f1 ht,f2,f3,List.drop_zero,Nat.sub_zero,dV (aQ _)]
mutual
theorem SH (g:ep):∀t:dA,B3 (wG g) t=B3 g t
 | .mk r l ks=>by
  rw[B3,B3,Ls g ks];unfold wG;rw[aR,aR]
theorem Ls (g:ep):∀l:List dA,ub (wG g) l=ub g l
 | []=>rfl
 |t::l=>by rw[ub,ub,SH g t,Ls g l]
end
theorem aaQ {g:ep}(h:EZ g):T6 (wG g):=⟨λx hx=>by
 obtain⟨r,a,rfl⟩:=cA.1 (show x∈g.rules.map _ from hx)
 exact(h.rule r a).wt,λx hx=>by
 obtain⟨r,a,rfl⟩:=cA.1 (show x∈g.aK.map _ from hx)
 exact(h.lex r a).wt⟩
end Go.Proofs.YtiefglecbgdaiaaGreatDoor
namespace Go.J
open Go
theorem gN (xs:List Int):rows aI xs=xs.map (λx=>iv x):=by
 induction xs with
 |nil=>rfl
 |cons x xs a=>simp only[rows,List.flatMap_cons,List.map_cons]at a⊢;rw[a];rfl
abbrev ints (l:List Nat):List Int:=l.map (λi:Nat=>(i:Int))
theorem oI (l:List Nat)(k:Nat):(ints l).getD k 0=(l.getD k 0:Int):=by
 rw[aZ,aZ,aw]
 cases l[k]?<;>rfl
theorem afT {l:List Int}{k:Nat}(h:k<l.length):(rows aI l)[k*1+0]?=some (iv (l.getD k 0)):=by
 rw[gN,e8,fU,aw,dm 0 h];rfl
theorem oO (l:List Int)(k:Nat)(x:Int):(rows aI l).set (k*1+0) (iv x)=rows aI (l.set k x):=by
 rw[e8,fU,ve (Rr:=aI) rfl rfl]
theorem M3 {n:Nat}{l:List Nat}(hp:l.Perm (List.range n))(b:n≤9223372036854775807):∀x∈ints l,aI.wf x:=by
 intro x hx;obtain⟨i,a,rfl⟩:=cA.1 hx
 have:=cU.1 (hp.mem_iff.1 a)
 show bR (i:Int)
 unfold bR;omega
theorem bO (l:List Nat):(ints l).length=l.length:=aR _
theorem RI {l:List Nat}{k:Nat}(h:k<l.length):(rows aI (ints l))[k*1+0]?=some (iv ((l.getD k 0:Nat):Int)):=by
 rw[afT (by rw[bO];exact h),oI]
end Go.J
