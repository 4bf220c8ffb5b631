/-
  Laws of walks through programs, and facts on grammars, trees and queries.
  Conditions: none.
-/
import Derived.Test.YtiefglecbgdaiaaGreatDoorGR7
import Derived.Shelf.Strings.IndexAnyAll
import Derived.Lib.OthersKept
import Derived.Shelf.Small.Utf8
import Derived.Laws.RangeAny
import Derived.Laws.Cover4
import Derived.Scope
import Derived.Handy
import Derived.Shelf.RegionOpen
import Derived.Shelf.RegionOpenPlain
import Derived.Shelf.Utf8.RuneCount
import Derived.Shelf.Unicode.ValidAny
set_option maxHeartbeats 16000000
set_option maxRecDepth 20000
set_option linter.unusedVariables false
set_option linter.unusedSimpArgs false
namespace Go.Proofs.YtiefglecbgdaiaaGreatDoor
open Go Go.J Tryz
def xi:cT:=⟨0,0,0,⟨bx,[]⟩,bx,[],bx,[]⟩
def WZ (o:List Nat)(w:oH):oH:=⟨w.rule,w.lex,w.kv,w.kids.map (lg o)⟩
def Aw (o:List Nat)(x:cT):cT:=⟨x.frm,x.tqo,x.cp,x.gr,x.wv,x.cD.map (WZ o),x.tv,x.cB⟩
def nA (w:oH):e8:=sl aJ w.kv.1 (bV w.kids)
def dp (x:cT):e8:=j7 [aI x.gr,sl mZ x.wv.1 x.cD,aL nA x.cD]
theorem VC (its:List cT):((jv (its.map dy)).map λi=>Aw (jv (its.map dy)) (its.getD i xi)).map dy=ff (its.map dy):=by
 unfold ff;rw[jJ]
 refine sk λi _=> ?_
 have e:(its.map dy).getD i fX=dy (its.getD i xi):=by
  simp only[List.getD_eq_getElem?_getD,List.getElem?_map]
  cases its[i]? with
  |none=>rfl
  |some x=>rfl
 rw[e]
 show dy (Aw _ _)=_
 unfold Aw dy
 simp only[List.map_map]
 congr 1
theorem E5 {o:List Nat}(hd:o.Nodup){k i:Nat}(hk:o[k]?=some i):o.idxOf i=k:=by
 have a:=bO hk
 have b:o[k]=i:=by rw[bT a]at hk;exact Option.some.inj hk
 rw[←b];exact hd.idxOf_getElem k a
def OL (n k:Nat):List Int:=bV (List.range k)++List.replicate (n-k) 0
theorem XP {n k:Nat}(h:k<n):(OL n k).set k (k:Int)=OL n (k+1):=by
 unfold OL;rw[oE _ _ (by rw[dc,kF];exact aU _),dc,kF,gp,vH,gz,dg,show n-k=(n-(k+1))+1 by omega,List.replicate_succ,Av];rfl
theorem XO (n:Nat):OL n n=bV (List.range n):=by unfold OL;rw[gp];simp
def LX (o:List Nat)(k:Nat):List Int:=(List.range o.length).map λi=>if o.idxOf i<k then(o.idxOf i:Int)else 0
theorem Sg (o:List Nat):LX o 0=List.replicate o.length 0:=by
 unfold LX
 refine nN λj=> ?_
 rw[bJ,si]
 rcases dI j o.length with a|a
 ·rw[nP a,aB a];rfl
 ·rw[iR (by simpa using a),aA zE];rfl
theorem Sh {o:List Nat}(hd:o.Nodup){k i:Nat}(hk:o[k]?=some i)(hi:i<o.length):(LX o k).set i (k:Int)=LX o (k+1):=by
 have a:=bO hk
 have b:o.idxOf i=k:=by
  have l:o[k]=i:=by rw[bT a]at hk;exact Option.some.inj hk
  rw[←l];exact hd.idxOf_getElem k a
 refine nN λj=> ?_
 unfold LX
 by_cases e:j=i
 ·subst e
  rw[ic (by rw[aO,kF];exact hi),bJ,nP hi]
  show some _=some _
  dsimp only
  rw[b,aB zE]
 ·rw[iz (λh=>e h.symm),bJ,bJ]
  rcases dI j o.length with d|d
  ·rw[nP d]
   show some _=some _
   dsimp only
   have n:o.idxOf j≠k:=λf=>by
    have:o.idxOf j<o.length:=by rw[f];exact a
    have m:=List.getElem_idxOf this
    have g:o[k]?=some j:=by rw[←f,bT this,m]
    rw[hk]at g;exact e (Option.some.inj g).symm
   congr 1
   try dsimp only
   by_cases c:o.idxOf j<k
   ·rw[aB c,aB zE]
   ·rw[aA c,aA zE]
  ·rw[iR (by simpa using d)];rfl
theorem XQ {o:List Nat}{i:Nat}(hi:i<o.length)(hm:i∈o):(LX o o.length)[i]?=some ((lg o i:Nat):Int):=by
 unfold LX lg;rw[bJ,nP hi]
 show some _=some _
 dsimp only
 rw[aB (List.idxOf_lt_length_iff.2 hm)]
def I2 (o:List Nat)(its:List cT)(k:Nat):List cT:=((o.take k).map λi=>Aw o (its.getD i xi))++List.replicate (o.length-k) xi
theorem XH {o:List Nat}{its:List cT}{k:Nat}(h:k≤o.length):(I2 o its k).length=o.length:=by unfold I2;rw[cA,aO,eR,mI];omega
theorem NI {o:List Nat}{its:List cT}{k i:Nat}{x:cT}(hk:o[k]?=some i)(hx:its[i]?=some x):(I2 o its k).set k (Aw o x)=I2 o its (k+1):=by
 have a:=bO hk
 unfold I2;rw[oE _ _ (by rw[aO,eR];omega),aO,eR,il zE,gp,ag hk,cY,dg,show o.length-k=(o.length-(k+1))+1 by omega,List.replicate_succ,Av]
 have e:its.getD i xi=x:=by rw[ax,hx];rfl
 rw[fM,kb,e];rfl
def T2 (o:List Nat)(its:List cT)(k:Nat):List cT:=its.zipIdx.map λp=>if o.idxOf p.2<k then Aw o p.1 else p.1
theorem NQ (o:List Nat)(its:List cT)(k:Nat):(T2 o its k).length=its.length:=by unfold T2;rw[aO,List.length_zipIdx]
theorem Bj (o:List Nat)(its:List cT)(k i:Nat):(T2 o its k)[i]?=(its[i]?).map λx=>if o.idxOf i<k then Aw o x else x:=by
 unfold T2;rw[bJ,List.getElem?_zipIdx]
 cases its[i]? with
 |none=>rfl
 |some x=>simp
theorem Sj (o:List Nat)(its:List cT):T2 o its 0=its:=nN λi=>by
 rw[Bj]
 cases its[i]? with
 |none=>rfl
 |some x=>simp
theorem XT {o:List Nat}(hd:o.Nodup){its:List cT}{k i:Nat}{x:cT}(hk:o[k]?=some i)(hx:its[i]?=some x):(T2 o its k).set i (Aw o x)=T2 o its (k+1):=by
 have a:=bO hk
 have f:o.idxOf i=k:=by
  have g:o[k]=i:=by rw[bT a]at hk;exact Option.some.inj hk
  rw[←g];exact hd.idxOf_getElem k a
 refine nN λj=> ?_
 by_cases e:j=i
 ·subst e
  rw[ic (by rw[NQ];exact bO hx),Bj,hx]
  show some _=some _
  dsimp only
  rw[aB zE]
 ·rw[iz (λh=>e h.symm),Bj,Bj]
  cases m:its[j]? with
  |none=>rfl
  |some y=>
   show some _=some _
   dsimp only
   congr 1
   have n:o.idxOf j≠k:=λb=>by
    have:o.idxOf j<o.length:=by rw[b];exact a
    have l:=List.getElem_idxOf this
    have d:o[k]?=some j:=by rw[←b,bT this,l]
    rw[hk]at d;exact e (Option.some.inj d).symm
   by_cases c:o.idxOf j<k
   ·rw[aB c,aB zE]
   ·rw[aA c,aA zE]
theorem XS {o:List Nat}{its:List cT}(h:∀i,i<its.length→i∈o):T2 o its o.length=its.map (Aw o):=nN λi=>by
 rw[Bj,bJ]
 cases hi:its[i]? with
 |none=>rfl
 |some x=>
  show some _=some _
  dsimp only
  rw[aB (List.idxOf_lt_length_iff.2 (h i (bO hi)))]
theorem Qc (o:List Nat)(l:List oH):rows mZ (l.map (WZ o))=rows mZ l:=by
 unfold rows
 rw[List.flatMap_map];rfl
theorem YE {α:Type}(f:α→List ay)(X:List ay){l:List α}{i:Nat}{x:α}(h:l[i]?=some x):(bX f l++X).Perm (f x++(bX f (l.eraseIdx i)++X)):=by
 rw[←dg];exact(rZ f h).append_right X
theorem ac2 {α:Type}(f:α→List ay)(X:List ay){l:List α}{i:Nat}(x:α)(h:i<l.length):(f x++(bX f (l.eraseIdx i)++X)).Perm (bX f (l.set i x)++X):=by
 rw[←dg];exact(vj f x h).append_right X
def W2 (o:List Nat)(l:List oH)(m:Nat):List oH:=(l.take m).map (WZ o)++l.drop m
theorem Sm (o:List Nat)(l:List oH):W2 o l 0=l:=rfl
theorem aaJ {o:List Nat}{l:List oH}{m:Nat}{w:oH}(h:l[m]?=some w):(W2 o l m)[m]?=some w:=by
 have:=bO h
 unfold W2
 rw[nO (by rw[aO,eR];omega),aO,eR,il zE,gp,Ap];simpa using h
theorem XX {o:List Nat}{l:List oH}{m:Nat}(h:m≤l.length):(W2 o l m).length=l.length:=by unfold W2;rw[cA,aO,eR,Aq];omega
theorem XY {o:List Nat}{l:List oH}{m:Nat}{w:oH}(h:l[m]?=some w):(W2 o l m).set m (WZ o w)=W2 o l (m+1):=by
 have a:=bO h
 unfold W2
 rw[oE _ _ (by rw[aO,eR];omega),aO,eR,il zE,gp,ag h,bW h,Av,cY,dg];rfl
theorem XW (o:List Nat)(l:List oH):W2 o l l.length=l.map (WZ o):=by unfold W2;simp
def K2 (o l:List Nat)(d:Nat):List Nat:=(l.take d).map (lg o)++l.drop d
theorem Sc (o l:List Nat):K2 o l 0=l:=rfl
theorem aaG {o l:List Nat}{d k:Nat}(h:l[d]?=some k):(K2 o l d)[d]?=some k:=by
 have:=bO h
 unfold K2
 rw[nO (by rw[aO,eR];omega),aO,eR,il zE,gp,Ap];simpa using h
theorem XM {o l:List Nat}{d k:Nat}(h:l[d]?=some k):(K2 o l d).set d (lg o k)=K2 o l (d+1):=by
 have a:=bO h
 unfold K2
 rw[oE _ _ (by rw[aO,eR];omega),aO,eR,il zE,gp,ag h,bW h,Av,cY,dg];rfl
theorem XL (o l:List Nat):K2 o l l.length=l.map (lg o):=by unfold K2;simp
theorem Q6 (l:List Nat)(d k:Nat):(bV l).set d (k:Int)=bV (l.set d k):=by unfold bV;rw[mJ]
theorem Yg {c:Ctx}(p b:TypeId){x:cT}(hw:∀w∈x.cD,mZ.wf w∧∀k∈w.kids,aZ (k:Int))(H:List ay)(w:World)(h:Mm c (ew p b x++H) w):Mm c (aD (j7 [sl mZ x.wv.1 x.cD,aL nA x.cD])::H) w:=by
 obtain⟨ρ,k⟩:=h.out
 have h1:=k.bU mZ x.cD rfl rfl (λy hy=>(hw y hy).1)
 obtain⟨n,e⟩:=h1.out
 have f:=(e.perm (List.Perm.swap _ _ _)).drop
 have g:Mm c (bX (jd b) x.cD++(aD (sl mZ x.wv.1 x.cD)::H)) w:=Mm.mk (f.perm qH.symm)
 have gen:∀(l:List oH) (H:List ay),(∀y∈l,∀k∈y.kids,aZ (k:Int))→Mm c (bX (jd b) l++H) w→Mm c (aD (aL nA l)::H) w:=by
  intro l
  induction l with
  |nil=>exact λH _ h=>h.fact (aL nA []) λρ _ x hx=>by cases hx
  |cons a l q=>
   intro H o h;rw[n5,dg]at h;obtain⟨ρ,k⟩:=h.out
   have h1:=k.bU aJ (bV a.kids) rfl (dc _).symm (λz hz=>by obtain⟨z2,i,rfl⟩:=cS.1 hz;exact o a (by simp) z2 i)
   obtain⟨n,e⟩:=h1.out
   have e:fH c (aD (nA a)::(bX (jd b) l++H)) n w:=e
   have r:Mm c (bX (jd b) l++(aD (nA a)::H)) w:=Mm.mk (e.perm qH.symm)
   have g:=q _ (λy hy=>o y (by simp[hy])) r
   have j:Mm c (aD (aL nA (a::l))::aD (aL nA l)::aD (nA a)::H) w:=g.fact _ (λρ hm x hx=>by
    rcases cN.1 hx with rfl|hx
    ·exact dJ.1 (hm.dR (aD (nA x)) (by simp))
    ·exact dJ.1 (hm.dR (aD (aL nA l)) (by simp)) x hx)
   obtain⟨m,k⟩:=j.out
   have f:fH c (aD (aL nA l)::aD (nA a)::aD (aL nA (a::l))::H) m w:=k.perm ((List.Perm.swap _ _ _).trans ((List.Perm.swap _ _ _).cons _))
   exact Mm.mk f.drop.drop
 have j:=gen x.cD _ (λy hy=>(hw y hy).2) g
 have s:Mm c (aD (j7 [sl mZ x.wv.1 x.cD,aL nA x.cD])::aD (aL nA x.cD)::aD (sl mZ x.wv.1 x.cD)::H) w:=j.fact _ (λρ hm d hd=>by
  rcases cN.1 hd with rfl|hd
  ·exact dJ.1 (hm.dR (aD (sl mZ x.wv.1 x.cD)) (by simp))
  ·rw[ba.1 hd];exact dJ.1 (hm.dR (aD (aL nA x.cD)) (by simp)))
 obtain⟨m,k⟩:=s.out
 have f:fH c (aD (aL nA x.cD)::aD (sl mZ x.wv.1 x.cD)::aD (j7 [sl mZ x.wv.1 x.cD,aL nA x.cD])::H) m w:=k.perm ((List.Perm.swap _ _ _).trans ((List.Perm.swap _ _ _).cons _))
 exact Mm.mk f.drop.drop
theorem Mm.ahH {c:Ctx}{α:Type}{f:α→List ay}{g:α→e8}{w:World}:∀(l:List α) (H:List ay),(∀a∈l,∀H,Mm c (f a++H) w→Mm c (aD (g a)::H) w)→Mm c (bX f l++H) w→Mm c (aD (aL g l)::H) w
 | [],H,_,h=>h.fact (aL g []) λρ _ x hx=>by cases hx
 |a::l,H,d,h=>by
  rw[n5,dg]at h
  have h1:=d a (by simp) _ h
  obtain⟨p,e⟩:=h1.out
  have i:Mm c (bX f l++(aD (g a)::H)) w:=Mm.mk (e.perm qH.symm)
  have j:=Mm.ahH l _ (λb m=>d b (by simp[m])) i
  have n:Mm c (aD (aL g (a::l))::aD (aL g l)::aD (g a)::H) w:=j.fact _ (λρ hm x hx=>by
   rcases cN.1 hx with rfl|hx
   ·exact dJ.1 (hm.dR (aD (g x)) (by simp))
   ·exact dJ.1 (hm.dR (aD (aL g l)) (by simp)) x hx)
  obtain⟨ρ,k⟩:=n.out
  have o:fH c (aD (aL g l)::aD (g a)::aD (aL g (a::l))::H) ρ w:=k.perm ((List.Perm.swap _ _ _).trans ((List.Perm.swap _ _ _).cons _))
  exact Mm.mk o.drop.drop
theorem St.ZE {n:Nat}{F:Fr}{c:Ctx}{H H':List ay}{T:Act→World→Prop}(d e:TypeId)(l:List cT)(hw:∀x∈l,∀w∈x.cD,mZ.wf w∧∀k∈w.kids,aZ (k:Int))[f:mf (bX (ew d e) l) [] H H'](h:St n F (Mm c (aD (aL (λx:cT=>j7 [sl mZ x.wv.1 x.cD,aL nA x.cD]) l)::H')) T):St n F (Mm c H) T:=by
 obtain⟨L,a,b⟩:=f.eq
 refine h.oY λw g=> ?_
 rw[b,ib];refine Mm.ahH l L (λx hx H h=>Yg d e (hw x hx) H w h) ?_;obtain⟨ρ,k⟩:=g.out;refine Mm.mk (k.perm ?_);rw[a];exact kf
theorem JM (a b:Nat)(u:ah)(its:List cT)(hd:((its.map dy).map λx=>fb x.ed).Nodup)(v:Value)(n:its.length≤1000):
 dx prog 173 #[v,.func (.func 174) #[] [tW a].toArray] ([j7 [kH a (tW b),kH b u.1,sl eT u.1 its,aL (λx:cT=>aI x.gr) its]].map aD++ [row v 3 1 its.length (rows aJ (bV (List.range its.length)))]) (λr H'=>r= .tuple #[]∧H'=[row v 3 1 its.length (rows aJ (bV (jv (its.map dy))))]):=by
 have c:∀i,i<its.length→∃x,its[i]?=some x∧(its.map dy).getD i fX=dy x:=λi hi=>by
  obtain⟨x,hx⟩:=aF hi;exact⟨x,hx,by rw[ax,bJ,hx];rfl⟩
 have e:∀l:List Nat,rows aJ (bV l)=l.map λi=>iv (i:Nat):=λl=>by rw[fR,bV,jJ];rfl
 have main:=ER Tryz.zi (m:=its.length) (λi=>iv (i:Nat)) (λ_ _=>rfl) (λi j=>yF ((its.map dy).getD i fX).ed ((its.map dy).getD j fX).ed) (λ_ _=>K4 _) (λ_ _ _ _ _ _=>Bv) (λ_ _ _ _ _ _=>z6) 174 abU [tW a] (j7 [kH a (tW b),kH b u.1,sl eT u.1 its,aL (λx:cT=>aI x.gr) its]) (λi j hi d=>by
  obtain⟨x,hx,ex⟩:=c i hi;obtain⟨y,hy,f⟩:=c j d;rw[ex,f]
  exact(JL a b u its i j x y hx hy).all) v 3 zE
 rw[e];refine main.mono ?_;rintro r H' ⟨h1,l,hp,g,h⟩;refine⟨h1,?_⟩
 have k:l=jv (its.map dy):=QI hd (by rw[aO];exact hp) g
 rw[h,k,e]
theorem Mp (a n:Nat)(u:ah)(its:List cT)(hd:((its.map dy).map λx=>fb x.ed).Nodup)(S:its.length≤1000)(hw:∀x∈its,x.cD.length≤3000000000000∧∀w∈x.cD,mZ.wf w∧w.kids.length≤1000∧∀k∈w.kids,k<its.length):
 dx prog 118 #[tW a] ([aL (λx:cT=>aI x.gr) its].map aD++([tI a [u.1,iv (n:Nat),(.slice none 0 0)] 170,row u.1 229 6 its.length (rows eT its)]++bX (ew 234 3) (its))) (λv H'=>∃(O:ah) (D:List cT),D.map dy=ff (its.map dy)∧H'=[tI a [O.1,iv (n:Nat),(.slice none 0 0)] 170,aD (sl eT O.1 D),aD (aL dp D)]):=by
 refine dx.body (args:=[tW a]) 101 func118 rfl ntmps118 rfl (λc=>St.cast (H':=(aD (aL (λx:cT=>aI x.gr) its)::tI a [u.1,iv (n:Nat),(.slice none 0 0)] 170::row u.1 229 6 its.length (rows eT its)::bX (ew 234 3) (its))) rfl (go ?_));refine St.bU u.1 eT its rfl rfl (λ_ _=>trivial) ?_
 obtain⟨o,E⟩:∃o,o=(jv (its.map dy)):=⟨_,rfl⟩
 have t:o.Perm (List.range its.length):=by rw[E,show its.length=(its.map dy).length from(aO _).symm];exact lB _ _
 have A:o.length=its.length:=by rw[t.length_eq,kF]
 have r:o.Nodup:=t.nodup_iff.2 List.nodup_range
 have B:∀i,i<its.length→i∈o:=λi hi=>t.mem_iff.2 (dM.2 hi)
 refine go ?_;refine St.Ll (.mk rfl) rfl rfl (λs=>g9 ?_);refine St.nC (m:=its.length) (.mk rfl) (.mk rfl) bQ dQ ec yt rfl rfl zE rfl rfl (λf=> ?_);refine St.aP (tO f its.length its.length) rfl (show _=rows aJ (OL its.length 0) by rw[A7];rfl) ?_;refine g12 ?_;refine St.lH (ι:=Nat) (λk T=>(22,iv k)::T) (λk=>(tI a [u.1,iv (n:Nat),(.slice none 0 0)] 170::tI s [tW a] 282::aD (sl eT u.1 its)::aD (aL (λx:cT=>aI x.gr) its)::row (tO f its.length its.length) 3 1 its.length (rows aJ (OL its.length k))::bX (ew 234 3) (its))) (λk=>k≤its.length) (λk=>its.length-k) 0 (aC.k3 1 2 21) (aQ _) ?_;intro k hk;refine g6 ?_;refine St.cq (λU=> ?_) (λU=> ?_)
 ·skip
  refine g15 ?_;refine St.dF (.mk rfl) (.mk rfl) dQ rfl zE (by decide) ?_;refine St.aP (tO f its.length its.length) rfl (show _=rows aJ (OL its.length (k+1)) by rw[k9,XP zE]) ?_;refine g8 ?_;refine St.aH (k+1) zE
 ·obtain rfl:k=its.length:=by omega
  rw[XO];refine g8 ?_;refine St.ee (Ev.func (.aq rfl)) (St.aa5 (ds:=[j7 [kH s (tW a),kH a u.1,sl eT u.1 its,aL (λx:cT=>aI x.gr) its]]) (L:=[row (tO f its.length its.length) 3 1 its.length (rows aJ (bV (List.range its.length)))]) (R:=_) (JM s a u its hd (tO f its.length its.length) S) abT (.aX rfl rfl) (j4.j7 (j4.aW (j4.aW (j4.aD (j4.aD j4.nil))))) (iW.row iW.nil) (λv H' h=>h.2▸iW.row iW.nil) rfl ?_);rintro v32 _ ⟨rfl,rfl⟩;rw[←E];refine St.bB (g6 ?_);refine St.nC (m:=its.length) (.mk rfl) (.mk rfl) bQ dQ ec yt rfl rfl zE rfl rfl (λb=> ?_);refine St.aP (tO b its.length its.length) rfl (show _=rows aJ (LX o 0) by rw[A7,Sg,A]) ?_;refine g12 ?_;refine St.lH (ι:=Nat) (λk T=>(38,iv k)::T) (λk=>(tI a [u.1,iv (n:Nat),(.slice none 0 0)] 170::tI s [tW a] 282::aD (sl eT u.1 its)::aD (aL (λx:cT=>aI x.gr) its)::row (tO f its.length its.length) 3 1 its.length (rows aJ (bV o))::row (tO b its.length its.length) 3 1 its.length (rows aJ (LX o k))::bX (ew 234 3) (its))) (λk=>k≤its.length) (λk=>its.length-k) 0 (aC.k5 1 2 4 36 37) (aQ _) ?_;intro k hk;refine g6 ?_;refine St.cq (λV=> ?_) (λV=> ?_)
  ·obtain⟨i,hi⟩:=aF (show k<o.length by omega)
   have C:i<its.length:=dM.1 (t.mem_iff.1 (aY hi))
   refine g8 ?_;refine St.ee (Ev.dw (.mk rfl) fA trivial zE (gg (iw hi))) (g9 ?_);refine St.dF (.mk rfl) (.mk rfl) dQ rfl zE (by decide) ?_;refine St.aP (tO b its.length its.length) rfl (show _=rows aJ (LX o (k+1)) by rw[k9,Sh r hi zE]) ?_;refine g8 ?_;refine St.aH (k+1) zE
  ·obtain rfl:k=its.length:=by omega
   refine g9 ?_;refine St.yP (Rr:=eT) (g:=xi) (m:=its.length) (sz:=6) rfl (.mk rfl) (.mk rfl) pH pG HI Nu rfl rfl zE rfl rfl (λj=> ?_);refine St.aP (tO j its.length its.length) rfl (show _=rows eT (I2 o its 0) by unfold I2;rw[pL,kb,xR,Nat.sub_zero,A]) ?_;refine g12 ?_;refine St.G6 (ι:=Nat) (λk T=>(53,iv k)::T) (λk=>(tI a [u.1,iv (n:Nat),(.slice none 0 0)] 170::tI s [tW a] 282::aD (sl eT u.1 its)::aD (aL (λx:cT=>aI x.gr) its)::row (tO f its.length its.length) 3 1 its.length (rows aJ (bV o))::row (tO b its.length its.length) 3 1 its.length (rows aJ (LX o its.length))::row (tO j its.length its.length) 229 6 its.length (rows eT (I2 o its (k)))::bX (ew 234 3) (T2 o its k))) (λk=>k≤its.length) (λk=>its.length-k) 0 (aC.k5 1 4 7 51 52) (aQ _) (by repeat(first|exact Sub.nil|refine Sub.cons (by first|rfl|exact congrArg (λz=>some (iv z)) (by first|omega|(dsimp only;omega))|exact congrArg (λz=>some (Value.bool z)) (by first|assumption|exact jI (by assumption))) ?_)) (λ_ hw=>by rw[Sj];exact hw.sub) ?_;intro k hk;refine g6 ?_;refine St.cq (λW=> ?_) (λW=> ?_)
   ·obtain⟨i,hi⟩:=aF (show k<o.length by omega)
    have C:i<its.length:=dM.1 (t.mem_iff.1 (aY hi))
    obtain⟨x,hx⟩:=aF C;obtain⟨PL,X⟩:=hw x (aY hx)
    have Y:=E5 r hi
    have Z:(T2 o its k)[i]?=some x:=by rw[Bj,hx];show some _=some _;dsimp only;rw[aA zE]
    have hI:=XH (o:=o) (its:=its) (k:=k) zE
    refine g8 ?_;refine St.ee (Ev.dw (.mk rfl) fA trivial zE (gg (iw hi))) (g14 ?_);refine St.ee (Ev.MR (Rr:=eT) (sz:=6) (.mk rfl) hx underlying229 trivial pG (by decide) (by decide)) ?_;refine go ?_;refine St.Gk (Rr:=eT) (show eT.size=6 from rfl) (Aw o x) (.mk rfl) (.mk rfl) pG zE zE ?_;rw[NI hi hx];refine g6 ?_
    have F:(I2 o its (k+1))[k]?=some (Aw o x):=by rw[←NI hi hx,ic zE]
    refine St.aP (tO j its.length its.length) rfl (show _=rows eT (I2 o its (k+1))from rfl) (g2 ?_);refine St.ee (Ev.dw (.mk rfl) vA trivial zE (eo eT _ k 4 _ F (by decide))) ?_;refine St.slot 72 x.wv.1 rfl rfl (St.tail (bX (ew 234 3) (T2 o its k)) (row x.wv.1 234 3 x.cD.length (rows mZ x.cD)::row x.tv.1 3 1 x.cB.length (rows aJ x.cB)::(bX (jd 3) x.cD++bX (ew 234 3) ((T2 o its k).eraseIdx i))) (rZ (ew 234 3) Z) (g5 ?_));refine St.G6 (ι:=Nat) (λm T=>(74,iv m)::T) (λm=>(tI a [u.1,iv (n:Nat),(.slice none 0 0)] 170::tI s [tW a] 282::aD (sl eT u.1 its)::aD (aL (λx:cT=>aI x.gr) its)::row (tO f its.length its.length) 3 1 its.length (rows aJ (bV o))::row (tO b its.length its.length) 3 1 its.length (rows aJ (LX o its.length))::row (tO j its.length its.length) 229 6 its.length (rows eT (I2 o its (k+1)))::row x.wv.1 234 3 x.cD.length (rows mZ x.cD)::row x.tv.1 3 1 x.cB.length (rows aJ x.cB)::(bX (jd 3) (W2 o x.cD m)++bX (ew 234 3) ((T2 o its k).eraseIdx i)))) (λm=>m≤x.cD.length) (λm=>x.cD.length-m) 0 (aC.k8 1 4 7 51 52 53 72 73) (aQ _) (by repeat(first|exact Sub.nil|refine Sub.cons (by first|rfl|exact congrArg (λz=>some (iv z)) (by first|omega|(dsimp only;omega))|exact congrArg (λz=>some (Value.bool z)) (by first|assumption|exact jI (by assumption))) ?_)) (λ_ hw=>by rw[Sm];exact hw.sub) ?_;intro m hm;refine g6 ?_;refine St.cq (λh75=> ?_) (λh75=> ?_)
    ·obtain⟨w,p⟩:=aF (show m<x.cD.length by omega)
     obtain⟨P,Q,G⟩:=X w (aY p)
     have H:=aaJ (o:=o) p
     have hWl:=XX (o:=o) (l:=x.cD) (m:=m) zE
     refine g7 ?_;refine St.ee (Ev.Yj (R:=mZ) (.mk rfl) p Gz trivial uw zE) (St.slot 77 (.agg #[iv w.rule,iv w.lex,w.kv.1]) rfl rfl (St.al (λb11=>g7 ?_)));refine St.tail (bX (jd 3) (W2 o x.cD m)++bX (ew 234 3) ((T2 o its k).eraseIdx i)) (row w.kv.1 3 1 w.kids.length (rows aJ (bV w.kids))::(bX (jd 3) ((W2 o x.cD m).eraseIdx m)++bX (ew 234 3) ((T2 o its k).eraseIdx i))) (YE (jd 3) (bX (ew 234 3) ((T2 o its k).eraseIdx i)) H) (g5 ?_);refine St.G6 (ι:=Nat) (λd T=>(81,iv d)::T) (λd=>(tI a [u.1,iv (n:Nat),(.slice none 0 0)] 170::tI s [tW a] 282::aD (sl eT u.1 its)::aD (aL (λx:cT=>aI x.gr) its)::row (tO f its.length its.length) 3 1 its.length (rows aJ (bV o))::row (tO b its.length its.length) 3 1 its.length (rows aJ (LX o its.length))::row (tO j its.length its.length) 229 6 its.length (rows eT (I2 o its (k+1)))::row x.wv.1 234 3 x.cD.length (rows mZ x.cD)::row x.tv.1 3 1 x.cB.length (rows aJ x.cB)::tI b11 [iv w.rule,iv w.lex,w.kv.1] 234::row w.kv.1 3 1 w.kids.length (rows aJ (bV (K2 o w.kids d)))::(bX (jd 3) ((W2 o x.cD m).eraseIdx m)++bX (ew 234 3) ((T2 o its k).eraseIdx i)))) (λd=>d≤w.kids.length) (λd=>w.kids.length-d) 0 (aC.k12 1 4 7 11 51 52 53 72 73 74 79 80) (aQ _) (by repeat(first|exact Sub.nil|refine Sub.cons (by first|rfl|exact congrArg (λz=>some (iv z)) (by first|omega|(dsimp only;omega))|exact congrArg (λz=>some (Value.bool z)) (by first|assumption|exact jI (by assumption))) ?_)) (λ_ hw=>by rw[Sc];exact hw.sub) ?_;intro d hdd;refine g6 ?_;refine St.cq (λh82=> ?_) (λh82=> ?_)
     ·obtain⟨q,I⟩:=aF (show d<w.kids.length by omega)
      have hql:=G q (aY I)
      have J:=aaG (o:=o) I
      refine g8 ?_;refine St.ee (Ev.dw (.mk rfl) fA trivial zE (gg (iw J))) (g4 ?_);refine St.lO w.kv.1 zE (λbs cs PI=>St.ef (row w.kv.1 3 1 w.kids.length (rows aJ (bV (K2 o w.kids d)))::(bX (jd 3) ((W2 o x.cD m).eraseIdx m)++bX (ew 234 3) ((T2 o its k).eraseIdx i))) mixed (λnp ns=>SW.gd 0 ?_));refine SW.gd 1 ?_;refine SW.gd 2 ?_;refine SW.gd 3 ?_;refine SW.gd 4 ?_;refine SW.gd 5 ?_;refine SW.dd 6 rfl (λ_=>Ev.dw (.mk rfl) fA trivial zE (gg (by rw[←A];exact XQ zE (B q hql)))) ?_;refine SW.dd 7 rfl (λ_=>Ev.nT (k:=d) PI (.mk rfl) (.mk rfl) bQ dQ zE zE) (SW.t1 8 ?_);refine St.dF (.mk rfl) (.mk rfl) dQ rfl zE (by decide) ?_;refine St.aP w.kv.1 rfl (show _=rows aJ (bV (K2 o w.kids (d+1))) by rw[k9,Q6,XM I]) ?_;refine g2 ?_;refine SW.go (SW.dn (g7 ?_));refine St.aH (d+1) zE
     ·obtain rfl:d=w.kids.length:=by omega
      rw[XL];refine St.pk [row w.kv.1 3 1 w.kids.length (rows aJ (bV (w.kids.map (lg o))))] (bX (jd 3) ((W2 o x.cD m).eraseIdx m)++bX (ew 234 3) ((T2 o its k).eraseIdx i)) (bX (jd 3) (W2 o x.cD (m+1))++bX (ew 234 3) ((T2 o its k).eraseIdx i)) (by have:=ac2 (jd 3) (bX (ew 234 3) ((T2 o its k).eraseIdx i)) (WZ o w) (show m<(W2 o x.cD m).length by omega);rw[XY p]at this;unfold jd WZ at this;dsimp only at this;rw[aO]at this;exact this) ?_;refine g11 ?_;refine St.aH (m+1) zE
    ·obtain rfl:m=x.cD.length:=by omega
     rw[XW];refine St.pk [row x.wv.1 234 3 x.cD.length (rows mZ x.cD),row x.tv.1 3 1 x.cB.length (rows aJ x.cB)] (bX (jd 3) (x.cD.map (WZ o))++bX (ew 234 3) ((T2 o its k).eraseIdx i)) (bX (ew 234 3) (T2 o its (k+1))) (by have:=vj (ew 234 3) (Aw o x) (show i<(T2 o its k).length by rw[NQ];exact C);rw[XT r hi hx]at this;unfold ew Aw at this;dsimp only at this;rw[aO,Qc]at this;exact this) ?_;refine g11 ?_;refine St.aH (k+1) zE
   ·obtain rfl:k=its.length:=by omega
    have K:T2 o its its.length=its.map (Aw o):=by rw[←A];exact XS B
    rw[K];refine St.ZE 234 3 (its.map (Aw o)) (λy hy w Q=>by obtain⟨x,hx,rfl⟩:=cS.1 hy;obtain⟨w1,P,rfl⟩:=cS.1 Q;have:=(hw x hx).2 w1 P;exact⟨this.1,λk hk=>by obtain⟨k1,hk1,rfl⟩:=cS.1 hk;have h9:lg o k1≤o.length:=List.idxOf_le_length;unfold aZ;omega⟩) ?_
    have M:I2 o its its.length=o.map λi=>Aw o (its.getD i xi):=by unfold I2;rw[←A,gp,iT];exact ib _
    rw[M];refine St.bU (tO j its.length its.length) eT (o.map λi=>Aw o (its.getD i xi)) rfl (by rw[aO,A]) (λ_ _=>trivial) ?_
    refine St.fF (aL dp (o.map λi=>Aw o (its.getD i xi))) [aL (λx:cT=>aI x.gr) its,aL (λx:cT=>j7 [sl mZ x.wv.1 x.cD,aL nA x.cD]) (its.map (Aw o))] (λρ h y hy=>by
     have h1:=h _ (aR ..)
     have h2:=h _ (cO _ (aR ..))
     obtain⟨i,hi,rfl⟩:=cS.1 hy
     have C:i<its.length:=dM.1 (t.mem_iff.1 hi)
     obtain⟨x,hx⟩:=aF C
     have N:its.getD i xi=x:=by rw[ax,hx];rfl
     rw[N]
     have h3:=h2 (Aw o x) (dh (aY hx))
     intro e he
     rcases cN.1 he with rfl|he
     ·exact h1 x (aY hx)
     ·exact h3 e he) ?_
    refine g10 ?_;refine St.cP (.mk rfl) (.mk rfl) Ky rfl (by rfl) ?_;refine go ?_;refine St.fi (St.rV [] [tI a [(tO j its.length its.length),iv (n:Nat),(.slice none 0 0)] 170,aD (sl eT (tO j its.length its.length) (o.map λi=>Aw o (its.getD i xi))),aD (aL dp (o.map λi=>Aw o (its.getD i xi)))] ?_);exact⟨⟨(tO j its.length its.length),rfl⟩,_,by rw[E];exact VC its,rfl⟩
end Go.Proofs.YtiefglecbgdaiaaGreatDoor
namespace Go.J
open Go Go.Proofs.YtiefglecbgdaiaaGreatDoor
structure Se (P:Program)(t:TypeId)(nm:String)(f:Nat)(byP:Bool)(e:TypeId):Prop where
 row:((P.info? t).bind λi=>(i.methods.find? λm=>m.name==nm).map λm=>(m.path.isEmpty,m.func))=some (true,some (f,byP))
 und:P.underlying t=some (.pointer e)
theorem Se.out {P:Program}{t e:TypeId}{nm:String}{f:Nat}{byP:Bool}(h:Se P t nm f byP e):∃i m,P.info? t=some i∧i.methods.find? (λm=>m.name==nm)=some m∧m.path= #[]∧m.func=some (f,byP):=by
 obtain⟨i,hi,b⟩:=oc.1 h.row;obtain⟨m,hm,a⟩:=eE.1 b
 have c:=congrArg Prod.fst a
 have d:=congrArg Prod.snd a
 exact⟨i,m,hi,hm,by simpa using c,d⟩
theorem S3 (t:TypeId)(a:Addr)(s m:String):Builtin.ssaWrapNilChk_ #[t] t #[.pointer (some a),strVal s,strVal m]=pure (.pointer (some a)):=rfl
theorem Ir {P:Program}{t e:TypeId}{nm:String}{f:Nat}{a:Addr}{u:Value}(h:Se P t nm f false e)(k:Nat)(w:World)(b:(loadVar e a).run P w= .ok u w):(method (k+1) t (.pointer (some a)) nm).run P w= .ok (f,u) w:=by
 obtain⟨i,m,hi,hm,hp,c⟩:=h.out
 have hu:=h.und
 simp[method,typeInfo,hi,hm,hp,c,follow,receiverAt,run_underlying hu,Place.get,S3,asAddr,b]
section
variable {P:Program}{n:Nat}{F:Fr}{c:Ctx}{H R:List ay}{ty t e e2:TypeId}{x:Operand}{r u v:Value}{nm:String}{Q:Exit→Act→World→Prop}{ops:Array Oper}{rest:List Oper}{d:Nat}{pos:String}{after:Array Edge}{f:Nat}
def Recv (P:Program)(c:Ctx)(H:List ay)(t:TypeId)(r:Value)(nm:String)(f:Nat)(u:Value):Prop:=∀w,Mm c H w→(method (P.types.size+Made.depth) t r nm).run P w= .ok (f,u) w
theorem Recv.row {m k off size:Nat}{cs:List Value}{dd:TypeDesc}[a:xU v H e2 size m cs](h:Se P t nm f false e)(hu:P.underlying e=some dd)(d:(match dd with| .struct _| .array _ _=>False|_=>True))(hk:k<m)(g:cs[k*size+off]?=some u):
 Recv P c H t (eL v size k off) nm f u:=λw hw=>by
 obtain⟨ρ,hm⟩:=hw.out;obtain⟨b,h1,i,_⟩:=kV (hm.row a) hk g;rw[h1];exact Ir h (P.types.size+99) w (fS hu d i)
end
end Go.J
namespace Go.Proofs.YtiefglecbgdaiaaGreatDoor
open Go Go.J Tryz
theorem acJ:aK prog 75:=⟨_,func75,rfl,by kernel_rfl⟩
instance:iV prog 109 3 7:=⟨by kernel_rfl⟩
instance:iV prog 109 1 5:=⟨by kernel_rfl⟩
theorem Z9 (w:World):dB prog 51 w= .ok #[(0,1),(1,1),(2,1)] w:=by kernel_rfl
theorem acL:aK prog 81:=⟨_,func81,rfl,by kernel_rfl⟩
theorem Ei:(prog.info? 51).bind (·.zero)=some (Value.agg #[.int .i64 0,.int .i64 0,.slice none 0 0]):=by kernel_rfl
theorem Nv:(prog.info? 51).map (·.bytes)=some 40:=by kernel_rfl
theorem aoJ:(prog.info? 33).map (·.size)=some 1:=by kernel_rfl
instance:iV prog 109 2 6:=⟨by kernel_rfl⟩
theorem Vu:aK prog 188:=⟨_,func188,rfl,by kernel_rfl⟩
instance:sP prog 82 #[.nilFunc]:=⟨by kernel_rfl⟩
theorem ah1:(prog.info? 82).map (·.size)=some 1:=by kernel_rfl
theorem Ny:aK prog 123:=⟨_,func123,rfl,by kernel_rfl⟩
theorem Vk:aK prog 125:=⟨_,func125,rfl,by kernel_rfl⟩
theorem abJ:aK prog 124:=⟨_,func124,rfl,by kernel_rfl⟩
instance:iV prog 109 0 0:=⟨by kernel_rfl⟩
theorem aj8:aK prog 80:=⟨_,func80,rfl,by kernel_rfl⟩
theorem Bs {a b:Value}(c:a.oneCell'=true)(h1:b.oneCell'=true)(w:World):(Instr.build 51 #[(0,a),(1,b)]).run prog w= .ok (.agg #[a,b,.slice none 0 0]) w:=
 bI SC (Z9 w) (by simp[Instr.fill,J.bL,J.cells_one c,J.cells_one h1])
theorem pB {l:List Int}{k:Nat}{x:Int}(h:l[k]?=some x):(rows aJ l)[k*1+0]?=some (iv x):=by
 rw[fR,fU,hY,bJ,h];rfl
theorem r4 (l:List Int)(k:Nat)(x:Int):(rows aJ l).set (k*1+0) (iv x)=rows aJ (l.set k x):=by rw[fR,fR,fU,hY,mJ]
theorem MZ (l:List Nat)(k x:Nat):(bV l).set k (x:Int)=bV (l.set k x):=by rw[bV,bV,mJ]
theorem Fh {its:List cT}{e:Nat}{y:cT}(h:its[e]?=some y):(its.map dy).getD e fX=dy y:=by rw[ax,bJ,h];rfl
theorem Uw {m:Nat}:IntKind.i64.wrap ((1099511627776:Int).tdiv (m:Int))=((du/m:Nat):Int):=by
 have h:(1099511627776:Int).tdiv (m:Int)=((du/m:Nat):Int):=rfl
 have a:=Nat.div_le_self du m
 have b:du=1099511627776:=rfl
 rw[h]
 generalize du/m=z at a⊢
 rw[s8 zE]
theorem Ui {n m:Nat}:mulC n m≤du:=by
 unfold mulC
 split
 ·exact aU _
 ·rename_i h
  have h1:n≤du/m:=by omega
  exact dH (fC m h1) (Nat.div_mul_le_self _ _)
theorem EE {cnt:Nat→Nat}:∀(ks:List Nat) (a:Nat),a≤du→ks.foldl (λn k=>mulC n (cnt k)) a≤du
 | [],_,h=>h
 |k::ks,a,h=>by rw[jX];exact EE ks _ Ui
theorem Ku {cnt:Nat→Nat}(ws:List og)(a:Nat)(h:a≤du):ws.foldl (λs x=>min (s+zB cnt x) du) a≤du:=by
 induction ws generalizing a with
 |nil=>exact h
 |cons x ws b=>rw[jX];exact b _ (Nat.min_le_right _ _)
abbrev pU (its:List cT)(e:Nat):Nat:=cntF (its.map dy) 60 e
def NC (its:List cT)(w:oH)(j:Nat):Nat:=(w.kids.take j).foldl (λn k=>mulC n (pU its k)) 1
def Wr (its:List cT)(y:cT)(k:Nat):Nat:=((y.cD.map vN).take k).foldl (λs x=>min (s+zB (pU its) x) du) 0
theorem QO {its:List cT}{w:oH}{j q:Nat}(h:w.kids[j]?=some q):NC its w (j+1)=mulC (NC its w j) (pU its q):=by unfold NC;rw[ag h,rK];rfl
theorem Ur (its:List cT)(w:oH):NC its w w.kids.length=zB (pU its) (vN w):=by unfold NC;rw[iT];rfl
theorem Qq {its:List cT}{y:cT}{k:Nat}{w:oH}(h:y.cD[k]?=some w):Wr its y (k+1)=min (Wr its y k+zB (pU its) (vN w)) du:=by
 have a:(y.cD.map vN)[k]?=some (vN w):=by rw[bJ,h];rfl
 unfold Wr;rw[ag a,rK];rfl
theorem V8 {R X:List Int}{its:List cT}(a:qU ⟨its.map dy,R,X⟩){e:Nat}{y:cT}(h:its[e]?=some y)(he:p5 ⟨its.map dy,R,X⟩ e<60):Wr its y y.cD.length=pU its e:=by
 have b:e<(⟨its.map dy,R,X⟩:lX).its.length:=by show e<(its.map dy).length;rw[aO];exact(fj.1 h).1
 have h1:=FP a 60 61 e b he zE
 unfold pU;rw[show cntF (its.map dy) 60 e=cntF (its.map dy) 61 e from h1,cntF,Fh h];unfold Wr;rw[show(y.cD.map vN).take y.cD.length=y.cD.map vN from fZ (by rw[aO];exact aU _)];rfl
theorem De {R X:List Int}{its:List cT}(a:qU ⟨its.map dy,R,X⟩)(hw:nh (its.map dy)){e:Nat}(he:e<its.length):1≤pU its e∧pU its e≤du:=by
 have b:e<(⟨its.map dy,R,X⟩:lX).its.length:=by show e<(its.map dy).length;rw[aO];exact he
 have h1:=a.ht e b
 have c:=Df a hw 60 e b h1
 have d:=yO a hw 60 e b h1
 have c:pU its e=min (kJ (its.map dy) 60 e).length du:=c
 have d:1≤(kJ (its.map dy) 60 e).length:=d
 have f:du=1099511627776:=rfl
 omega
structure xT (its:List cT)(C:List Nat):Prop where
 len:C.length=its.length
 ok:∀i c,C[i]?=some c→c=0∨c=pU its i
def tn (C C':List Nat):Prop:=∀i c:Nat,C[i]?=some c→c≠0→C'[i]?=some c
theorem tn.refl (C:List Nat):tn C C:=λ_ _ h _=>h
theorem tn.trans {a b c:List Nat}(h:tn a b)(k:tn b c):tn a c:=λi x hx d=>k i x (h i x hx d) d
theorem Y2 {its:List cT}{C:List Nat}{e:Nat}(h:xT its C)(he:e<its.length):xT its (C.set e (pU its e))∧tn C (C.set e (pU its e))∧(C.set e (pU its e))[e]?=some (pU its e):=by
 have b:=h.len
 refine⟨⟨by rw[ep];exact b,λi c a=> ?_⟩,λi c a d=> ?_,?_⟩
 ·rw[List.getElem?_set]at a
  by_cases q:e=i
  ·subst q
   rw[aB rfl,aB zE]at a;exact .inr (Option.some.inj a).symm
  ·rw[aA q]at a;exact h.ok i c a
 ·rw[List.getElem?_set]
  by_cases q:e=i
  ·subst q
   rw[aB rfl,aB zE]
   rcases h.ok e c a with h1|h1
   ·exact absurd h1 d
   ·rw[h1]
  ·rw[aA q];exact a
 ·rw[List.getElem?_set,aB rfl,aB zE]
theorem FR (bw:Nat)(a:eU)(uv n b:ah)(its:List cT)(R X:List Int)(m:qU ⟨its.map dy,R,X⟩)(hw:nh (its.map dy))(PD:its.length≤300):∀(f e:Nat) (C:List Nat),e<its.length→p5 ⟨its.map dy,R,X⟩ e<f→xT its C→
 dx prog 75 #[tW bw,iv (e:Nat)] ([iG bw [a.tv.1,a.fv.1,a.rv.1,a.xv.1,a.start.nv.1,uv.1,n.1,b.1],sl eT uv.1 its,aL dp its].map aD++ [row b.1 3 1 its.length (rows aJ (bV C))]) (λv H'=>∃C':List Nat,v=iv (pU its e:Nat)∧xT its C'∧tn C C'∧C'[e]?=some (pU its e)∧H'=[row b.1 3 1 its.length (rows aJ (bV C'))]):=by
 intro f
 induction f with
 |zero=>(intro e C _ h;omega)
 |succ f G=> ?_
 intro e C he H s;refine dx.body (args:=[tW bw,iv (e:Nat)]) 71 func75 rfl ntmps75 rfl (λc=>go ?_);refine St.cast (H':=[aD (iG bw [a.tv.1,a.fv.1,a.rv.1,a.xv.1,a.start.nv.1,uv.1,n.1,b.1]),aD (sl eT uv.1 its),aD (aL dp its),row b.1 3 1 its.length (rows aJ (bV C))]) rfl ?_;obtain⟨y,hy⟩:=aF he
 have I:=s.len
 obtain⟨c0,t⟩:=aF (show e<C.length by omega)
 have z:e<(⟨its.map dy,R,X⟩:lX).its.length:=by show e<(its.map dy).length;rw[aO];exact he
 have J:=m.ht e z
 have hnw:=m.nw e z
 have K:NB ⟨its.map dy,R,X⟩ e=y.cD.length:=by unfold NB;rw[show(⟨its.map dy,R,X⟩:lX).its.getD e fX=dy y from Fh hy];exact aO _
 have M:=De m hw he
 have N:du=1099511627776:=rfl
 refine St.bh dp its (x:=y) (aY hy) (St.fF (sl mZ y.wv.1 y.cD) [dp y] (λρ h=>h (dp y) (aR ..) _ (cO _ (aR ..))) (g10 ?_));refine St.ee (Ev.pb (.mk rfl) bQ trivial rfl) (g2 ?_);refine St.ee (Ev.dw (.mk rfl) fA trivial zE (pB (iw t))) (g3 ?_);refine St.cq (λO=> ?_) (λO=> ?_)
 ·obtain rfl:c0=pU its e:=by rcases s.ok e c0 t with h|h;omega;exact h
  refine g5 ?_;refine St.ee (Ev.pb (.mk rfl) bQ trivial rfl) (g2 ?_);refine St.ee (Ev.dw (.mk rfl) fA trivial zE (pB (iw t))) (g5 ?_);refine St.rV [_] [row b.1 3 1 its.length (rows aJ (bV C))] ?_;exact⟨C,rfl,s,tn.refl C,t,rfl⟩
 ·refine g13 ?_
  refine St.ee (Ev.pb (.mk rfl) pH trivial rfl) (g9 ?_);refine St.lH (ι:=Nat×List Nat) (λ⟨k,d⟩ T=>(36,iv k)::(5,iv (Wr its y k:Nat))::T) (λ⟨k,d⟩=>[row b.1 3 1 its.length (rows aJ (bV d)),aD (iG bw [a.tv.1,a.fv.1,a.rv.1,a.xv.1,a.start.nv.1,uv.1,n.1,b.1]),aD (sl eT uv.1 its),aD (aL dp its),aD (sl mZ y.wv.1 y.cD),aD (dp y)]) (λ⟨k,d⟩=>k≤y.cD.length∧xT its d∧tn C d) (λ⟨k,d⟩=>y.cD.length-k) ⟨0,C⟩ (aC.k5 0 1 4 34 35) ⟨aQ _,s,tn.refl C⟩ ?_;rintro ⟨k,d⟩ ⟨hk,i,A⟩
  dsimp only at hk i A⊢
  have P:Wr its y k≤du:=Ku _ _ (aQ _)
  refine g6 ?_;refine St.cq (λQ=> ?_) (λQ=> ?_)
  ·obtain⟨wy,u⟩:=aF (show k<y.cD.length by omega)
   have S:=vp m z (x:=vN wy) (by rw[show(⟨its.map dy,R,X⟩:lX).its.getD e fX=dy y from Fh hy];exact dh (aY u))
   have B:=Qq (its:=its) u
   have hnk:(bV wy.kids).length=wy.kids.length:=dc _
   refine St.fF (sl aJ wy.kv.1 (bV wy.kids)) [dp y] (λρ h=>h (dp y) (aR ..) (aL nA y.cD) (cO _ (cO _ (aR ..))) wy (aY u)) (St.wf wy.kv.1 (λ_ U=>g7 ?_));refine St.ee (Ev.MR (Rr:=mZ) (sz:=3) (.mk rfl) u Gz trivial uw (by decide) (by decide)) ?_;refine St.slot 39 (.agg #[iv wy.rule,iv wy.lex,wy.kv.1]) rfl rfl (St.al (λb7=>g18 ?_));refine St.lH (ι:=Nat×List Nat) (λ⟨j,C2⟩ T=>(43,iv j)::(8,iv (NC its wy j:Nat))::T) (λ⟨j,C2⟩=>[row b.1 3 1 its.length (rows aJ (bV C2)),aD (iG bw [a.tv.1,a.fv.1,a.rv.1,a.xv.1,a.start.nv.1,uv.1,n.1,b.1]),aD (sl eT uv.1 its),aD (aL dp its),aD (sl mZ y.wv.1 y.cD),aD (dp y),aD (sl aJ wy.kv.1 (bV wy.kids))]) (λ⟨j,C2⟩=>j≤wy.kids.length∧xT its C2∧tn d C2) (λ⟨j,C2⟩=>wy.kids.length-j) ⟨0,d⟩ (aC.k9 0 1 4 5 34 35 36 41 42) ⟨aQ _,i,tn.refl d⟩ ?_;rintro ⟨j,C2⟩ ⟨V,l,g⟩
   dsimp only at V l g⊢
   have W:NC its wy j≤du:=EE _ _ (by decide)
   refine g6 ?_;refine St.cq (λY=> ?_) (λY=> ?_)
   ·obtain⟨q,D⟩:=aF (show j<wy.kids.length by omega)
    obtain⟨w,WO⟩:=S q (aY D)
    have w:q<its.length:=by have h:q<(its.map dy).length:=w;rwa[aO]at h
    have Z:=De m hw w
    have o:=QO (its:=its) D
    refine g7 ?_;refine St.ee (Ev.ld1 (.mk rfl) (iw D) fA trivial rfl) (g7 ?_);refine St.Hv (ds:=[iG bw [a.tv.1,a.fv.1,a.rv.1,a.xv.1,a.start.nv.1,uv.1,n.1,b.1],sl eT uv.1 its,aL dp its]) (L:=[row b.1 3 1 its.length (rows aJ (bV C2))]) (G q C2 w zE l) acJ (.aX rfl rfl) rfl ?_;rintro v49 _ ⟨C3,rfl,p,r,_,rfl⟩;refine St.bB (g7 ?_);refine St.ee (Ev.ahJ (.mk rfl) (.mk rfl) zE) (St.slot 52 (iv ((du/pU its q:Nat):Int)) rfl (congrArg iv Uw) (g3 ?_));refine St.cq (λh53=> ?_) (λh53=> ?_)
    ·have F:NC its wy (j+1)=du:=by rw[o];unfold mulC;rw[aB zE]
     refine g10 ?_;refine St.aH ⟨j+1,C3⟩ ⟨by dsimp only;omega,p,g.trans r⟩
    ·have F:NC its wy (j+1)=NC its wy j*pU its q:=by rw[o];unfold mulC;rw[aA zE]
     refine g3 ?_;refine St.ee (Ev.mul (.mk rfl) (.mk rfl) (by have h:=dH (fC (pU its q) (show NC its wy j≤du/pU its q by omega)) (Nat.div_mul_le_self _ _);omega)) ?_;refine St.slot 56 (iv (NC its wy (j+1):Nat)) rfl (congrArg iv (by rw[F];push_cast;rfl)) ?_;refine g9 ?_;refine St.aH ⟨j+1,C3⟩ ⟨by dsimp only;omega,p,g.trans r⟩
   ·obtain rfl:j=wy.kids.length:=by omega
    rw[Ur]
    have hcw:zB (pU its) (vN wy)≤du:=EE _ _ (by decide)
    refine g9 ?_;refine St.ee (Ev.agY (.mk rfl) (.mk rfl)) (St.slot 61 (iv (Wr its y (k+1):Nat)) rfl (congrArg iv (by rw[B];split<;>omega)) ?_);refine g9 ?_;refine St.aH ⟨k+1,C2⟩ ⟨by dsimp only;omega,l,A.trans g⟩
  ·obtain rfl:k=y.cD.length:=by omega
   have E:=V8 m hy J
   rw[E];refine g10 ?_;refine St.ee (Ev.pb (.mk rfl) bQ trivial rfl) (g3 ?_);refine St.dF (.mk rfl) (.mk rfl) dQ rfl zE (by decide) ?_;refine St.aP b.1 rfl (show _=rows aJ (bV (d.set e (pU its e))) by rw[r4,MZ]) ?_;refine g9 ?_;obtain⟨z1,z2,z3⟩:=Y2 i he;refine St.rV [_] [row b.1 3 1 its.length (rows aJ (bV (d.set e (pU its e))))] ?_;exact⟨_,rfl,z1,A.trans z2,z3,rfl⟩
theorem fG (x:bM):aN x= .mk x.rule x.lex (x.kids.map aN):=by cases x;exact RU _ _ _ _
theorem qI.kids {x:bM}(h:qI (aN x)):x.kids.length≤1000∧∀y∈x.kids,qI (aN y):=by
 rw[fG]at h
 cases h with
 |mk h k=>exact⟨by rwa[aO]at h,λy hy=>k _ (dh hy)⟩
theorem Aa {x y:bM}(h:aN y=aN x):y.rule=x.rule∧y.lex=x.lex:=by
 rw[fG,fG x]at h;exact⟨(dY.mk.injEq ..▸h).1,(dY.mk.injEq ..▸h).2.1⟩
theorem kB {α β:Type}{f:α→β}{l:List α}{k:Nat}{a:α}(h:l[k]?=some a):(l.take (k+1)).map f=(l.take k).map f++ [f a]:=by
 rw[List.take_add_one,h,cY];rfl
theorem Et:∀x:bM,bR.wf x→qI (aN x)→dx prog 81 #[dA x] ([ae x].map aD) (λv H'=>∃y:bM,v=dA y∧aN y=aN x∧H'=[aD (ae y)]):=by
 intro x
 induction x using bM.ind
 rename_i x n
 intro hw g;refine dx.body (args:=[dA x]) 27 func81 rfl ntmps81 rfl (λc=>go ?_);refine St.cast (H':=[aD (ae x)]) rfl ?_;obtain⟨C,i⟩:=g.kids;refine St.kS x (St.wf x.kv.1 (λj D=>go ?_));refine St.cC (.mk rfl) rfl (λo=>St.al (λp=>g8 ?_));refine St.ee (Ev.build (au.aX rfl rfl) (λw=>Bs rfl rfl w)) (St.al (λl=>g13 ?_));refine St.e7 51 3 (St.aP (.slice none 0 0) (show _=([]:List bM).length from rfl) (show _=rows bR []from rfl) (St.dN ae (St.lH (ι:=Nat×ah×List bM) (λ⟨k,kv,a⟩ T=>(14,iv k)::T) (λ⟨k,kv,a⟩=>[row kv.1 51 3 (a).length (rows bR (a)),tI l [iv x.rule,iv x.lex,kv.1] 51,aD (aL ae a),aD (sl bR x.kv.1 x.kids),aD (aL ae x.kids),tI o (oA x) 51,tI p [iv 0,iv 0,(.slice none 0 0)] 51]) (λ⟨k,kv,a⟩=>k≤x.kids.length∧a.map aN=(x.kids.take k).map aN) (λ⟨k,kv,a⟩=>x.kids.length-k) ⟨0,bx,[]⟩ (aC.k4 2 3 12 13) ⟨aQ _,rfl⟩ ?_)));rintro ⟨k,kv,a⟩ ⟨hk,b⟩
 dsimp only at hk b⊢
 have q:a.length≤1000:=by have h:=congrArg List.length b;rw[aO,aO,eR]at h;omega
 refine g6 ?_;refine St.cq (λr=> ?_) (λr=> ?_)
 ·obtain⟨y,hy⟩:=aF (show k<x.kids.length by omega)
  have f:=aY hy
  refine St.bh ae x.kids (x:=y) f (g7 ?_);refine St.ee (Ev.iD (.mk rfl) hy po trivial jo gH.eq) (St.al (λE=>g3 ?_));refine St.ef [tI l [iv x.rule,iv x.lex,kv.1] 51,row kv.1 51 3 (a).length (rows bR (a))] mixed (λF G=>?_)
  repeat' first
   |with_reducible refine SW.me ?_
    first
     |refine SW.gd 0 ?_
     |refine SW.gd 2 ?_
     |refine SW.gd 6 ?_
     |refine SW.t2 1 3 ?_ ?_
     |refine SW.t1 3 ?_
     |refine SW.t1 4 ?_
     |refine SW.t1 5 ?_
     |refine SW.t1 7 ?_
     |refine SW.t2 1 4 ?_ ?_
     |refine SW.t1 1 ?_
   |with_reducible refine SW.tg 1 ?_
    refine g3 ?_;refine SW.go ?_
   |with_reducible refine SW.tg 3 ?_
    refine St.ak (n y f (j y f) (i y f)) acL (.aq rfl) rfl ?_;rintro v21 _ ⟨z,rfl,hz,rfl⟩;refine St.bB (g2 ?_);refine SW.go ?_
   |with_reducible refine SW.tg 4 ?_
    refine St.iu rfl (.aq rfl) rE jo Ei rfl rfl (by simp[Value.cells]) rfl rfl (λs=> ?_);refine g2 ?_;refine SW.go ?_
   |with_reducible refine SW.tg 5 ?_
    refine St.bH (.mk rfl) (.mk rfl) rE jo Ei Nv (by intro u hu;exact bR.one z u hu) zE zE rfl rfl rfl rfl (λv23 t=> ?_);refine St.aP v23 (show _=(a++ [z]).length by rw[cA];rfl) (show _=rows bR (a++ [z]) by rw[bN];rfl) ?_;refine St.cH v23 (λm _=>St.fF (aL ae (a++ [z])) [aL ae a,ae z] (λρ h u hu=>by rcases ca.1 hu with hu|hu;exact h (aL ae a) (aR ..) u hu;rw[ba]at hu;subst hu;exact h (ae u) (cO _ (aR ..))) ?_);refine g2 ?_;refine SW.go ?_
   |with_reducible refine SW.tg 7 ?_
    refine St.cP (.mk rfl) (.mk rfl) aoJ m (by rfl) ?_;refine g2 ?_;refine SW.go ?_
  all_goals refine SW.dn ?_
  all_goals
   refine g7 ?_;refine St.aH ⟨k+1,⟨v23,m⟩,a++ [z]⟩ ⟨by omega,by rw[cY,b,kB hy,←hz];rfl⟩
 ·obtain rfl:k=x.kids.length:=by omega
  rw[iT]at b
  obtain⟨⟨d,e⟩,A⟩:∃z,z=kv:=⟨kv,rfl⟩
  subst A;refine St.bU d bR a rfl rfl (λy hy=> ?_) ?_
  ·have hm:aN y∈x.kids.map aN:=by rw[←b];exact dh hy
   obtain⟨u,hu,he⟩:=cS.1 hm;obtain⟨B,e2⟩:=Aa he.symm
   have hw:=j u hu
   exact⟨by rw[B];exact hw.1,by rw[e2];exact hw.2⟩
  refine St.fF (ae (.mk x.rule x.lex ⟨d,e⟩ a)) [sl bR d a,aL ae a] (λρ h=>l3.mk (x:= .mk x.rule x.lex ⟨d,e⟩ a) (h _ (aR ..)) (λy hy=>h (aL ae a) (cO _ (aR ..)) y hy)) (g8 ?_);refine St.sA (.mk rfl) (.mk rfl) jo ?_ (h1:=(by simp only[List.all_cons,List.all_nil,Bool.and_true,Bool.and_eq_true];exact⟨rfl,rfl,e⟩));refine g3 ?_;refine St.rV [_] [aD (ae (.mk x.rule x.lex ⟨d,e⟩ a))] ?_;exact⟨.mk x.rule x.lex ⟨d,e⟩ a,rfl,by rw[fG,fG x,←b];rfl,rfl⟩
def TW (its:List cT)(l:List Nat):Nat:=l.foldl (λn i=>min (n+pU its i) du) 0
theorem OK {its:List cT}{l:List Nat}{k q:Nat}(h:l[k]?=some q):TW its (l.take (k+1))=min (TW its (l.take k)+pU its q) du:=by unfold TW;rw[ag h,rK];rfl
theorem Y0 (its:List cT)(l:List Nat):TW its l≤du:=by
 have key:∀(l:List Nat) (a:Nat),a≤du→l.foldl (λn i=>min (n+pU its i) du) a≤du:=by
  intro l
  induction l with
  |nil=>intro a h;exact h
  |cons x l b=>intro a _;rw[jX];exact b _ (Nat.min_le_right _ _)
 exact key l 0 (aQ _)
theorem TX {R X:List Int}{its:List cT}(b:qU ⟨its.map dy,R,X⟩)(hw:nh (its.map dy)):∀(l:List Nat),(∀i∈l,i<its.length)→TW its l=min (l.flatMap (kJ (its.map dy) 60)).length du:=by
 have key:∀(l:List Nat) (a:Nat),(∀i∈l,i<its.length)→l.foldl (λn i=>min (n+pU its i) du) (min a du)=min (a+(l.flatMap (kJ (its.map dy) 60)).length) du:=by
  intro l
  induction l with
  |nil=>intro a _;rfl
  |cons x l c=>
   intro a h
   have hx:x<(⟨its.map dy,R,X⟩:lX).its.length:=by show x<(its.map dy).length;rw[aO];exact h x (aR ..)
   have d:pU its x=min (kJ (its.map dy) 60 x).length du:=Df b hw 60 x hx (b.ht x hx)
   have e:min (min a du+min (kJ (its.map dy) 60 x).length du) du=min (a+(kJ (its.map dy) 60 x).length) du:=by omega
   rw[jX,d,e,c _ λi hi=>h i (cO _ hi),iQ,cA,vI]
 intro l h
 have:=key l 0 h
 rw[jH]at this;exact this
theorem HT (a:eU)(uv b d:ah)(its:List cT)(full C:List Nat)(g:xT its C)(h:∀i,i<its.length→C[i]?=some (pU its i))(j:∀i∈full,i<its.length):dK prog 76 #[.agg #[a.tv.1,a.fv.1,a.rv.1,a.xv.1,a.start.nv.1,uv.1,b.1,d.1]] [sl aJ b.1 (bV full),sl aJ d.1 (bV C)] (iv (TW its full:Nat)):=by
 refine dK.qf (args:=[.agg #[a.tv.1,a.fv.1,a.rv.1,a.xv.1,a.start.nv.1,uv.1,b.1,d.1]]) 23 func76 rfl ntmps76 rfl (λc=>go ?_);refine St.wf b.1 (λ_ u=>?_)
 have v:=dc full
 have l:=dc C
 have m:=g.len
 have n:du=1099511627776:=rfl
 refine go ?_;refine St.cC (.mk rfl) rfl (λw=>g18 ?_);refine St.lS (ι:=Nat) (λk T=>(9,iv k)::(3,iv (TW its (full.take k):Nat))::T) (λk=>k≤full.length) (λk=>full.length-k) 0 (aC.k4 1 2 7 8) (aQ _) ?_;intro k hk
 have o:=Y0 its (full.take k)
 refine g6 ?_;refine St.cq (λp=> ?_) (λp=> ?_)
 ·obtain⟨q,e⟩:=aF (show k<full.length by omega)
  have r:=j q (aY e)
  have f:=h q r
  have s:=OK (its:=its) e
  have t:pU its q≤du:=Ku _ _ (aQ _)
  refine g7 ?_;refine St.ee (Ev.ld1 (.mk rfl) (iw e) fA trivial rfl) (g9 ?_);refine St.ee (Ev.ld1 (.mk rfl) (iw f) fA trivial rfl) (go ?_);refine St.ee (Ev.agY (.mk rfl) (.mk rfl)) (St.slot 20 (iv (TW its (full.take (k+1)):Nat)) rfl (congrArg iv (by rw[s];split<;>omega)) ?_);refine g9 ?_;refine St.aS (k+1) zE
 ·obtain rfl:k=full.length:=by omega
  rw[iT];refine g12 ?_;refine St.rV [_] [] ?_;rfl
inductive HJ:dY→Prop
 |mk {r l:Int} {ks:List dY} (h: -1≤r∧r≤1000∧0≤l∧l≤1000) (k:∀t∈ks,HJ t):HJ (.mk r l ks)
theorem HJ.kids {x:bM}(h:HJ (aN x)):(-1≤x.rule∧x.rule≤1000∧0≤x.lex∧x.lex≤1000)∧∀y∈x.kids,HJ (aN y):=by
 rw[fG]at h
 cases h with
 |mk h k=>exact⟨h,λy hy=>k _ (dh hy)⟩
mutual
theorem K7:∀t:dY,(jZ t).length=nV t
 | .mk r l ks=>by rw[jZ,nV,fL,zC ks];omega
theorem zC:∀l:List dY,(kq l).length=fp l
 | []=>rfl
 |t::l=>by rw[kq,fp,cA,K7 t,zC l]
end
theorem Bx:∀a b:List dY,kq (a++b)=kq a++kq b
 | [],_=>rfl
 |t::a,b=>by rw[se,kq,kq,Bx a b,dg]
theorem Xz (x:bM):jZ (aN x)=U6 x.rule x.lex::kq (x.kids.map aN):=by rw[fG,jZ]
def yE (x:bM)(l:List Int)(k:Nat):List Int:=l++(U6 x.rule x.lex::kq ((x.kids.take k).map aN))
theorem O5 {x y:bM}{l:List Int}{k:Nat}(h:x.kids[k]?=some y):yE x l (k+1)=yE x l k++jZ (aN y):=by
 unfold yE;rw[kB h,Bx,show kq [aN y]=jZ (aN y) by rw[kq,kq,ib]]
 simp
theorem T8 (x:bM)(l:List Int):yE x l x.kids.length=l++jZ (aN x):=by unfold yE;rw[iT,Xz]
theorem K0 (x:bM)(l:List Int)(k:Nat):(yE x l k).length≤l.length+nV (aN x):=by
 have h1:=vx (l:=x.kids.map aN) k
 rw[←List.map_take]at h1;unfold yE
 rw[cA,fL,zC,fG,nV];omega
mutual
theorem OI:∀t:dY,HJ t→∀z∈jZ t,aJ.wf z
 | .mk r l ks,h,z,hz=>by
  cases h with
  |mk h k=>
   rw[jZ]at hz
   rcases cN.1 hz with rfl|hz
   ·show aZ (U6 r l)
    unfold U6 aZ
    split<;>omega
   ·exact K6 ks k z hz
theorem K6:∀l:List dY,(∀t∈l,HJ t)→∀z∈kq l,aJ.wf z
 | [],_,z,hz=>by cases hz
 |t::l,h,z,hz=>by
  rw[kq]at hz
  rcases ca.1 hz with hz|hz
  ·exact OI t (h t (aR ..)) z hz
  ·exact K6 l (λs a=>h s (cO _ a)) z hz
end
theorem HS (b bw:Nat):∀(x:bM),HJ (aN x)→qI (aN x)→∀(g:ah) (l:List Int),l.length+nV (aN x)≤2000→
 dx prog 188 ([dA x]++ [tW b,tW bw]).toArray ([ae x,kH bw (.func (.func 188) #[] #[tW b,tW bw])].map aD++ [tI b [g.1] 35,row g.1 3 1 (l).length (rows aJ (l))]) (λv H'=>∃h:ah,v= .tuple #[]∧H'=[tI b [h.1] 35,row h.1 3 1 (l++jZ (aN x)).length (rows aJ (l++jZ (aN x)))]):=by
 intro x
 induction x using bM.ind
 rename_i x s
 intro t ht g l E;refine dx.body (args:=[dA x]++ [tW b,tW bw]) 31 func188 rfl ntmps188 rfl (λc=>go ?_);refine St.cast (H':=[aD (ae x),aD (kH bw (.func (.func 188) #[] #[tW b,tW bw])),tI b [g.1] 35,row g.1 3 1 (l).length (rows aJ (l))]) rfl ?_;obtain⟨F,j⟩:=t.kids;obtain⟨G,m⟩:=ht.kids;refine St.kS x (St.wf x.kv.1 (λH I=>go ?_));refine St.cC (.mk rfl) rfl (λp=>g2 ?_);refine St.join (ι:=ah) (λa T=>T) (λa=>[tI b [a.1] 35,row a.1 3 1 (yE x l 0).length (rows aJ (yE x l 0)),aD (kH bw (.func (.func 188) #[] #[tW b,tW bw])),aD (sl bR x.kv.1 x.kids),aD (aL ae x.kids),tI p (oA x) 51]) (λa=>True) (aC.k2 2 3) ?_ ?_
 ·refine g7 ?_
  refine St.cq (λu=> ?_) (λu=> ?_)
  ·have d:U6 x.rule x.lex=1000+x.lex:=by unfold U6;rw[aB zE]
   refine g5 ?_;refine St.iu rfl (.aq rfl) bQ dQ ec rfl rfl (by simp[Value.cells]) rfl rfl (λJ=> ?_);refine St.bH (.mk rfl) (.mk rfl) bQ dQ ec yt (by simp[Value.oneCell',Value.cells]) zE zE rfl rfl rfl rfl (λe w=> ?_);refine St.aP e (show _=(yE x l 0).length by unfold yE;rw[cA];rfl) (show _=rows aJ (yE x l 0) by unfold yE;rw[pL,kb,kq,bN,d];rfl) ?_;refine St.cH e (λq _=>St.cP (.mk rfl) (.mk rfl) fT q (by rfl) ?_);refine g2 ?_;refine St.mE ⟨e,q⟩ trivial
  ·have d:U6 x.rule x.lex=x.rule:=by unfold U6;rw[aA zE]
   refine g4 ?_;refine St.iu rfl (.aq rfl) bQ dQ ec rfl rfl (by simp[Value.cells]) rfl rfl (λz=> ?_);refine St.bH (.mk rfl) (.mk rfl) bQ dQ ec yt (by simp[Value.oneCell',Value.cells]) zE zE rfl rfl rfl rfl (λf A=> ?_);refine St.aP f (show _=(yE x l 0).length by unfold yE;rw[cA];rfl) (show _=rows aJ (yE x l 0) by unfold yE;rw[pL,kb,kq,bN,d];rfl) ?_;refine St.cH f (λr _=>St.cP (.mk rfl) (.mk rfl) fT r (by rfl) ?_);refine g2 ?_;refine St.mE ⟨f,r⟩ trivial
 ·intro a _
  refine g9 ?_;refine St.lH (ι:=Nat×ah) (λ⟨k,a⟩ T=>(23,iv k)::T) (λ⟨k,a⟩=>[tI b [a.1] 35,row a.1 3 1 (yE x l k).length (rows aJ (yE x l k)),aD (kH bw (.func (.func 188) #[] #[tW b,tW bw])),aD (sl bR x.kv.1 x.kids),aD (aL ae x.kids),tI p (oA x) 51]) (λ⟨k,a⟩=>k≤x.kids.length) (λ⟨k,a⟩=>x.kids.length-k) ⟨0,a⟩ (aC.k3 2 21 22) (aQ _) ?_;rintro ⟨k,a⟩ hk
  dsimp only at hk⊢
  have K:=K0 x l k
  refine g6 ?_;refine St.cq (λB=> ?_) (λB=> ?_)
  ·obtain⟨y,hy⟩:=aF (show k<x.kids.length by omega)
   have i:=aY hy
   refine St.bh ae x.kids (x:=y) i ?_
   have n:=O5 (l:=l) hy
   have C:=K0 x l (k+1)
   have o:=congrArg List.length n
   rw[cA,K7]at o;refine g7 ?_;refine St.ee (Ev.iD (.mk rfl) hy po trivial jo gH.eq) (St.al (λM=>g6 ?_));refine St.slot 28 (dA y) rfl rfl (St.nk (dr:=True) (ds:=[ae y,kH bw (.func (.func 188) #[] #[tW b,tW bw])]) (L:=[tI b [a.1] 35,row a.1 3 1 (yE x l k).length (rows aJ (yE x l k))]) (caps:=[tW b,tW bw]) (λ_=>trivial) (s y i (j y i) (m y i) a (yE x l k) zE) Vu (.mk rfl) (.aq rfl) rfl ?_);rintro D _ ⟨h,rfl,rfl⟩;refine St.dD (St.aP h.1 (show _=(yE x l (k+1)).length by rw[n]) (show _=rows aJ (yE x l (k+1)) by rw[n]) ?_);refine g8 ?_;refine St.aH ⟨k+1,h⟩ (by dsimp only;omega)
  ·obtain rfl:k=x.kids.length:=by omega
   rw[T8];refine g4 ?_;refine St.fi (St.rV [] [tI b [a.1] 35,row a.1 3 1 (l++jZ (aN x)).length (rows aJ (l++jZ (aN x)))] ?_);exact⟨a,rfl,rfl⟩
theorem Bc (x:bM)(e:HJ (aN x))(ht:qI (aN x))(g:nV (aN x)≤1000):dx prog 125 #[dA x] ([ae x].map aD) (λv H'=>∃f:ah,v=f.1∧H'=[aD (sl aJ f.1 (jZ (aN x)))]):=by
 refine dx.body (args:=[dA x]) 10 func125 rfl ntmps125 rfl (λc=>go ?_);refine St.cast (H':=[aD (ae x)]) rfl (go ?_);refine St.cC (.mk rfl) rfl (λh=>g5 ?_);refine St.al (λa=>g4 ?_);refine St.al (λb=>g4 ?_);refine St.ee (Ev.func (.aX rfl rfl)) (St.cP (.mk rfl) (.mk rfl) ah1 rfl (by rfl) ?_);refine St.pA b (g6 ?_);refine St.slot 7 (dA x) rfl rfl (St.e7 3 1 (St.aP (.slice none 0 0) (show _=([]:List Int).length from rfl) (show _=rows aJ []from rfl) (St.nk (dr:=True) (ds:=[ae x,kH b (.func (.func 188) #[] #[tW a,tW b])]) (L:=[tI a [(Value.slice none 0 0)] 35,row (Value.slice none 0 0) 3 1 (([]:List Int)).length (rows aJ (([]:List Int)))]) (caps:=[tW a,tW b]) (λ_=>trivial) (show dx prog 188 ([dA x]++ [tW a,tW b]).toArray ([ae x,kH b (.func (.func 188) #[] #[tW a,tW b])].map aD++ [tI a [(Value.slice none 0 0)] 35,row (Value.slice none 0 0) 3 1 (([]:List Int)).length (rows aJ (([]:List Int)))]) (λv H2=>∃d:ah,v= .tuple #[]∧H2=[tI a [d.1] 35,row d.1 3 1 (([]:List Int)++jZ (aN x)).length (rows aJ (([]:List Int)++jZ (aN x)))])from HS a b x e ht bx [] (by rw[List.length_nil];omega)) Vu (.mk rfl) (.aq rfl) rfl ?_)));rintro i _ ⟨d,rfl,rfl⟩;refine St.dD ?_;rw[xR];refine St.bU d.1 aJ (jZ (aN x)) rfl rfl (OI _ e) (g9 ?_);refine St.rV [_] [aD (sl aJ d.1 (jZ (aN x)))] ?_;exact⟨d,rfl,rfl⟩
theorem Nb {l:List dt}(a:Asc l)(b:∀x∈l,0≤x.dE):∀(i:Nat) (x:dt),l[i]?=some x→(i:Int)≤x.dE
 |0,x,hx=>b x (aY hx)
 |i+1,x,hx=>by
  obtain⟨y,hy⟩:=aF (show i<l.length by have:=bO hx;omega)
  have h1:=Nb a b i y hy
  have c:=a i (i+1) y x (Nat.lt_succ_self i) hy hx
  omega
theorem Su {l:List dt}(b:Asc l){nf:Nat}(a:∀x∈l,0≤x.dE∧x.dE<nf):l.length≤nf:=by
 rcases Nat.eq_zero_or_pos l.length with h|h
 ·omega
 ·obtain⟨y,hy⟩:=aF (show l.length-1<l.length by omega)
  have h1:=Nb b (λx hx=>(a x hx).1) _ y hy
  have c:=(a y (aY hy)).2
  omega
theorem CF {n:Int}:∀{l:List pM} {known:List cM} {i:Nat},(mw n known i l).1=0→∀f∈l,0≤f.2.1∧f.2.1<n∧0≤f.2.2∧f.2.2<n
 | [],_,_,_=>λf a=>by cases a
 |t::l,known,i,h=>by
  rw[mw]at h
  by_cases h1:isName t.1=false
  ·rw[aB h1]at h;exact absurd h (by simp)
  rw[aA h1]at h
  by_cases b:t.1∈known
  ·rw[aB b]at h;exact absurd h (by simp)
  rw[aA b]at h
  by_cases c:t.2.1<0∨n≤t.2.1∨t.2.2<0∨n≤t.2.2
  ·rw[aB c]at h;exact absurd h (by simp)
  rw[aA c]at h;intro f a
  rcases cN.1 a with rfl|a
  ·omega
  ·exact CF h f a
theorem UA {T:List er}{Fs:List pM}(h:(jk T Fs).1=0):0<T.length∧j5 T∧Fs.length≤40∧∀f∈Fs,0≤f.2.1∧f.2.1<T.length∧0≤f.2.2∧f.2.2<T.length:=by
 unfold jk at h
 by_cases h1:40<Fs.length
 ·rw[aB h1]at h;exact absurd h (by simp)
 rw[aA h1]at h
 by_cases a:(BW T).1≠0
 ·rw[aB a]at h;exact absurd h a
 rw[aA a]at h;obtain⟨_,c,d⟩:=JX (eY.1 a)
 cases e:xN T with
 |some b=>rw[e]at h;exact absurd h (by simp)
 |none=>rw[e]at h;exact⟨c,d,by omega,CF h⟩
end Go.Proofs.YtiefglecbgdaiaaGreatDoor
namespace Go.Proofs
open Go.Shelf Go.RowKit Go.Lib
variable {P:Program}{ρ:Ren}
theorem OP {r:Int}(h:128≤r):∃(n:Nat) (x:UInt8),(Utf8.encode r).size=n∧2≤n∧n≤4∧(Utf8.encode r).data.toList[n-1]?=some x∧128≤x.toNat:=by
 have key:∀c:Nat,128≤c→c<1114112→∃(n:Nat) (x:UInt8),(if c<0x80 then(⟨#[UInt8.ofNat c]⟩:ByteArray)else if c<0x800 then⟨#[UInt8.ofNat (0xC0+c/64),UInt8.ofNat (0x80+c%64)]⟩
  else if c<0x10000 then⟨#[UInt8.ofNat (0xE0+c/4096),UInt8.ofNat (0x80+c/64%64),UInt8.ofNat (0x80+c%64)]⟩
  else⟨#[UInt8.ofNat (0xF0+c/262144),UInt8.ofNat (0x80+c/4096%64),UInt8.ofNat (0x80+c/64%64),UInt8.ofNat (0x80+c%64)]⟩).size=n∧2≤n∧n≤4∧
  (if c<0x80 then(⟨#[UInt8.ofNat c]⟩:ByteArray)else if c<0x800 then⟨#[UInt8.ofNat (0xC0+c/64),UInt8.ofNat (0x80+c%64)]⟩
  else if c<0x10000 then⟨#[UInt8.ofNat (0xE0+c/4096),UInt8.ofNat (0x80+c/64%64),UInt8.ofNat (0x80+c%64)]⟩
  else⟨#[UInt8.ofNat (0xF0+c/262144),UInt8.ofNat (0x80+c/4096%64),UInt8.ofNat (0x80+c/64%64),UInt8.ofNat (0x80+c%64)]⟩).data.toList[n-1]?=some x∧128≤x.toNat:=by
  intro c h1 d
  have hx:128≤(UInt8.ofNat (0x80+c%64)).toNat:=by simp[UInt8.toNat_ofNat'];omega
  rw[aA (by omega)]
  by_cases k:c<0x800
  ·rw[aB k];exact⟨2,_,rfl,by omega,by omega,rfl,hx⟩
  ·rw[aA k]
   by_cases b:c<0x10000
   ·rw[aB b];exact⟨3,_,rfl,by omega,by omega,rfl,hx⟩
   ·rw[aA b];exact⟨4,_,rfl,by omega,by omega,rfl,hx⟩
 unfold Utf8.encode
 by_cases a:Utf8.valid r=true
 ·simp only[a,if_true]
  refine key r.toNat (by omega) ?_
  simp[Utf8.valid]at a
  omega
 ·simp only[a]
  exact key Utf8.runeError (by decide) (by decide)
theorem wH {w:World}{s d:TypeId}{k:IntKind}{r:Int}(a:P.underlying s=some (.int k))(hd:P.underlying d=some .string):(convert s d (.int k r)).run P w= .ok (.string (Utf8.encode r)) w:=by
 simp[convert,run_underlying a,run_underlying hd,Conv.intToString]
theorem E5 {w:World}{t:TypeId}{s:ByteArray}{i:Int}{k:Nat}{b:UInt8}(ht:P.underlying t=some .string)(hi:i=k)(a:s.data.toList[k]?=some b):(Instr.index t (.string s) (.int .i64 i)).run P w= .ok (.int .u8 (b.toNat:Int)) w:=by
 subst hi
 have c:k<s.size:=by have:=(fj.1 a).1;rwa[←Lib.size_eq]at this
 have h1:s[k]?=some b:=by
  rw[ByteArray.getElem?_lt' _ _ c]
  have:=(fj.1 a).2
  simpa[ByteArray.getElem_eq_getElem_data]using this
 simp[Instr.index,asIntOf,run_underlying ht,h1]
theorem BF {l:List UInt8}{c:UInt8}(h:∀x∈l,x≠c):Lib.indexByte l c<0:=by
 have h1:=Lib.contains_iff_indexByte l c
 have a:l.contains c=false:=by
  rw[Bool.eq_false_iff];intro b;exact h c (List.contains_iff_mem.1 b) rfl
 rw[a]at h1
 have:=ly h1.symm
 omega
set_option maxRecDepth 1000000 in
theorem Any.zb (L:Lays.n152 P ρ)(s:ByteArray)(r:Int)(w:World)(h0:128≤r)(h1:r≠65533)(hv:Lib.validRune r=true)(hs:∀(j:Nat) b,s.data.toList[j]?=some b→b.toNat<128)(hsz:s.size≤100):
 Calls P (ρ.f 152) #[.string s,.int .i32 r] w λe w'=>e= .returned (.int .i64 (-1))∧∃k,w'=w.drewN k:=by
 have t3:=L.t3;have a3:=L.a3;have z3:=L.z3;have v3:=L.v3
 have t4:=L.t4;have a4:=L.a4;have z4:=L.z4;have v4:=L.v4
 have t5:=L.t5;have a5:=L.a5;have z5:=L.z5;have v5:=L.v5
 have t9:=L.t9;have a9:=L.a9;have z9:=L.z9;have v9:=L.v9
 have t21:=L.t21;have a21:=L.a21;have z21:=L.z21;have v21:=L.v21
 have akE:∀args w,(callFunc (ρ.f 137) args).run P w= .ok (.enter (ρ.f 137) args) w:=enters_of L.f137 (by kernel_rfl) rfl
 have akD:∀args w,(callFunc (ρ.f 119) args).run P w= .ok (.enter (ρ.f 119) args) w:=enters_of L.f119 (by kernel_rfl) rfl
 have mixed:=L.mixed
 have d1:decide ((0:Int)≤r)=true:=cX (by omega)
 have d2:decide (r<128)=false:=df (by omega)
 have d3:(r==(65533:Int))=false:=tc.2 h1
 obtain⟨n,x,hn,hn2,hn4,hx,WS⟩:=OP h0
 have hc:=λ(w:World)=>wH (P:=P) (w:=w) (r:=r) t21 t9
 generalize Utf8.encode r=rs at hn hx hc
 subst hn
 go_enter L.f152,Body.n152_ntmps ρ
 go_wp2_with (go_at_fn (ρ.f 119);refine(Any.utf8_ValidRune {L with} _ _).mono ?_;rintro e w' ⟨rfl,hw⟩;rw[hw,hv])
 subst hw;refine wp_scope_straight ?_
 go_wp2
 by_cases hl:rs.size-1<s.size
 ·have hi0:(0:Int)≤(rs.size:Int)-1:=by omega
  have hi1:(rs.size:Int)-1<(s.size:Int):=by omega
  obtain⟨y,hy⟩:∃y:UInt8,s.data.toList[rs.size-1]?=some y:=⟨_,bT (by rw[←Lib.size_eq];exact hl)⟩
  have apE:=hs _ _ hy
  refine wp_loop_rounds 1 ?_;rw[rounds_succ]
  go_wp2
  refine wp_scope_straight ?_
  have kx:∀w,(Instr.index (ρ.t 9) (.string rs) (.int .i64 ((rs.size:Int)-1))).run P w= .ok (.int .u8 (x.toNat:Int)) w:=λw=>E5 t9 (by omega) hx
  have ky:∀w,(Instr.index (ρ.t 9) (.string s) (.int .i64 ((rs.size:Int)-1))).run P w= .ok (.int .u8 (y.toNat:Int)) w:=λw=>E5 t9 (by omega) hy
  have YQ:((y.toNat:Int)==(x.toNat:Int))=false:=tc.2 (by omega)
  go_wp2
  go_region_o
  have akE:∀args w,(callFunc (ρ.f 137) args).run P w= .ok (.enter (ρ.f 137) args) w:=enters_of L.f137 (by kernel_rfl) rfl
  have hw1:IntKind.i64.wrap (rs.size:Int)=(rs.size:Int):=by
   simp only[IntKind.wrap,IntKind.bits,IntKind.signed]
   simp
   omega
  have s1:(0:Int)≤(rs.size:Int)-1+1:=by omega
  have s2:(rs.size:Int)-1+1≤(s.size:Int):=by omega
  have s3:(0:Int)≤(rs.size:Int):=by omega
  have s4:(rs.size:Int)≤(s.size:Int):=by omega
  obtain⟨z,hz⟩:∃z,Lib.indexByte (s.extract rs.size s.size).data.toList ((x.toNat:Int).toNat.toUInt8)=z:=⟨_,rfl⟩
  have hz0:z<0:=by
   rw[←hz]
   refine BF λb hb=> ?_
   have CJ:b∈s.data.toList:=by
    have:(s.extract rs.size s.size).data.toList=(s.data.toList.drop rs.size).take (s.size-rs.size):=by simp
    rw[this]at hb;exact D1 (Au hb)
   obtain⟨k,hk⟩:=Cz CJ
   have h5:=hs k b hk
   intro e
   have h6:((x.toNat:Int)).toNat.toUInt8=x:=by simp
   rw[h6]at e;rw[e]at h5;omega
  go_wp2
  go_region_with_o (
   go_at_fn (ρ.f 137)
   refine(Any.strings_IndexByte {L with} _ _ _).mono ?_;rintro e w' ⟨rfl,hw⟩
   rw[hw,hz])
  go_wp2
  simp only[Exit.noGoto,Exit.inBlock,Exit.then]
  go_ret
  exact⟨rfl,2,rfl⟩
 ·have hi1:decide ((rs.size:Int)-1<(s.size:Int))=false:=df (by omega)
  refine wp_loop_rounds 1 ?_;rw[rounds_succ]
  go_wp2
  show Exit.inBlock 0 _ Exit.ret _ _
  go_ret
  exact⟨rfl,0,rfl⟩
set_option maxRecDepth 1000000 in
theorem Any.BG (L:Lays.n152 P ρ)(s:ByteArray)(r:Int)(w:World)(h0:128≤r)(h1:r≠65533)(hv:Lib.validRune r=false):
 Calls P (ρ.f 152) #[.string s,.int .i32 r] w λe w'=>e= .returned (.int .i64 (-1))∧∃k,w'=w.drewN k:=by
 have t3:=L.t3;have a3:=L.a3;have z3:=L.z3;have v3:=L.v3
 have t4:=L.t4;have a4:=L.a4;have z4:=L.z4;have v4:=L.v4
 have t5:=L.t5;have a5:=L.a5;have z5:=L.z5;have v5:=L.v5
 have t9:=L.t9;have a9:=L.a9;have z9:=L.z9;have v9:=L.v9
 have t21:=L.t21;have a21:=L.a21;have z21:=L.z21;have v21:=L.v21
 have akD:∀args w,(callFunc (ρ.f 119) args).run P w= .ok (.enter (ρ.f 119) args) w:=enters_of L.f119 (by kernel_rfl) rfl
 have d1:decide ((0:Int)≤r)=true:=cX (by omega)
 have d2:decide (r<128)=false:=df (by omega)
 have d3:(r==(65533:Int))=false:=tc.2 h1
 go_enter L.f152,Body.n152_ntmps ρ
 go_wp2_with (go_at_fn (ρ.f 119);refine(Any.utf8_ValidRune {L with} _ _).mono ?_;rintro e w' ⟨rfl,hw⟩;rw[hw,hv])
 subst hw
 go_ret
 exact⟨rfl,0,rfl⟩
set_option maxRecDepth 1000000 in
theorem Any.xh (L:Lays.n152 P ρ)(s:ByteArray)(w:World)(hs:∀(j:Nat) b,s.data.toList[j]?=some b→b.toNat<128):
 Calls P (ρ.f 152) #[.string s,.int .i32 65533] w λe w'=>e= .returned (.int .i64 (-1))∧∃pos,w'=w.iter s pos:=by
 have HA:Aside (∀(j:Nat) b,s.data.toList[j]?=some b→b.toNat<128):=hs
 clear hs
 have t3:=L.t3;have a3:=L.a3;have z3:=L.z3;have v3:=L.v3
 have t4:=L.t4;have a4:=L.a4;have z4:=L.z4;have v4:=L.v4
 have t5:=L.t5;have a5:=L.a5;have z5:=L.z5;have v5:=L.v5
 have t9:=L.t9;have a9:=L.a9;have z9:=L.z9;have v9:=L.v9
 have t21:=L.t21;have a21:=L.a21;have z21:=L.z21;have v21:=L.v21
 go_enter L.f152,Body.n152_ntmps ρ
 go_wp2
 go_loopg [5,6] s.size (λg _ _ wx=>∃i:Nat,i+g=s.size∧wx=w.iter s i)
 case atStart=>exact⟨0,by omega,rfl⟩
 case round=>
  obtain⟨i,hig,rfl⟩:=hrel
  cases gk with
  |zero=>
   obtain rfl:i=s.size:=by omega
   have YT:=run_next_end (P:=P) w s s.size
   go_wp2
   go_ret
   exact⟨rfl,_,rfl⟩
  |succ g=>
   have hi:i<s.size:=by omega
   obtain⟨x,hx⟩:∃x:UInt8,s[i]'hi=x:=⟨_,rfl⟩
   have UJ:s.data.toList[i]?=some x:=by rw[←hx];exact Lib.data_getElem? s i hi
   have WS:x.toNat<128:=HA.out i x UJ
   have YT:=λty=>run_next_ascii (P:=P) w s i ty hi (by rw[hx];exact WS)
   rw[hx]at YT
   have YQ:((x.toNat:Int)==(65533:Int))=false:=tc.2 (by omega)
   go_wp2
   go_roundg g
   case measure=>omega
   case rel=>exact⟨i+1,by omega,rfl⟩
theorem Any.vm (L:Lays.n152 P ρ)(s:ByteArray)(r:Int)(w:World)(a:128≤r)(c:∀(j:Nat) b,s.data.toList[j]?=some b→b.toNat<128)(g:s.size≤100):
 Calls P (ρ.f 152) #[.string s,.int .i32 r] w λe w'=>e= .returned (.int .i64 (-1))∧Below w.heap.size w w':=by
 by_cases h1:r=65533
 ·subst h1
  refine(Any.xh L s w c).mono ?_;rintro e w' ⟨rfl,pos,rfl⟩;exact⟨rfl,(Below.refl _ w).alloc (aU _) _⟩
 ·cases d:Lib.validRune r with
  |true=>
   refine(Any.zb L s r w a h1 d c g).mono ?_;rintro e w' ⟨rfl,k,rfl⟩;exact⟨rfl,rfl,rfl,rfl,aU _,λ_ _=>rfl⟩
  |false=>
   refine(Any.BG L s r w a h1 d).mono ?_;rintro e w' ⟨rfl,k,rfl⟩;exact⟨rfl,rfl,rfl,rfl,aU _,λ_ _=>rfl⟩
theorem Fz {w:World}{k:Nat}{s:ByteArray}{p:Nat}{o:Obj}(h:w.heap[k]?=some o):(w.iterAt k s p).heap[k]?=some (.stringIter s p):=by
 have hk:=(od.1 h).1
 show(w.heap.setIfInBounds k _)[k]?=_
 simp[hk]
theorem iterAt_size {w:World}{k:Nat}{s:ByteArray}{p:Nat}:(w.iterAt k s p).heap.size=w.heap.size:=by
 show(w.heap.setIfInBounds k _).size=_
 simp
theorem E8 {w wx:World}{k:Nat}{s:ByteArray}{p:Nat}(h:Below k w wx):Below k w (wx.iterAt k s p):=
 ⟨h.os,h.tape,h.output,by rw[iterAt_size];exact h.size,λj a=>by
  show(wx.heap.setIfInBounds k _)[j]?=_
  rw[Array.getElem?_setIfInBounds_ne (by omega)]
  exact h.block j a⟩
theorem Iv {s chars:List UInt8}{i n:Nat}(h:NoAny s chars i)(c:∀(j:Nat) b,chars[j]?=some b→b.toNat<128)(d:∀j,j<n→128≤J.bt s (i+j)):NoAny s chars (i+n):=by
 intro j b l a
 by_cases k:j<i
 ·exact h j b k a
 ·have h1:=d (j-i) (by omega)
  rw[show i+(j-i)=j by omega]at h1
  have e:J.bt s j=b.toNat:=by unfold J.bt;rw[ax,a];rfl
  rw[e]at h1;rw[Bool.eq_false_iff];intro f;obtain⟨q,g⟩:=Cz (List.contains_iff_mem.1 f)
  have:=c q b g
  omega
theorem Nh {B:Nat}{w a b:World}(h:Below B w a)(d:B≤a.heap.size)(k:Below a.heap.size a b):Below B w b:=
 ⟨k.os.trans h.os,k.tape.trans h.tape,k.output.trans h.output,dH h.size k.size,λj c=>(k.block j (by omega)).trans (h.block j c)⟩
end Go.Proofs
namespace Go.Proofs
open Go.Shelf Go.RowKit Go.Lib
variable {P:Program}{ρ:Ren}
set_option maxRecDepth 1000000 in
theorem Any.tG (L:Lays.n153 P ρ)(s chars:ByteArray)(w:World)(h2:2≤chars.size)(Oy:chars.size≤100)(h8:s.size≤8)(Ox:∀(j:Nat) b,chars.data.toList[j]?=some b→b.toNat<128):
 Calls P (ρ.f 153) #[.string s,.string chars] w λe w'=>e= .returned (.int .i64 (Lib.indexAny s.data.toList chars.data.toList))∧Below w.heap.size w w':=by
 have HA:Aside (∀(j:Nat) b,chars.data.toList[j]?=some b→b.toNat<128):=Ox
 clear Ox
 have apU:chars.toList.isEmpty=false:=by
  rw[Lib.toList_data]
  cases h:chars.data.toList with
  |nil=>have:=Lib.size_eq chars;rw[h,List.length_nil]at this;omega
  |cons _ _=>rfl
 have hn1:((chars.size:Int)==1)=false:=tc.2 (by omega)
 have h8z:decide ((8:Int)<(s.size:Int))=false:=df (by omega)
 have t3:=L.t3;have a3:=L.a3;have z3:=L.z3;have v3:=L.v3
 have t4:=L.t4;have a4:=L.a4;have z4:=L.z4;have v4:=L.v4
 have t5:=L.t5;have a5:=L.a5;have z5:=L.z5;have v5:=L.v5
 have t9:=L.t9;have a9:=L.a9;have z9:=L.z9;have v9:=L.v9
 have t21:=L.t21;have a21:=L.a21;have z21:=L.z21;have v21:=L.v21
 have apM:∀args w,(callFunc (ρ.f 152) args).run P w= .ok (.enter (ρ.f 152) args) w:=enters_of L.f152 (by kernel_rfl) rfl
 have apO:∀args w,(callFunc (ρ.f 226) args).run P w= .ok (.enter (ρ.f 226) args) w:=enters_of L.f226 (by kernel_rfl) rfl
 go_enter L.f153,Body.n153_ntmps ρ
 go_wp2_with (go_at_fn (ρ.f 226);refine(Any.strings_shouldUseASCIISet {L with} _ _).mono ?_;rintro e w' ⟨rfl,hw⟩;rw[hw,h8z])
 go_loopg [9,10] s.size (λg _ _ wx=>∃i:Nat,i+g=s.size∧wx.heap[w.heap.size]?=some (.stringIter s i)∧Below w.heap.size w wx∧Lib.NoAny s.data.toList chars.data.toList i)
 case atStart=>exact⟨0,by omega,World.iter_heap w s 0,(Below.refl _ w).alloc (aU _) _,Lib.NoAny.zero _ _⟩
 case round=>
  obtain⟨i,hig,hk,aeE,YR⟩:=hrel
  have HN:Aside (Lib.NoAny s.data.toList chars.data.toList i):=YR
  clear YR
  have HB:Aside (Below w.heap.size w wr):=aeE
  clear aeE
  cases gk with
  |zero=>
   obtain rfl:i=s.size:=by omega
   have YT:=λty=>run_next_end_at (P:=P) wr w.heap.size s s.size ty hk (by omega)
   go_wp2
   go_ret
   exact⟨by rw[Lib.indexAny_none (by rw[←Lib.size_eq];exact HN.out)];rfl,HB.out⟩
  |succ g=>
   have hi:i<s.size:=by omega
   have PD:i<s.data.toList.length:=by rw[←Lib.size_eq];exact hi
   have YT:=λty=>run_next_any_at (P:=P) wr w.heap.size s i ty hk hi
   obtain⟨b1,b2,b3⟩:=J.rR PD
   have aeK:=decodeL_drop s i
   have hsz:=Lib.size_eq s
   rw[aeK]at b1 b2 b3
   obtain⟨r,wd,hd⟩:∃r wd,Utf8.decode s i=(r,wd):=⟨_,_,rfl⟩
   rw[hd]at YT b1 b2 b3
   simp only at YT b1 b2 b3
   obtain⟨w2,hw2⟩:∃w2,wr.iterAt w.heap.size s (i+wd)=w2:=⟨_,rfl⟩
   have hk2:w2.heap[w.heap.size]?=some (.stringIter s (i+wd)):=hw2▸Fz hk
   have CJ:Below w.heap.size w w2:=hw2▸E8 HB.out
   rw[hw2]at YT
   clear hw2 aeK hd
   have HK2:Aside (w2.heap[w.heap.size]?=some (.stringIter s (i+wd))):=hk2
   have HB2:Aside (Below w.heap.size w w2):=CJ
   clear hk2 CJ
   rcases b3 with⟨c1,c2⟩|⟨c1,c2⟩
   ·obtain⟨x,UJ⟩:∃x,s.data.toList[i]?=some x:=⟨_,bT PD⟩
    have hbx:J.bt s.data.toList i=x.toNat:=by unfold J.bt;rw[ax,UJ];rfl
    rw[hbx]at c1 c2;obtain⟨rfl,rfl⟩:=Prod.mk.inj c2
    have Hx:Aside (s.data.toList[i]?=some x):=UJ
    clear UJ hbx c2
    have M8:=Lib.contains_iff_indexByte chars.data.toList x
    have WH:((x.toNat:Int)).toNat.toUInt8=x:=by simp
    cases UB:chars.data.toList.contains x
    ·rw[UB]at M8
     have hlt:¬((0:Int)≤Lib.indexByte chars.data.toList x):=ly M8.symm
     clear M8
     go_wp2_with (go_at_fn (ρ.f 152);refine(Any.strings_IndexRune_ascii {L with} _ _ _ (by omega) (by omega)).mono ?_;rintro e w' ⟨rfl,rfl⟩;rw[WH];dsimp only)
     go_wp2
     go_roundg g
     case measure=>omega
     case rel=>exact⟨i+1,by omega,HK2.out,HB2.out,HN.out.succ Hx.out UB⟩
    ·rw[UB]at M8
     have hge:(0:Int)≤Lib.indexByte chars.data.toList x:=im M8.symm
     clear M8
     go_wp2_with (go_at_fn (ρ.f 152);refine(Any.strings_IndexRune_ascii {L with} _ _ _ (by omega) (by omega)).mono ?_;rintro e w' ⟨rfl,rfl⟩;rw[WH];dsimp only)
     go_wp2
     go_ret
     exact⟨by rw[Lib.indexAny_hit HN.out Hx.out UB];rfl,HB2.out⟩
   ·have HC:Aside (∀j,j<wd→128≤J.bt s.data.toList (i+j)):=c2
    clear c2
    go_wp2_with (go_at_fn (ρ.f 152);refine(Any.vm {L with} _ _ _ (by omega) HA.out Oy).mono ?_;rintro e w3 ⟨rfl,hb3⟩;dsimp only)
    go_wp2
    go_roundg (s.size-(i+wd))
    case measure=>omega
    case rel=>exact⟨i+wd,by omega,by rw[hb3.block _ (od.1 HK2.out).1];exact HK2.out,Nh HB2.out HB2.out.size hb3,Iv HN.out HA.out HC.out⟩
theorem Any.E7 (L:Lays.n153 P ρ)(a:(P.info? (ρ.t 116)).map (λi=>(i.zero,i.size))=some (some (.agg (Array.replicate 256 (.bool false))),256))(s chars:ByteArray)(w:World)(d:2≤chars.size)(g:chars.size≤100)(h:s.size<4294967281)
 (c:∀(j:Nat) b,chars.data.toList[j]?=some b→b.toNat<128):
 Calls P (ρ.f 153) #[.string s,.string chars] w λe w'=>e= .returned (.int .i64 (Lib.indexAny s.data.toList chars.data.toList))∧Below w.heap.size w w':=by
 by_cases k:s.size≤8
 ·exact Any.tG L s chars w d g k c
 ·refine(Any.strings_IndexAny_long L (zero_of_info a).1 (zero_of_info a).2 s chars w (by omega) (by omega) h (by omega) c).mono ?_
  rintro e w' ⟨l,m⟩;refine⟨l,?_⟩;rw[m];exact((Below.refl _ _).alloc (aU _) _).alloc (by simp) _
theorem Any.xc (L:Lays.n150 P ρ)(akJ:(P.info? (ρ.t 116)).map (λi=>(i.zero,i.size))=some (some (.agg (Array.replicate 256 (.bool false))),256))(s chars:ByteArray)(w:World)(h2:2≤chars.size)(Oy:chars.size≤100)(hs:s.size<4294967281)
 (hac:∀(j:Nat) b,chars.data.toList[j]?=some b→b.toNat<128):
 Calls P (ρ.f 150) #[.string s,.string chars] w λe w'=>e= .returned (.bool (Lib.containsAny s.data.toList chars.data.toList))∧Below w.heap.size w w':=by
 have c:=Any.E7 {L with} akJ s chars w h2 Oy hs hac
 have t3:=L.t3;have a3:=L.a3;have z3:=L.z3;have v3:=L.v3
 have t4:=L.t4;have a4:=L.a4;have z4:=L.z4;have v4:=L.v4
 have t9:=L.t9;have a9:=L.a9;have z9:=L.z9;have v9:=L.v9
 have apN:∀args w,(callFunc (ρ.f 153) args).run P w= .ok (.enter (ρ.f 153) args) w:=enters_of L.f153 (by kernel_rfl) rfl
 go_enter L.f150,Body.n150_ntmps ρ
 go_wp2_with (go_at_fn (ρ.f 153);refine c.mono ?_;rintro e w' ⟨rfl,hw⟩)
 go_ret
 exact⟨rfl,hw⟩
theorem vW (s:List UInt8):Lib.containsAny s J.y7=s.any J.jC:=by
 rw[HG];unfold Lib.containsAny;rw[decide_eq_true_iff,An]
 constructor
 ·have g:∀l:List UInt8,0≤Lib.indexAny l J.y7→∃b,b∈l∧J.jC b=true:=by
   intro l
   induction l with
   |nil=>intro h;exact absurd h (by decide)
   |cons c l i=>
    intro h;unfold Lib.indexAny at h
    have j:=Lib.indexAny_ge J.y7 l
    split at h
    ·rename_i d
     exact⟨c,aR ..,by unfold J.jC;exact d⟩
    ·split at h
     ·omega
     ·rename_i he
      have k:Lib.indexAny l J.y7≠ -1:=λe=>he (by rw[e];rfl)
      obtain⟨b,a,f⟩:=i (by omega);exact⟨b,cO _ a,f⟩
  exact g s
 ·rintro ⟨b,a,f⟩
  rcases Int.lt_or_le (Lib.indexAny s J.y7) 0 with h|h
  ·exfalso
   have key:∀l:List UInt8,Lib.indexAny l J.y7<0→∀b∈l,J.jC b=false:=by
    intro l
    induction l with
    |nil=>intro _ b a;cases a
    |cons c l i=>
     intro h b a;unfold Lib.indexAny at h
     have j:=Lib.indexAny_ge J.y7 l
     split at h
     ·omega
     ·rename_i d
      rcases cN.1 a with rfl|a
      ·unfold J.jC;simpa using d
      ·refine i ?_ b a
       split at h
       ·rename_i he;rw[beq_iff_eq]at he;omega
       ·rename_i he;omega
   rw[key s h b a]at f;cases f
  ·exact h
end Go.Proofs
namespace Go.Proofs
open Go.Shelf
def Tryz.G3:Go.Shelf.Ren:=⟨λ|195=>98|n=>n,λ|0=>0|3=>3|4=>4|9=>9|n=>n,λ|n=>n⟩
theorem Tryz.UR:Go.Proofs.Lays.n195 Tryz.prog Tryz.G3:={
 mixed:=by kernel_rfl
 f195:=Tryz.func98.trans (congrArg some (by kernel_rfl))
 t0:=Zb
 a0:=Tryz.isAgg0
 z0:=Tryz.sizeOf0
 v0:=Tryz.zeroValue0
 t3:=fA
 a3:=Tryz.isAgg3
 z3:=Tryz.sizeOf3
 v3:=Tryz.zeroValue3
 t4:=EY
 a4:=Tryz.isAgg4
 z4:=Tryz.sizeOf4
 v4:=Tryz.zeroValue4
 t9:=wX
 a9:=Tryz.isAgg9
 z9:=Tryz.sizeOf9
 v9:=Tryz.zeroValue9}
def Tryz.qp:Go.Shelf.Ren:=⟨λ|196=>99|259=>148|n=>n,λ|0=>0|3=>3|4=>4|5=>5|9=>9|12=>12|46=>192|53=>123|119=>257|138=>259|139=>260|n=>n,λ|3=>2|4=>3|n=>n⟩
theorem Tryz.US:Go.Proofs.Lays.n196 Tryz.prog Tryz.qp:={
 mixed:=by kernel_rfl
 f196:=Tryz.func99.trans (congrArg some (by kernel_rfl))
 f259:=Tryz.func148.trans (congrArg some (by kernel_rfl))
 t0:=Zb
 a0:=Tryz.isAgg0
 z0:=Tryz.sizeOf0
 v0:=Tryz.zeroValue0
 t3:=fA
 a3:=Tryz.isAgg3
 z3:=Tryz.sizeOf3
 v3:=Tryz.zeroValue3
 t4:=EY
 a4:=Tryz.isAgg4
 z4:=Tryz.sizeOf4
 v4:=Tryz.zeroValue4
 t5:=EZ
 a5:=Tryz.isAgg5
 z5:=Tryz.sizeOf5
 v5:=Tryz.zeroValue5
 t9:=wX
 a9:=Tryz.isAgg9
 z9:=Tryz.sizeOf9
 v9:=Tryz.zeroValue9
 t12:=Tryz.underlying12
 a12:=Tryz.isAgg12
 z12:=Tryz.sizeOf12
 v12:=Tryz.zeroValue12
 t46:=xL
 a46:=Tryz.isAgg192
 z46:=Tryz.sizeOf192
 v46:=Tryz.zeroValue192
 t53:=gj
 a53:=Tryz.isAgg123
 z53:=Tryz.sizeOf123
 v53:=Tryz.zeroValue123
 t119:=Tryz.underlying257
 a119:=Tryz.isAgg257
 z119:=Tryz.sizeOf257
 t138:=Tryz.underlying259
 a138:=Tryz.isAgg259
 z138:=Tryz.sizeOf259
 v138:=Tryz.zeroValue259
 t139:=Tryz.underlying260
 a139:=Tryz.isAgg260
 z139:=Tryz.sizeOf260
 v139:=Tryz.zeroValue260
 g3:=by kernel_rfl
 g4:=by kernel_rfl}
def Tryz.xC:Go.Shelf.Ren:=⟨λ|119=>217|137=>216|150=>100|152=>195|153=>149|217=>245|224=>218|225=>219|226=>196|227=>197|228=>198|266=>252|n=>n,λ|0=>0|3=>3|4=>4|5=>5|9=>9|21=>21|46=>192|116=>303|117=>304|124=>328|n=>n,λ|n=>n⟩
theorem Tryz.UQ:Go.Proofs.Lays.n150 Tryz.prog Tryz.xC:={
 mixed:=by kernel_rfl
 f119:=Tryz.func217.trans (congrArg some (by kernel_rfl))
 f137:=Tryz.func216.trans (congrArg some (by kernel_rfl))
 f150:=Tryz.func100.trans (congrArg some (by kernel_rfl))
 f152:=Tryz.func195.trans (congrArg some (by kernel_rfl))
 f153:=Tryz.func149.trans (congrArg some (by kernel_rfl))
 f217:=Tryz.func245.trans (congrArg some (by kernel_rfl))
 f224:=Tryz.func218.trans (congrArg some (by kernel_rfl))
 f225:=Tryz.func219.trans (congrArg some (by kernel_rfl))
 f226:=Tryz.func196.trans (congrArg some (by kernel_rfl))
 f227:=Tryz.func197.trans (congrArg some (by kernel_rfl))
 f228:=Tryz.func198.trans (congrArg some (by kernel_rfl))
 f266:=Tryz.func252.trans (congrArg some (by kernel_rfl))
 t0:=Zb
 a0:=Tryz.isAgg0
 z0:=Tryz.sizeOf0
 v0:=Tryz.zeroValue0
 t3:=fA
 a3:=Tryz.isAgg3
 z3:=Tryz.sizeOf3
 v3:=Tryz.zeroValue3
 t4:=EY
 a4:=Tryz.isAgg4
 z4:=Tryz.sizeOf4
 v4:=Tryz.zeroValue4
 t5:=EZ
 a5:=Tryz.isAgg5
 z5:=Tryz.sizeOf5
 v5:=Tryz.zeroValue5
 t9:=wX
 a9:=Tryz.isAgg9
 z9:=Tryz.sizeOf9
 v9:=Tryz.zeroValue9
 t21:=Tryz.underlying21
 a21:=Tryz.isAgg21
 z21:=Tryz.sizeOf21
 v21:=Tryz.zeroValue21
 t46:=xL
 a46:=Tryz.isAgg192
 z46:=Tryz.sizeOf192
 v46:=Tryz.zeroValue192
 t116:=Tryz.underlying303
 a116:=Tryz.isAgg303
 z116:=Tryz.sizeOf303
 t117:=Tryz.underlying304
 a117:=Tryz.isAgg304
 z117:=Tryz.sizeOf304
 v117:=Tryz.zeroValue304
 t124:=Tryz.underlying328
 a124:=Tryz.isAgg328
 z124:=Tryz.sizeOf328
 v124:=Tryz.zeroValue328}
end Go.Proofs
namespace Go.Proofs.YtiefglecbgdaiaaGreatDoor
open Go Go.J Tryz
theorem akB:aK prog 98:=⟨_,func98,rfl,by kernel_rfl⟩
theorem akC:aK prog 99:=⟨_,func99,rfl,by kernel_rfl⟩
theorem aa6:aK prog 100:=⟨_,func100,rfl,by kernel_rfl⟩
def XV (w:World):Prop:=Lib.Utf8Tabs (Tryz.qp.g 3) (Tryz.qp.g 4) w
abbrev u8:e8:=e8.of XV
theorem ZU:(prog.info? (Tryz.xC.t 116)).map (λi=>(i.zero,i.size))=some (some (.agg (Array.replicate 256 (.bool false))),256):=by kernel_rfl
theorem Km (s:cM):(⟨s.toArray⟩:ByteArray).size=s.length:=by simp[ByteArray.size]
theorem Ux (s:cM)(a:s.length<9223372036854775807):kL prog 98 #[sv s] [u8] (iv (Lib.runeCountL s)):=
 kL.qy λw _=>by
  refine(Any.utf8_RuneCountInString Tryz.UR ⟨s.toArray⟩ w (by rw[Km];exact a)).mono ?_;rintro e w' ⟨rfl,pos,rfl⟩;exact⟨rfl,(RowKit.Below.refl _ w).alloc (aU _) _⟩
theorem Ja (s:cM)(a:s.length<9223372036854775807):kL prog 99 #[sv s] [u8] (.bool (Lib.validD s)):=
 kL.qy λw hw=>Any.utf8_ValidString Tryz.US ⟨s.toArray⟩ w (by rw[Km];omega) hw
theorem NY (s:cM)(a:s.length<4294967281):kL prog 100 #[sv s,sv y7] [u8] (.bool (s.any jC)):=
 kL.qy λw _=>by
  have:=Any.xc Tryz.UQ ZU ⟨s.toArray⟩ ⟨y7.toArray⟩ w (by decide) (by decide) (by rw[Km];exact a) (λj b h=>by
   have:∀b∈y7,b.toNat<128:=by decide
   exact this b (aY h))
  rw[←vW];exact this
theorem ZG (s:cM):s.length≤4*Lib.runeCountL s:=by
 have key:∀(f p:Nat),s.length-p≤f→s.length-p≤4*Lib.runeCountFrom ⟨s.toArray⟩ f p:=by
  intro f
  induction f with
  |zero=>intro p h;omega
  |succ f b=>
   intro p h
   by_cases hp:p<s.length
   ·have c:p<(⟨s.toArray⟩:ByteArray).size:=by rw[Km];exact hp
    obtain⟨d1,d2,_⟩:=rR hp
    have a:=Lib.decodeL_drop ⟨s.toArray⟩ p
    simp only at a
    have hw:(Lib.decodeL (s.drop p)).2≤4:=by
     rw[vZ]
     rcases vY (n:=s.length-p) (q8 s p) (q8 s (p+1)) (q8 s (p+2)) (q8 s (p+3))with⟨_,e⟩|⟨_,_,_,_,e⟩|⟨_,r,_,e⟩|⟨_,r,_,e⟩|⟨_,r,_,e⟩<;>rw[e]<;>simp
    have:=b (p+(Lib.decodeL (s.drop p)).2) zE
    rw[Lib.runeCountFrom,aB c,←a];omega
   ·omega
 have:=key s.length 0 zE
 have e:Lib.runeCountFrom ⟨s.toArray⟩ s.length 0=Lib.runeCountL s:=by unfold Lib.runeCountL Lib.runeCount;congr 1
 rw[e]at this;omega
theorem H7 (s:cM):(((decide ((1:Int)≤(Lib.runeCountL s:Int))&&decide ((Lib.runeCountL s:Int)≤30))&&Lib.validD s)&& !(s.any jC))=isWord s:=by
 rw[MJ]
 have h1:decide ((1:Int)≤(Lib.runeCountL s:Int))=decide (1≤Lib.runeCountL s):=decide_eq_decide.2 zE
 have a:decide ((Lib.runeCountL s:Int)≤30)=decide (Lib.runeCountL s≤30):=decide_eq_decide.2 zE
 rw[h1,a]
theorem Bm (s:cM)(d:s.length<9223372036854775807):kL prog 53 #[sv s] [u8] (.bool (isWord s)):=by
 refine kL.body (args:=[sv s]) (ds:=[u8]) 21 func53 rfl ntmps53 rfl (λc b=>?_)
 change St _ _ (Mm c [aD u8]) _
 refine g8 ?_;refine St.ee (Ev.nj b (Ux s d) akB (.aq rfl)) (g8 ?_);refine St.gt _ rfl rfl (λa=>Ev.move (.mk rfl)) rfl (St.gt _ rfl rfl (λa=>Ev.leq (aa.gv rfl a) (.mk rfl)) rfl (g2 ?_));refine St.gt _ rfl rfl (λa=>Ev.move (.mk rfl)) rfl (St.gt _ rfl rfl (λa=>Ev.nj b (Ja s d) akC (.cons (aa.gv rfl a) .nil)) rfl (g2 ?_));refine St.gt _ rfl rfl (λa=>Ev.move (.mk rfl)) rfl (St.gt _ rfl rfl (λa=>Ev.nj b (NY s (by have e:=ZG s;first|omega|(simp only[Bool.and_eq_true,decide_eq_true_eq]at a;omega)|(simp at a;omega)|(trace_state;omega))) aa6 (.cons (aa.gv rfl a) (.aq rfl))) rfl ?_);refine St.gt _ rfl rfl (λa=>Ev.not (aa.gv rfl a)) rfl (g5 ?_);refine St.rV [_] [] ?_;exact be (by first|exact H7 s|(simp[H7]))
theorem UX (T:List er)(Fs:List pM)(x:fq):xw T Fs (jg x)=if isWord x.word=false then 10 else if x.weight<0∨1000000<x.weight then 3 else if(dP T Fs (bE x.graph)).1≠0 then(dP T Fs (bE x.graph)).1 else(rC (cx x.fB)).1:=rfl
theorem Qi (T:List er)(Fs:List pM)(x:cK):qC T Fs (iE x)=if x.kids<1∨3<x.kids∨x.weight<0∨1000000<x.weight then 3 else if(dP T Fs (bE x.graph)).1≠0 then(dP T Fs (bE x.graph)).1 else if o6 (bE x.graph) x.kids=false then 5 else(rC (cx x.fB)).1:=rfl
theorem Ee {T:List er}{Fs:List pM}{G:eB}(h:(dP T Fs G).1=0):(fc T.length Fs.length G).1=0:=by
 rcases Decidable.em ((fc T.length Fs.length G).1=0)with h1|h1
 ·exact h1
 ·rw[Cv h1]at h;exact h
theorem Bb {T:List er}{Fs:List pM}(c:Fs.length≤40){g:dC}(h:(dP T Fs (bE g)).1=0):0<g.nodes.length∧∀n∈g.nodes,Asc n.bA∧n.bA.length≤1000000:=by
 have h1:=Ee h
 obtain⟨b,_,d⟩:=zo h1;refine⟨by rw[ct]at b;exact b,λn a=>⟨CM h1 n a,?_⟩⟩
 have e:=(d (mQ n) (dh a)).2
 have:=Su (CM h1 n a) (nf:=Fs.length) (λx hx=>by
  have:=e (fV x) (dh hx)
  exact⟨this.1,this.2.1⟩)
 omega
theorem HU (tv xv e g:ah)(a:List sD)(b:List jh)(x:fq)(o:j5 (a.map dG))(p:∀f∈b,0≤f.CR∧f.CR<a.length∧0≤f.value∧f.value<a.length)(hw:cy.wf x):kL prog 68 #[.agg #[tv.1,xv.1],kX e g,agU x] [sl lW tv.1 a,sl fw xv.1 b,sl bP e.1 (da (a.map dG)),sl bP g.1 (dZ (a.map dG)),dz x,u8] (iv (xw (a.map dG) (b.map iJ) (jg x))):=by
 refine kL.body (args:=[.agg #[tv.1,xv.1],kX e g,agU x]) (ds:=[sl lW tv.1 a,sl fw xv.1 b,sl bP e.1 (da (a.map dG)),sl bP g.1 (dZ (a.map dG)),dz x,u8]) 34 func68 rfl ntmps68 rfl (λc q=>St.cast (H':=[aD (sl lW tv.1 a),aD (sl fw xv.1 b),aD (sl bP e.1 (da (a.map dG))),aD (sl bP g.1 (dZ (a.map dG))),aD (dz x),aD (u8)]) rfl (go ?_))
 refine St.jU (dz x) (λ_:Unit=>Pd x) (λρ h=>⟨(),h⟩) λ_=> ?_
 refine St.cast (H':=[aD (aI x.graph),aD (cu x.fB),aD (sl lW tv.1 a),aD (sl fw xv.1 b),aD (sl bP e.1 (da (a.map dG))),aD (sl bP g.1 (dZ (a.map dG))),aD (dz x),aD (u8)]) rfl ?_
 have d:=UX (a.map dG) (b.map iJ) x
 obtain⟨n,s,l⟩:=hw
 replace n:x.word.length≤140737488351232:=n
 refine go ?_;refine St.cC (.mk rfl) rfl (λt=>St.cC (.mk rfl) rfl (λu=>St.cC (.mk rfl) rfl (λv=>g8 ?_)));refine St.ee (Ev.nj q (Bm x.word zE) acH (.aq rfl)) (g3 ?_);refine St.cond _ rfl (λi=> ?_) (λi=> ?_)
 ·skip
  rw[aB (by simpa using i)]at d;refine g7 ?_;refine St.rV [_] [] ?_;exact ie d.symm
 ·skip
  rw[aA (by simpa using i)]at d;refine g9 ?_;refine St.gf _ rfl rfl (λk=>Ev.cU (.mk rfl) Dl) rfl (St.gf _ rfl rfl (λk=>Ev.jN (aa.gv rfl k) fA trivial (by rfl)) rfl ?_);refine St.gf _ rfl rfl (λk=>Ev.gtr (aa.gv rfl k) (.mk rfl)) rfl (g3 ?_);refine St.cq (λr=> ?_) (λr=> ?_)
  ·rw[aB zE]at d
   refine g7 ?_;refine St.rV [_] [] ?_;exact ie d.symm
  ·rw[aA zE]at d
   refine g8 ?_;refine St.ee (Ev.jO 1 (.mk rfl) nI trivial jx rfl rfl) (St.slot 23 (bF x.graph) rfl rfl (St.ee (Ev.call (qY tv xv e g a b x.graph o p) Xu (.eI rfl rfl rfl)) (St.al (λw=>g10 ?_))));refine St.cond _ rfl (λj=> ?_) (λj=> ?_)
   ·skip
    have m:(dP (a.map dG) (b.map iJ) (bE x.graph)).1≠0:=by simpa using j
    rw[aB m]at d;refine g9 ?_;refine St.rV [_] [] ?_;exact ie d.symm
   ·skip
    have m:¬(dP (a.map dG) (b.map iJ) (bE x.graph)).1≠0:=by simpa using j
    rw[aA m]at d;refine g5 ?_;refine St.ee (Ev.jO 6 (.mk rfl) sL trivial jy rfl rfl) (St.slot 31 (cR x.fB) rfl rfl (St.ee (Ev.call (ux x.fB l) Vi (.aq rfl)) (St.ee (Ev.Dj (.mk rfl) H0 rfl (by first|rw[fA]|(dsimp only;rw[fA])|kernel_rfl) rfl) ?_)));refine g4 ?_;refine St.rV [_] [] ?_;exact ie d.symm
theorem LZ (tv xv g i:ah)(a:List sD)(d:List jh)(x:cK)(p:j5 (a.map dG))(q:∀f∈d,0≤f.CR∧f.CR<a.length∧0≤f.value∧f.value<a.length)(r:d.length≤40)(hw:bZ.wf x):dK prog 67 #[.agg #[tv.1,xv.1],kX g i,sZ x] [sl lW tv.1 a,sl fw xv.1 d,sl bP g.1 (da (a.map dG)),sl bP i.1 (dZ (a.map dG)),bb x] (iv (qC (a.map dG) (d.map iJ) (iE x))):=by
 unfold dK;refine dx.body (args:=[.agg #[tv.1,xv.1],kX g i,sZ x]) 46 func67 rfl ntmps67 rfl (λc=>St.cast (H':=[aD (sl lW tv.1 a),aD (sl fw xv.1 d),aD (sl bP g.1 (da (a.map dG))),aD (sl bP i.1 (dZ (a.map dG))),aD (bb x)]) rfl (go ?_))
 refine St.jU (bb x) (λ_:Unit=>GY x) (λρ h=>⟨(),h⟩) λ_=> ?_
 refine St.cast (H':=[aD (aI x.graph),aD (cu x.fB),aD (sl lW tv.1 a),aD (sl fw xv.1 d),aD (sl bP g.1 (da (a.map dG))),aD (sl bP i.1 (dZ (a.map dG))),aD (bb x)]) rfl ?_
 have e:=Qi (a.map dG) (d.map iJ) x
 obtain⟨v,s,t,k⟩:=hw;refine go ?_;refine St.cC (.mk rfl) rfl (λw=>St.cC (.mk rfl) rfl (λy=>St.cC (.mk rfl) rfl (λz=>g10 ?_)));refine St.gf _ rfl rfl (λb=>Ev.cU (.mk rfl) Dw) rfl (St.gf _ rfl rfl (λb=>Ev.jN (aa.gv rfl b) fA trivial (by rfl)) rfl ?_);refine St.gf _ rfl rfl (λb=>Ev.gtr (aa.gv rfl b) (.mk rfl)) rfl (g2 ?_);refine St.gf _ rfl rfl (λb=>Ev.cU (.mk rfl) Dx) rfl (St.gf _ rfl rfl (λb=>Ev.jN (aa.gv rfl b) fA trivial (by rfl)) rfl ?_);refine St.gf _ rfl rfl (λb=>Ev.lss (aa.gv rfl b) (.mk rfl)) rfl (g2 ?_);refine St.gf _ rfl rfl (λb=>Ev.cU (.mk rfl) Dx) rfl (St.gf _ rfl rfl (λb=>Ev.jN (aa.gv rfl b) fA trivial (by rfl)) rfl ?_);refine St.gf _ rfl rfl (λb=>Ev.gtr (aa.gv rfl b) (.mk rfl)) rfl (g3 ?_);refine St.cq (λu=> ?_) (λu=> ?_)
 ·rw[aB zE]at e
  refine g7 ?_;refine St.rV [_] [] ?_;exact ie e.symm
 ·rw[aA zE]at e
  refine g8 ?_;refine St.ee (Ev.jO 1 (.mk rfl) nI trivial jx rfl rfl) (St.slot 29 (bF x.graph) rfl rfl (St.ee (Ev.call (qY tv xv g i a d x.graph p q) Xu (.eI rfl rfl rfl)) (St.al (λA=>g10 ?_))));refine St.cond _ rfl (λl=> ?_) (λl=> ?_)
  ·skip
   have j:(dP (a.map dG) (d.map iJ) (bE x.graph)).1≠0:=by simpa using l
   rw[aB j]at e;refine g9 ?_;refine St.rV [_] [] ?_;exact ie e.symm
  ·skip
   have j:¬(dP (a.map dG) (d.map iJ) (bE x.graph)).1≠0:=by simpa using l
   rw[aA j]at e;obtain⟨m,n⟩:=Bb (by rw[aO];exact r) (eY.1 j);refine g6 ?_;refine St.ee (Ev.jO 1 (.mk rfl) nI trivial jx rfl rfl) (St.slot 37 (bF x.graph) rfl rfl (g2 ?_));refine St.ee (Ev.call (Ey x.graph x.kids m n) abA (.aX rfl rfl)) (g3 ?_);refine St.cond _ rfl (λo=> ?_) (λo=> ?_)
   ·skip
    rw[aB (by simpa using o)]at e;refine g7 ?_;refine St.rV [_] [] ?_;exact ie e.symm
   ·skip
    rw[aA (by simpa using o)]at e;refine g5 ?_;refine St.ee (Ev.jO 6 (.mk rfl) sL trivial jy rfl rfl) (St.slot 43 (cR x.fB) rfl rfl (St.ee (Ev.call (ux x.fB k) Vi (.aq rfl)) (St.ee (Ev.Dj (.mk rfl) H0 rfl (by first|rw[fA]|(dsimp only;rw[fA])|kernel_rfl) rfl) ?_)));refine g4 ?_;refine St.rV [_] [] ?_;exact ie e.symm
theorem GX {T:List er}{Fs:List pM}{l:List kM}{k:Nat}{t:kM}(ht:l[k]?=some t)(known:List cM):jw T Fs known k (l.drop k)=if isName t.name=false then(10,(k:Int))else if t.name∈known then(7,(k:Int))else if qC T Fs t≠0 then(qC T Fs t,(k:Int))else jw T Fs (known++ [t.name]) (k+1) (l.drop (k+1)):=by rw[bW ht,jw]
theorem JD {T:List er}{Fs:List pM}{l:List kM}{k:Nat}(h:l.length≤k)(known:List cM):jw T Fs known k (l.drop k)=(0,0):=by rw[iy h,jw]
theorem GB {T:List er}{Fs:List pM}{l:List Bg}{k:Nat}{t:Bg}(ht:l[k]?=some t):ju T Fs k (l.drop k)=if xw T Fs t≠0 then(xw T Fs t,(k:Int))else ju T Fs (k+1) (l.drop (k+1)):=by rw[bW ht,ju]
theorem Im {T:List er}{Fs:List pM}{l:List Bg}{k:Nat}(h:l.length≤k):ju T Fs k (l.drop k)=(0,0):=by rw[iy h,ju]
theorem U1 (g:eU):km (bK g)=if(jk (g.types.map dG) (g.cJ.map iJ)).1≠0 then jk (g.types.map dG) (g.cJ.map iJ)else if(g.cJ.map iJ).length≤3 then(9,-1)else if 40<(g.rules.map iE).length∨100<(g.aG.map jg).length then(2,-1)
 else if(jw (g.types.map dG) (g.cJ.map iJ) [] 0 (g.rules.map iE)).1≠0 then jw (g.types.map dG) (g.cJ.map iJ) [] 0 (g.rules.map iE)else if(ju (g.types.map dG) (g.cJ.map iJ) 0 (g.aG.map jg)).1≠0 then ju (g.types.map dG) (g.cJ.map iJ) 0 (g.aG.map jg)
 else if(dP (g.types.map dG) (g.cJ.map iJ) (bE g.start)).1≠0 then((dP (g.types.map dG) (g.cJ.map iJ) (bE g.start)).1,-1)else(0,0):=rfl
theorem yL {r x E:Int×Int}{c i:Int}(h:x=if r.1≠0 then r else E)(e:r=(c,i))(a:c≠0):x=(c,i):=by rw[h,aB (by rw[e];exact a),e]
theorem KT {r x E:Int×Int}(h:x=if r.1≠0 then r else E)(e:r=(0,0)):x=E:=by rw[h,aA (by rw[e];simp)]
theorem qo (g:eU):kL prog 20 #[eF g] [cj g,tz,u8] (fv (km (bK g))):=by
 refine kL.body (args:=[eF g]) (ds:=[cj g,tz,u8]) 112 func20 rfl ntmps20 rfl (λc Q=>St.cast (H':=[aD (cj g),aD (tz),aD (u8)]) rfl (go ?_))
 refine St.jU (cj g) (λ_:Unit=>qO g) (λρ h=>⟨(),h⟩) λ_=> ?_
 refine St.cast (H':=[aD (sl lW g.tv.1 g.types),aD (aL s6 g.types),aD (sl fw g.fv.1 g.cJ),aD (sl bZ g.rv.1 g.rules),aD (aL bb g.rules),aD (sl cy g.xv.1 g.aG),aD (aL dz g.aG),aD (aI g.start),aD (cj g),aD (tz),aD (u8)]) rfl ?_
 have a:=U1 g
 have R:(g.types.map dG).length=g.types.length:=aO ..
 have hFl:(g.cJ.map iJ).length=g.cJ.length:=aO ..
 have S:(g.rules.map iE).length=g.rules.length:=aO ..
 have hXl:(g.aG.map jg).length=g.aG.length:=aO ..
 refine St.wf g.rv.1 (λu hrl=>St.wf g.xv.1 (λU UJ=>go ?_));refine St.cC (.mk rfl) rfl (λK=>St.al (λL=>g5 ?_));refine St.ee (Ev.jO 2 (.mk rfl) underlying25 trivial RD rfl rfl) (St.slot 17 (.agg #[g.tv.1,g.fv.1]) rfl rfl (St.al (λM=>g7 ?_)));refine St.ee (Ev.call (E3 g.tv g.fv g.types g.cJ) ajZ (.aq rfl)) (St.al (λb4=>g10 ?_));refine St.cond _ rfl (λA=> ?_) (λA=> ?_)
 ·skip
  have v:(jk (g.types.map dG) (g.cJ.map iJ)).1≠0:=by simpa using A
  rw[aB v]at a;refine g8 ?_;refine St.rV [_] [] ?_;exact congrArg fv a.symm
 ·skip
  have v:¬(jk (g.types.map dG) (g.cJ.map iJ)).1≠0:=by simpa using A
  rw[aA v]at a;obtain⟨_,y,V,B⟩:=UA (eY.1 v)
  have C:∀f∈g.cJ,0≤f.CR∧f.CR<g.types.length∧0≤f.value∧f.value<g.types.length:=λf W=>by have:=B (iJ f) (dh W);rw[R]at this;exact this
  refine g11 ?_;refine St.cq (λD=> ?_) (λD=> ?_)
  ·rw[aB zE]at a
   refine g2 ?_;refine St.ee (Ev.call (ek 9 (-1)) Hw (.aX rfl rfl)) (g5 ?_);refine St.rV [_] [] ?_;exact congrArg fv a.symm
  ·rw[aA zE]at a
   refine g10 ?_;refine St.gf _ rfl rfl (λr=>Ev.cU (.mk rfl) zJ) rfl (St.gf _ rfl rfl (λr=>Ev.jN (aa.gv rfl r) wV trivial (by rfl)) rfl ?_);refine St.gf _ rfl rfl (λr=>Ev.gN (aa.gv rfl r) wV) rfl (St.gf _ rfl rfl (λr=>Ev.gtr (aa.gv rfl r) (.mk rfl)) rfl (g3 ?_));refine St.cq (λX=> ?_) (λX=> ?_)
   ·rw[aB zE]at a
    refine g2 ?_;refine St.ee (Ev.call (ek 2 (-1)) Hw (.aX rfl rfl)) (g5 ?_);refine St.rV [_] [] ?_;exact congrArg fv a.symm
   ·rw[aA zE]at a
    refine g6 ?_;refine St.ak (qX g.tv.1 g.types y) Xt (.aq rfl) rfl ?_;rintro v42 _ ⟨e,i,rfl,rfl⟩;refine St.dD (St.al (λN=>g5 ?_));refine St.makeMap mkStr rfl (λE=>g13 ?_);refine St.td (ι:=Nat) (κ:=List (cM×Value)) (λk m T=>(47,iv k)::T) (λk m=>[aW E (eW mkStr m),tI K [g.tv.1,g.fv.1,g.rv.1,g.xv.1,g.start.nv.1] 32,tI L [iv 0,iv 0] 39,tI M [g.tv.1,g.fv.1] 25,tI N [e.1,i.1] 154,aD (sl lW g.tv.1 g.types),aD (aL s6 g.types),aD (sl fw g.fv.1 g.cJ),aD (sl bZ g.rv.1 g.rules),aD (aL bb g.rules),aD (sl cy g.xv.1 g.aG),aD (aL dz g.aG),aD (aI g.start),aD (sl bP e.1 (da (g.types.map dG))),aD (sl bP i.1 (dZ (g.types.map dG))),aD (u8)]) (λk m=>k≤g.rules.length∧jw (g.types.map dG) (g.cJ.map iJ) [] 0 (g.rules.map iE)=jw (g.types.map dG) (g.cJ.map iJ) ((g.rules.take k).map cK.name) k ((g.rules.map iE).drop k)∧LS m ((g.rules.take k).map cK.name)) (λk m=>g.rules.length-k) 0 [] (aC.k7 1 2 3 5 6 45 46) ⟨aQ _,rfl,LS.nil⟩ ?_;rintro k m ⟨hk,s,O⟩;refine g6 ?_;refine St.cq (λF=> ?_) (λF=> ?_)
    ·obtain⟨t,ht⟩:=aF (show k<g.rules.length by omega)
     have G:=aY ht
     have b:=GX (T:=(g.types.map dG)) (Fs:=(g.cJ.map iJ)) (l:=g.rules.map iE) (k:=k) (t:=iE t) (by rw[bJ,ht];rfl) ((g.rules.take k).map cK.name)
     have Y:t.name.length≤9223372036854775807:=by have:=(u t G).1;simp only[nY]at this;omega
     refine St.bh bb g.rules (x:=t) G (g8 ?_);refine St.ee (Ev.iD (.mk rfl) ht BZ trivial oV gH.eq) (St.al (λb8=>g9 ?_));refine St.ee (Ev.call (rP t.name Y) T7 (.aq rfl)) (g3 ?_);refine St.cq (λj=> ?_) (λj=> ?_)
     ·rw[aB (show isName (iE t).name=false from(by simpa using j:isName t.name=false))]at b
      refine g3 ?_;refine St.ee (Ev.call (ek 10 k) Hw (.aX rfl rfl)) (g10 ?_);refine St.rV [_] [] ?_;exact congrArg fv (yL a (s.trans b) (by decide)).symm
     ·rw[aA (show ¬isName (iE t).name=false from(by simpa using j:¬isName t.name=false))]at b
      refine g8 ?_;refine St.ee (Ev.uV mkStr (k:=t.name) (.mk rfl) (.mk rfl) qE (by exact wX) ec) ?_;refine g3 ?_;refine St.slot 64 (.bool (decide (t.name∈(g.rules.take k).map cK.name))) rfl (congrArg Value.bool (O t.name)) (g9 ?_);refine St.cq (λn=> ?_) (λn=> ?_)
      ·rw[aB (show(iE t).name∈(g.rules.take k).map cK.name from n)]at b
       refine g3 ?_;refine St.ee (Ev.call (ek 7 k) Hw (.aX rfl rfl)) (g10 ?_);refine St.rV [_] [] ?_;exact congrArg fv (yL a (s.trans b) (by decide)).symm
      ·rw[aA (show ¬(iE t).name∈(g.rules.take k).map cK.name from n)]at b
       refine g8 ?_;refine St.mapUpdate mkStr (k:=t.name) (.mk rfl) (.mk rfl) (.mk rfl) qE (by exact wX) ?_;refine g7 ?_;refine St.ee (Ev.call (LZ g.tv g.fv e i g.types g.cJ t y C zE (u t G)) aj0 (.eI rfl rfl rfl)) (g9 ?_);refine St.cond _ rfl (λH=> ?_) (λH=> ?_)
       ·skip
        have d:qC (g.types.map dG) (g.cJ.map iJ) (iE t)≠0:=by simpa using H
        rw[aB d]at b;refine g4 ?_;refine St.ee (Ev.call (ek (qC (g.types.map dG) (g.cJ.map iJ) (iE t)) k) Hw (.aX rfl rfl)) (g9 ?_);refine St.rV [_] [] ?_;exact congrArg fv (yL a (s.trans b) d).symm
       ·skip
        have d:¬qC (g.types.map dG) (g.cJ.map iJ) (iE t)≠0:=by simpa using H
        rw[aA d]at b;refine g8 ?_;refine St.vL (k+1) (lN m t.name (iv k)) ⟨by omega,by rw[s,b,gm cK.name ht];rfl,by rw[gm cK.name ht];exact O.snoc _ _⟩
    ·rw[JD zE]at s
     replace a:=KT a s
     refine g15 ?_;refine St.lH (ι:=Nat) (λq T=>(85,iv q)::T) (λq=>[tI K [g.tv.1,g.fv.1,g.rv.1,g.xv.1,g.start.nv.1] 32,tI L [iv 0,iv 0] 39,tI M [g.tv.1,g.fv.1] 25,tI N [e.1,i.1] 154,aD (sl lW g.tv.1 g.types),aD (aL s6 g.types),aD (sl fw g.fv.1 g.cJ),aD (sl bZ g.rv.1 g.rules),aD (aL bb g.rules),aD (sl cy g.xv.1 g.aG),aD (aL dz g.aG),aD (aI g.start),aD (sl bP e.1 (da (g.types.map dG))),aD (sl bP i.1 (dZ (g.types.map dG))),aD (u8)]) (λq=>q≤g.aG.length∧ju (g.types.map dG) (g.cJ.map iJ) 0 (g.aG.map jg)=ju (g.types.map dG) (g.cJ.map iJ) q ((g.aG.map jg).drop q)) (λq=>g.aG.length-q) 0 (aC.k6 1 2 3 5 83 84) ⟨aQ _,rfl⟩ ?_;rintro q ⟨hq,z⟩;refine g6 ?_;refine St.cq (λI=> ?_) (λI=> ?_)
     ·obtain⟨x,hx⟩:=aF (show q<g.aG.length by omega)
      have P:=aY hx
      have b:=GB (T:=(g.types.map dG)) (Fs:=(g.cJ.map iJ)) (l:=g.aG.map jg) (k:=q) (t:=jg x) (by rw[bJ,hx];rfl)
      refine St.bh dz g.aG (x:=x) P (g8 ?_);refine St.ee (Ev.iD (.mk rfl) hx xI trivial mH gH.eq) (St.al (λVc=>g9 ?_));refine St.ee (Ev.nj Q (HU g.tv g.fv e i g.types g.cJ x y C (U x P)) aj1 (.eI rfl rfl rfl)) (g9 ?_);refine St.cond _ rfl (λJ=> ?_) (λJ=> ?_)
      ·skip
       have d:xw (g.types.map dG) (g.cJ.map iJ) (jg x)≠0:=by simpa using J
       rw[aB d]at b;refine g4 ?_;refine St.ee (Ev.call (ek (xw (g.types.map dG) (g.cJ.map iJ) (jg x)) q) Hw (.aX rfl rfl)) (g9 ?_);refine St.rV [_] [] ?_;exact congrArg fv (yL a (z.trans b) d).symm
      ·skip
       have d:¬xw (g.types.map dG) (g.cJ.map iJ) (jg x)≠0:=by simpa using J
       rw[aA d]at b;refine g8 ?_;refine St.aH (q+1) ⟨by omega,z.trans b⟩
     ·rw[Im zE]at z
      replace a:=KT a z
      refine g11 ?_;refine St.ee (Ev.jO 1 (.mk rfl) nI trivial jx rfl rfl) (St.slot 103 (bF g.start) rfl rfl (St.ee (Ev.call (qY g.tv g.fv e i g.types g.cJ g.start y C) Xu (.eI rfl rfl rfl)) (St.al (λZ=>g10 ?_))));refine St.cond _ rfl (λo=> ?_) (λo=> ?_)
      ·skip
       have p:(dP (g.types.map dG) (g.cJ.map iJ) (bE g.start)).1≠0:=by simpa using o
       rw[aB p]at a;refine g4 ?_;refine St.ee (Ev.call (ek (dP (g.types.map dG) (g.cJ.map iJ) (bE g.start)).1 (-1)) Hw (.aX rfl rfl)) (g5 ?_);refine St.rV [_] [] ?_;exact congrArg fv a.symm
      ·skip
       have p:¬(dP (g.types.map dG) (g.cJ.map iJ) (bE g.start)).1≠0:=by simpa using o
       rw[aA p]at a;refine g4 ?_;refine St.ee (Ev.build (au.nil) (λw=>fP w)) (g4 ?_);refine St.rV [_] [] ?_;exact congrArg fv a.symm
mutual
theorem JW {rk:List Int}{nl:Nat}:∀(t:dY) (d ch:Nat) (s:HK),(oX rk nl t d ch s).2.1=0→s.leaves≤s.nodes→(oX rk nl t d ch s).1.nodes≤200∧(oX rk nl t d ch s).1.leaves≤(oX rk nl t d ch s).1.nodes
 | .mk r x l,d,ch,s,h,f=>by
  rw[oX]at h⊢
  by_cases h1:200<s.nodes+1∨48<d
  ·rw[aB h1]at h;exact absurd h (by simp)
  rw[aA h1]at h⊢
  by_cases a:r< -1∨rk.length≤r∨(r= -1∧(x<0∨nl≤x))
  ·rw[aB a]at h;exact absurd h (by simp)
  rw[aA a]at h⊢
  by_cases b:0≤r∧x≠0
  ·rw[aB b]at h;exact absurd h (by simp)
  rw[aA b]at h⊢
  by_cases c:(l.length:Int)≠(if 0≤r then rk.getD r.toNat 0 else 0)
  ·rw[aB c]at h;exact absurd h (by simp)
  rw[aA c]at h⊢
  by_cases e:3<(if l.length=1 then ch+1 else 0)
  ·rw[aB e]at h;exact absurd h (by simp)
  rw[aA e]at h⊢;exact L5 l _ _ _ h (show s.nodes+1≤200 by omega) (by dsimp only;split<;>omega)
theorem L5 {rk:List Int}{nl:Nat}:∀(l:List dY) (d ch:Nat) (s:HK),(lq rk nl l d ch s).2.1=0→s.nodes≤200→s.leaves≤s.nodes→(lq rk nl l d ch s).1.nodes≤200∧(lq rk nl l d ch s).1.leaves≤(lq rk nl l d ch s).1.nodes
 | [],d,ch,s,_,b,a=>by rw[lq];exact⟨b,a⟩
 |x::l,d,ch,s,h,b,a=>by
  rw[lq]at h⊢
  by_cases h1:(oX rk nl x d ch s).2.1≠0
  ·rw[aB h1]at h;exact absurd h h1
  rw[aA h1]at h⊢;obtain⟨c,a2⟩:=JW x d ch s (eY.1 h1) a;exact L5 l d ch _ h c a2
end
theorem ah3 (rk:List Int)(nl:Nat)(x:bM)(d ch:Nat)(s:HK):oX rk nl (aN x) d ch s=
 if 200<s.nodes+1∨48<d then(⟨s.nodes+1,s.leaves⟩,1,(s.nodes:Int))
 else if x.rule< -1∨rk.length≤x.rule∨(x.rule= -1∧(x.lex<0∨nl≤x.lex))then(⟨s.nodes+1,s.leaves⟩,3,(s.nodes:Int))
 else if 0≤x.rule∧x.lex≠0 then(⟨s.nodes+1,s.leaves⟩,5,(s.nodes:Int))
 else if(x.kids.length:Int)≠(if 0≤x.rule then rk.getD x.rule.toNat 0 else 0)then(⟨s.nodes+1,if 0≤x.rule then s.leaves else s.leaves+1⟩,9,(s.nodes:Int))
 else if 3<(if x.kids.length=1 then ch+1 else 0)then(⟨s.nodes+1,if 0≤x.rule then s.leaves else s.leaves+1⟩,14,(s.nodes:Int))
 else lq rk nl (x.kids.map aN) (d+1) (if x.kids.length=1 then ch+1 else 0) ⟨s.nodes+1,if 0≤x.rule then s.leaves else s.leaves+1⟩:=by
 cases x with
 |mk r y v l=>rw[aN,tY,oX,aO];rfl
theorem My {rk:List Int}{nl:Nat}{l:List bM}{k:Nat}{y:bM}(h:l[k]?=some y)(d ch:Nat)(s:HK):lq rk nl ((l.map aN).drop k) d ch s=if(oX rk nl (aN y) d ch s).2.1≠0 then oX rk nl (aN y) d ch s else lq rk nl ((l.map aN).drop (k+1)) d ch (oX rk nl (aN y) d ch s).1:=by
 rw[bW (show(l.map aN)[k]?=some (aN y) by rw[bJ,h];rfl),lq]
theorem RS {rk:List Int}{nl:Nat}{l:List bM}{k:Nat}(h:l.length≤k)(d ch:Nat)(s:HK):lq rk nl ((l.map aN).drop k) d ch s=(s,0,0):=by
 rw[iy (by rw[aO];exact h),lq]
theorem VK (g:eU)(t:bM):lR (bK g) (aN t)=if(oX (g.rules.map cK.kids) g.aG.length (aN t) 1 0 ⟨0,0⟩).2.1≠0 then(oX (g.rules.map cK.kids) g.aG.length (aN t) 1 0 ⟨0,0⟩).2
 else if 12<(oX (g.rules.map cK.kids) g.aG.length (aN t) 1 0 ⟨0,0⟩).1.leaves then(2,-2)else(0,0):=by
 have a:(bK g).rules.map kM.kids=g.rules.map cK.kids:=by show(g.rules.map iE).map kM.kids=_;rw[jJ];rfl
 have e2:(bK g).aG.length=g.aG.length:=aO ..
 unfold lR;rw[a,e2]
theorem BV (e bg b bw:Nat)(g:eU):∀(x:bM) (d ch:Nat) (s:HK),bR.wf x→d≤100→ch≤100→s.nodes≤200→s.leaves≤s.nodes→dx prog 70 ([dA x,iv (d:Nat),iv (ch:Nat)]++ [tW e,tW bg,tW b,tW bw]).toArray [aD (ae x),tI e [iv ((s.nodes:Nat):Int)] 3,tI bg [g.tv.1,g.fv.1,g.rv.1,g.xv.1,g.start.nv.1] 32,tI b [iv ((s.leaves:Nat):Int)] 3,tI bw [(.func (.func 70) #[] [tW e,tW bg,tW b,tW bw].toArray)] 161,aD (sl bZ g.rv.1 g.rules),aD (sl cy g.xv.1 g.aG)] (λv H'=>v=fv (oX (g.rules.map cK.kids) g.aG.length (aN x) d ch s).2∧H'=[tI e [iv (((oX (g.rules.map cK.kids) g.aG.length (aN x) d ch s).1.nodes:Nat):Int)] 3,tI bg [g.tv.1,g.fv.1,g.rv.1,g.xv.1,g.start.nv.1] 32,tI b [iv (((oX (g.rules.map cK.kids) g.aG.length (aN x) d ch s).1.leaves:Nat):Int)] 3,tI bw [(.func (.func 70) #[] [tW e,tW bg,tW b,tW bw].toArray)] 161]):=by
 intro x
 induction x using bM.ind
 rename_i x R
 intro d ch s hw hd hch S U;refine dx.body (args:=[dA x,iv (d:Nat),iv (ch:Nat)]++ [tW e,tW bg,tW b,tW bw]) 118 func70 rfl ntmps70 rfl (λc=>go ?_)
 have f:=ah3 (g.rules.map cK.kids) g.aG.length x d ch s
 have SM:(g.rules.map cK.kids).length=g.rules.length:=aO ..
 refine St.kS x (St.wf x.kv.1 (λV UJ=>?_));obtain⟨h,i⟩:=s
 dsimp only at f S U⊢
 refine St.wf g.rv.1 (λ_ W=>St.wf g.xv.1 (λ_ X=>?_))
 generalize N:(if 0≤x.rule then(g.rules.map cK.kids).getD x.rule.toNat 0 else 0)=o at f
 generalize n:(if 0≤x.rule then i else i+1)=lv at f
 generalize O:(if x.kids.length=1 then ch+1 else 0)=c2 at f
 refine go ?_;refine St.cC (.mk rfl) rfl (λP=>St.al (λt=>g12 ?_));refine St.cP (.mk rfl) (.mk rfl) dQ rfl (by rfl) ?_;refine St.qe e (L':=[iv ((h+1:Nat):Int)]) rfl (g7 ?_);refine St.join (ι:=Unit) (λu T=>(12,iv o)::T) (λu=>[tI P (oA x) 51,tI t [iv 0,iv 0] 39,tI e [iv ((h+1:Nat):Int)] 3,tI bg [g.tv.1,g.fv.1,g.rv.1,g.xv.1,g.start.nv.1] 32,tI b [iv ((lv:Nat):Int)] 3,tI bw [(.func (.func 70) #[] [tW e,tW bg,tW b,tW bw].toArray)] 161,aD (sl bR x.kv.1 x.kids),aD (aL ae x.kids),aD (sl bZ g.rv.1 g.rules),aD (sl cy g.xv.1 g.aG)]) (λu=>(oX (g.rules.map cK.kids) g.aG.length (aN x) d ch ⟨h,i⟩=if(x.kids.length:Int)≠o then(⟨h+1,lv⟩,9,(h:Int))else if 3<c2 then(⟨h+1,lv⟩,14,(h:Int))else lq (g.rules.map cK.kids) g.aG.length (x.kids.map aN) (d+1) c2 ⟨h+1,lv⟩)∧h+1≤200∧d≤48) (aC.k6 1 2 6 7 10 11) ?_ ?_
 ·refine g6 ?_
  refine St.gf _ rfl rfl (λa=>Ev.move (.mk rfl)) rfl (St.gf _ rfl rfl (λa=>Ev.gtr (aa.gv rfl a) (.mk rfl)) rfl (g4 ?_));refine St.cond _ rfl (λA=> ?_) (λA=> ?_)
  focus
   skip
   try simp only[cn]at A
   rw[aB zE]at f;refine g3 ?_;refine St.ee (Ev.call (fm 1 h) Lp (.aX rfl rfl)) (g6 ?_);refine St.rV [_] [tI e [iv ((h+1:Nat):Int)] 3,tI bg [g.tv.1,g.fv.1,g.rv.1,g.xv.1,g.start.nv.1] 32,tI b [iv ((i:Nat):Int)] 3,tI bw [(.func (.func 70) #[] [tW e,tW bg,tW b,tW bw].toArray)] 161] ?_;rw[f];exact⟨rfl,rfl⟩
  focus
   skip
   try simp only[cn]at A
   rw[aA zE]at f;refine g6 ?_;refine St.gf _ rfl rfl (λa=>Ev.cU (.mk rfl) Ds) rfl (St.gf _ rfl rfl (λa=>Ev.jN (aa.gv rfl a) fA trivial (by rfl)) rfl ?_);refine St.gf _ rfl rfl (λa=>Ev.cU (.mk rfl) I7) rfl (St.gf _ rfl rfl (λa=>Ev.jN (aa.gv rfl a) BX trivial (by rfl)) rfl ?_);refine St.gf _ rfl rfl (λa=>Ev.gN (aa.gv rfl a) BX) rfl (St.gf _ rfl rfl (λa=>Ev.geq (aa.gv rfl a) (aa.gv rfl a)) rfl (g2 ?_));refine St.gf _ rfl rfl (λa=>Ev.cU (.mk rfl) Ds) rfl (St.gf _ rfl rfl (λa=>Ev.jN (aa.gv rfl a) fA trivial (by rfl)) rfl ?_);refine St.gf _ rfl rfl (λa=>Ev.eql (aa.gv rfl a) (.mk rfl)) rfl (St.gf _ rfl rfl (λa=>Ev.move (aa.gv rfl a)) rfl (St.CG _ rfl rfl (λa=>Ev.cU (.mk rfl) tD) rfl (St.CG _ rfl rfl (λa=>Ev.jN (aa.gv rfl a) fA trivial (by rfl)) rfl ?_)));refine St.CG _ rfl rfl (λa=>Ev.lss (aa.gv rfl a) (.mk rfl)) rfl (St.CG _ rfl rfl (λa=>Ev.move (aa.gv rfl a)) rfl (St.Zy _ rfl rfl (λa=>Ev.cU (.mk rfl) tD) rfl (St.Zy _ rfl rfl (λa=>Ev.jN (aa.gv rfl a) fA trivial (by rfl)) rfl ?_)));refine St.Zy _ rfl rfl (λa=>Ev.cU (.mk rfl) zJ) rfl (St.Zy _ rfl rfl (λa=>Ev.jN (aa.gv rfl a) wV trivial (by rfl)) rfl ?_);refine St.Zy _ rfl rfl (λa=>Ev.gN (aa.gv rfl a) wV) rfl (St.Zy _ rfl rfl (λa=>Ev.geq (aa.gv rfl a) (aa.gv rfl a)) rfl (St.CG _ rfl rfl (λa=>Ev.or (aa.gv rfl a) (λhp=>aa.gv rfl (yk a hp))) rfl (St.gf _ rfl rfl (λa=>Ev.and (aa.gv rfl a) (λhp=>aa.gv rfl (yk a hp))) rfl (g4 ?_))));refine St.cond _ rfl (λB=> ?_) (λB=> ?_)
   focus
    skip
    try simp only[cn]at B
    rw[aB zE]at f;refine g3 ?_;refine St.ee (Ev.call (fm 3 h) Lp (.aX rfl rfl)) (g6 ?_);refine St.rV [_] [tI e [iv ((h+1:Nat):Int)] 3,tI bg [g.tv.1,g.fv.1,g.rv.1,g.xv.1,g.start.nv.1] 32,tI b [iv ((i:Nat):Int)] 3,tI bw [(.func (.func 70) #[] [tW e,tW bg,tW b,tW bw].toArray)] 161] ?_;rw[f];exact⟨rfl,rfl⟩
   focus
    skip
    try simp only[cn]at B
    rw[aA zE]at f;refine g6 ?_;refine St.gt _ rfl rfl (λa=>Ev.cU (.mk rfl) tD) rfl (St.gt _ rfl rfl (λa=>Ev.jN (aa.gv rfl a) fA trivial (by rfl)) rfl ?_);refine St.gt _ rfl rfl (λa=>Ev.neq (aa.gv rfl a) (.mk rfl)) rfl (g4 ?_);refine St.cond _ rfl (λC=> ?_) (λC=> ?_)
    focus
     skip
     try simp only[cn]at C
     rw[aB zE]at f;refine g3 ?_;refine St.ee (Ev.call (fm 5 h) Lp (.aX rfl rfl)) (g6 ?_);refine St.rV [_] [tI e [iv ((h+1:Nat):Int)] 3,tI bg [g.tv.1,g.fv.1,g.rv.1,g.xv.1,g.start.nv.1] 32,tI b [iv ((i:Nat):Int)] 3,tI bw [(.func (.func 70) #[] [tW e,tW bg,tW b,tW bw].toArray)] 161] ?_;rw[f];exact⟨rfl,rfl⟩
    focus
     skip
     try simp only[cn]at C
     rw[aA zE]at f;refine g8 ?_;refine St.cond _ rfl (λD=> ?_) (λD=> ?_)
     focus
      skip
      try simp only[cn]at D
      obtain⟨Y,E⟩:=aF (show x.rule.toNat<g.rules.length by omega)
      have F:o=Y.kids:=by rw[←N,aB zE,ax,bJ,E];rfl
      have G:lv=i:=by rw[←n,aB zE]
      refine g5 ?_;refine St.ee (Ev.cI (k:=x.rule.toNat) (.mk rfl) (.mk rfl) BX oV zE zE) (g2 ?_);refine St.slot 83 (iv o) rfl (congrArg iv F.symm) (St.qe b (L':=[iv ((lv:Nat):Int)]) (by rw[G]) ?_);refine g2 ?_
     rotate_left
     focus
      skip
      try simp only[cn]at D
      have F:o=0:=by rw[←N,aA zE]
      have G:lv=i+1:=by rw[←n,aA zE]
      refine St.slot 12 (iv o) rfl (congrArg iv F.symm) (g3 ?_);refine St.cP (.mk rfl) (.mk rfl) dQ rfl (by rfl) ?_;refine St.qe b (L':=[iv ((lv:Nat):Int)]) (by rw[G];rfl) ?_;refine go ?_
  all_goals
   refine g2 ?_;refine St.mE () ⟨f,by omega,by omega⟩
 ·rintro _ ⟨f,Z,apT⟩
  refine g10 ?_;refine St.cq (λH=> ?_) (λH=> ?_)
  ·rw[aB zE]at f
   refine g3 ?_;refine St.ee (Ev.call (fm 9 h) Lp (.aX rfl rfl)) (g5 ?_);refine St.rV [_] [tI e [iv ((h+1:Nat):Int)] 3,tI bg [g.tv.1,g.fv.1,g.rv.1,g.xv.1,g.start.nv.1] 32,tI b [iv ((lv:Nat):Int)] 3,tI bw [(.func (.func 70) #[] [tW e,tW bg,tW b,tW bw].toArray)] 161] ?_;rw[f];exact⟨rfl,rfl⟩
  ·rw[aA zE]at f
   refine g2 ?_;refine St.join (ι:=Unit) (λu T=>(2,iv (c2:Nat))::T) (λu=>[tI P (oA x) 51,tI t [iv 0,iv 0] 39,tI e [iv ((h+1:Nat):Int)] 3,tI bg [g.tv.1,g.fv.1,g.rv.1,g.xv.1,g.start.nv.1] 32,tI b [iv ((lv:Nat):Int)] 3,tI bw [(.func (.func 70) #[] [tW e,tW bg,tW b,tW bw].toArray)] 161,aD (sl bR x.kv.1 x.kids),aD (aL ae x.kids),aD (sl bZ g.rv.1 g.rules),aD (sl cy g.xv.1 g.aG)]) (λu=>True) (aC.k5 1 6 7 10 11) ?_ ?_
   ·refine g13 ?_
    refine St.cq (λI=> ?_) (λI=> ?_)
    ·have J:c2=0:=by rw[←O,aA zE]
     refine g4 ?_;refine St.mE () trivial
    ·have J:c2=ch+1:=by rw[←O,aB zE]
     refine g2 ?_;refine St.mE () trivial
   ·intro _ _
    refine g7 ?_;refine St.cq (λOw=> ?_) (λOw=> ?_)
    ·rw[aB zE]at f
     refine g3 ?_;refine St.ee (Ev.call (fm 14 h) Lp (.aX rfl rfl)) (g5 ?_);refine St.rV [_] [tI e [iv ((h+1:Nat):Int)] 3,tI bg [g.tv.1,g.fv.1,g.rv.1,g.xv.1,g.start.nv.1] 32,tI b [iv ((lv:Nat):Int)] 3,tI bw [(.func (.func 70) #[] [tW e,tW bg,tW b,tW bw].toArray)] 161] ?_;rw[f];exact⟨rfl,rfl⟩
    ·rw[aA zE]at f
     refine g12 ?_;refine St.td (ι:=Nat) (κ:=HK) (λk z T=>(102,iv k)::T) (λk z=>[tI t [iv 0,iv 0] 39,tI e [iv ((z.nodes:Nat):Int)] 3,tI bg [g.tv.1,g.fv.1,g.rv.1,g.xv.1,g.start.nv.1] 32,tI b [iv ((z.leaves:Nat):Int)] 3,tI bw [(.func (.func 70) #[] [tW e,tW bg,tW b,tW bw].toArray)] 161,aD (sl bR x.kv.1 x.kids),aD (aL ae x.kids),aD (sl bZ g.rv.1 g.rules),aD (sl cy g.xv.1 g.aG)]) (λk z=>k≤x.kids.length∧oX (g.rules.map cK.kids) g.aG.length (aN x) d ch ⟨h,i⟩=lq (g.rules.map cK.kids) g.aG.length ((x.kids.map aN).drop k) (d+1) c2 z∧z.nodes≤200∧z.leaves≤z.nodes) (λk z=>x.kids.length-k) 0 ⟨h+1,lv⟩ (aC.k6 1 2 6 10 100 101) ⟨aQ _,f,by dsimp only;omega,by dsimp only;rw[←n];split<;>omega⟩ ?_;rintro k ⟨l,m⟩ ⟨hk,j,p,K⟩
     dsimp only at p K⊢
     refine g6 ?_;refine St.cq (λIM=> ?_) (λIM=> ?_)
     ·obtain⟨y,hy⟩:=aF (show k<x.kids.length by omega)
      have L:=aY hy
      refine St.bh ae x.kids (x:=y) L ?_
      have r:=My (rk:=(g.rules.map cK.kids)) (nl:=g.aG.length) hy (d+1) c2 ⟨l,m⟩
      refine g7 ?_;refine St.ee (Ev.iD (.mk rfl) hy po trivial jo gH.eq) (St.al (λNc=>g4 ?_));refine St.dup (sl bZ g.rv.1 g.rules) (St.dup (sl cy g.xv.1 g.aG) (g5 ?_));refine St.slot 109 (iv ((d+1:Nat):Int)) rfl rfl (go ?_);refine St.ej (R y L (d+1) c2 ⟨l,m⟩ (V y L) zE zE p K) acI (.mk rfl) (.eI rfl rfl rfl) rfl ?_;rintro Rt _ ⟨rfl,rfl⟩;refine St.aaO (St.al (λb15=>g10 ?_));refine St.cond _ rfl (λM=> ?_) (λM=> ?_)
      ·skip
       rw[aB (show(oX (g.rules.map cK.kids) g.aG.length (aN y) (d+1) c2 ⟨l,m⟩).2.1≠0 by simpa using M)]at r;rw[r]at j;refine g12 ?_;refine St.rV [_] [tI e [iv (((oX (g.rules.map cK.kids) g.aG.length (aN y) (d+1) c2 ⟨l,m⟩).1.nodes:Nat):Int)] 3,tI bg [g.tv.1,g.fv.1,g.rv.1,g.xv.1,g.start.nv.1] 32,tI b [iv (((oX (g.rules.map cK.kids) g.aG.length (aN y) (d+1) c2 ⟨l,m⟩).1.leaves:Nat):Int)] 3,tI bw [(.func (.func 70) #[] [tW e,tW bg,tW b,tW bw].toArray)] 161] ?_
       rw[j];exact⟨rfl,rfl⟩
      ·skip
       have q:¬(oX (g.rules.map cK.kids) g.aG.length (aN y) (d+1) c2 ⟨l,m⟩).2.1≠0:=by simpa using M
       rw[aA q]at r
       have Q:=JW (aN y) (d+1) c2 ⟨l,m⟩ (eY.1 q) K
       refine g8 ?_;refine St.vL (k+1) (oX (g.rules.map cK.kids) g.aG.length (aN y) (d+1) c2 ⟨l,m⟩).1 ⟨by omega,j.trans r,Q.1,Q.2⟩
     ·rw[RS zE]at j
      refine g7 ?_;refine St.ee (Ev.build (au.nil) (λw=>fP w)) (g4 ?_);refine St.rV [_] [tI e [iv ((l:Nat):Int)] 3,tI bg [g.tv.1,g.fv.1,g.rv.1,g.xv.1,g.start.nv.1] 32,tI b [iv ((m:Nat):Int)] 3,tI bw [(.func (.func 70) #[] [tW e,tW bg,tW b,tW bw].toArray)] 161] ?_
      rw[j];exact⟨rfl,rfl⟩
theorem Bd (g:eU)(t:bM)(hw:bR.wf t):dK prog 23 #[eF g,dA t] [cj g,ae t] (fv (lR (bK g) (aN t))):=by
 unfold dK;refine dx.body (args:=[eF g,dA t]) 21 func23 rfl ntmps23 rfl (λc=>St.cast (H':=[aD (cj g),aD (ae t)]) rfl (go ?_))
 refine St.jU (cj g) (λ_:Unit=>qO g) (λρ h=>⟨(),h⟩) λ_=> ?_
 refine St.cast (H':=[aD (sl lW g.tv.1 g.types),aD (aL s6 g.types),aD (sl fw g.fv.1 g.cJ),aD (sl bZ g.rv.1 g.rules),aD (aL bb g.rules),aD (sl cy g.xv.1 g.aG),aD (aL dz g.aG),aD (aI g.start),aD (cj g),aD (ae t)]) rfl ?_
 have a:=VK g t
 refine go ?_;refine St.cC (.mk rfl) rfl (λi=>St.cC (.mk rfl) rfl (λl=>St.al (λm=>g4 ?_)));refine St.al (λe=>St.al (λf=>St.cP (.mk rfl) (.mk rfl) dQ rfl (by rfl) ?_));refine St.qe e (L':=[iv ((0:Nat):Int)]) rfl (St.cP (.mk rfl) (.mk rfl) dQ rfl (by rfl) ?_);refine St.qe f (L':=[iv ((0:Nat):Int)]) rfl (g4 ?_);refine St.al (λj=>g4 ?_);refine St.ee (Ev.func (.gn rfl rfl rfl rfl)) (St.cP (.mk rfl) (.mk rfl) ahR rfl (by rfl) ?_);refine g4 ?_;refine St.dup (sl bZ g.rv.1 g.rules) (St.dup (sl cy g.xv.1 g.aG) (St.dup (ae t) (g3 ?_)));refine St.ej (BV e i f j g t 1 0 ⟨0,0⟩ hw zE zE (by simp) (by simp)) acI (.mk rfl) (.eI rfl rfl rfl) rfl ?_;rintro v12 _ ⟨rfl,rfl⟩;refine St.aaO (St.al (λn=>g10 ?_));refine St.cond _ rfl (λd=> ?_) (λd=> ?_)
 ·skip
  rw[aB (show(oX (g.rules.map cK.kids) g.aG.length (aN t) 1 0 ⟨0,0⟩).2.1≠0 by simpa using d)]at a;refine g8 ?_;refine St.rV [_] [] ?_;exact congrArg fv a.symm
 ·skip
  have b:¬(oX (g.rules.map cK.kids) g.aG.length (aN t) 1 0 ⟨0,0⟩).2.1≠0:=by simpa using d
  rw[aA b]at a
  have o:=JW (aN t) 1 0 ⟨0,0⟩ (eY.1 b) (aU _)
  refine g9 ?_;refine St.cq (λk=> ?_) (λk=> ?_)
  ·rw[aB zE]at a
   refine g2 ?_;refine St.ee (Ev.call (fm 2 (-2)) Lp (.aX rfl rfl)) (g5 ?_);refine St.rV [_] [] ?_;exact congrArg fv a.symm
  ·rw[aA zE]at a
   refine g4 ?_;refine St.ee (Ev.build (au.nil) (λw=>fP w)) (g4 ?_);refine St.rV [_] [] ?_;exact congrArg fv a.symm
end Go.Proofs.YtiefglecbgdaiaaGreatDoor
namespace Go.J
open Go Go.Proofs Go.Shelf Go.RowKit Go.Lib Go.Sort
theorem Start.VA {ds:List e8}{v:Value}{e:TypeId}{k m:Nat}{cs:List Value}{w:World}{ρ:Ro}(st:Start (ds.map aD++ [row v e k m cs]) ρ w){g0 cap:Nat}{cur:Array Value}
 (d:v= tO g0 m cap) (g:w.heap[g0]?=some (.cells cur e (0,0))) (x:m≤cap) (y:cap≤maxLen) (z:cur.size=cap*k) (A:cur.toList.take (m*k)=cs) (B:cs.length=m*k):
 Holds id w g0 0 cs.toArray∧g0<w.heap.size∧(∀(n:Nat) (os:Array Obj) (c:Array Value),Ro.le ρ (J.all (sortWorld id w g0 0 n c os)))∧
  ∀(n:Nat) (a:Array Value) (os:Array Obj),a.size=cs.length→Mm ⟨w,ρ,jl (ds.map aD++ [row v e k m cs]),True⟩ [row v e k m a.toList] (sortWorld id w g0 0 n a os):=by
 have hblk:=(od.1 g).1
 have r:ρ g0=Option.none:=(st.own _ (kz _ (sm _)) g0 (by rw[eA,d];rfl)).1
 have s:∀j (f:j<cs.length),cur[j]?=some cs[j]:=λj f=>by
  have:=congrArg (λl=>l[j]?) A
  simp only[List.getElem?_take,List.getElem?_eq_getElem f]at this
  rw[aB zE]at this
  simpa using this
 have hle:∀(n:Nat) (os:Array Obj) (c:Array Value),Ro.le ρ (J.all (sortWorld id w g0 0 n c os)):=λn os c b o hk=>by
  have t:=st.fits b o hk
  have C:b≠g0:=by rintro rfl;rw[r]at hk;cases hk
  show(sortWorld id w g0 0 n c os).heap[b]?=some o
  rw[jt id w g0 n b c os C (od.1 t).1,t]
 refine⟨λj f=> ?_,hblk,hle,λn a os D=>Mm.mk (ρ:=ρ) ⟨rfl,⟨rfl,?_⟩,rfl,?_,?_,?_,Ro.le_refl _,λ_ _ _=>rfl,?_,?_,D2 ..⟩⟩
 ·have F:j<cs.length:=by simpa using f
  refine⟨?_,?_⟩
  ·rw[World.cell?,g]
   simp only[Option.isSome_none,Bool.false_eq_true,if_false,Nat.zero_add]
   rw[s j F,getElem!_pos cs.toArray j f]
   simp
  ·rw[World.frozen?,g];simp
 ·intro _;show w.drawn≤w.drawn+n;omega
 ·unfold sortWorld grow;simp
 ·intro b hk G
  refine jt id w g0 n b a os ?_ hk;rintro rfl;exact G ⟨_,kz _ (sm _),by rw[eA,d];rfl⟩
 ·exact λb o hk=>hle n os a b o hk
 ·intro E p
  rw[ba.1 p];refine eQ.2 ⟨by simp[D,B],.inr ⟨g0,cap,putCells id 0 a cur,d,aQ _,r7 id w g0 n a os g,x,y,by simp[putCells,z],?_⟩⟩
  apply nN
  intro i
  simp only[putCells,List.getElem?_take,Array.getElem?_toList,Array.getElem?_mapIdx]
  by_cases hi:i<cs.length
  ·have q:i<a.size:=by omega
   rw[aB zE,s i hi]
   simp only[Option.map_some,Nat.zero_le,true_and,Nat.zero_add,Nat.sub_zero]
   rw[aB q,getElem!_pos a i q,py q];rfl
  ·rw[aA zE,SF zE]
 ·intro E p b h
  rw[ba.1 p]at h
  have u:b=g0:=by rw[eA,d]at h;simp[Value.ownBlock]at h;exact h.symm
  exact⟨u▸r,.inr ⟨_,kz _ (sm _),by rw[eA,d,u];rfl⟩⟩
theorem wq {α:Type}{enc:α→List Value}{k:Nat}(hk:∀x,(enc x).length=k):∀(l:List α) (q j:Nat) (x:α),l[q]?=some x→j<k→(l.flatMap enc)[q*k+j]?=(enc x)[j]?
 | [],_,_,_,h,_=>by simp at h
 |y::l,0,j,x,h,a=>by
  simp only[List.getElem?_cons_zero,Option.some.injEq]at h
  subst h;rw[iQ,rJ,jH,rL (by rw[hk];exact a)]
 |y::l,q+1,j,x,h,a=>by
  simp only[List.getElem?_cons_succ]at h
  have b:=wq hk l q j x h a
  rw[iQ,nO (by rw[hk,jK];omega),hk,show(q+1)*k+j-k=q*k+j by rw[jK];omega];exact b
theorem qm {α:Type}{enc:α→List Value}{k:Nat}(hk:∀x,(enc x).length=k)(l:List α):(l.flatMap enc).length=l.length*k:=by
 induction l with
 |nil=>simp
 |cons x l a=>rw[iQ,cA,a,hk,fL,jK];omega
theorem I6 {α:Type}[Inhabited α]{enc:α→List Value}{k:Nat}(hp:0<k)(hk:∀x,(enc x).length=k)(d:Array α):flatK enc k d=(d.toList.flatMap enc).toArray:=by
 apply Array.ext'
 show(flatK enc k d).toList=d.toList.flatMap enc
 apply nN
 intro i;rw[Jg]
 rcases dI i (d.size*k)with hi|hi
 ·have a:i/k<d.size:=(Nat.div_lt_iff_lt_mul hp).2 hi
  have hm:i%k<k:=Nat.mod_lt _ hp
  have e:=wq hk d.toList (i/k) (i%k) d[i/k] (by rw[Jg,py a]) hm
  rw[show i/k*k+i%k=i by rw[Nat.mul_comm];exact Nat.div_add_mod i k]at e;rw[e];unfold flatK;rw[Array.getElem?_map,Array.getElem?_range,aB hi]
  show some ((enc d[i/k]!)[i%k]!)=_
  rw[getElem!_pos d (i/k) a,getElem!_pos (enc d[i/k]) (i%k) (by rw[hk];exact hm),bT (by rw[hk];exact hm)]
 ·rw[SF (by rw[size_flatK];exact hi),iR (by rw[qm hk];simpa using hi)]
def Mr (m:Nat)(cf:Nat→Nat→Int):List Nat:=(pdq (ltOf cf) (List.range m).toArray 0 m (Lib.bitLen m) true true).toList
def Gj {β:Type}(C:β→β→Int)(l:List β):List β:=
 match l with
 | []=>[]
 |b::l=>(Mr (l.length+1) λi j=>C ((b::l).getD i b) ((b::l).getD j b)).map λi=>(b::l).getD i b
theorem Ce {m:Nat}{cf:Nat→Nat→Int}(hO:SWO (ltOf cf)):(Mr m cf).Perm (List.range m):=by
 have h:=(pdq_sorts (ltOf cf) hO (List.range m).toArray 0 m (Lib.bitLen m) true true (aQ _) (by simp) (Or.inl rfl)).1
 obtain⟨h1,_,b⟩:=h
 have c:∀(a:Array Nat),a.size=m→(a.extract 0 m).toList=a.toList:=λa d=>by
  rw[←d];simp
 rw[c _ (by rw[h1];simp),c _ (by simp)]at b
 simpa[Mr]using b
theorem RA {β:Type}{C:β→β→Int}(hO:SWO (ltOf C))(f:Nat→β):SWO (ltOf λi j:Nat=>C (f i) (f j)):=⟨λx=>hO.irrefl (f x),λx y z h k=>hO.trans (f x) (f y) (f z) h k,λx y z h k=>hO.ntrans (f x) (f y) (f z) h k⟩
theorem A5 {α:Type}(l:List α)(a:α):(List.range l.length).map (λi=>l.getD i a)=l:=by
 apply nN
 intro i;rw[bJ]
 rcases dI i l.length with h|h
 ·rw[nP h,bT h]
  show some (l.getD i a)=_
  rw[ax,bT h];rfl
 ·rw[iR (by simpa using h),iR h];rfl
theorem Cd {β:Type}{C:β→β→Int}(hO:SWO (ltOf C)):∀l:List β,(Gj C l).Perm l
 | []=> .refl _
 |b::l=>by
  have h:=(Ce (m:=l.length+1) (RA hO λi=>(b::l).getD i b)).map λi=>(b::l).getD i b
  have e:=A5 (b::l) b
  rw[fL]at e;rw[e]at h;exact h
section
variable {P:Program}{En:Ren}{α β:Type}
theorem BT (L:SlLaysF0.n6 P En)(R:Rp α)(O:∀w,(isAgg (En.t 24)).run P w= .ok true w)(Q:∀w,(Go.sizeOf (En.t 24)).run P w= .ok R.size w)(E:α→β)(C:β→β→Int)(hO:SWO (ltOf C))
 (g:Nat) (S:aK P g) (caps:List Value) (ds:List e8) (xs:List α) (o:∀x∈xs,∀y∈xs,dK P g ([Value.agg (R.cells x).toArray,Value.agg (R.cells y).toArray]++caps).toArray ds (.int .i64 (C (E x) (E y)))) (v:Value) (e:TypeId) (hlen:xs.length<4611686018427387904):
 dx P (En.f 6) #[v,.func (.func g) #[] caps.toArray] (ds.map aD++ [row v e R.size xs.length (rows R xs)])
  (λu H'=>u= .tuple #[]∧∃b:List α,b.Perm xs∧b.map E=Gj C (xs.map E)∧H'=[row v e R.size xs.length (rows R b)]):=by
 intro w ρ st
 have c:=eQ.1 (st.dR _ (kz _ (sm _)))
 have T:∀x∈ds,x.f ρ:=λx hx=>dJ.1 (st.dR _ (ke _ (dh hx)))
 have none:∀(p:Option Addr) (cap:Nat),v= .slice p 0 cap→xs=[]→Calls P (En.f 6) #[v,.func (.func g) #[] caps.toArray] w λA w'=>∃k H',A= .returned k∧
  (k= .tuple #[]∧∃b:List α,b.Perm xs∧b.map E=Gj C (xs.map E)∧H'=[row v e R.size xs.length (rows R b)])∧Mm ⟨w,ρ,jl (ds.map aD++ [row v e R.size xs.length (rows R xs)]),True⟩ H' w':=by
  intro p cap a U
  have J:=AnyF.slices_SortFunc_none (P:=P) (ρ:=En) L p cap (.func (.func g) #[] caps.toArray) w
  rw[←a]at J;refine J.mono ?_;rintro V w' ⟨rfl,rfl⟩;exact⟨_,_,rfl,⟨rfl,xs,.refl _,(by rw[U];rfl),rfl⟩,st.stays⟩
 rcases c.2 with⟨a,Y⟩|⟨g0,cap,cur,a,_,Z,q,hcm,hcs,r⟩
 ·exact none _ _ a (ka Y)
 ·match xs,o,hlen,c,none,a,q,r,st with
  | [],o,hlen,c,none,a,q,r,st=>exact none _ _ a rfl
  |x0::xs,o,hlen,c,none,a,q,r,st=>
   let X:=x0::xs
   have hXl:X.length=xs.length+1:=rfl
   obtain⟨hH,hblk,hle,B⟩:=Start.VA st a Z q hcm hcs r c.1
   let enc:Nat→List Value:=λi=>R.cells (X.getD i x0)
   let cf:Nat→Nat→Int:=λi j=>C (E (X.getD i x0)) (E (X.getD j x0))
   have K:∀i,X.getD i x0∈X:=λi=>by
    rw[ax]
    cases h:X[i]? with
    |none=>exact aR ..
    |some y=>exact aY h
   have hk:∀i,(enc i).length=R.size:=λi=>R.len _
   have s:∀d:Array Nat,flatK enc R.size d=(rows R (d.toList.map λi=>X.getD i x0)).toArray:=λd=>by
    rw[I6 R.pos hk];unfold rows;rw[List.flatMap_map]
   have M:(List.range X.length).map (λi=>X.getD i x0)=X:=A5 X x0
   have N:(List.range X.length).toArray.size=X.length:=by simp
   have D:HoldsK enc R.size w g0 0 (List.range X.length).toArray:=by
    unfold HoldsK;rw[s]
    show Holds id w g0 0 (rows R ((List.range X.length).map λi=>X.getD i x0)).toArray
    rw[M];exact hH
   have l:SWO (ltOf cf):=RA hO λi=>E (X.getD i x0)
   have F:CmpLays P g caps.toArray enc R.size cf g0 0 (List.range X.length).toArray.size w:=λm os dk _ x y=>by
    have h1:=(o _ (K x) _ (K y)).W3 (W:=sortWorldK enc R.size w g0 0 m dk os) λz hz=>z.mono _ _ (hle m os _) (T z hz)
    have e2:([Value.agg (R.cells (X.getD x x0)).toArray,Value.agg (R.cells (X.getD y x0)).toArray]++caps).toArray= #[.agg (enc x).toArray,.agg (enc y).toArray]++caps.toArray:=by simp[enc]
    rw[e2]at h1;exact h1
   have main:=AnyQ.slices_SortFunc_eq L R.size O Q enc hk (λi=>R.one _) cf l g caps.toArray g0 0 cap (List.range X.length).toArray w (λargs w=>S.run) F D hblk (by rw[N];exact hlen)
   rw[N]at main
   have G:v= .slice (some ⟨g0,0,Option.none⟩) X.length cap:=a
   rw[←G]at main;refine main.mono ?_;rintro V w' ⟨rfl,n,os,rfl⟩
   have hp:=Ce (m:=X.length) l
   have H:=hp.map λi=>X.getD i x0
   rw[M]at H;refine⟨_,_,rfl,⟨rfl,(Mr X.length cf).map λi=>X.getD i x0,H,?_,rfl⟩,?_⟩
   ·have I:∀i,E (X.getD i x0)=(E x0::xs.map E).getD i (E x0):=λi=>by
     show _=(X.map E).getD i (E x0)
     rw[ax,ax,bJ]
     cases X[i]?<;>rfl
    rw[jJ]
    show _=(Mr ((xs.map E).length+1) λi j=>C ((E x0::xs.map E).getD i (E x0)) ((E x0::xs.map E).getD j (E x0))).map λi=>(E x0::xs.map E).getD i (E x0)
    have e3:(λi j:Nat=>C ((E x0::xs.map E).getD i (E x0)) ((E x0::xs.map E).getD j (E x0)))=cf:=by
     funext i j
     show _=C (E (X.getD i x0)) (E (X.getD j x0))
     rw[I,I]
    rw[e3,aO]
    exact sk λi _=>I i
   ·have h:=B n (flatK enc R.size (pdq (ltOf cf) (List.range X.length).toArray 0 X.length (Lib.bitLen X.length) true true)) os (by
     rw[s]
     have:=H.length_eq
     rw[List.size_toArray,gh,gh]
     exact congrArg (· *R.size) this)
    rw[s]at h
    have e4:(flatK enc R.size (pdq (ltOf cf) (List.range X.length).toArray 0 X.length (Lib.bitLen X.length) true true))=(rows R ((Mr X.length cf).map λi=>X.getD i x0)).toArray:=s _
    unfold sortWorldK putRowK;unfold sortWorld at h;rw[e4];exact h
end
end Go.J
