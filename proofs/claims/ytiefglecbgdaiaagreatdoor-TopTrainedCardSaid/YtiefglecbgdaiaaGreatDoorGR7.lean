/-
  Laws of walks through programs, and facts on grammars, trees and queries.
  Conditions: none.
-/
import Derived.Test.YtiefglecbgdaiaaGreatDoorGR6
import Derived.Shelf.SlSortCmp.NoneTotal
set_option maxHeartbeats 2000000
set_option maxRecDepth 20000
set_option linter.unusedVariables false
set_option linter.unusedSimpArgs false
namespace Go.Proofs.YtiefglecbgdaiaaGreatDoor
open Go Go.J Tryz
abbrev ku (f:lF)(T:List er)(n:Nat)(g:eU):Qr:=⟨n,iP T,qc f,g.rules.map iE,g.aG.map jg⟩
theorem Vz {d:nc}{n i j:Nat}{q:ah×List Nat}(h:d.cE[slt n i j]?=some q):d.cs.at_ n i j=q.2:=by
 show(d.cE.map Prod.snd).getD (slt n i j) []=q.2
 rw[ax,bJ,h];rfl
theorem FT {d:nc}{e:Nat}{x:cT}(h:d.its[e]?=some x):d.cs.its.getD e fX=dy x:=by
 show(d.its.map dy).getD e fX=dy x
 rw[ax,bJ,h];rfl
theorem ik (d:nc):d.cs.its.length=d.its.length:=aO _
theorem Di (d:nc):d.cs.sp.length=d.cE.length:=aO _
theorem A6 {nt nf n:Nat}{d:nc}(h:Room d.cs 1)(a:gw nt nf n d.cs):∀x∈d.its,x.cD.length+1≤3000000000000∧x.cB.length≤x.cD.length:=λx hx=>by
 have h1:=h.cD (dy x) (dh hx)
 have b:=a.cB (dy x) (dh hx)
 have e:(dy x).cD.length=x.cD.length:=aO _
 have e2:(dy x).cB.length=x.cB.length:=rfl
 omega
theorem Kw:∀{l:List Nat} {a:Nat},a∈l→a≤l.sum
 |b::l,a,h=>by
  rw[pK]
  rcases cN.1 h with rfl|h
  ·omega
  ·have:=Kw h;omega
theorem AO {nt nf n:Nat}{d:nc}(a:gw nt nf n d.cs){k:Nat}{q:ah×List Nat}(h:d.cE[k]?=some q):q.2.length≤d.its.length:=by
 rw[←ik,←a.tot];refine Kw (dh (f:=List.length) (?_:q.2∈d.cs.sp));exact dh (aY h)
theorem WU {nt nf n:Nat}{d:nc}(b:gw nt nf n d.cs){e:Nat}{x:cT}(h:d.its[e]?=some x):eG nt nf (bE x.gr)∧x.gr.nodes.length≤60:=by
 obtain⟨_,_,_,c,a⟩:=b.gr (dy x) (dh (aY h))
 have a:(bE x.gr).length≤60:=a
 rw[ct]at a;exact⟨c,a⟩
theorem yX {nt nf:Nat}{x:eB}(h:eG nt nf x){k:Int}:0≤nS x k↔k∈mN (x.getD 0 gq).2:=by
 unfold nS
 cases a:(x.getD 0 gq).2.find? (λx=>x.1==k)with
 |none=>
  refine⟨λh=>absurd h (by decide),λhm=> ?_⟩;obtain⟨y,hy,rfl⟩:=cS.1 hm;exact absurd (List.find?_eq_none.1 a y hy) (by simp)
 |some y=>
  have hy:=List.mem_of_find?_eq_some a
  have hk:=List.find?_some a
  refine⟨λ_=>cS.2 ⟨y,hy,by simpa using hk⟩,λ_=> ?_⟩;exact((h.at_ h.pos).2.2 y hy).2.1
theorem OS {l a tqo i:Nat}(b:a<tqo):((oP l a tqo+i:Nat):Int)≤(tqo:Int)-(l:Nat)↔i<sG l a tqo:=by
 unfold oP sG
 by_cases h:l=0
 ·rw[aB h,aB h];omega
 ·rw[aA h,aA h];omega
theorem NV {f:lF}{T:List er}{n:Nat}{g:eU}{d:nc}{rule a e:Nat}{x:cT}(h:d.its[e]?=some x):Xb (ku f T n g) d.cs rule a e=x.cB.any (qc f rule a):=by
 unfold Xb;rw[FT h];rfl
theorem RX {f:lF}{T:List er}{n:Nat}{g:eU}{d:nc}{rule a e:Nat}{x:cT}(h:d.its[e]?=some x){y:eB}(b:x.cB.any (qc f rule a)=false):ko (ku f T n g) d.cs rule y a e=none:=by
 unfold ko;rw[NV h,b];rfl
theorem L8 {f:lF}{T:List er}{n:Nat}{g:eU}{d:nc}{rule a e:Nat}{x:cT}(h:d.its[e]?=some x){y:eB}(b:x.cB.any (qc f rule a)=true):ko (ku f T n g) d.cs rule y a e=nZ (iP T) y a (bE x.gr):=by
 unfold ko Cs.ed;rw[NV h,b,FT h];rfl
theorem ox {α β:Type}(f:α→β→α)(a:α){l:List β}{k:Nat}{b:β}(h:l[k]?=some b):(l.take (k+1)).foldl f a=f ((l.take k).foldl f a) b:=by
 rw[ag h,rK];rfl
theorem FZ (g:eU)(p s:ah)(T:List er)(hT:j5 T)(nf:Nat)(PG:nf≤100)(f:lF)(hf:ya f)(n:Nat)(hn:n≤12)(A o frm tqo:Nat)(P6:frm<tqo)(hto:tqo≤n)(rule:Nat)(hrf:rule<f.nr)(r:cK)(hr:g.rules[rule]?=some r)(hK:1≤r.kids∧r.kids≤3)(c0:Nat→Nat→Nat)(sv:ah):
 ∀(l:Nat) (d:nc) (x:dC) (B:ah) (kids:List Nat) (a:Nat),d.o9=sv→lY d→j3 T.length nf n frm tqo c0 0 d.cs→Room d.cs (mC c0 tqo l a)→eG T.length nf (bE x)→x.nodes.length≤60→(∀k:Int,0≤k→k≤r.kids→0≤nS (bE x) k)→r.kids=((kids.length+l+1:Nat):Int)→(frm<a∨(a=frm∧1≤l))→a<tqo→(∀k∈kids,k<d.its.length)→
 dx prog 169 ([tW A,iv (rule:Nat),bF x,B.1,iv (frm:Nat),iv (a:Nat),iv (tqo:Nat)]).toArray ([iX f,sl bZ g.rv.1 g.rules,aL bb g.rules,sl bP p.1 (da T),sl bP s.1 (dZ T),tz,sl aJ B.1 (bV (kids)),aI x,aL (λx:cT=>aI x.gr) d.its].map aD++([tI A (nW g p s f n d.gb.1 sv.1 o) 223,aW o (eW mkStr d.m),row d.gb.1 229 6 d.its.length (rows eT d.its),row sv.1 35 1 d.cE.length (rows cr (d.cE.map Prod.fst))]++(bX (ew 234 3) d.its++bX (gP 3) d.cE))) (λv H'=>∃d2:nc,d2.cs=sH (ku f T n g) rule frm tqo (l) d.cs (bE x) (kids) a∧d2.o9=sv∧lY d2∧d2.cE.length=d.cE.length∧(∀k,k≠slt n frm tqo→d2.cE[k]?=d.cE[k]?)∧H'=(aD (aL (λx:cT=>aI x.gr) d2.its)::tI A (nW g p s f n d2.gb.1 sv.1 o) 223::aW o (eW mkStr d2.m)::row d2.gb.1 229 6 d2.its.length (rows eT d2.its)::row sv.1 35 1 d2.cE.length (rows cr (d2.cE.map Prod.fst))::(bX (ew 234 3) d2.its++bX (gP 3) d2.cE))):=by
 intro l
 induction l using Nat.strongRecOn with|_ l ih=> ?_
 intro d x B kids a hsv hp UG afG hx El UK SM Y U5 Z;refine dx.body (args:=[tW A,iv (rule:Nat),bF x,B.1,iv (frm:Nat),iv (a:Nat),iv (tqo:Nat)]) 125 func169 rfl ntmps169 rfl (λc=>St.cast (H':=(aD (iX f)::aD (sl bZ g.rv.1 g.rules)::aD (aL bb g.rules)::aD (sl bP p.1 (da T))::aD (sl bP s.1 (dZ T))::aD (tz)::aD (sl aJ B.1 (bV kids))::aD (aI x)::aD (aL (λx:cT=>aI x.gr) d.its)::tI A (nW g p s f n d.gb.1 sv.1 o) 223::aW o (eW mkStr d.m)::row d.gb.1 229 6 d.its.length (rows eT d.its)::row sv.1 35 1 d.cE.length (rows cr (d.cE.map Prod.fst))::(bX (ew 234 3) d.its++bX (gP 3) d.cE))) rfl (go ?_))
 have hnr:=hf.nr
 have hmt:=GH T
 have IU:=ct x
 have apV:kids.length+l+1≤3:=by have:=hK.2;omega
 have afL:d.cE.length=n*(n+1):=by rw[←Di,UG.ok.HO]
 refine St.wf B.1 (λUD _=>go ?_);refine St.cC (.mk rfl) rfl (λb9=>g10 ?_);refine St.ee (Ev.cI (k:=rule) (.mk rfl) (.mk rfl) BX oV zE (by have:=bO hr;omega)) ?_;refine St.ee (Ev.iD (.mk rfl) hr BZ trivial oV gH.eq) (St.al (λNc=>St.sA (.mk rfl) (.mk rfl) oV ?_ (h1:=(fY.2 λu hu=>bZ.one r u hu))));refine g8 ?_;refine St.slot 35 (iv (kids.length:Nat)) rfl (congrArg iv (by rw[dc])) ?_;refine go ?_;refine St.slot 36 (iv ((l+1:Nat):Int)) rfl (congrArg iv (by rw[SM];push_cast;omega)) ?_;refine go ?_;refine St.slot 37 (iv (l:Nat)) rfl (congrArg iv (by push_cast;omega)) ?_;refine g18 ?_;refine St.join (ι:=Unit) (λu T=>(17,iv ((oP l a tqo:Nat):Int))::T) (λu=>(aD (aL (λx:cT=>aI x.gr) d.its)::tI A (nW g p s f n d.gb.1 sv.1 o) 223::aW o (eW mkStr d.m)::row d.gb.1 229 6 d.its.length (rows eT d.its)::row sv.1 35 1 d.cE.length (rows cr (d.cE.map Prod.fst))::aD (iX f)::aD (sl bZ g.rv.1 g.rules)::aD (aL bb g.rules)::aD (sl bP p.1 (da T))::aD (sl bP s.1 (dZ T))::aD (tz)::aD (sl aJ B.1 (bV kids))::aD (aI x)::tI b9 [x.nv.1] 30::tI Nc (AF r) 98::(bX (ew 234 3) d.its++bX (gP 3) d.cE))) (λu=>True) (aC.k9 0 1 3 4 5 6 9 15 16) ?_ ?_
 ·refine g6 ?_
  refine St.cq (λh44=> ?_) (λh44=> ?_)
  ·have H:l=0:=by omega
   refine g5 ?_;refine St.slot 17 (iv ((oP l a tqo:Nat):Int)) rfl (congrArg iv (by unfold oP;rw[aB H])) ?_;refine St.mE () trivial
  ·have H:l≠0:=by omega
   refine g2 ?_;refine St.slot 17 (iv ((oP l a tqo:Nat):Int)) rfl (congrArg iv (by unfold oP;rw[aA H];push_cast;rfl)) ?_;refine St.mE () trivial
 ·intro u amS
  refine g7 ?_;refine St.lH (ι:=Nat×nc) (λ⟨i,d1⟩ T=>(18,iv ((oP l a tqo+i:Nat):Int))::T) (λ⟨i,d1⟩=>(aD (aL (λx:cT=>aI x.gr) d1.its)::tI A (nW g p s f n d1.gb.1 sv.1 o) 223::aW o (eW mkStr d1.m)::row d1.gb.1 229 6 d1.its.length (rows eT d1.its)::row sv.1 35 1 d1.cE.length (rows cr (d1.cE.map Prod.fst))::aD (iX f)::aD (sl bZ g.rv.1 g.rules)::aD (aL bb g.rules)::aD (sl bP p.1 (da T))::aD (sl bP s.1 (dZ T))::aD (tz)::aD (sl aJ B.1 (bV kids))::aD (aI x)::tI b9 [x.nv.1] 30::tI Nc (AF r) 98::(bX (ew 234 3) d1.its++bX (gP 3) d1.cE))) (λ⟨i,d1⟩=>i≤sG l a tqo∧d1.o9=sv∧lY d1∧d1.cs=((List.range' (oP l a tqo) (sG l a tqo)).take i).foldl (Lu (ku f T n g) rule frm tqo l (bE x) kids a) d.cs∧d1.cE.length=d.cE.length∧(∀k,k≠slt n frm tqo→d1.cE[k]?=d.cE[k]?)) (λ⟨i,d1⟩=>sG l a tqo-i) ⟨0,d⟩ (aC.k9 0 1 3 4 5 6 9 15 16) ⟨aQ _,hsv,hp,rfl,rfl,λ_ _=>rfl⟩ ?_;rintro ⟨i,d1⟩ ⟨hi,ME,YW,YJ,I,C⟩
  dsimp only at hi ME YW YJ I C⊢
  refine g8 ?_;refine St.cond _ rfl (λh49=> ?_) (λh49=> ?_)
  ·skip
   have PD:i<sG l a tqo:=(OS U5).1 (im h49)
   obtain⟨f1,f2,f3,f4⟩:=Dk U5 PD
   obtain⟨en,hen⟩:∃en,en=oP l a tqo+i:=⟨_,rfl⟩
   rw[←hen]at f1 f2 f3 f4⊢
   have hei:(List.range' (oP l a tqo) (sG l a tqo))[i]?=some en:=by rw[List.getElem?_range' PD,hen,nM]
   have hE0:∀z∈(List.range' (oP l a tqo) (sG l a tqo)),a<z∧z≤tqo∧(1≤l→z<tqo):=λz hz=>by obtain⟨j,hj,rfl⟩:=List.mem_range'.1 hz;have:=Dk U5 hj;rw[nM];exact⟨this.1,this.2.1,this.2.2.2⟩
   obtain⟨BD,J⟩:=OQ (Q:=(ku f T n g)) hn hmt P6 hto c0 (l:=l) (a:=a) (rule:=rule) UG hx Y (by rw[ik];exact Z) ((List.range' (oP l a tqo) (sG l a tqo)).take i) (λz hz=>hE0 z (List.take_subset _ _ hz));rw[←YJ]at BD J
   have afO:=wQ (f:=λen=>c0 a en*xg c0 tqo l en) hei
   rw[←TU]at afO
   have YY:Room d1.cs (c0 a en*xg c0 tqo l en):=Room.grow (Room.mono afG afO) J
   have aeP:∀k∈kids,k<d1.cs.its.length:=λk hk=>fg (by rw[ik];exact Z k hk) J.more
   have afK:slt n a en≠slt n frm tqo:=λh=>by have:=EO zE hto h;rcases Y with Y|⟨_,hl⟩;omega;have:=f4 hl;omega
   obtain⟨q,hq⟩:=aF (show slt n a en<d.cE.length by rw[afL];exact tS zE zE)
   have hq1:d1.cE[slt n a en]?=some q:=by rw[C _ afK];exact hq
   have K:=Vz hq1
   have aeW:q.2.length=c0 a en:=by rw[←K];exact BD.len a en (show en≤n by omega) (λh=>by rcases Y with Y|⟨_,hl⟩;omega;have:=f4 hl;omega)
   refine g9 ?_;refine St.ee (Ev.jO 2 (.mk rfl) Cn trivial Ck rfl rfl) (St.slot 55 (.agg #[iv (n:Nat),sv.1]) rfl rfl (g2 ?_));refine St.call (DP n a en (slt n a en) hn zE zE rfl sv d1.cE q hq1) O1 (.eI rfl rfl rfl) rfl ?_;rintro v58 _ ⟨rfl,rfl⟩;refine St.bB (St.tail (bX (ew 234 3) d1.its++bX (gP 3) d1.cE) (row q.1.1 3 1 (q.2).length (rows aJ (bV (q.2)))::(bX (ew 234 3) d1.its++bX (gP 3) (d1.cE.eraseIdx (slt n a en)))) (ph _ _ _ hq1) (go ?_));refine St.tail (row q.1.1 3 1 (q.2).length (rows aJ (bV (q.2)))::(bX (ew 234 3) d1.its++bX (gP 3) (d1.cE.eraseIdx (slt n a en)))) (bX (ew 234 3) d1.its++bX (gP 3) d1.cE) (ph (ew 234 3) (gP 3) d1.its hq1).symm (g4 ?_);refine St.lH (ι:=Nat×nc) (λ⟨k,d2⟩ T=>(60,iv k)::T) (λ⟨k,d2⟩=>(aD (aL (λx:cT=>aI x.gr) d2.its)::tI A (nW g p s f n d2.gb.1 sv.1 o) 223::aW o (eW mkStr d2.m)::row d2.gb.1 229 6 d2.its.length (rows eT d2.its)::row sv.1 35 1 d2.cE.length (rows cr (d2.cE.map Prod.fst))::aD (iX f)::aD (sl bZ g.rv.1 g.rules)::aD (aL bb g.rules)::aD (sl bP p.1 (da T))::aD (sl bP s.1 (dZ T))::aD (tz)::aD (sl aJ B.1 (bV kids))::aD (aI x)::tI b9 [x.nv.1] 30::tI Nc (AF r) 98::(bX (ew 234 3) d2.its++bX (gP 3) d2.cE))) (λ⟨k,d2⟩=>k≤q.2.length∧d2.o9=sv∧lY d2∧d2.cs=(q.2.take k).foldl (uI (ku f T n g) rule frm tqo l (bE x) kids en) d1.cs∧d2.cE.length=d.cE.length∧(∀k,k≠slt n frm tqo→d2.cE[k]?=d.cE[k]?)) (λ⟨k,d2⟩=>q.2.length-k) ⟨0,d1⟩ (aC.k12 0 1 3 4 5 6 9 15 16 18 58 59) ⟨aQ _,ME,YW,rfl,I,C⟩ ?_;rintro ⟨k,d2⟩ ⟨hk,W,M,D,N,O⟩
   dsimp only at hk W M D N O⊢
   refine g6 ?_;refine St.cq (λh61=> ?_) (λh61=> ?_)
   ·obtain⟨e,he⟩:=aF (show k<q.2.length by omega)
    have WO:d2.cE[slt n a en]?=some q:=by rw[O _ afK];exact hq
    have aeS:∀z∈q.2,z<d1.cs.its.length:=λz hz=>BD.ok.qd (by rw[K];exact hz)
    obtain⟨P,Fv⟩:=C9 (Q:=(ku f T n g)) hn hmt P6 hto c0 (l:=l) (rule:=rule) BD hx (en:=en) ⟨by omega,f4⟩ aeP (q.2.take k) (λz hz=>aeS z (List.take_subset _ _ hz));rw[←D,eR,il zE]at Fv;rw[←D]at P
    have aeI:k*xg c0 tqo l en+xg c0 tqo l en≤c0 a en*xg c0 tqo l en:=by rw[←aeW,←Nat.succ_mul];exact fC _ zE
    have IZ:Room d2.cs (xg c0 tqo l en):=Room.grow (Room.mono YY aeI) Fv
    have hel:e<d2.its.length:=by rw[←ik];exact fg (aeS e (aY he)) Fv.more
    have amI:∀k∈kids,k<d2.its.length:=λz hz=>by rw[←ik];exact fg (aeP z hz) Fv.more
    obtain⟨b,F⟩:=aF hel
    have WT:=aY F
    obtain⟨IV,P7⟩:=WU P.ok F
    have IX:=IZ.its
    have ap0:=AO P.ok WO
    rw[ik]at IX;refine St.tail (bX (ew 234 3) d2.its++bX (gP 3) d2.cE) (row q.1.1 3 1 (q.2).length (rows aJ (bV (q.2)))::(bX (ew 234 3) d2.its++bX (gP 3) (d2.cE.eraseIdx (slt n a en)))) (ph _ _ _ WO) (g7 ?_);refine St.ee (Ev.dw (.mk rfl) fA trivial zE (gg (iw he))) (St.tail (row q.1.1 3 1 (q.2).length (rows aJ (bV (q.2)))::(bX (ew 234 3) d2.its++bX (gP 3) (d2.cE.eraseIdx (slt n a en)))) (bX (ew 234 3) d2.its++bX (gP 3) d2.cE) (ph (ew 234 3) (gP 3) d2.its WO).symm (g10 ?_));refine St.slot 67 (iv (kids.length:Nat)) rfl (congrArg iv (by rw[dc])) ?_;refine go ?_;refine St.slot 68 (iv ((kids.length+1:Nat):Int)) rfl (congrArg iv (by push_cast;rfl)) ?_;refine go ?_;refine St.dup (iX f) (St.tail (bX (ew 234 3) d2.its++bX (gP 3) d2.cE) (row b.wv.1 234 3 (b.cD).length (rows mZ (b.cD))::row b.tv.1 3 1 (b.cB).length (rows aJ (b.cB))::(bX (jd 3) b.cD++(bX (ew 234 3) (d2.its.eraseIdx e)++bX (gP 3) d2.cE))) (zf _ _ F) (St.call (uA f hf (nW g p s f n d2.gb.1 sv.1 o) rfl A rule (kids.length+1) hrf zE zE d2.gb rfl d2.its e b F (M.cB b WT)) Vr (.gn rfl rfl rfl rfl) rfl ?_));rintro v70 _ ⟨rfl,rfl⟩;refine St.kG (St.pk [row b.wv.1 234 3 (b.cD).length (rows mZ (b.cD)),row b.tv.1 3 1 (b.cB).length (rows aJ (b.cB))] (bX (jd 3) b.cD++(bX (ew 234 3) (d2.its.eraseIdx e)++bX (gP 3) d2.cE)) (bX (ew 234 3) d2.its++bX (gP 3) d2.cE) (zf (ew 234 3) (bX (gP 3) d2.cE) F).symm (g3 ?_));refine St.cond _ rfl (λR=> ?_) (λR=> ?_)
    ·skip
     have IQ:b.cB.any (qc f rule (kids.length+1))=false:=by simpa using R
     have S:ko (ku f T n g) d2.cs rule (bE x) (kids.length+1) e=none:=RX F IQ
     refine g9 ?_;refine St.aH ⟨k+1,d2⟩ ⟨by omega,W,M,by rw[ox _ _ he,←D];exact(by unfold uI;rw[S]),N,O⟩
    ·skip
     have IQ:b.cB.any (qc f rule (kids.length+1))=true:=by simpa using R
     have S:=L8 (T:=T) (n:=n) (g:=g) (y:=bE x) F IQ
     refine g3 ?_;refine St.fF (aI b.gr) [aL (λx:cT=>aI x.gr) d2.its] (λρ h=>h _ (aR ..) b WT) (St.lO d2.gb.1 zE (λbs cs PI=>St.ef (aD (sl bP p.1 (da T))::aD (sl bP s.1 (dZ T))::aD tz::aD (aI x)::aD (aI b.gr)::(bX (ew 234 3) d2.its++bX (gP 3) d2.cE)) mixed (λnp ns=>SW.gd 0 ?_)));refine SW.gd 1 ?_;refine SW.gd 2 ?_;refine SW.dd 3 rfl (λ_=>Ev.jO 2 (.mk rfl) xJ trivial xH rfl rfl) (SW.slot 76 (kX p s) rfl rfl (SW.gd 4 ?_));refine SW.slot 77 (bF x) rfl rfl (SW.gd 5 ?_);refine SW.gd 6 ?_;refine SW.slot 79 (iv (kids.length:Nat)) rfl (congrArg iv (by rw[dc])) ?_;refine SW.gd 7 ?_;refine SW.slot 80 (iv ((kids.length+1:Nat):Int)) rfl (congrArg iv (by push_cast;rfl)) ?_;refine SW.gd 8 ?_;refine SW.gd 9 ?_;refine SW.gd 10 ?_;refine SW.gd 11 ?_;refine SW.gd 12 ?_;refine SW.dd 13 rfl (λ_=>Ev.nT (k:=e) PI (.mk rfl) (.mk rfl) pH pG zE zE) (SW.dd 14 rfl (λ_=>Ev.uJ PI (.mk rfl) uN) (SW.dd 15 rfl (λ_=>Ev.uJ PI (.mk rfl) yH) (SW.dd 16 rfl (λ_=>Ev.Ig (Rr:=eT) (sz:=1) (.mk rfl) F nI trivial jx zE (by decide) (by decide)) ?_)));refine SW.slot 89 (bF b.gr) rfl rfl (SW.t2 17 21 ?_ ?_)
     focus
      refine St.ak (rQ p s T hT nf PG x b.gr ((kids.length+1:Nat):Int) hx IV El P7 (UK _ zE zE)) Jz (.gn rfl rfl rfl rfl) rfl ?_;rintro v90 _ ⟨u,z,rfl,hz,rfl⟩;refine St.bB (St.bS z u (λy hy=>?_));obtain⟨rfl,hyE⟩:=hy;refine g2 ?_;refine SW.go (SW.gd 18 ?_);refine SW.gd 19 ?_;refine SW.gd 20 ?_;refine SW.t1 21 ?_;refine St.al (λb21=>g2 ?_);refine SW.go (SW.t1 22 ?_);refine g3 ?_;refine SW.go (SW.gd 23 ?_);refine SW.dn ?_
     rotate_left
     focus
      refine St.al (λb21=>g2 ?_);refine SW.go (SW.t1 17 ?_);refine St.ak (rQ p s T hT nf PG x b.gr ((kids.length+1:Nat):Int) hx IV El P7 (UK _ zE zE)) Jz (.gn rfl rfl rfl rfl) rfl ?_;rintro v90 _ ⟨u,z,rfl,hz,rfl⟩;refine St.bB (St.bS z u (λy hy=>?_));obtain⟨rfl,hyE⟩:=hy;refine g2 ?_;refine SW.go (SW.gd 18 ?_);refine SW.gd 19 ?_;refine SW.gd 20 ?_;refine SW.t1 22 ?_;refine g3 ?_;refine SW.go (SW.gd 23 ?_);refine SW.dn ?_
     all_goals
      refine g8 ?_;refine St.cond _ rfl (λU=> ?_) (λU=> ?_)
      ·skip
       have hsn:nZ (iP T) (bE x) ((kids.length+1:Nat):Int) (bE b.gr)=none:=by simpa using U
       rw[hsn]at S;refine g9 ?_;refine St.aH ⟨k+1,d2⟩ ⟨by omega,W,M,by rw[ox _ _ he,←D];exact(by unfold uI;rw[S]),N,O⟩
      ·skip
       obtain⟨z1,E⟩:∃z1,nZ (iP T) (bE x) ((kids.length+1:Nat):Int) (bE b.gr)=some z1:=Option.isSome_iff_exists.1 (by simpa using U)
       have hzz:=hz z1 E
       rw[hzz]at hyE;rw[E,←hyE]at S;rw[←hyE]at E;obtain⟨y1,y2,y3⟩:=JQ hmt hx IV E
       have hyl:y.nodes.length≤60:=by rw[←ct];exact y2
       have hyt:∀k:Int,0≤k→k≤r.kids→0≤nS (bE y) k:=λk h0 h1=>(yX y1).2 (y3 k ((yX hx).1 (UK k h0 h1)))
       have aeQ:∀k∈kids++ [e],k<d2.its.length:=λz hz=>by rcases ca.1 hz with hz|hz;exact amI z hz;rw[ba.1 hz];exact hel
       refine g7 ?_;refine St.slot 97 (iv (kids.length:Nat)) rfl (congrArg iv (by rw[dc])) ?_;refine g2 ?_;refine St.slot 99 (iv (kids.length:Nat)) rfl (congrArg iv (by rw[dc])) ?_;refine St.ee (Ev.clip (.mk rfl) (.mk rfl) (.mk rfl) bQ dQ (by rw[dc]) (by rw[dc])) ?_;refine go ?_;refine St.iu rfl (.aq rfl) bQ dQ ec rfl rfl (by simp[Value.cells]) rfl rfl (λapG=> ?_);refine St.sy (.mk rfl) (.mk rfl) bQ dQ ec yt (by simp[Value.oneCell',Value.cells]) (by rw[dc];omega) (by rw[dc];omega) rfl rfl rfl rfl (λG ao4=> ?_);refine St.aP G (show _=(kids++ [e]).length by rw[dc,cA];rfl) (show _=rows aJ (bV (kids++ [e])) by rw[gz,bN];rfl) ?_;refine St.cH G (λIM _=>g9 ?_);refine St.cq (λU3=> ?_) (λU3=> ?_)
       ·obtain⟨l1,rfl⟩:∃l1,l=l1+1:=⟨l-1,by omega⟩
        refine St.bU G aJ (bV (kids++ [e])) rfl (dc _).symm (λz hz=>by obtain⟨z2,hz2,rfl⟩:=cS.1 hz;have:=aeQ z2 hz2;unfold aJ aZ;dsimp only;omega) ?_
        have afN:j3 T.length nf n frm tqo c0 0 d2.cs:=⟨P.ok,P.len,aQ _⟩
        refine g4 ?_;refine St.slot 108 (bF y) rfl rfl (g4 ?_);refine St.yw (ds:=[iX f,sl bZ g.rv.1 g.rules,aL bb g.rules,sl bP p.1 (da T),sl bP s.1 (dZ T),tz,sl aJ G (bV (kids++ [e])),aI y,aL (λx:cT=>aI x.gr) d2.its]) (L:=[tI A (nW g p s f n d2.gb.1 sv.1 o) 223,aW o (eW mkStr d2.m),row d2.gb.1 229 6 d2.its.length (rows eT d2.its),row sv.1 35 1 d2.cE.length (rows cr (d2.cE.map Prod.fst))]) (X:=(bX (ew 234 3) d2.its++bX (gP 3) d2.cE)) (post:=λv L' X'=>∃d3:nc,d3.cs=sH (ku f T n g) rule frm tqo (l1) d2.cs (bE y) (kids++ [e]) en∧d3.o9=sv∧lY d3∧d3.cE.length=d2.cE.length∧(∀k,k≠slt n frm tqo→d3.cE[k]?=d2.cE[k]?)∧L'=[aD (aL (λx:cT=>aI x.gr) d3.its),tI A (nW g p s f n d3.gb.1 sv.1 o) 223,aW o (eW mkStr d3.m),row d3.gb.1 229 6 d3.its.length (rows eT d3.its),row sv.1 35 1 d3.cE.length (rows cr (d3.cE.map Prod.fst))]∧X'=(bX (ew 234 3) d3.its++bX (gP 3) d3.cE)) ((ih l1 zE d2 y ⟨G,IM⟩ (kids++ [e]) en W M afN IZ y1 hyl hyt (by rw[SM];simp only[List.length_append,List.length_cons,List.length_nil];push_cast;omega) (.inl zE) (f4 zE) aeQ).mono (λv H' ⟨d3,V,a2,a3,a4,a5,a6⟩=>⟨_,_,a6,d3,V,a2,a3,a4,a5,rfl,rfl⟩)) Vq (.ag4 rfl rfl rfl rfl rfl rfl rfl) rfl ?_;rintro aqP _ _ ⟨d3,V,a2,a3,a4,a5,rfl,rfl⟩;refine St.DM (g8 ?_);refine St.aH ⟨k+1,d3⟩ ⟨by omega,a2,a3,by rw[ox _ _ he,←D];exact(by unfold uI;rw[S];exact V),(a4.trans N),(λz hz=>(a5 z hz).trans (O z hz))⟩
       ·obtain rfl:l=0:=by omega
        obtain rfl:en=tqo:=f3 rfl;refine g5 ?_;refine St.slot 117 (bF y) rfl rfl (St.ak (qV y T.length nf PG y1 zE (hyt 0 zE zE)) Nz (.aq rfl) rfl ?_);rintro aoP _ rfl;refine St.bB (St.bS (mP (bE y)) aoP (λmy hm=>?_));obtain⟨rfl,WM⟩:=hm;obtain⟨m1,m2⟩:=qw y1 y2;rw[←WM]at m1 m2;rw[ct]at m2
        have YP:=fz m1 PG
        obtain⟨q0,SO⟩:=aF (show slt n frm en<d2.cE.length by rw[N,afL];exact tS zE hto)
        have aeV:=AO P.ok SO
        have PH:Room d2.cs 1:=IZ
        have aeO:=PH.its
        rw[ik]at aeO
        have hrl:=bO hr
        refine St.ee (Ev.build (au.eI rfl rfl rfl) (λw=>uE rfl rfl w)) (St.slot 119 (I3 frm en 0 my.nv.1) rfl rfl (g2 ?_));refine St.ee (Ev.build (au.aX rfl rfl) (λw=>yq rfl IM w)) (St.slot 122 (.agg #[iv (rule:Nat),iv 0,G]) rfl rfl (St.yw (ds:=[aI my,aL (λx:cT=>aI x.gr) d2.its]) (L:=[tI A (nW g p s f n d2.gb.1 sv.1 o) 223,aW o (eW mkStr d2.m),row d2.gb.1 229 6 d2.its.length (rows eT d2.its),row sv.1 35 1 d2.cE.length (rows cr (d2.cE.map Prod.fst)),row G 3 aJ.size (kids++ [e]).length (rows aJ (bV (kids++ [e])))]) (X:=(bX (ew 234 3) d2.its++bX (gP 3) d2.cE)) (post:=λv L' X'=>∃d3:nc,d3.cs=j6 n d2.cs ⟨frm,en,0,bE my⟩ ⟨(rule:Nat),0,kids++ [e]⟩∧d3.o9=sv∧lY d3∧d3.cE.length=d2.cE.length∧(∀k,k≠slt n frm en→d3.cE[k]?=d2.cE[k]?)∧L'=[aD (aL (λx:cT=>aI x.gr) d3.its),tI A (nW g p s f n d3.gb.1 sv.1 o) 223,aW o (eW mkStr d3.m),row d3.gb.1 229 6 d3.its.length (rows eT d3.its),row sv.1 35 1 d3.cE.length (rows cr (d3.cE.map Prod.fst))]∧X'=(bX (ew 234 3) d3.its++bX (gP 3) d3.cE)) ?_ O0 (.eI rfl rfl rfl) rfl ?_))
        ·subst W
         exact(vP g p s f n hn d2 M A o frm en 0 my zE (λt ht=>by have:=(YP t ht).2;omega) zE zE (rule:Nat) 0 (by unfold aZ;omega) zE ⟨G,IM⟩ (kids++ [e]) q0 SO zE zE (A6 PH P.ok)).mono (λv H' ⟨d3,V,a2,a3,a4,a5,a6⟩=>⟨_,_,(by rw[a2]at a6;exact a6),d3,V,a2,a3,a4,a5,rfl,rfl⟩)
        rintro aqR _ _ ⟨d3,V,a2,a3,a4,a5,rfl,rfl⟩;refine St.DM (g8 ?_);refine St.aH ⟨k+1,d3⟩ ⟨by omega,a2,a3,by rw[ox _ _ he,←D];exact(by unfold uI;rw[S,V,WM]),(a4.trans N),(λz hz=>(a5 z hz).trans (O z hz))⟩
   ·obtain rfl:k=q.2.length:=by omega
    rw[iT]at D;refine g12 ?_;refine St.aH ⟨i+1,d2⟩ ⟨by omega,W,M,by rw[ox _ _ hei,←YJ,D];show _=(d1.cs.at_ n a en).foldl _ _;rw[K],N,O⟩
  ·skip
   have PD:¬i<sG l a tqo:=λh=>ly h49 ((OS U5).2 h)
   obtain rfl:i=sG l a tqo:=by omega
   rw[fZ (by rw[List.length_range'];exact aU _),←KD]at YJ;refine g4 ?_;refine St.fi (St.rV [] (aD (aL (λx:cT=>aI x.gr) d1.its)::tI A (nW g p s f n d1.gb.1 sv.1 o) 223::aW o (eW mkStr d1.m)::row d1.gb.1 229 6 d1.its.length (rows eT d1.its)::row sv.1 35 1 d1.cE.length (rows cr (d1.cE.map Prod.fst))::(bX (ew 234 3) d1.its++bX (gP 3) d1.cE)) ?_);exact⟨d1,YJ,ME,YW,I,C,rfl⟩
theorem Mq (g:eU)(b l:ah)(T:List er)(hT:j5 T)(nf:Nat)(U:nf≤100)(f:lF)(hf:ya f)(n:Nat)(hn:n≤12)(p a:Nat)(sv:ah)(wv:Value)(words:List cM)(PL:words.length=n)(hnr:f.nr=g.rules.length)(N:sB T.length nf (ku f T n g))(HM:∀r∈g.rules,∀k:Int,0≤k→k≤r.kids→0≤nS (bE r.graph) k)
 (frm tqo len:Nat) (hlen:1≤len) (hte:tqo=frm+len) (V:tqo≤n) (d:nc) (hsv:d.o9=sv) (hp:lY d) (hs:oG T.length nf n len frm d.cs):
 dx prog 117 ([tW p,wv,iv (frm:Nat),iv (tqo:Nat)]).toArray ([iX f,sl bZ g.rv.1 g.rules,aL bb g.rules,sl cy g.xv.1 g.aG,aL dz g.aG,sl bP b.1 (da T),sl bP l.1 (dZ T),tz,sl fK wv words,aL (λx:cT=>aI x.gr) d.its].map aD++([tI p (nW g b l f n d.gb.1 sv.1 a) 223,aW a (eW mkStr d.m),row d.gb.1 229 6 d.its.length (rows eT d.its),row sv.1 35 1 d.cE.length (rows cr (d.cE.map Prod.fst))]++(bX (ew 234 3) d.its++bX (gP 3) d.cE))) (λv H'=>∃d2:nc,d2.cs=pD (ku f T n g) words frm tqo d.cs∧d2.o9=sv∧lY d2∧H'=(aD (aL (λx:cT=>aI x.gr) d2.its)::tI p (nW g b l f n d2.gb.1 sv.1 a) 223::aW a (eW mkStr d2.m)::row d2.gb.1 229 6 d2.its.length (rows eT d2.its)::row sv.1 35 1 d2.cE.length (rows cr (d2.cE.map Prod.fst))::(bX (ew 234 3) d2.its++bX (gP 3) d2.cE))):=by
 refine dx.body (args:=[tW p,wv,iv (frm:Nat),iv (tqo:Nat)]) 171 func117 rfl ntmps117 rfl (λc=>St.cast (H':=(aD (iX f)::aD (sl bZ g.rv.1 g.rules)::aD (aL bb g.rules)::aD (sl cy g.xv.1 g.aG)::aD (aL dz g.aG)::aD (sl bP b.1 (da T))::aD (sl bP l.1 (dZ T))::aD (tz)::aD (sl fK wv words)::aD (aL (λx:cT=>aI x.gr) d.its)::tI p (nW g b l f n d.gb.1 sv.1 a) 223::aW a (eW mkStr d.m)::row d.gb.1 229 6 d.its.length (rows eT d.its)::row sv.1 35 1 d.cE.length (rows cr (d.cE.map Prod.fst))::(bX (ew 234 3) d.its++bX (gP 3) d.cE))) rfl ?_)
 have P6:frm<tqo:=by omega
 have hmt:=GH T
 obtain⟨w,hw⟩:=aF (show frm<words.length by omega)
 have hwd:words.getD frm []=w:=by rw[ax,hw];rfl
 have YX:g.rules.length≤40:=by have h:(g.rules.map iE).length≤40:=N.rn;rwa[aO]at h
 have hxn:g.aG.length≤100:=by have h:(g.aG.map jg).length≤100:=N.xn;rwa[aO]at h
 have MD:∀(i:Nat) (r:cK),g.rules[i]?=some r→(1≤r.kids∧r.kids≤3)∧eG T.length nf (bE r.graph)∧r.graph.nodes.length≤60:=λi r h=>by have h1:=N.rule (iE r) (dh (aY h));exact⟨h1.1,h1.2.1,by rw[←ct];exact h1.2.2⟩
 have YN:∀(i:Nat) (x:fq),g.aG[i]?=some x→eG T.length nf (bE x.graph)∧x.graph.nodes.length≤60:=λi x h=>by have h1:=N.lex (jg x) (dh (aY h));exact⟨h1.1,by rw[←ct];exact h1.2⟩
 have aeN:∀(i:Nat) (r:cK),g.rules[i]?=some r→(ku f T n g).rules.getD i nX=iE r:=λi r h=>by show(g.rules.map iE).getD i nX=_;rw[ax,bJ,h];rfl
 have amH:∀(i:Nat) (x:fq),g.aG[i]?=some x→(ku f T n g).aG.getD i MW=jg x:=λi x h=>by show(g.aG.map jg).getD i MW=_;rw[ax,bJ,h];rfl
 obtain⟨KS,CJ,Y⟩:=ET N (words:=words) hlen (show frm+len≤n by omega) hs;rw[←hte]at KS CJ Y
 have hrl:((ku f T n g)).rules.length=g.rules.length:=aO _
 have hll:((ku f T n g)).aG.length=g.aG.length:=aO _
 refine St.join (ι:=nc) (λd1 T=>T) (λd1=>(aD (aL (λx:cT=>aI x.gr) d1.its)::tI p (nW g b l f n d1.gb.1 sv.1 a) 223::aW a (eW mkStr d1.m)::row d1.gb.1 229 6 d1.its.length (rows eT d1.its)::row sv.1 35 1 d1.cE.length (rows cr (d1.cE.map Prod.fst))::aD (iX f)::aD (sl bZ g.rv.1 g.rules)::aD (aL bb g.rules)::aD (sl cy g.xv.1 g.aG)::aD (aL dz g.aG)::aD (sl bP b.1 (da T))::aD (sl bP l.1 (dZ T))::aD (tz)::aD (sl fK wv words)::(bX (ew 234 3) d1.its++bX (gP 3) d1.cE))) (λd1=>d1.o9=sv∧lY d1∧d1.cs=mK (ku f T n g) words frm tqo d.cs) (aC.k3 0 2 3) ?_ ?_
 ·refine g8 ?_
  refine St.cq (λh22=> ?_) (λh22=> ?_)
  ·have O:tqo=frm+1:=by omega
   refine g12 ?_;refine St.lH (ι:=Nat×nc) (λ⟨i,d1⟩ T=>(29,iv i)::T) (λ⟨i,d1⟩=>(aD (aL (λx:cT=>aI x.gr) d1.its)::tI p (nW g b l f n d1.gb.1 sv.1 a) 223::aW a (eW mkStr d1.m)::row d1.gb.1 229 6 d1.its.length (rows eT d1.its)::row sv.1 35 1 d1.cE.length (rows cr (d1.cE.map Prod.fst))::aD (iX f)::aD (sl bZ g.rv.1 g.rules)::aD (aL bb g.rules)::aD (sl cy g.xv.1 g.aG)::aD (aL dz g.aG)::aD (sl bP b.1 (da T))::aD (sl bP l.1 (dZ T))::aD (tz)::aD (sl fK wv words)::(bX (ew 234 3) d1.its++bX (gP 3) d1.cE))) (λ⟨i,d1⟩=>i≤g.aG.length∧d1.o9=sv∧lY d1∧d1.cs=(List.range i).foldl (qs (ku f T n g) w frm tqo) d.cs) (λ⟨i,d1⟩=>g.aG.length-i) ⟨0,d⟩ (aC.k6 0 1 2 3 27 28) ⟨aQ _,hsv,hp,rfl⟩ ?_;rintro ⟨i,d1⟩ ⟨hi,s,A,D⟩
   dsimp only at hi s A D⊢
   refine g6 ?_;refine St.cq (λh30=> ?_) (λh30=> ?_)
   ·obtain⟨x,hx⟩:=aF (show i<g.aG.length by omega)
    obtain⟨H,El⟩:=YN i x hx
    have hxs:=fz H U
    have hxE:=amH i x hx
    obtain⟨BD,hr1⟩:=Pe N (w:=w) P6 V hs (show i<((ku f T n g)).aG.length by omega);rw[←D]at BD hr1
    have B:gw T.length nf n d1.cs:=BD.ok
    have I:Room d1.cs 1:=hr1
    have IX:=I.its
    rw[ik]at IX;obtain⟨q0,SO⟩:=aF (show slt n frm tqo<d1.cE.length by rw[←Di,B.HO];exact tS zE V)
    have aeV:=AO B SO
    refine St.bh dz g.aG (x:=x) (aY hx) (St.fF (aI x.graph) [dz x] (λρ h=>h (dz x) (aR ..) (aI x.graph) (aR ..)) (g8 ?_));refine St.ee (Ev.iD (.mk rfl) hx xI trivial mH gH.eq) (St.al (λb9=>go ?_));refine St.sA (.mk rfl) (.mk rfl) mH ?_ (h1:=(fY.2 λu hu=>cy.one x u hu));refine g3 ?_;refine St.rq mixed (by kernel_rfl) (Mm.drawn _ _) ?_;refine g9 ?_;refine St.cq (λh40=> ?_) (λh40=> ?_)
    ·have hxw:x.word=w:=by simpa using h40
     have WK:qs (ku f T n g) w frm tqo d1.cs i=j6 n d1.cs ⟨frm,tqo,0,iH (bE x.graph) 0⟩ ⟨-1,i,[]⟩:=by unfold qs;rw[hxE,aB (show(jg x).word=w from hxw)];rfl
     refine g5 ?_;refine St.ee (Ev.jO 1 (.mk rfl) nI trivial jx rfl rfl) (St.slot 45 (bF x.graph) rfl rfl (St.ak (yx x.graph T.length nf U H zE) abS (.aq rfl) rfl ?_));rintro v46 _ rfl;refine St.bB (St.bS (iH (bE x.graph) 0) v46 (λy hy=>?_));obtain⟨rfl,Z⟩:=hy;obtain⟨m1,m2,_⟩:=uS H H.pos;rw[←Z]at m1 m2;rw[ct,ct]at m2
     have YP:=fz m1 U
     refine St.e7 3 1 (St.aP (.slice none 0 0) (show _=([]:List Nat).length from rfl) (show _=rows aJ (bV [])from rfl) (St.ee (Ev.build (au.eI rfl rfl rfl) (λw=>uE rfl rfl w)) (St.slot 47 (I3 frm tqo 0 y.nv.1) rfl rfl (go ?_))));refine St.ee (Ev.build (au.aX rfl rfl) (λw=>Hs rfl rfl w)) (St.slot 49 (.agg #[iv (-1),iv (i:Nat),bx.1]) rfl rfl (St.yw (ds:=[aI y,aL (λx:cT=>aI x.gr) d1.its]) (L:=[tI p (nW g b l f n d1.gb.1 sv.1 a) 223,aW a (eW mkStr d1.m),row d1.gb.1 229 6 d1.its.length (rows eT d1.its),row sv.1 35 1 d1.cE.length (rows cr (d1.cE.map Prod.fst)),row (.slice none 0 0) 3 1 (([]:List Nat)).length (rows aJ (bV (([]:List Nat))))]) (X:=(bX (ew 234 3) d1.its++bX (gP 3) d1.cE)) (post:=λv L' X'=>∃d3:nc,d3.cs=j6 n d1.cs ⟨frm,tqo,0,bE y⟩ ⟨-1,(i:Nat),([]:List Nat)⟩∧d3.o9=sv∧lY d3∧L'=[aD (aL (λx:cT=>aI x.gr) d3.its),tI p (nW g b l f n d3.gb.1 sv.1 a) 223,aW a (eW mkStr d3.m),row d3.gb.1 229 6 d3.its.length (rows eT d3.its),row sv.1 35 1 d3.cE.length (rows cr (d3.cE.map Prod.fst))]∧X'=(bX (ew 234 3) d3.its++bX (gP 3) d3.cE)) ?_ O0 (.eI rfl rfl rfl) rfl ?_))
     ·subst s
      exact(vP g b l f n hn d1 A p a frm tqo 0 y zE (λt ht=>by have:=(YP t ht).2;omega) zE zE (-1:Int) ((i:Nat):Int) (by unfold aZ;omega) zE bx [] q0 SO zE zE (A6 I B)).mono (λv H' ⟨d3,J,a2,a3,a4,a5,a6⟩=>⟨_,_,(by rw[a2]at a6;exact a6),d3,J,a2,a3,rfl,rfl⟩)
     rintro v50 _ _ ⟨d3,J,a2,a3,rfl,rfl⟩;refine St.DM (g8 ?_);refine St.aH ⟨i+1,d3⟩ ⟨by omega,a2,a3,by rw[jD,←D,WK,J,Z]⟩
    ·have hxw:x.word≠w:=by simpa using h40
     have WK:qs (ku f T n g) w frm tqo d1.cs i=d1.cs:=by unfold qs;rw[hxE,aA (show ¬(jg x).word=w from hxw)]
     refine g8 ?_;refine St.aH ⟨i+1,d1⟩ ⟨by omega,s,A,by rw[jD,←D,WK]⟩
   ·obtain rfl:i=g.aG.length:=by omega
    refine g5 ?_;refine St.mE d1 ⟨s,A,by rw[D];unfold mK;rw[aB O,hwd,hll]⟩
  ·have O:tqo≠frm+1:=by omega
   refine g12 ?_;refine St.lH (ι:=Nat×nc) (λ⟨i,d1⟩ T=>(58,iv i)::T) (λ⟨i,d1⟩=>(aD (aL (λx:cT=>aI x.gr) d1.its)::tI p (nW g b l f n d1.gb.1 sv.1 a) 223::aW a (eW mkStr d1.m)::row d1.gb.1 229 6 d1.its.length (rows eT d1.its)::row sv.1 35 1 d1.cE.length (rows cr (d1.cE.map Prod.fst))::aD (iX f)::aD (sl bZ g.rv.1 g.rules)::aD (aL bb g.rules)::aD (sl cy g.xv.1 g.aG)::aD (aL dz g.aG)::aD (sl bP b.1 (da T))::aD (sl bP l.1 (dZ T))::aD (tz)::aD (sl fK wv words)::(bX (ew 234 3) d1.its++bX (gP 3) d1.cE))) (λ⟨i,d1⟩=>i≤g.rules.length∧d1.o9=sv∧lY d1∧d1.cs=(List.range i).foldl (r5 (ku f T n g) frm tqo) d.cs) (λ⟨i,d1⟩=>g.rules.length-i) ⟨0,d⟩ (aC.k5 0 2 3 56 57) ⟨aQ _,hsv,hp,rfl⟩ ?_;rintro ⟨i,d1⟩ ⟨hi,s,A,D⟩
   dsimp only at hi s A D⊢
   refine g6 ?_;refine St.cq (λh59=> ?_) (λh59=> ?_)
   ·obtain⟨r,E⟩:=aF (show i<g.rules.length by omega)
    obtain⟨hk,H,El⟩:=MD i r E
    have F:=aeN i r E
    obtain⟨BD,hr1⟩:=Qh N P6 V O hs (show i<((ku f T n g)).rules.length by omega);rw[←D]at BD hr1;rw[F]at hr1;refine St.bh bb g.rules (x:=r) (aY E) (St.fF (aI r.graph) [bb r] (λρ h=>h (bb r) (aR ..) (aI r.graph) (aR ..)) (g8 ?_));refine St.ee (Ev.iD (.mk rfl) E BZ trivial oV gH.eq) (St.al (λb11=>go ?_));refine St.sA (.mk rfl) (.mk rfl) oV ?_ (h1:=(fY.2 λu hu=>bZ.one r u hu));refine g8 ?_;refine St.gt _ rfl rfl (λK=>Ev.cU (.mk rfl) Dw) rfl (St.gt _ rfl rfl (λK=>Ev.jN (aa.gv rfl K) fA trivial (by rfl)) rfl ?_);refine St.gt _ rfl rfl (λK=>Ev.move (.mk rfl)) rfl (St.gt _ rfl rfl (λK=>Ev.move (.mk rfl)) rfl (St.gt _ rfl rfl (λK=>Ev.sub (aa.gv rfl K) (aa.gv rfl K) (by first|omega|(simp only[cn]at K;omega))) rfl ?_));refine St.gt _ rfl rfl (λK=>Ev.leq (aa.gv rfl K) (aa.gv rfl K)) rfl (g3 ?_);refine St.cq (λh73=> ?_) (λh73=> ?_)
    ·have SQ:r5 (ku f T n g) frm tqo d1.cs i=sH (ku f T n g) i frm tqo (r.kids.toNat-1) d1.cs (bE r.graph) [] frm:=by unfold r5;rw[F,aB (show 1<(iE r).kids∧(iE r).kids≤(tqo:Int)-frm from h73)];rfl
     have UE:=hr1 h73.1
     refine St.gi aJ (g4 ?_);refine St.ee (Ev.jO 1 (.mk rfl) nI trivial jx rfl rfl) (St.slot 77 (bF r.graph) rfl rfl (g3 ?_));refine St.yw (ds:=[iX f,sl bZ g.rv.1 g.rules,aL bb g.rules,sl bP b.1 (da T),sl bP l.1 (dZ T),tz,sl aJ (.slice none 0 0) [],aI r.graph,aL (λx:cT=>aI x.gr) d1.its]) (L:=[tI p (nW g b l f n d1.gb.1 sv.1 a) 223,aW a (eW mkStr d1.m),row d1.gb.1 229 6 d1.its.length (rows eT d1.its),row sv.1 35 1 d1.cE.length (rows cr (d1.cE.map Prod.fst))]) (X:=(bX (ew 234 3) d1.its++bX (gP 3) d1.cE)) (post:=λv L' X'=>∃d3:nc,d3.cs=sH (ku f T n g) i frm tqo (r.kids.toNat-1) d1.cs (bE r.graph) [] frm∧d3.o9=sv∧lY d3∧L'=[aD (aL (λx:cT=>aI x.gr) d3.its),tI p (nW g b l f n d3.gb.1 sv.1 a) 223,aW a (eW mkStr d3.m),row d3.gb.1 229 6 d3.its.length (rows eT d3.its),row sv.1 35 1 d3.cE.length (rows cr (d3.cE.map Prod.fst))]∧X'=(bX (ew 234 3) d3.its++bX (gP 3) d3.cE)) ((FZ g b l T hT nf U f hf n hn p a frm tqo P6 V i zE r E hk (λi j=>(d.cs.at_ n i j).length) sv (r.kids.toNat-1) d1 r.graph bx [] frm s A BD UE H El (HM r (aY E)) (by simp only[List.length_nil];omega) (.inr ⟨rfl,by omega⟩) P6 (λk hk=>by cases hk)).mono (λv H' ⟨d3,J,a2,a3,a4,a5,a6⟩=>⟨_,_,a6,d3,J,a2,a3,rfl,rfl⟩)) Vq (.ag4 rfl rfl rfl rfl rfl rfl rfl) rfl ?_;rintro v81 _ _ ⟨d3,J,a2,a3,rfl,rfl⟩;refine St.DM (g8 ?_);refine St.aH ⟨i+1,d3⟩ ⟨by omega,a2,a3,by rw[jD,←D,SQ];exact J⟩
    ·have SQ:r5 (ku f T n g) frm tqo d1.cs i=d1.cs:=by unfold r5;rw[F,aA (show ¬(1<(iE r).kids∧(iE r).kids≤(tqo:Int)-frm)from λhh=>by have hh1:1<r.kids:=hh.1;have hh2:r.kids≤(tqo:Int)-frm:=hh.2;omega)]
     refine g8 ?_;refine St.aH ⟨i+1,d1⟩ ⟨by omega,s,A,by rw[jD,←D,SQ]⟩
   ·obtain rfl:i=g.rules.length:=by omega
    refine g5 ?_;refine St.mE d1 ⟨s,A,by rw[D];unfold mK;rw[aA O,hrl]⟩
 ·rintro d1 ⟨s,A,D⟩
  refine g6 ?_;rw[←D]at KS CJ Y
  have C:Room d1.cs (vy (ku f T n g) d1.cs ((d1.cs.at_ n frm tqo).drop (0))):=by rw[List.drop_zero];exact Room.grow (hs.room.mono Y) CJ
  refine St.lH (ι:=Nat×nc) (λ⟨k,d1⟩ T=>(12,iv k)::T) (λ⟨k,d1⟩=>(aD (aL (λx:cT=>aI x.gr) d1.its)::tI p (nW g b l f n d1.gb.1 sv.1 a) 223::aW a (eW mkStr d1.m)::row d1.gb.1 229 6 d1.its.length (rows eT d1.its)::row sv.1 35 1 d1.cE.length (rows cr (d1.cE.map Prod.fst))::aD (iX f)::aD (sl bZ g.rv.1 g.rules)::aD (aL bb g.rules)::aD (sl cy g.xv.1 g.aG)::aD (aL dz g.aG)::aD (sl bP b.1 (da T))::aD (sl bP l.1 (dZ T))::aD (tz)::aD (sl fK wv words)::(bX (ew 234 3) d1.its++bX (gP 3) d1.cE))) (λ⟨k,d1⟩=>d1.o9=sv∧lY d1∧gw T.length nf n d1.cs∧Room d1.cs (vy (ku f T n g) d1.cs ((d1.cs.at_ n frm tqo).drop (k)))∧∃fu,qz (ku f T n g) d1.cs ((d1.cs.at_ n frm tqo).drop (k))<fu∧pt (ku f T n g) frm tqo fu k d1.cs=pD (ku f T n g) words frm tqo d.cs) (λ⟨k,d1⟩=>qz (ku f T n g) d1.cs ((d1.cs.at_ n frm tqo).drop (k))) ⟨0,d1⟩ (aC.k3 0 2 3) ⟨s,A,KS,C,qz (ku f T n g) d1.cs (d1.cs.at_ n frm tqo)+1,by rw[List.drop_zero];exact Nat.lt_succ_self _,by unfold pD;rw[←D]⟩ ?_;rintro ⟨k,d1⟩ ⟨s,A,B,C,fu,hfu,hun⟩
  dsimp only at s A B C hfu hun⊢
  obtain⟨q,W⟩:=aF (show slt n frm tqo<d1.cE.length by rw[←Di,B.HO];exact tS zE V)
  have U5:=Vz W
  have hql:=AO B W
  have IX:=C.its
  rw[ik]at IX;refine g7 ?_;refine St.ee (Ev.jO 2 (.mk rfl) Cn trivial Ck rfl rfl) (St.slot 87 (.agg #[iv (n:Nat),sv.1]) rfl rfl (g2 ?_));refine St.call (DP n frm tqo (slt n frm tqo) hn zE zE rfl sv d1.cE q W) O1 (.eI rfl rfl rfl) rfl ?_;rintro v90 _ ⟨rfl,rfl⟩;refine St.bB (St.tail (bX (ew 234 3) d1.its++bX (gP 3) d1.cE) (row q.1.1 3 1 (q.2).length (rows aJ (bV (q.2)))::(bX (ew 234 3) d1.its++bX (gP 3) (d1.cE.eraseIdx (slt n frm tqo)))) (ph _ _ _ W) (go ?_));refine St.tail (row q.1.1 3 1 (q.2).length (rows aJ (bV (q.2)))::(bX (ew 234 3) d1.its++bX (gP 3) (d1.cE.eraseIdx (slt n frm tqo)))) (bX (ew 234 3) d1.its++bX (gP 3) d1.cE) (ph (ew 234 3) (gP 3) d1.its W).symm (g3 ?_);refine St.cq (λh92=> ?_) (λh92=> ?_)
  ·obtain⟨e,he⟩:=aF (show k<q.2.length by omega)
   have hke:(d1.cs.at_ n frm tqo)[k]?=some e:=by rw[U5];exact he
   have hel:e<d1.its.length:=by rw[←ik];exact B.qd (aY hke)
   obtain⟨G,UI⟩:=aF hel
   have YL:(d1.cs.ed e).cp=G.cp:=by unfold Cs.ed;rw[FT UI];rfl
   have apR:G.cp≤3:=by have:=B.gr (dy G) (dh (aY UI));exact this.2.2.1
   refine g9 ?_;refine St.ee (Ev.jO 2 (.mk rfl) Cn trivial Ck rfl rfl) (St.slot 98 (.agg #[iv (n:Nat),sv.1]) rfl rfl (g2 ?_));refine St.call (DP n frm tqo (slt n frm tqo) hn zE zE rfl sv d1.cE q W) O1 (.eI rfl rfl rfl) rfl ?_;rintro aoM _ ⟨rfl,rfl⟩;refine St.bB (St.tail (bX (ew 234 3) d1.its++bX (gP 3) d1.cE) (row q.1.1 3 1 (q.2).length (rows aJ (bV (q.2)))::(bX (ew 234 3) d1.its++bX (gP 3) (d1.cE.eraseIdx (slt n frm tqo)))) (ph _ _ _ W) (g2 ?_));refine St.ee (Ev.dw (.mk rfl) fA trivial zE (gg (iw he))) (St.tail (row q.1.1 3 1 (q.2).length (rows aJ (bV (q.2)))::(bX (ew 234 3) d1.its++bX (gP 3) (d1.cE.eraseIdx (slt n frm tqo)))) (bX (ew 234 3) d1.its++bX (gP 3) d1.cE) (ph (ew 234 3) (gP 3) d1.its W).symm (g13 ?_));refine St.ee (Ev.dw (.mk rfl) fA trivial zE (eo eT _ e 2 _ UI (by decide))) ?_;refine g10 ?_;refine St.cq (λakI=> ?_) (λakI=> ?_)
   ·have hc3:G.cp=3:=by omega
    obtain⟨f2,g1,gq2,g3⟩:=Rb (Q:=(ku f T n g)) (frm:=frm) (tqo:=tqo) hke (by rw[YL];exact hc3) hfu;refine g10 ?_;refine St.vQ ⟨k+1,d1⟩ ⟨s,A,B,C.mono (by unfold vy;rw[p9 _ hke];exact Nat.le_add_left _ _),f2,gq2,by rw[←g1];exact hun⟩ g3 (by repeat(first|exact Sub.nil|refine Sub.cons (by first|rfl|exact congrArg (λz=>some (iv z)) (by first|omega|(dsimp only;omega))|exact congrArg (λz=>some (Value.bool z)) (by first|assumption|exact jI (by assumption))) ?_)) (λ_ hw=>hw.sub)
   ·have hc3:G.cp≠3:=by omega
    have YK:(d1.cs.ed e).cp≠3:=by rw[YL];exact hc3
    obtain⟨f2,g1,gq2⟩:=Zd (Q:=(ku f T n g)) (frm:=frm) (tqo:=tqo) hke YK hfu;refine g14 ?_;refine St.lH (ι:=Nat×nc) (λ⟨i,d2⟩ T=>(122,iv i)::T) (λ⟨i,d2⟩=>(aD (aL (λx:cT=>aI x.gr) d2.its)::tI p (nW g b l f n d2.gb.1 sv.1 a) 223::aW a (eW mkStr d2.m)::row d2.gb.1 229 6 d2.its.length (rows eT d2.its)::row sv.1 35 1 d2.cE.length (rows cr (d2.cE.map Prod.fst))::aD (iX f)::aD (sl bZ g.rv.1 g.rules)::aD (aL bb g.rules)::aD (sl cy g.xv.1 g.aG)::aD (aL dz g.aG)::aD (sl bP b.1 (da T))::aD (sl bP l.1 (dZ T))::aD (tz)::aD (sl fK wv words)::(bX (ew 234 3) d2.its++bX (gP 3) d2.cE))) (λ⟨i,d2⟩=>i≤g.rules.length∧d2.o9=sv∧lY d2∧d2.cs=(List.range i).foldl (pq (ku f T n g) frm tqo e) d1.cs) (λ⟨i,d2⟩=>g.rules.length-i) ⟨0,d1⟩ (aC.k8 0 2 3 12 13 14 120 121) ⟨aQ _,s,A,rfl⟩ ?_;rintro ⟨i,d2⟩ ⟨hi,BE,MB,P⟩
    dsimp only at hi BE MB P⊢
    refine g6 ?_;refine St.cq (λakL=> ?_) (λakL=> ?_)
    ·obtain⟨r,E⟩:=aF (show i<g.rules.length by omega)
     obtain⟨hk,H,El⟩:=MD i r E
     have F:=aeN i r E
     obtain⟨YV,Fv,UE⟩:=Ra N P6 V B C hke YK (show i<((ku f T n g)).rules.length by omega);rw[←P]at YV Fv UE;rw[F]at UE
     have amA:e<d2.its.length:=by rw[←ik];exact fg (by rw[ik];exact hel) Fv.more
     obtain⟨o,M⟩:=aF amA
     have WT:=aY M
     obtain⟨IV,P7⟩:=WU YV M
     have al8:o.cp=G.cp:=by have h:=congrArg oe.cp (Fv.ed e (by rw[ik];exact hel));rw[YL]at h;rw[←h];unfold Cs.ed;rw[FT M];rfl
     have aeF:(d2.cs.ed e).cp=G.cp:=by rw[←al8];unfold Cs.ed;rw[FT M];rfl
     have R:pq (ku f T n g) frm tqo e d2.cs i=if r.kids≠1 then d2.cs else match ko (ku f T n g) d2.cs i (bE r.graph) 1 e with|none=>d2.cs|some x=>j6 n d2.cs ⟨frm,tqo,G.cp+1,mP x⟩ ⟨i,0,[e]⟩:=by unfold pq;rw[F,aeF];rfl
     refine St.bh bb g.rules (x:=r) (aY E) (St.fF (aI r.graph) [bb r] (λρ h=>h (bb r) (aR ..) (aI r.graph) (aR ..)) (g8 ?_));refine St.ee (Ev.iD (.mk rfl) E BZ trivial oV gH.eq) (St.al (λb16=>go ?_));refine St.sA (.mk rfl) (.mk rfl) oV ?_ (h1:=(fY.2 λu hu=>bZ.one r u hu));refine g9 ?_;refine St.split 130 _ rfl (λhk1=> ?_) (λhk1=> ?_)
     ·have PE:r.kids≠1:=by simpa using hk1
      refine St.dq rfl rfl rfl (St.dq rfl rfl rfl (St.dq rfl rfl rfl (St.dq rfl rfl rfl (St.dq rfl rfl rfl (St.ee (Ev.o5 (.mk rfl) rfl (.mk rfl)) (g2 ?_))))));refine St.acP _ rfl rfl (g9 ?_);refine St.aH ⟨i+1,d2⟩ ⟨by omega,BE,MB,by rw[jD,←P,R,aB PE]⟩
     ·have PE:r.kids=1:=by simpa using hk1
      have am0:=UE PE
      refine St.eK rfl rfl (go ?_);refine St.eK rfl rfl (go ?_);refine St.eK rfl rfl (go ?_);refine St.eK rfl rfl (St.dup (iX f) (St.tail (bX (ew 234 3) d2.its++bX (gP 3) d2.cE) (row o.wv.1 234 3 (o.cD).length (rows mZ (o.cD))::row o.tv.1 3 1 (o.cB).length (rows aJ (o.cB))::(bX (jd 3) o.cD++(bX (ew 234 3) (d2.its.eraseIdx e)++bX (gP 3) d2.cE))) (zf _ _ M) (St.call (uA f hf (nW g b l f n d2.gb.1 sv.1 a) rfl p i 1 zE zE zE d2.gb rfl d2.its e o M (MB.cB o WT)) Vr (.gn rfl rfl rfl rfl) rfl ?_)));rintro aqU _ ⟨rfl,rfl⟩;refine St.kG (St.pk [row o.wv.1 234 3 (o.cD).length (rows mZ (o.cD)),row o.tv.1 3 1 (o.cB).length (rows aJ (o.cB))] (bX (jd 3) o.cD++(bX (ew 234 3) (d2.its.eraseIdx e)++bX (gP 3) d2.cE)) (bX (ew 234 3) d2.its++bX (gP 3) d2.cE) (zf (ew 234 3) (bX (gP 3) d2.cE) M).symm (St.eK rfl rfl (go ?_)));refine St.ee (Ev.p8 (.mk rfl) rfl (.mk rfl)) (g2 ?_);refine St.cond _ rfl (λYG=> ?_) (λYG=> ?_)
      ·skip
       have IQ:o.cB.any (qc f i 1)=false:=by simpa using YG
       have htr:ko (ku f T n g) d2.cs i (bE r.graph) 1 e=none:=RX M IQ
       refine g9 ?_;refine St.aH ⟨i+1,d2⟩ ⟨by omega,BE,MB,by rw[jD,←P,R,aA (λh=>h PE),htr]⟩
      ·skip
       have IQ:o.cB.any (qc f i 1)=true:=by simpa using YG
       have htr:ko (ku f T n g) d2.cs i (bE r.graph) 1 e=nZ (iP T) (bE r.graph) 1 (bE o.gr):=L8 (T:=T) (n:=n) (g:=g) (y:=bE r.graph) M IQ
       refine g3 ?_;refine St.fF (aI o.gr) [aL (λx:cT=>aI x.gr) d2.its] (λρ h=>h _ (aR ..) o WT) (St.lO d2.gb.1 zE (λbs cs PI=>?_))
       have B:gw T.length nf n d2.cs:=YV
       have I:Room d2.cs 1:=am0
       have IX:=I.its
       rw[ik]at IX;obtain⟨q0,SO⟩:=aF (show slt n frm tqo<d2.cE.length by rw[←Di,B.HO];exact tS zE V)
       have aeV:=AO B SO
       refine St.ef (aD (sl bP b.1 (da T))::aD (sl bP l.1 (dZ T))::aD tz::aD (aI r.graph)::aD (aI o.gr)::(bX (ew 234 3) d2.its++bX (gP 3) d2.cE)) mixed (λnp ns=>SW.gd 0 ?_);refine SW.gd 1 ?_;refine SW.gd 2 ?_;refine SW.dd 3 rfl (λ_=>Ev.jO 2 (.mk rfl) xJ trivial xH rfl rfl) (SW.slot 141 (kX b l) rfl rfl (SW.gd 4 ?_));refine SW.dd 5 rfl (λ_=>Ev.jO 1 (.mk rfl) nI trivial jx rfl rfl) (SW.slot 143 (bF r.graph) rfl rfl (SW.gd 6 ?_));refine SW.gd 7 ?_;refine SW.gd 8 ?_;refine SW.gd 9 ?_;refine SW.gd 10 ?_;refine SW.dd 11 rfl (λ_=>Ev.nT (k:=e) PI (.mk rfl) (.mk rfl) pH pG zE zE) (SW.dd 12 rfl (λ_=>Ev.uJ PI (.mk rfl) uN) (SW.dd 13 rfl (λ_=>Ev.uJ PI (.mk rfl) yH) (SW.dd 14 rfl (λ_=>Ev.Ig (Rr:=eT) (sz:=1) (.mk rfl) M nI trivial jx zE (by decide) (by decide)) ?_)));refine SW.slot 152 (bF o.gr) rfl rfl (SW.t2 15 19 ?_ ?_)
       focus
        refine St.ak (rQ b l T hT nf U r.graph o.gr 1 H IV El P7 (HM r (aY E) 1 zE zE)) Jz (.gn rfl rfl rfl rfl) rfl ?_;rintro aoT _ ⟨u,z,rfl,hz,rfl⟩;refine St.bB (St.bS z u (λy hy=>?_));obtain⟨rfl,Z⟩:=hy;refine g2 ?_;refine SW.go (SW.gd 16 ?_);refine SW.gd 17 ?_;refine SW.gd 18 ?_;refine SW.t1 19 ?_;refine St.al (λZw=>g2 ?_);refine SW.go (SW.t1 20 ?_);refine g3 ?_;refine SW.go (SW.gd 21 ?_);refine SW.dn ?_
       rotate_left
       focus
        refine St.al (λZw=>g2 ?_);refine SW.go (SW.t1 15 ?_);refine St.ak (rQ b l T hT nf U r.graph o.gr 1 H IV El P7 (HM r (aY E) 1 zE zE)) Jz (.gn rfl rfl rfl rfl) rfl ?_;rintro aoT _ ⟨u,z,rfl,hz,rfl⟩;refine St.bB (St.bS z u (λy hy=>?_));obtain⟨rfl,Z⟩:=hy;refine g2 ?_;refine SW.go (SW.gd 16 ?_);refine SW.gd 17 ?_;refine SW.gd 18 ?_;refine SW.t1 20 ?_;refine g3 ?_;refine SW.go (SW.gd 21 ?_);refine SW.dn ?_
       all_goals
        refine g6 ?_;refine St.cond _ rfl (λYH=> ?_) (λYH=> ?_)
        ·skip
         obtain⟨z1,S⟩:∃z1,nZ (iP T) (bE r.graph) 1 (bE o.gr)=some z1:=Option.isSome_iff_exists.1 (by simpa using YH)
         have hzz:=hz z1 S
         rw[hzz]at Z;rw[S,←Z]at htr;rw[←Z]at S;obtain⟨y1,y2,y3⟩:=JQ hmt H IV S
         have hyl:y.nodes.length≤60:=by rw[←ct];exact y2
         have hyt:0≤nS (bE y) 0:=(yX y1).2 (y3 0 ((yX H).1 (HM r (aY E) 0 zE zE)))
         refine g6 ?_;refine St.slot 161 (iv ((G.cp+1:Nat):Int)) rfl (congrArg iv (by push_cast;rfl)) ?_;refine go ?_;refine St.slot 162 (bF y) rfl rfl (St.ak (qV y T.length nf U y1 zE hyt) Nz (.aq rfl) rfl ?_);rintro aoU _ rfl;refine St.bB (St.bS (mP (bE y)) aoU (λmy hm=>?_));obtain⟨rfl,WM⟩:=hm;obtain⟨m1,m2⟩:=qw y1 y2;rw[←WM]at m1 m2;rw[ct]at m2
         have YP:=fz m1 U
         refine St.ee (Ev.build (au.gn rfl rfl rfl rfl) (λw=>yp rfl rfl rfl w)) (St.slot 164 (I3 frm tqo (G.cp+1) my.nv.1) rfl rfl (g2 ?_));refine St.iu rfl (.aq rfl) bQ dQ ec rfl rfl (by simp[Value.cells]) rfl rfl (λLe=> ?_);refine St.aP (tO Le 1 1) (show _=[e].length from rfl) (show _=rows aJ (bV [e])from rfl) (St.ee (Ev.build (au.aX rfl rfl) (λw=>yq rfl rfl w)) (St.slot 168 (.agg #[iv (i:Nat),iv 0,tO Le 1 1]) rfl rfl (St.yw (ds:=[aI my,aL (λx:cT=>aI x.gr) d2.its]) (L:=[tI p (nW g b l f n d2.gb.1 sv.1 a) 223,aW a (eW mkStr d2.m),row d2.gb.1 229 6 d2.its.length (rows eT d2.its),row sv.1 35 1 d2.cE.length (rows cr (d2.cE.map Prod.fst)),row (tO Le 1 1) 3 1 ([e]).length (rows aJ (bV ([e])))]) (X:=(bX (ew 234 3) d2.its++bX (gP 3) d2.cE)) (post:=λv L' X'=>∃d3:nc,d3.cs=j6 n d2.cs ⟨frm,tqo,(G.cp+1),bE my⟩ ⟨(i:Nat),0,[e]⟩∧d3.o9=sv∧lY d3∧L'=[aD (aL (λx:cT=>aI x.gr) d3.its),tI p (nW g b l f n d3.gb.1 sv.1 a) 223,aW a (eW mkStr d3.m),row d3.gb.1 229 6 d3.its.length (rows eT d3.its),row sv.1 35 1 d3.cE.length (rows cr (d3.cE.map Prod.fst))]∧X'=(bX (ew 234 3) d3.its++bX (gP 3) d3.cE)) ?_ O0 (.eI rfl rfl rfl) rfl ?_)))
         ·subst BE
          exact(vP g b l f n hn d2 MB p a frm tqo (G.cp+1) my zE (λt ht=>by have:=(YP t ht).2;omega) zE zE ((i:Nat):Int) (0:Int) (by unfold aZ;omega) zE ⟨tO Le 1 1,rfl⟩ [e] q0 SO zE zE (A6 I B)).mono (λv H' ⟨d3,J,a2,a3,a4,a5,a6⟩=>⟨_,_,(by rw[a2]at a6;exact a6),d3,J,a2,a3,rfl,rfl⟩)
         rintro aqX _ _ ⟨d3,J,a2,a3,rfl,rfl⟩;refine St.DM (g8 ?_);refine St.aH ⟨i+1,d3⟩ ⟨by omega,a2,a3,by rw[jD,←P,R,aA (λh=>h PE),htr,J,WM]⟩
        ·skip
         have hsn:nZ (iP T) (bE r.graph) 1 (bE o.gr)=none:=by simpa using YH
         rw[hsn]at htr;refine g8 ?_;refine St.aH ⟨i+1,d2⟩ ⟨by omega,BE,MB,by rw[jD,←P,R,aA (λh=>h PE),htr]⟩
    ·obtain rfl:i=g.rules.length:=by omega
     rw[←hrl]at P;obtain⟨s1,s2,s3,s4,s5⟩:=H3 N P6 V B hke YK P;rw[←P]at g1;refine g12 ?_;refine St.vQ ⟨k+1,d2⟩ ⟨BE,MB,s1,Room.grow (C.mono s5) s2,f2,fg s4 (Nat.lt_succ_iff.1 gq2),by rw[←g1];exact hun⟩ (by dsimp only;exact s4) (by repeat(first|exact Sub.nil|refine Sub.cons (by first|rfl|exact congrArg (λz=>some (iv z)) (by first|omega|(dsimp only;omega))|exact congrArg (λz=>some (Value.bool z)) (by first|assumption|exact jI (by assumption))) ?_)) (λ_ hw=>hw.sub)
  ·have SM:(d1.cs.at_ n frm tqo).length≤k:=by rw[U5];omega
   rw[VN (Q:=(ku f T n g)) SM]at hun;refine g4 ?_;refine St.fi (St.rV [] (aD (aL (λx:cT=>aI x.gr) d1.its)::tI p (nW g b l f n d1.gb.1 sv.1 a) 223::aW a (eW mkStr d1.m)::row d1.gb.1 229 6 d1.its.length (rows eT d1.its)::row sv.1 35 1 d1.cE.length (rows cr (d1.cE.map Prod.fst))::(bX (ew 234 3) d1.its++bX (gP 3) d1.cE)) ?_);exact⟨d1,hun,s,A,rfl⟩
def jc:Rp dC:=⟨1,by decide,λx=>[x.nv.1],λ_=>True,λ_=>rfl,λx u h=>by simp at h;subst h;exact x.nv.2⟩
instance (x:dC):gH jc x [x.nv.1]:=⟨rfl⟩
def BI (mt:Nat→Nat→Option Nat)(r:kM)(M:List eB)(j:Nat):List Bool:=if(j:Int)<r.kids then M.map λy=>(dT mt r.graph (nS r.graph ((j:Int)+1)).toNat y).isSome else []
structure we (f:lF)(g:fD)(mt:Nat→Nat→Option Nat):Prop where
 nr:f.nr=g.rules.length
 nl:f.nl=g.aG.length
 kids:f.kids=g.rules.map (·.kids)
 al:f.sF.length=g.rules.length
 at_:∀(r:Nat) (x:s9) (rr:kM),f.sF[r]?=some x→g.rules[r]?=some rr→∀j,j<3→(x.at_ j).2=BI mt rr (It g) j
theorem GI (g:fD):(It g).length=g.rules.length+g.aG.length:=by unfold It;rw[cA,aO,aO]
theorem we.ln {f:lF}{g:fD}{mt:Nat→Nat→Option Nat}(h:we f g mt)(d:g.rules.length≤1000)(e:g.aG.length≤1000)(hk:∀r∈g.rules,r.kids≤3):ya f:=by
 refine⟨by rw[h.nr];exact d,by rw[h.nl];exact e,by rw[h.kids,aO,h.nr],by rw[h.al,h.nr],λk hm=> ?_,λr x k j hx a c=> ?_⟩
 ·rw[h.kids]at hm
  obtain⟨rr,i,rfl⟩:=cS.1 hm;exact hk rr i
 ·rw[h.kids,bJ]at a
  cases b:g.rules[r]? with
  |none=>rw[b]at a;cases a
  |some rr=>
   rw[b]at a;obtain rfl:=Option.some.inj a
   have m:=hk rr (aY b)
   have l:(j:Int)<rr.kids:=c
   rw[h.at_ r x rr hx b j zE];unfold BI;rw[aB c,aO,GI,h.nr,h.nl]
theorem A2 {f:lF}{g:fD}{mt:Nat→Nat→Option Nat}(h:we f g mt)(top:Int):qR f.nr f.nl top=J0 g top:=by unfold qR J0;rw[h.nr,h.nl]
theorem NW {f:lF}{g:fD}{mt:Nat→Nat→Option Nat}(h:we f g mt)(hk:∀r∈g.rules,r.kids≤3):qc f=Xc g mt:=by
 funext rule a top
 unfold qc Xc;rw[A2 h]
 rcases Decidable.em (0≤J0 g top)with h1|h1
 case inr=>rw[df h1];simp only[Bool.false_and]
 rcases Decidable.em (1≤a)with d|d
 case inr=>rw[df d];simp only[Bool.false_and,Bool.and_false]
 rw[cX h1,cX d]
 rcases dI rule g.rules.length with b|b
 case inr=>
  have e:f.kids.getD rule 0=0:=by rw[ax,iR (by rw[h.kids,aO];exact b)];rfl
  rw[e,df (show ¬((a:Int)≤0) by omega),df (show ¬rule<g.rules.length by omega)]
  simp only[Bool.false_and,Bool.and_false]
 obtain⟨rr,c⟩:=aF b;obtain⟨x,hx⟩:=aF (show rule<f.sF.length by rw[h.al];exact b)
 have k:f.kids.getD rule 0=rr.kids:=by rw[h.kids,ax,bJ,c];rfl
 have e2:g.rules.getD rule nX=rr:=by rw[ax,c];rfl
 have l:f.sF.getD rule Xf=x:=by rw[ax,hx];rfl
 rw[k,e2,l,cX b]
 rcases Decidable.em ((a:Int)≤rr.kids)with i|i
 case inr=>rw[df i];simp only[Bool.false_and,Bool.and_false]
 rw[cX i]
 have n:=hk rr (aY c)
 obtain⟨j,rfl⟩:∃j,a=j+1:=⟨a-1,by omega⟩
 have m:=h.at_ rule x rr hx c j zE
 have hp:=Kj (nr:=f.nr) (nl:=f.nl) (top:=top) (by rw[A2 h];exact h1)
 rw[A2 h]at hp
 show(true&&true&&true&&((x.at_ j).2.getD (J0 g top).toNat false))=(true&&true&&true&&true&&_)
 rw[m];unfold BI;rw[aB (show(j:Int)<rr.kids by omega)]
 simp only[Bool.true_and]
 rw[ax,ax,bJ];obtain⟨y,hy⟩:=aF (show(J0 g top).toNat<(It g).length by rw[GI,←h.nr,←h.nl];exact hp);rw[hy]
 show(dT mt rr.graph (nS rr.graph ((j:Int)+1)).toNat y).isSome=(dT mt rr.graph (nS rr.graph ((j+1:Nat):Int)).toNat y).isSome
 rw[show((j+1:Nat):Int)=(j:Int)+1 by push_cast;rfl]
def Eb (s:List Bool):Nat:=s.countP λb=> !b
theorem Rg {s:List Bool}{o:Nat}(h:s[o]?=some false):Eb (s.set o true)+1=Eb s:=by
 unfold Eb
 induction s generalizing o with
 |nil=>cases h
 |cons b s a=>
  cases o with
  |zero=>obtain rfl:=Option.some.inj h;rw[Av,sf,sf];simp
  |succ o=>
   rw[HF,sf,sf]
   have:=a (o:=o) h
   omega
theorem Rf (n:Nat):Eb (List.replicate n false)=n:=by
 unfold Eb
 induction n with
 |zero=>rfl
 |succ n a=>rw[List.replicate_succ,sf,a];rfl
abbrev DX:ah×List Bool:=(bx,[])
def bG (a:TypeId)(p:ah×List Bool):List ay:=[row p.1.1 a 1 p.2.length (rows eO p.2)]
def bD (p:ah×List Bool):e8:=sl eO p.1.1 p.2
theorem Xg {c:Ctx}(b:TypeId)(a:ah×List Bool)(H:List ay)(w:World)(h:Mm c (bG b a++H) w):Mm c (aD (bD a)::H) w:=by
 obtain⟨ρ,k⟩:=h.out;exact k.bU eO a.2 rfl rfl (λ_ _=>trivial)
def yn (P:List (ah×List Bool)):s9:=⟨(P.getD 0 DX).1,(P.getD 1 DX).1,(P.getD 2 DX).1,(P.getD 0 DX).2,(P.getD 1 DX).2,(P.getD 2 DX).2⟩
theorem Na (P:List (ah×List Bool)){j:Nat}(h:j<3):(yn P).at_ j=P.getD j DX:=by
 rcases j with _|_|_|j
 ·rfl
 ·rfl
 ·rfl
 ·omega
theorem QV {l:List Bool}{k:Nat}{x:Bool}(h:l[k]?=some x):(rows eO l)[k*1+0]?=some (.bool x):=by
 have:=eo eO l k 0 x h (by decide)
 exact this
theorem Mh (l:List Bool)(k:Nat)(x:Bool):(rows eO l).set (k*1+0) (.bool x)=rows eO (l.set k x):=by
 rw[fU,hY];exact CV (Rr:=eO) rfl rfl l k
theorem zI (a:Nat)(b c:ah)(T:List er)(d:j5 T)(nf:Nat)(e:nf≤100)(x y:dC)(hx:eG T.length nf (bE x))(hy:eG T.length nf (bE y))(f:x.nodes.length≤60)(g:y.nodes.length≤60)(node:Nat)(i:node<x.nodes.length):
 dK prog 166 ([bF x,iv (node:Nat),bF y]++ [tW a]).toArray [iG a [b.1,c.1],sl bP b.1 (da T),sl bP c.1 (dZ T),tz,aI x,aI y] (.bool (dT (iP T) (bE x) node (bE y)).isSome):=(Fg a b c T d nf e x y hx hy f g node i).mono λ_ _ h=>h.1
theorem Sf (g:eU)(s t:ah)(T:List er)(hT:j5 T)(nf:Nat)(PG:nf≤100)(YX:g.rules.length≤40)(hxn:g.aG.length≤100)(hru:∀r∈g.rules,(1≤r.kids∧r.kids≤3)∧eG T.length nf (bE r.graph)∧r.graph.nodes.length≤60)(YO:∀x∈g.aG,eG T.length nf (bE x.graph)∧x.graph.nodes.length≤60)(UG:eG T.length nf (bE g.start)∧g.start.nodes.length≤60)
 (HM:∀r∈g.rules,∀k:Int,0≤k→k≤r.kids→0≤nS (bE r.graph) k):dx prog 115 #[eF g,kX s t] ([sl bZ g.rv.1 g.rules,aL bb g.rules,sl cy g.xv.1 g.aG,aL dz g.aG,aI g.start,sl bP s.1 (da T),sl bP t.1 (dZ T),tz].map aD) (λv H'=>∃f:lF,v=Lv f∧we f (bK g) (iP T)∧H'=[aD (iX f)]):=by
 refine dx.body (args:=[eF g,kX s t]) 196 func115 rfl ntmps115 rfl (λc=>St.cast (H':=[aD (sl bZ g.rv.1 g.rules),aD (aL bb g.rules),aD (sl cy g.xv.1 g.aG),aD (aL dz g.aG),aD (aI g.start),aD (sl bP s.1 (da T)),aD (sl bP t.1 (dZ T)),aD (tz)]) rfl ?_)
 have YX:g.rules.length≤40:=YX
 have hmt:=GH T
 have MD:∀(i:Nat) (r:cK),g.rules[i]?=some r→(1≤r.kids∧r.kids≤3)∧eG T.length nf (bE r.graph)∧r.graph.nodes.length≤60:=λi r h=>by have h1:=hru r (aY h);exact h1
 have YN:∀(i:Nat) (x:fq),g.aG[i]?=some x→eG T.length nf (bE x.graph)∧x.graph.nodes.length≤60:=λi x h=>YO x (aY h)
 refine g2 ?_;refine St.cC (.mk rfl) rfl (λb2=>St.cC (.mk rfl) rfl (λR=>St.al (λb4=>g10 ?_)));refine St.ee (Ev.build (au.aX rfl rfl) (λw=>Ho rfl rfl w)) (St.slot 33 (.agg #[iv (g.rules.length:Nat),iv (g.aG.length:Nat),(.slice none 0 0),(.slice none 0 0),(.slice none 0 0),(.slice none 0 0)]) rfl rfl (St.al (λb5=>g18 ?_)));refine St.e7 30 1 (St.aP (.slice none 0 0) (show _=([]:List dC).length from rfl) (show _=rows jc []from rfl) (St.dN aI (St.lH (ι:=Nat×ah×List dC) (λ⟨i,v,M⟩ T=>(37,iv i)::(6,v.1)::T) (λ⟨i,v,M⟩=>(row v.1 30 1 (M).length (rows jc (M))::aD (aL aI (M))::tI b2 (kR g) 32::tI R [s.1,t.1] 154::tI b4 [iv 0,iv 0,(.slice none 0 0),(.slice none 0 0),(.slice none 0 0),(.slice none 0 0)] 217::tI b5 [iv (g.rules.length:Nat),iv (g.aG.length:Nat),bx.1,bx.1,bx.1,bx.1] 217::aD (sl bZ g.rv.1 g.rules)::aD (aL bb g.rules)::aD (sl cy g.xv.1 g.aG)::aD (aL dz g.aG)::aD (aI g.start)::aD (sl bP s.1 (da T))::aD (sl bP t.1 (dZ T))::aD tz::[])) (λ⟨i,v,M⟩=>i≤g.rules.length∧M.map bE=(g.rules.take i).map (λr=>mP (bE r.graph))∧(∀y∈M,eG T.length nf (bE y)∧y.nodes.length≤60)) (λ⟨i,v,M⟩=>g.rules.length-i) ⟨0,bx,[]⟩ (aC.k6 2 3 4 5 35 36) ⟨aQ _,rfl,λ_ h=>by cases h⟩ ?_)));rintro ⟨i,v,M⟩ ⟨hi,U,C⟩
 dsimp only at hi U C⊢
 have hMl:M.length=i:=by have:=congrArg List.length U;rw[aO,aO,eR]at this;omega
 refine g6 ?_;refine St.cq (λh38=> ?_) (λh38=> ?_)
 ·obtain⟨r,D⟩:=aF (show i<g.rules.length by omega)
  obtain⟨hk,IU,El⟩:=MD i r D
  have SQ:=fz IU PG
  refine St.bh bb g.rules (x:=r) (aY D) (St.fF (aI r.graph) [bb r] (λρ h=>h (bb r) (aR ..) (aI r.graph) (aR ..)) (g7 ?_));refine St.ee (Ev.iD (.mk rfl) D BZ trivial oV gH.eq) (St.al (λb8=>St.sA (.mk rfl) (.mk rfl) oV ?_ (h1:=(fY.2 λu hu=>bZ.one r u hu))));refine g5 ?_;refine St.ee (Ev.jO 1 (.mk rfl) nI trivial jx rfl rfl) (St.slot 43 (bF r.graph) rfl rfl (St.ak (qV r.graph T.length nf PG IU zE (HM r (aY D) 0 zE zE)) Nz (.aq rfl) rfl ?_));rintro v44 _ rfl;refine St.bB (St.bS (mP (bE r.graph)) v44 (λmy hm=>?_));obtain⟨rfl,WM⟩:=hm;obtain⟨m1,m2⟩:=qw IU (by rw[ct];exact El);rw[←WM]at m1 m2;rw[ct]at m2;refine St.iu rfl (.aq rfl) Co jx VX rfl rfl (by intro u hu;simp only[List.mem_cons,List.not_mem_nil,or_false]at hu;subst hu;rfl) rfl rfl (λb45=> ?_);refine St.bH (.mk rfl) (.mk rfl) Co jx VX aa3 (by intro u hu;have N9:u∈[my.nv.1]:=hu;rw[ba.1 N9];exact my.nv.2) zE zE rfl rfl rfl rfl (λv46 ap8=> ?_);refine St.aP v46 (show _=(M++ [my]).length from cW) (show _=rows jc (M++ [my]) by rw[bN];rfl) ?_;refine St.cH v46 (λh46 _=>St.fF (aL aI (M++ [my])) [aL aI M,aI my] (λρ h x hx=>by rcases ca.1 hx with hx|hx;exact h _ (aR ..) x hx;rw[ba.1 hx];exact h _ (cO _ (aR ..))) ?_);refine g9 ?_;refine St.aH ⟨i+1,⟨v46,h46⟩,M++ [my]⟩ ⟨by omega,by rw[cY,U,ag D,cY];show _++ [bE my]=_++ [mP (bE r.graph)];rw[WM],λy hy=>by rcases ca.1 hy with hy|hy;exact C y hy;rw[ba.1 hy];exact⟨m1,m2⟩⟩
 ·obtain rfl:i=g.rules.length:=by omega
  rw[iT]at U;refine g15 ?_;refine St.lH (ι:=Nat×ah×List dC) (λ⟨i,v,M⟩ T=>(51,iv i)::(6,v.1)::T) (λ⟨i,v,M⟩=>(row v.1 30 1 (M).length (rows jc (M))::aD (aL aI (M))::tI b2 (kR g) 32::tI R [s.1,t.1] 154::tI b4 [iv 0,iv 0,(.slice none 0 0),(.slice none 0 0),(.slice none 0 0),(.slice none 0 0)] 217::tI b5 [iv (g.rules.length:Nat),iv (g.aG.length:Nat),bx.1,bx.1,bx.1,bx.1] 217::aD (sl bZ g.rv.1 g.rules)::aD (aL bb g.rules)::aD (sl cy g.xv.1 g.aG)::aD (aL dz g.aG)::aD (aI g.start)::aD (sl bP s.1 (da T))::aD (sl bP t.1 (dZ T))::aD tz::[])) (λ⟨i,v,M⟩=>i≤g.aG.length∧M.map bE=g.rules.map (λr=>mP (bE r.graph))++(g.aG.take i).map (λx=>bE x.graph)∧(∀y∈M,eG T.length nf (bE y)∧y.nodes.length≤60)) (λ⟨i,v,M⟩=>g.aG.length-i) ⟨0,v,M⟩ (aC.k6 2 3 4 5 49 50) ⟨aQ _,by rw[U,pL,kb,ib],C⟩ ?_;rintro ⟨i,v,M⟩ ⟨hi,U,C⟩
  dsimp only at hi U C⊢
  have hMl:M.length=g.rules.length+i:=by have:=congrArg List.length U;rw[aO,cA,aO,aO,eR]at this;omega
  refine g6 ?_;refine St.cq (λh52=> ?_) (λh52=> ?_)
  ·obtain⟨x,hx⟩:=aF (show i<g.aG.length by omega)
   obtain⟨IU,El⟩:=YN i x hx;refine St.bh dz g.aG (x:=x) (aY hx) (St.fF (aI x.graph) [dz x] (λρ h=>h (dz x) (aR ..) (aI x.graph) (aR ..)) (g7 ?_));refine St.ee (Ev.iD (.mk rfl) hx xI trivial mH gH.eq) (St.al (λb10=>St.sA (.mk rfl) (.mk rfl) mH ?_ (h1:=(fY.2 λu hu=>cy.one x u hu))));refine g5 ?_;refine St.ee (Ev.jO 1 (.mk rfl) nI trivial jx rfl rfl) (St.slot 57 (bF x.graph) rfl rfl (St.iu rfl (.aq rfl) Co jx VX rfl rfl (by intro u hu;simp only[List.mem_cons,List.not_mem_nil,or_false]at hu;subst hu;rfl) rfl rfl (λb58=> ?_)));refine St.bH (.mk rfl) (.mk rfl) Co jx VX aa3 (by intro u hu;have N9:u∈[x.graph.nv.1]:=hu;rw[ba.1 N9];exact x.graph.nv.2) zE zE rfl rfl rfl rfl (λv59 aqB=> ?_);refine St.aP v59 (show _=(M++ [x.graph]).length from cW) (show _=rows jc (M++ [x.graph]) by rw[bN];rfl) ?_;refine St.cH v59 (λh59 _=>St.fF (aL aI (M++ [x.graph])) [aL aI M,aI x.graph] (λρ h x hx=>by rcases ca.1 hx with hx|hx;exact h _ (aR ..) x hx;rw[ba.1 hx];exact h _ (cO _ (aR ..))) ?_);refine g9 ?_;refine St.aH ⟨i+1,⟨v59,h59⟩,M++ [x.graph]⟩ ⟨by omega,by rw[cY,U,ag hx,cY,dg];rfl,λy hy=>by rcases ca.1 hy with hy|hy;exact C y hy;rw[ba.1 hy];exact⟨IU,El⟩⟩
  ·obtain rfl:i=g.aG.length:=by omega
   rw[iT]at U
   have hMg:M.map bE=It (bK g):=by rw[U];unfold It bK;simp only[List.map_map];rfl
   obtain⟨⟨mv,hmv⟩,MF⟩:∃z,z=v:=⟨v,rfl⟩
   subst MF;refine St.bU mv jc M rfl rfl (λ_ _=>trivial) (St.re R (g7 ?_));refine St.ee (Ev.func (.aq rfl)) (g13 ?_);refine St.e7 3 1 (St.aP (.slice none 0 0) (show _=([]:List Int).length from rfl) (show _=rows aJ []from rfl) (St.e7 277 3 (St.aP (.slice none 0 0) (show _=([]:List s9).length from rfl) (show _=rows tA []from rfl) (St.dN oI (St.lH (ι:=Nat×ah×List Int×ah×List s9) (λ⟨i,kv,l,av,d⟩ T=>(65,iv i)::T) (λ⟨i,kv,l,av,d⟩=>(row kv.1 3 1 (l).length (rows aJ (l))::row av.1 277 3 (d).length (rows tA (d))::aD (aL oI d)::tI b5 [iv (g.rules.length:Nat),iv (g.aG.length:Nat),kv.1,av.1,bx.1,bx.1] 217::aD (sl bZ g.rv.1 g.rules)::aD (aL bb g.rules)::aD (sl cy g.xv.1 g.aG)::aD (aL dz g.aG)::aD (aI g.start)::aD (sl bP s.1 (da T))::aD (sl bP t.1 (dZ T))::aD tz::tI b2 (kR g) 32::tI b4 [iv 0,iv 0,(.slice none 0 0),(.slice none 0 0),(.slice none 0 0),(.slice none 0 0)] 217::aD (iG R [s.1,t.1])::aD (sl jc mv M)::aD (aL aI M)::[])) (λ⟨i,kv,l,av,d⟩=>i≤g.rules.length∧l=(g.rules.take i).map (·.kids)∧d.length=i∧∀(k:Nat) (x:s9) (r:cK),d[k]?=some x→g.rules[k]?=some r→∀j,j<3→(x.at_ j).2=BI (iP T) (iE r) (M.map bE) (j)) (λ⟨i,kv,l,av,d⟩=>g.rules.length-i) ⟨0,bx,[],bx,[]⟩ (aC.k7 2 4 5 6 11 63 64) ⟨aQ _,rfl,rfl,λ_ _ _ h=>by cases h⟩ ?_)))));rintro ⟨i,kv,l,av,d⟩ ⟨hi,P,V,hAL⟩
   dsimp only at hi P V hAL⊢
   have hKl:l.length=i:=by rw[P,aO,eR];omega
   refine g6 ?_;refine St.cq (λh66=> ?_) (λh66=> ?_)
   ·obtain⟨r,D⟩:=aF (show i<g.rules.length by omega)
    obtain⟨hk,IU,El⟩:=MD i r D
    have SQ:=fz IU PG
    refine St.bh bb g.rules (x:=r) (aY D) (St.fF (aI r.graph) [bb r] (λρ h=>h (bb r) (aR ..) (aI r.graph) (aR ..)) (g7 ?_));refine St.ee (Ev.iD (.mk rfl) D BZ trivial oV gH.eq) (St.al (λVc=>St.sA (.mk rfl) (.mk rfl) oV ?_ (h1:=(fY.2 λu hu=>bZ.one r u hu))));refine g4 ?_;refine St.al (λNc=>St.qe Nc ([DX,DX,DX].map λp:ah×List Bool=>p.1.1) rfl (St.e7 4 1 (St.e7 4 1 (St.e7 4 1 (St.pk [row (.slice none 0 0) 4 1 0 [],row (.slice none 0 0) 4 1 0 [],row (.slice none 0 0) 4 1 0 []] [] (bX (bG 4) ([DX,DX,DX])) (List.Perm.refl _) (g11 ?_))))));refine St.lH (ι:=Nat×List (ah×List Bool)) (λ⟨k,Q⟩ T=>(71,iv k)::T) (λ⟨k,Q⟩=>(tI Nc ((Q).map λp=>p.1.1) 277::tI Vc (AF r) 98::row kv.1 3 1 (l).length (rows aJ (l))::row av.1 277 3 (d).length (rows tA (d))::aD (aL oI d)::tI b5 [iv (g.rules.length:Nat),iv (g.aG.length:Nat),kv.1,av.1,bx.1,bx.1] 217::aD (aI r.graph)::aD (sl bZ g.rv.1 g.rules)::aD (aL bb g.rules)::aD (sl cy g.xv.1 g.aG)::aD (aL dz g.aG)::aD (aI g.start)::aD (sl bP s.1 (da T))::aD (sl bP t.1 (dZ T))::aD tz::tI b2 (kR g) 32::tI b4 [iv 0,iv 0,(.slice none 0 0),(.slice none 0 0),(.slice none 0 0),(.slice none 0 0)] 217::aD (iG R [s.1,t.1])::aD (sl jc mv M)::aD (aL aI M)::bX (bG 4) (Q))) (λ⟨k,Q⟩=>(k:Int)≤r.kids∧Q.length=3∧∀j,j<3→(Q.getD j DX).2=if j<k then BI (iP T) (iE r) (M.map bE) (j)else []) (λ⟨k,Q⟩=>3-k) ⟨0,[DX,DX,DX]⟩ (aC.k11 2 4 5 6 11 13 14 63 64 65 70) ⟨by omega,rfl,λj S=>by rw[aA (Nat.not_lt_zero _)];rcases j with _|_|_|j;rfl;rfl;rfl;omega⟩ ?_;rintro ⟨k,Q⟩ ⟨hk3,F,hQ⟩
    dsimp only at hk3 F hQ⊢
    refine g6 ?_;refine St.cq (λh72=> ?_) (λh72=> ?_)
    ·obtain⟨nd,hnd⟩:∃nd:Nat,nd=(nS (bE r.graph) ((k:Int)+1)).toNat:=⟨_,rfl⟩
     have apY:=HM r (aY D) ((k:Int)+1) zE zE
     have amP:=AX IU ((k:Int)+1)
     rw[←hnd,ct]at amP
     have hLk:BI (iP T) (iE r) (M.map bE) (k)=M.map (λy:dC=>(dT (iP T) (bE r.graph) nd (bE y)).isSome):=by unfold BI;rw[aB (show(k:Int)<(iE r).kids from h72),jJ,show(iE r).graph=bE r.graph from rfl,←hnd];rfl
     refine g13 ?_;refine St.ee (Ev.jO 1 (.mk rfl) nI trivial jx rfl rfl) (St.slot 75 (bF r.graph) rfl rfl (g2 ?_));refine St.slot 77 (iv ((k:Int)+1)) rfl rfl (St.ee (Ev.call (lI r.graph 0 ((k:Int)+1) (by have:=IU.pos;rw[ct]at this;omega) (λn hn=>⟨(SQ n hn).1,by have:=(SQ n hn).2;omega⟩)) O4 (.eI rfl rfl rfl)) ?_);refine St.slot 78 (iv (nd:Nat)) rfl (congrArg iv (by rw[uy];omega)) ?_;refine g11 ?_;refine St.lH (ι:=Nat×List (ah×List Bool)) (λ⟨m,Q⟩ T=>(81,iv m)::T) (λ⟨m,Q⟩=>(tI Nc ((Q).map λp=>p.1.1) 277::tI Vc (AF r) 98::row kv.1 3 1 (l).length (rows aJ (l))::row av.1 277 3 (d).length (rows tA (d))::aD (aL oI d)::tI b5 [iv (g.rules.length:Nat),iv (g.aG.length:Nat),kv.1,av.1,bx.1,bx.1] 217::aD (aI r.graph)::aD (sl bZ g.rv.1 g.rules)::aD (aL bb g.rules)::aD (sl cy g.xv.1 g.aG)::aD (aL dz g.aG)::aD (aI g.start)::aD (sl bP s.1 (da T))::aD (sl bP t.1 (dZ T))::aD tz::tI b2 (kR g) 32::tI b4 [iv 0,iv 0,(.slice none 0 0),(.slice none 0 0),(.slice none 0 0),(.slice none 0 0)] 217::aD (iG R [s.1,t.1])::aD (sl jc mv M)::aD (aL aI M)::bX (bG 4) (Q))) (λ⟨m,Q⟩=>m≤M.length∧Q.length=3∧∀j,j<3→(Q.getD j DX).2=if j<k then BI (iP T) (iE r) (M.map bE) (j)else if j=k then(M.take m).map (λy:dC=>(dT (iP T) (bE r.graph) nd (bE y)).isSome)else []) (λ⟨m,Q⟩=>M.length-m) ⟨0,Q⟩ (aC.k16 2 4 5 6 11 13 14 15 16 63 64 65 70 71 79 80) ⟨aQ _,F,λj S=>by rw[hQ j S];split;rfl;split;rfl;rfl⟩ ?_;rintro ⟨m,Q⟩ ⟨hm,F,hQ⟩
     dsimp only at hm F hQ⊢
     refine g6 ?_;refine St.cq (λh82=> ?_) (λh82=> ?_)
     ·obtain⟨y,hy⟩:=aF (show m<M.length by omega)
      obtain⟨hgy,hly⟩:=C y (aY hy);obtain⟨q,hq⟩:=aF (show k<Q.length by omega)
      have hqd:Q.getD k DX=q:=by rw[ax,hq];rfl
      have WO:q.2=(M.take m).map (λy:dC=>(dT (iP T) (bE r.graph) nd (bE y)).isSome):=by rw[←hqd,hQ k zE,aA (Nat.lt_irrefl _),aB rfl]
      have aeW:q.2.length=m:=by rw[WO,aO,eR];omega
      refine St.fF (aI y) [aL aI M] (λρ h=>h _ (aR ..) y (aY hy)) (g7 ?_);refine St.ee (Ev.iD (.mk rfl) hy nI trivial jx gH.eq) (St.al (λb18=>St.sA (.mk rfl) (.mk rfl) jx ?_ (h1:=(by simp only[jc,List.all_cons,List.all_nil,Bool.and_true];exact y.nv.2))));refine g2 ?_;refine St.tail (bX (bG 4) (Q)) (row q.1.1 4 1 (q.2).length (rows eO (q.2))::bX (bG 4) (Q.eraseIdx k)) (rZ _ hq) (St.ef (tI Nc ((Q).map λp=>p.1.1) 277::row q.1.1 4 1 (q.2).length (rows eO (q.2))::bX (bG 4) (Q.eraseIdx k)) mixed (λnp ns=>SW.gd 0 ?_));refine SW.gd 1 ?_;refine SW.dd 2 rfl (λ_=>Ev.Ia (k:=k) (.mk rfl) (.mk rfl) Ac r9 rfl zE) (SW.gd 4 ?_);refine SW.gd 5 ?_;refine SW.dd 6 rfl (λ_=>Ev.jO 1 (.mk rfl) nI trivial jx rfl rfl) (SW.slot 91 (bF r.graph) rfl rfl (SW.gd 7 ?_));refine SW.gd 8 ?_;refine SW.slot 93 (bF y) rfl rfl (SW.dd 9 rfl (λ_=>Ev.ej (zI R s t T hT nf PG r.graph y IU hgy El hly nd zE) Vp (.mk rfl) (.eI rfl rfl rfl)) (SW.t2 3 10 ?_ ?_))
      focus
       refine St.ee (Ev.jN (.mk rfl) kD trivial (show(Q.map λp=>p.1.1)[k]?=some q.1.1 by rw[bJ,hq];rfl)) ?_;refine g2 ?_;refine SW.go (SW.t1 10 ?_);refine St.iu rfl (.aq rfl) kD EU SY rfl rfl (by simp[Value.cells]) rfl rfl (λb95=> ?_);refine g2 ?_;refine SW.go (SW.t1 11 ?_);refine St.bH (.mk rfl) (.mk rfl) kD EU SY Zx (by simp[Value.oneCell',Value.cells]) zE zE rfl rfl rfl rfl (λX am8=> ?_);refine St.aP X (show _=(q.2++ [(dT (iP T) (bE r.graph) nd (bE y)).isSome]).length from cW) (show _=rows eO (q.2++ [(dT (iP T) (bE r.graph) nd (bE y)).isSome]) by rw[bN];rfl) ?_;refine St.cH X (λOw _=>g2 ?_);refine SW.go (SW.dd 12 rfl (λ_=>Ev.Ia (k:=k) (.mk rfl) (.mk rfl) Ac r9 rfl zE) (SW.t1 13 ?_));refine St.Ks ((Q.set k (⟨X,Ow⟩,q.2++ [(dT (iP T) (bE r.graph) nd (bE y)).isSome])).map λp=>p.1.1) (.mk rfl) (.mk rfl) (by rw[mJ]) r9 Ow (by rw[aO];omega) ?_;refine g2 ?_;refine SW.go (SW.dn ?_)
      rotate_left
      focus
       refine St.iu rfl (.aq rfl) kD EU SY rfl rfl (by simp[Value.cells]) rfl rfl (λb95=> ?_);refine g2 ?_;refine SW.go (SW.t1 3 ?_);refine St.ee (Ev.jN (.mk rfl) kD trivial (show(Q.map λp=>p.1.1)[k]?=some q.1.1 by rw[bJ,hq];rfl)) ?_;refine g2 ?_;refine SW.go (SW.t1 11 ?_);refine St.bH (.mk rfl) (.mk rfl) kD EU SY Zx (by simp[Value.oneCell',Value.cells]) zE zE rfl rfl rfl rfl (λX am8=> ?_);refine St.aP X (show _=(q.2++ [(dT (iP T) (bE r.graph) nd (bE y)).isSome]).length from cW) (show _=rows eO (q.2++ [(dT (iP T) (bE r.graph) nd (bE y)).isSome]) by rw[bN];rfl) ?_;refine St.cH X (λOw _=>g2 ?_);refine SW.go (SW.dd 12 rfl (λ_=>Ev.Ia (k:=k) (.mk rfl) (.mk rfl) Ac r9 rfl zE) (SW.t1 13 ?_));refine St.Ks ((Q.set k (⟨X,Ow⟩,q.2++ [(dT (iP T) (bE r.graph) nd (bE y)).isSome])).map λp=>p.1.1) (.mk rfl) (.mk rfl) (by rw[mJ]) r9 Ow (by rw[aO];omega) ?_;refine g2 ?_;refine SW.go (SW.dn ?_)
      all_goals
       refine g7 ?_;refine St.pk [row (⟨X,Ow⟩:ah).1 4 1 (q.2++ [(dT (iP T) (bE r.graph) nd (bE y)).isSome]).length (rows eO (q.2++ [(dT (iP T) (bE r.graph) nd (bE y)).isSome]))] (bX (bG 4) (Q.eraseIdx k)) (bX (bG 4) (Q.set k (⟨X,Ow⟩,q.2++ [(dT (iP T) (bE r.graph) nd (bE y)).isSome]))) (vj (bG 4) (⟨X,Ow⟩,q.2++ [(dT (iP T) (bE r.graph) nd (bE y)).isSome]) zE) ?_;refine St.aH ⟨m+1,Q.set k (⟨X,Ow⟩,q.2++ [(dT (iP T) (bE r.graph) nd (bE y)).isSome])⟩ ⟨by omega,by rw[ep];exact F,λj S=>by rw[ax];by_cases h2:j=k;subst h2;rw[ic zE,aA (Nat.lt_irrefl _),aB rfl,ag hy,cY];show q.2++_=_;rw[WO];rfl;rw[iz (λh=>h2 h.symm),←ax,hQ j S,aA h2,aA h2]⟩
     ·obtain rfl:m=M.length:=by omega
      rw[iT]at hQ;refine g11 ?_;refine St.aH ⟨k+1,Q⟩ ⟨by push_cast;omega,F,λj S=>by rw[hQ j S];by_cases h1:j<k;rw[aB h1,aB zE];rw[aA h1];by_cases h2:j=k;subst h2;rw[aB rfl,aB zE,hLk];rw[aA h2,aA zE]⟩
    ·have hkr:r.kids=(k:Int):=by omega
     refine g11 ?_;refine St.iu rfl (.aq rfl) bQ dQ ec rfl rfl (by simp[Value.cells]) rfl rfl (λaaP=> ?_);refine St.bH (.mk rfl) (.mk rfl) bQ dQ ec yt (by simp[Value.oneCell',Value.cells]) zE zE rfl rfl rfl rfl (λv105 ao5=> ?_);refine St.aP v105 (show _=(l++ [r.kids]).length from cW) (show _=rows aJ (l++ [r.kids]) by rw[bN];rfl) ?_;refine St.cH v105 (λU3 _=>go ?_);refine St.cP (.mk rfl) (.mk rfl) fT U3 (by rfl) ?_;refine g2 ?_
     obtain⟨J,K,L,rfl⟩:∃J K L,Q=[J,K,L]:=by match Q,F with| [a,b,c2],_=>exact⟨a,b,c2,rfl⟩
     refine g4 ?_;refine St.slot 109 (.agg #[J.1.1,K.1.1,L.1.1]) rfl rfl (St.iu rfl (.aq rfl) underlying213 L1 XF rfl rfl (by intro u hu;simp only[List.mem_cons,List.not_mem_nil,or_false]at hu;subst hu;rfl) rfl rfl (λaaQ=> ?_));refine St.bH (.mk rfl) (.mk rfl) underlying213 L1 XF aa2 (by intro u hu;have N9:u∈[J.1.1,K.1.1,L.1.1]:=hu;simp only[List.mem_cons,List.not_mem_nil,or_false]at N9;rcases N9 with rfl|rfl|rfl;exact J.1.2;exact K.1.2;exact L.1.2) zE zE rfl rfl rfl rfl (λRt ao6=> ?_);refine St.aP Rt (show _=(d++ [yn [J,K,L]]).length from cW) (show _=rows tA (d++ [yn [J,K,L]]) by rw[bN];rfl) ?_;refine St.cH Rt (λac3 _=>St.Uu (f:=bG 4) bD [J,K,L] (λa H w h=>Xg 4 a H w h) (St.fF (oI (yn [J,K,L])) [aL bD [J,K,L]] (λρ h=>by have h0:=h _ (aR ..);intro e he;rcases cN.1 he with rfl|he;exact h0 J (by simp);rcases cN.1 he with rfl|he;exact h0 K (by simp);rcases cN.1 he with rfl|he;exact h0 L (by simp);cases he) ?_));refine St.fF (aL oI (d++ [yn [J,K,L]])) [aL oI d,oI (yn [J,K,L])] (λρ h x hx=>by rcases ca.1 hx with hx|hx;exact h _ (aR ..) x hx;rw[ba.1 hx];exact h _ (cO _ (aR ..))) ?_;refine go ?_;refine St.cP (.mk rfl) (.mk rfl) ahT ac3 (by rfl) ?_;refine g8 ?_;refine St.aH ⟨i+1,⟨v105,U3⟩,l++ [r.kids],⟨Rt,ac3⟩,d++ [yn [J,K,L]]⟩ ⟨by omega,by rw[P,ag D,cY];rfl,by rw[cA,V];rfl,λk2 x r2 hx UE j S=>by rcases Nat.lt_trichotomy k2 i with h1|h1|h1;exact hAL k2 x r2 (by rw[rL zE]at hx;exact hx) UE j S;subst h1;rw[nO zE,V,gp]at hx;obtain rfl:=Option.some.inj hx;rw[D]at UE;obtain rfl:=Option.some.inj UE;rw[Na _ S,hQ j S];split;rfl;(unfold BI;rw[aA (show ¬(j:Int)<(iE r).kids from by show ¬(j:Int)<r.kids;omega)]);rw[iR (by rw[cA,V];simp only[List.length_cons,List.length_nil];omega)]at hx;cases hx⟩
   ·obtain rfl:i=g.rules.length:=by omega
    rw[iT]at P
    obtain⟨⟨G,SN⟩,MF⟩:∃z,z=kv:=⟨kv,rfl⟩
    subst MF
    obtain⟨⟨E,SK⟩,hv3⟩:∃z,z=av:=⟨av,rfl⟩
    subst hv3;refine St.bU G aJ l rfl rfl (λz hz=>by rw[P]at hz;obtain⟨r,D,rfl⟩:=cS.1 hz;have:=(hru r D).1;show aZ r.kids;unfold aZ;omega) ?_;refine St.bU E tA d rfl rfl (λ_ _=>trivial) ?_
    have hFO:∀s2 f2:ah,we ⟨g.rules.length,g.aG.length,⟨G,SN⟩,⟨E,SK⟩,s2,f2,l,d⟩ (bK g) (iP T):=λs2 f2=>⟨(aO _).symm,(aO _).symm,by show l=(g.rules.map iE).map _;rw[P,jJ];rfl,by show d.length=(g.rules.map iE).length;rw[V,aO],λk x rr hx hrr j S=>by have hrr:(g.rules.map iE)[k]?=some rr:=hrr;rw[bJ]at hrr;obtain⟨r,D,rfl⟩:=eE.1 hrr;rw[hAL k x r hx D j S,hMg]⟩
    refine g14 ?_;refine St.e7 4 1 (St.aP (.slice none 0 0) (show _=([]:List Bool).length from rfl) (show _=rows eO []from rfl) (St.lH (ι:=Nat×ah×List Bool) (λ⟨m,sv,N⟩ T=>(116,iv m)::T) (λ⟨m,sv,N⟩=>(row sv.1 4 1 (N).length (rows eO (N))::tI b5 [iv (g.rules.length:Nat),iv (g.aG.length:Nat),(⟨G,SN⟩:ah).1,(⟨E,SK⟩:ah).1,sv.1,bx.1] 217::aD (sl aJ G l)::aD (sl tA E d)::aD (aL oI d)::aD (sl bZ g.rv.1 g.rules)::aD (aL bb g.rules)::aD (sl cy g.xv.1 g.aG)::aD (aL dz g.aG)::aD (aI g.start)::aD (sl bP s.1 (da T))::aD (sl bP t.1 (dZ T))::aD tz::tI b2 (kR g) 32::tI b4 [iv 0,iv 0,(.slice none 0 0),(.slice none 0 0),(.slice none 0 0),(.slice none 0 0)] 217::aD (iG R [s.1,t.1])::aD (sl jc mv M)::aD (aL aI M)::[])) (λ⟨m,sv,N⟩=>m≤M.length∧N.length=m) (λ⟨m,sv,N⟩=>M.length-m) ⟨0,bx,[]⟩ (aC.k7 2 4 5 6 11 114 115) ⟨aQ _,rfl⟩ ?_));rintro ⟨m,sv,N⟩ ⟨hm,hSl⟩
    dsimp only at hm hSl⊢
    refine g6 ?_;refine St.cq (λakK=> ?_) (λakK=> ?_)
    ·obtain⟨y,hy⟩:=aF (show m<M.length by omega)
     obtain⟨hgy,hly⟩:=C y (aY hy);refine St.fF (aI y) [aL aI M] (λρ h=>h _ (aR ..) y (aY hy)) (g7 ?_);refine St.ee (Ev.iD (.mk rfl) hy nI trivial jx gH.eq) (St.al (λb20=>St.sA (.mk rfl) (.mk rfl) jx ?_ (h1:=(by simp only[jc,List.all_cons,List.all_nil,Bool.and_true];exact y.nv.2))));refine g2 ?_;refine St.ef [row sv.1 4 1 (N).length (rows eO (N)),tI b5 [iv (g.rules.length:Nat),iv (g.aG.length:Nat),(⟨G,SN⟩:ah).1,(⟨E,SK⟩:ah).1,sv.1,bx.1] 217] mixed (λnp ns=>SW.gd 0 ?_);refine SW.gd 2 ?_;refine SW.gd 3 ?_;refine SW.dd 4 rfl (λ_=>Ev.jO 1 (.mk rfl) nI trivial jx rfl rfl) (SW.slot 124 (bF g.start) rfl rfl (SW.gd 5 ?_));refine SW.slot 125 (bF y) rfl rfl (SW.dd 6 rfl (λ_=>Ev.ej (zI R s t T hT nf PG g.start y UG.1 hgy UG.2 hly 0 (by have:=UG.1.pos;rw[ct]at this;exact this)) Vp (.mk rfl) (.eI rfl rfl rfl)) ?_);refine SW.t2 1 7 ?_ ?_
     focus
      refine g3 ?_;refine SW.go (SW.t1 7 ?_);refine St.iu rfl (.aq rfl) kD EU SY rfl rfl (by simp[Value.cells]) rfl rfl (λaiL=> ?_);refine g2 ?_;refine SW.go (SW.t1 8 ?_);refine St.bH (.mk rfl) (.mk rfl) kD EU SY Zx (by simp[Value.oneCell',Value.cells]) zE zE rfl rfl rfl rfl (λN1 afR=> ?_);refine St.aP N1 (show _=(N++ [(dT (iP T) (bE g.start) 0 (bE y)).isSome]).length from cW) (show _=rows eO (N++ [(dT (iP T) (bE g.start) 0 (bE y)).isSome]) by rw[bN];rfl) ?_;refine St.cH N1 (λU4 _=>g2 ?_);refine SW.go (SW.gd 9 ?_);refine SW.t1 10 ?_;refine St.cP (.mk rfl) (.mk rfl) r9 U4 (by rfl) ?_;refine g2 ?_;refine SW.go (SW.dn ?_)
     rotate_left
     focus
      refine St.iu rfl (.aq rfl) kD EU SY rfl rfl (by simp[Value.cells]) rfl rfl (λaiL=> ?_);refine g2 ?_;refine SW.go (SW.t1 1 ?_);refine g3 ?_;refine SW.go (SW.t1 8 ?_);refine St.bH (.mk rfl) (.mk rfl) kD EU SY Zx (by simp[Value.oneCell',Value.cells]) zE zE rfl rfl rfl rfl (λN1 afR=> ?_);refine St.aP N1 (show _=(N++ [(dT (iP T) (bE g.start) 0 (bE y)).isSome]).length from cW) (show _=rows eO (N++ [(dT (iP T) (bE g.start) 0 (bE y)).isSome]) by rw[bN];rfl) ?_;refine St.cH N1 (λU4 _=>g2 ?_);refine SW.go (SW.gd 9 ?_);refine SW.t1 10 ?_;refine St.cP (.mk rfl) (.mk rfl) r9 U4 (by rfl) ?_;refine g2 ?_;refine SW.go (SW.dn ?_)
     all_goals
      refine g7 ?_;refine St.aH ⟨m+1,⟨N1,U4⟩,N++ [(dT (iP T) (bE g.start) 0 (bE y)).isSome]⟩ ⟨by omega,by rw[cA,hSl];rfl⟩
    ·obtain rfl:m=M.length:=by omega
     refine g15 ?_;refine St.e7 214 1 (St.aP (.slice none 0 0) (show _=([]:List ah).length from rfl) (show _=rows cr []from rfl) (St.lH (ι:=Nat×ah×List ah) (λ⟨i,fv,O⟩ T=>(134,iv i)::T) (λ⟨i,fv,O⟩=>(row fv.1 214 1 O.length (rows cr O)::tI b5 [iv (g.rules.length:Nat),iv (g.aG.length:Nat),(⟨G,SN⟩:ah).1,(⟨E,SK⟩:ah).1,sv.1,fv.1] 217::aD (sl aJ G l)::aD (sl tA E d)::aD (aL oI d)::aD (sl bZ g.rv.1 g.rules)::aD (aL bb g.rules)::aD (sl cy g.xv.1 g.aG)::aD (aL dz g.aG)::aD (aI g.start)::aD (sl bP s.1 (da T))::aD (sl bP t.1 (dZ T))::aD tz::tI b2 (kR g) 32::tI b4 [iv 0,iv 0,(.slice none 0 0),(.slice none 0 0),(.slice none 0 0),(.slice none 0 0)] 217::aD (iG R [s.1,t.1])::aD (sl jc mv M)::aD (aL aI M)::[])) (λ⟨i,fv,O⟩=>i≤g.rules.length∧O.length=i) (λ⟨i,fv,O⟩=>g.rules.length-i) ⟨0,bx,[]⟩ (aC.k4 4 5 6 133) ⟨aQ _,rfl⟩ ?_));rintro ⟨i,fv,O⟩ ⟨hi,hFl⟩
     dsimp only at hi hFl⊢
     refine g6 ?_;refine St.cq (λakO=> ?_) (λakO=> ?_)
     ·refine g14 ?_
      refine St.nC (m:=M.length) (.mk rfl) (.mk rfl) kD EU SY Zx rfl rfl zE rfl rfl (λDQ=> ?_);refine St.aP (tO DQ M.length M.length) (show _=(List.replicate M.length false).length by rw[mI]) (show _=rows eO (List.replicate M.length false)from(AD (Rr:=eO) rfl _).symm) ?_;refine g7 ?_;refine St.iu rfl (.aq rfl) bQ dQ ec rfl rfl (by simp[Value.cells]) rfl rfl (λaaT=> ?_);refine St.aP (tO aaT 1 1) (show _=[i].length from rfl) (show _=rows aJ (bV [i])from rfl) (g4 ?_);refine St.lH (ι:=List Bool×ah×List Nat) (λ⟨B,wv,W⟩ T=>(23,wv.1)::T) (λ⟨B,wv,W⟩=>(row (tO DQ M.length M.length) 4 1 B.length (rows eO B)::row wv.1 3 1 W.length (rows aJ (bV W))::row fv.1 214 1 O.length (rows cr O)::tI b5 [iv (g.rules.length:Nat),iv (g.aG.length:Nat),(⟨G,SN⟩:ah).1,(⟨E,SK⟩:ah).1,sv.1,fv.1] 217::aD (sl aJ G l)::aD (sl tA E d)::aD (aL oI d)::aD (sl bZ g.rv.1 g.rules)::aD (aL bb g.rules)::aD (sl cy g.xv.1 g.aG)::aD (aL dz g.aG)::aD (aI g.start)::aD (sl bP s.1 (da T))::aD (sl bP t.1 (dZ T))::aD tz::tI b2 (kR g) 32::tI b4 [iv 0,iv 0,(.slice none 0 0),(.slice none 0 0),(.slice none 0 0),(.slice none 0 0)] 217::aD (iG R [s.1,t.1])::aD (sl jc mv M)::aD (aL aI M)::[])) (λ⟨B,wv,W⟩=>B.length=M.length∧(∀z∈W,z<g.rules.length)∧Eb B+W.length≤M.length+1) (λ⟨B,wv,W⟩=>Eb B+W.length) ⟨List.replicate M.length false,⟨tO aaT 1 1,rfl⟩,[i]⟩ (aC.k6 4 5 6 22 133 134) ⟨mI ..,λz hz=>by rw[ba.1 hz];omega,by rw[Rf];exact aU _⟩ ?_;rintro ⟨B,wv,W⟩ ⟨hsl,hW,hb⟩
      dsimp only at hsl hW hb⊢
      refine g8 ?_;refine St.cq (λac6=> ?_) (λac6=> ?_)
      ·obtain⟨A,at_,rfl⟩:∃A at_,W=A++ [at_]:=⟨W.dropLast,W.getLast (by intro h;subst h;simp at ac6),(List.dropLast_concat_getLast _).symm⟩
       have al6:=hW at_ (by simp)
       have hWl:(A++ [at_]).length=A.length+1:=cW.symm
       obtain⟨Y,UH⟩:=aF (show at_<d.length by omega);obtain⟨ra,SP⟩:=aF al6;obtain⟨hka,_,_⟩:=MD at_ ra SP
       have UJ:(Y.at_ 0).2.length=M.length:=by rw[hAL at_ Y ra UH SP 0 zE];unfold BI;rw[aB (show((0:Nat):Int)<(iE ra).kids from by show((0:Nat):Int)<ra.kids;omega),aO,aO]
       refine St.bh oI d (x:=Y) (aY UH) (St.fF (sl eO (Y.at_ 0).1.1 (Y.at_ 0).2) [oI Y] (λρ h=>Jp Y 0 ρ (h _ (aR ..))) (g8 ?_));refine St.slot 147 (iv ((A.length+1:Nat):Int)) rfl (congrArg iv (by rw[hWl])) ?_;refine go ?_;refine St.slot 148 (iv (A.length:Nat)) rfl (congrArg iv (by push_cast;omega)) ?_;refine St.ee (Ev.dV (k:=A.length) (.mk rfl) (.mk rfl) bQ dQ zE zE) (St.ee (Ev.dw (.mk rfl) fA trivial zE (gg (iw (show(A++ [at_])[A.length]?=some at_ by simp)))) ?_);refine g8 ?_;refine St.slot 153 (iv ((A.length+1:Nat):Int)) rfl (congrArg iv (by rw[hWl])) ?_;refine go ?_;refine St.slot 154 (iv (A.length:Nat)) rfl (congrArg iv (by push_cast;omega)) ?_;refine St.ee (Ev.tR (h:=A.length) (.mk rfl) (.mk rfl) bQ dQ zE zE) (St.J8 wv.1 A.length zE (St.cH (th wv.1 1 0 A.length) (λakS _=>St.aP (th wv.1 1 0 A.length) rfl (show _=rows aJ (bV A) by rw[gz,←dc A];exact uk aJ _ _) ?_)));refine g8 ?_;refine St.Kn E zE (λbs os cs PI=>go ?_);refine St.ee (Ev.yK (j:=0) PI (.mk rfl) (.mk rfl) Ac r9 zE zE) (St.ee (Ev.ld1 (.mk rfl) UH kD trivial (Y.cell zE)) (g5 ?_))
       obtain⟨B0,hB0⟩:∃B0,B0=Eb B+A.length:=⟨_,rfl⟩
       have hB1:B0≤M.length:=by omega
       refine St.lH (ι:=Nat×List Bool×ah×List Nat) (λ⟨o,B,wv,W⟩ T=>(163,iv o)::(23,wv.1)::T) (λ⟨o,B,wv,W⟩=>(row (tO DQ M.length M.length) 4 1 B.length (rows eO B)::row wv.1 3 1 W.length (rows aJ (bV W))::row fv.1 214 1 O.length (rows cr O)::tI b5 [iv (g.rules.length:Nat),iv (g.aG.length:Nat),(⟨G,SN⟩:ah).1,(⟨E,SK⟩:ah).1,sv.1,fv.1] 217::aD (sl aJ G l)::aD (sl tA E d)::aD (aL oI d)::aD (sl eO (Y.at_ 0).1.1 (Y.at_ 0).2)::aD (sl bZ g.rv.1 g.rules)::aD (aL bb g.rules)::aD (sl cy g.xv.1 g.aG)::aD (aL dz g.aG)::aD (aI g.start)::aD (sl bP s.1 (da T))::aD (sl bP t.1 (dZ T))::aD tz::tI b2 (kR g) 32::tI b4 [iv 0,iv 0,(.slice none 0 0),(.slice none 0 0),(.slice none 0 0),(.slice none 0 0)] 217::aD (iG R [s.1,t.1])::aD (sl jc mv M)::aD (aL aI M)::[])) (λ⟨o,B,wv,W⟩=>o≤M.length∧B.length=M.length∧(∀z∈W,z<g.rules.length)∧Eb B+W.length≤B0) (λ⟨o,B,wv,W⟩=>M.length-o) ⟨0,B,⟨th wv.1 1 0 A.length,akS⟩,A⟩ (aC.k8 4 5 6 22 133 134 161 162) ⟨aQ _,hsl,λz hz=>hW z (by simp[hz]),Nat.le_of_eq hB0.symm⟩ ?_;rintro ⟨o,I,wv2,W2⟩ ⟨ho,PJ,Z,CJ⟩
       dsimp only at ho PJ Z CJ⊢
       refine g6 ?_;refine St.cq (λakU=> ?_) (λakU=> ?_)
       ·obtain⟨bo,hbo⟩:=aF (show o<(Y.at_ 0).2.length by omega)
        obtain⟨so,hso⟩:=aF (show o<I.length by omega);refine g17 ?_;refine St.gt _ rfl rfl (λhg=>Ev.move (.mk rfl)) rfl (St.gt _ rfl rfl (λhg=>Ev.move (.mk rfl)) rfl (St.gt _ rfl rfl (λhg=>Ev.dV (k:=o) (aa.gv rfl hg) (aa.gv rfl hg) kD EU (by first|omega|(simp only[cn]at hg;omega)) zE) rfl ?_));refine St.gt _ rfl rfl (λhg=>Ev.dw (aa.gv rfl hg) EY trivial zE (QV hso)) rfl (St.gt _ rfl rfl (λhg=>Ev.not (aa.gv rfl hg)) rfl (g3 ?_));refine St.cond _ rfl (λac8=> ?_) (λac8=> ?_)
        ·skip
         obtain rfl:so=false:=by cases so;rfl;simp at ac8
         have hu:=Rg hso
         refine g5 ?_;refine St.dF (.mk rfl) (.mk rfl) EU rfl zE (by decide) ?_;refine St.aP (tO DQ M.length M.length) (show _=(I.set o true).length by rw[ep]) (show _=rows eO (I.set o true)from Mh _ _ _) ?_;refine g10 ?_;refine St.cq (λakV=> ?_) (λakV=> ?_)
         ·refine g3 ?_
          refine St.iu rfl (.aq rfl) bQ dQ ec rfl rfl (by simp[Value.cells]) rfl rfl (λapJ=> ?_);refine St.bH (.mk rfl) (.mk rfl) bQ dQ ec yt (by simp[Value.oneCell',Value.cells]) zE zE rfl rfl rfl rfl (λZk apC=> ?_);refine St.aP Zk (show _=(W2++ [o]).length by rw[cA];rfl) (show _=rows aJ (bV (W2++ [o])) by rw[gz,bN];rfl) ?_;refine St.cH Zk (λakW _=>g9 ?_);refine St.aH ⟨o+1,I.set o true,⟨Zk,akW⟩,W2++ [o]⟩ ⟨by omega,by rw[ep];exact PJ,λz hz=>by rcases ca.1 hz with hz|hz;exact Z z hz;rw[ba.1 hz];omega,by dsimp only;rw[cA];simp only[List.length_cons,List.length_nil];omega⟩
         ·refine g8 ?_
          refine St.aH ⟨o+1,I.set o true,wv2,W2⟩ ⟨by omega,by rw[ep];exact PJ,Z,by first|omega|(dsimp only;omega)⟩
        ·skip
         skip
         refine g8 ?_;refine St.aH ⟨o+1,I,wv2,W2⟩ ⟨by omega,PJ,Z,CJ⟩
       ·skip
        refine g6 ?_;refine St.vQ ⟨I,wv2,W2⟩ ⟨PJ,Z,by first|omega|(dsimp only;omega)⟩ (by dsimp only;omega) (by repeat(first|exact Sub.nil|refine Sub.cons (by first|rfl|exact congrArg (λz=>some (iv z)) (by first|omega|(dsimp only;omega))|exact congrArg (λz=>some (Value.bool z)) (by first|assumption|exact jI (by assumption))) ?_)) (λ_ hw=>hw.sub)
      ·skip
       refine g9 ?_;refine St.iu rfl (.aq rfl) underlying215 r9 XE rfl rfl (by simp[Value.cells]) rfl rfl (λapK=> ?_);refine St.bH (.mk rfl) (.mk rfl) underlying215 r9 XE aa1 (by simp[Value.oneCell',Value.cells]) zE zE rfl rfl rfl rfl (λRv apD=> ?_);refine St.aP Rv (show _=(O++ [(⟨tO DQ M.length M.length,rfl⟩:ah)]).length from cW) (show _=rows cr (O++ [(⟨tO DQ M.length M.length,rfl⟩:ah)]) by rw[bN];rfl) ?_;refine St.cH Rv (λac9 _=>go ?_);refine St.cP (.mk rfl) (.mk rfl) ahU ac9 (by rfl) ?_;refine g8 ?_;refine St.aH ⟨i+1,⟨Rv,ac9⟩,O++ [(⟨tO DQ M.length M.length,rfl⟩:ah)]⟩ ⟨by omega,by rw[cA,hFl];rfl⟩
     ·skip
      refine g8 ?_;refine St.sA (.mk rfl) (.mk rfl) Kz ?_ (h1:=(by simp only[List.all_cons,List.all_nil,Bool.and_true,Bool.and_eq_true];exact⟨rfl,rfl,SN,SK,sv.2,fv.2⟩));refine g3 ?_;refine St.fF (iX ⟨g.rules.length,g.aG.length,⟨G,SN⟩,⟨E,SK⟩,sv,fv,l,d⟩) [sl aJ G l,sl tA E d,aL oI d] (λρ h=>h) (St.rV [_] [aD (iX ⟨g.rules.length,g.aG.length,⟨G,SN⟩,⟨E,SK⟩,sv,fv,l,d⟩)] ?_);exact⟨⟨g.rules.length,g.aG.length,⟨G,SN⟩,⟨E,SK⟩,sv,fv,l,d⟩,rfl,hFO sv fv,rfl⟩
theorem OC (a b:Int):ot a b=lf a b:=rfl
def Md:List Int→Int
 | []=>0
 |a::l=>te a (Md l)
theorem Kh (a:Int):te a 0=a:=by unfold te;split;omega;rfl
theorem CS {l:List Int}{k:Nat}{x:Int}(h:l[k]?=some x):Md (l.drop k)=if x=0 then Md (l.drop (k+1))else x:=by rw[bW h];rfl
theorem oq (a b:Int): -1≤lf a b∧lf a b≤1:=by unfold lf;split;omega;split<;>omega
theorem QH {a b:Int}(h: -1≤a∧a≤1)(k: -1≤b∧b≤1): -1≤te a b∧te a b≤1:=by unfold te;split<;>omega
theorem z7 {α:Type}{f:α→α→Int}(h:∀a b,-1≤f a b∧f a b≤1):∀l m:List α,-1≤kI f l m∧kI f l m≤1
 | [],[]=>by simp[kI]
 | [],_::_=>by simp[kI]
 |_::_,[]=>by simp[kI]
 |a::l,b::m=>by rw[kI];split;exact h a b;exact z7 h l m
theorem OD (a b:Int×Int): -1≤FN a b∧FN a b≤1:=QH (oq _ _) (oq _ _)
theorem Xy (a b:LV): -1≤xZ a b∧xZ a b≤1:=QH (oq _ _) (QH (oq _ _) (z7 OD _ _))
theorem aaW {x:Int}(h: -1≤x∧x≤1):aJ.wf x:=by show aZ x;unfold aZ;omega
theorem DR {l:List Int}(h:∀x∈l,-1≤x∧x≤1):∀x∈l,aJ.wf x:=λx hx=>aaW (h x hx)
theorem om {α:Type}{f:α→α→Int}{l m:List α}{k:Nat}{x y:α}(hx:l[k]?=some x)(hy:m[k]?=some y):kI f (l.drop k) (m.drop k)=if f x y≠0 then f x y else kI f (l.drop (k+1)) (m.drop (k+1)):=by rw[bW hx,bW hy];rfl
theorem zA {α:Type}{f:α→α→Int}{l m:List α}{k:Nat}{x:α}(hx:l[k]?=some x)(hm:m.length≤k):kI f (l.drop k) (m.drop k)=1:=by rw[bW hx,iy hm];rfl
theorem vV {α:Type}{f:α→α→Int}{l m:List α}{k:Nat}{y:α}(hy:m[k]?=some y)(a:l.length≤k):kI f (l.drop k) (m.drop k)= -1:=by rw[bW hy,iy a];rfl
theorem z8 {α:Type}{f:α→α→Int}{l m:List α}{k:Nat}(a:l.length≤k)(hm:m.length≤k):kI f (l.drop k) (m.drop k)=0:=by rw[iy a,iy hm];rfl
theorem tx (v0:Value)(p:List Int):dK prog 121 #[v0] [sl aJ v0 p] (iv (Md p)):=by
 refine dK.pz (args:=[v0]) 18 func121 rfl ntmps121 rfl (λc=>go ?_);refine St.wf v0 (λf hlen=>g18 ?_);refine St.lS (ι:=Nat) (λk T=>(8,iv k)::T) (λk=>k≤p.length∧Md p=Md (p.drop k)) (λk=>p.length-k) 0 (aC.k3 3 6 7) ⟨aQ _,rfl⟩ ?_;intro k d;obtain⟨hk,a⟩:=d;refine g6 ?_;refine St.cq (λe=> ?_) (λe=> ?_)
 ·obtain⟨x,hx⟩:=aF (show k<p.length by omega)
  refine g18 ?_;refine St.cq (λb=> ?_) (λb=> ?_)
  ·refine g12 ?_
   refine St.rV [_] [] ?_;exact ie (by rw[a,CS hx,aA b])
  ·refine g8 ?_
   refine St.aS (k+1) ⟨by omega,by rw[a,CS hx,aB zE]⟩
 ·refine g12 ?_
  refine St.rV [_] [] ?_;exact ie (by rw[a,iy zE];rfl)
theorem B6 (v0 v1:Value)(a b:List Int):dK prog 124 #[v0,v1] [sl aJ v0 a,sl aJ v1 b] (iv (kI lf a b)):=by
 refine dK.qf (args:=[v0,v1]) 36 func124 rfl ntmps124 rfl (λc=>go ?_);refine St.wf v0 (λg m=>St.wf v1 (λn o=>g13 ?_));refine St.lS (ι:=Nat) (λk T=>(11,iv k)::T) (λk=>k≤a.length∧k≤b.length∧kI lf a b=kI lf (a.drop k) (b.drop k)) (λk=>a.length-k) 0 (aC.k4 0 1 9 10) ⟨aQ _,aQ _,rfl⟩ ?_;intro k i;obtain⟨hk,p,d⟩:=i;refine g6 ?_;refine St.cq (λj=> ?_) (λj=> ?_)
 ·obtain⟨x,hx⟩:=aF (show k<a.length by omega)
  refine g22 ?_;refine St.cq (λl=> ?_) (λl=> ?_)
  ·refine g12 ?_
   refine St.rV [_] [] ?_;exact ie (by rw[d,zA hx zE])
  ·obtain⟨y,hy⟩:=aF (show k<b.length by omega)
   refine g15 ?_;refine St.ee (Ev.call (eh _ _) qi (.aX rfl rfl)) (g9 ?_);refine St.cq (λf=> ?_) (λf=> ?_)
   ·refine g12 ?_
    refine St.rV [_] [] ?_;exact ie (by rw[d,om hx hy,aB (by rw[←OC];exact f)];rfl)
   ·refine g8 ?_
    refine St.aS (k+1) ⟨by omega,by omega,by rw[d,om hx hy,aA (λh=>h (by rw[←OC];omega))]⟩
 ·refine g15 ?_
  refine St.cq (λe=> ?_) (λe=> ?_)
  ·refine g7 ?_
   refine St.rV [_] [] ?_;exact ie (by obtain⟨y,hy⟩:=aF (show k<b.length by omega);rw[d,vV hy zE])
  ·refine g8 ?_
   refine St.rV [_] [] ?_;exact ie (by rw[d,z8 zE zE])
theorem D6 (x y:dt):dK prog 242 #[Value.agg #[iv x.dE,iv x.tqo],Value.agg #[iv y.dE,iv y.tqo]] [] (iv (FN (fV x) (fV y))):=by
 refine dK.gx (args:=[Value.agg #[iv x.dE,iv x.tqo],Value.agg #[iv y.dE,iv y.tqo]]) 17 func242 rfl ntmps242 rfl (λc=>g2 ?_);refine St.cC (.mk rfl) rfl (λb=>St.cC (.mk rfl) rfl (λd=>g4 ?_));refine St.jm [] mixed (λe f=>SW.gd 0 ?_);refine SW.gd 1 ?_;refine SW.gd 2 ?_;refine SW.gd 3 ?_;refine SW.dd 4 rfl (λ_=>Ev.call (eh _ _) qi (.aX rfl rfl)) (SW.gd 5 ?_);refine SW.gd 6 ?_;refine SW.gd 7 ?_;refine SW.gd 8 ?_;refine SW.dd 9 rfl (λ_=>Ev.call (eh _ _) qi (.aX rfl rfl)) (SW.t1 10 ?_);refine St.iu rfl (.aX rfl rfl) bQ dQ ec rfl rfl (by simp[Value.cells]) rfl rfl (λa=> ?_);refine St.aP (tO a 2 2) (show _=([(lf x.dE y.dE),(lf x.tqo y.tqo)]).length from rfl) (show _=rows aJ ([(lf x.dE y.dE),(lf x.tqo y.tqo)])from rfl) (g2 ?_);refine SW.go (SW.t1 11 ?_);refine St.ee (Ev.Bt (tx (tO a 2 2) [(lf x.dE y.dE),(lf x.tqo y.tqo)]) Jw (.aq rfl) (eu.row eu.nil rfl rfl rfl (DR (λx hx=>by simp only[List.mem_cons,List.not_mem_nil,or_false]at hx;rcases hx with rfl|rfl;exact oq _ _;exact oq _ _)))) ?_;refine g2 ?_;refine SW.go (SW.gd 12 ?_);refine SW.dn (g2 ?_);refine St.rV [_] [] ?_;exact ie (show te _ (te _ 0)=_ by rw[Kh];rfl)
theorem B1 (x y:dt):dK prog 242 ([Value.agg #[iv x.dE,iv x.tqo],Value.agg #[iv y.dE,iv y.tqo]]++ []).toArray [] (iv (FN (fV x) (fV y))):=D6 x y
theorem B3 (v0 v1:Value)(a b:List dt):dK prog 241 #[v0,v1,.func (.func 242) #[] #[]] [sl bC v0 a,sl bC v1 b] (iv (kI FN (a.map fV) (b.map fV))):=by
 refine dK.qf (args:=[v0,v1,.func (.func 242) #[] #[]]) 39 func241 rfl ntmps241 rfl (λc=>go ?_);refine St.wf v0 (λi o=>St.wf v1 (λp q=>g13 ?_));refine St.lS (ι:=Nat) (λk T=>(13,iv k)::T) (λk=>k≤a.length∧k≤b.length∧kI FN (a.map fV) (b.map fV)=kI FN ((a.map fV).drop k) ((b.map fV).drop k)) (λk=>a.length-k) 0 (aC.k5 0 1 2 11 12) ⟨aQ _,aQ _,rfl⟩ ?_;intro k j;obtain⟨hk,r,d⟩:=j;refine g6 ?_;refine St.cq (λl=> ?_) (λl=> ?_)
 ·obtain⟨x,hx⟩:=aF (show k<a.length by omega)
  have f:(a.map fV)[k]?=some (fV x):=by rw[bJ,hx];rfl
  refine g8 ?_;refine St.ee (Ev.iD (.mk rfl) hx lT trivial de gH.eq) (St.al (λs=>go ?_));refine St.sA (.mk rfl) (.mk rfl) de ?_ (h1:=(fY.2 λu hu=>bC.one x u hu));refine g11 ?_;refine St.cq (λm=> ?_) (λm=> ?_)
  ·refine g12 ?_
   refine St.rV [_] [] ?_;exact ie (by rw[d,zA f (by rw[aO];omega)])
  ·obtain⟨y,hy⟩:=aF (show k<b.length by omega)
   have e:(b.map fV)[k]?=some (fV y):=by rw[bJ,hy];rfl
   refine g7 ?_;refine St.ee (Ev.iD (.mk rfl) hy lT trivial de gH.eq) (St.al (λt=>St.sA (.mk rfl) (.mk rfl) de ?_ (h1:=(fY.2 λu hu=>bC.one y u hu))));refine g6 ?_;refine St.slot 27 (Value.agg #[iv x.dE,iv x.tqo]) rfl rfl (go ?_);refine St.slot 28 (Value.agg #[iv y.dE,iv y.tqo]) rfl rfl (St.ee (Ev.ej (B1 x y) acA (.mk rfl) (.aX rfl rfl)) (g9 ?_));refine St.cq (λg=> ?_) (λg=> ?_)
   ·refine g12 ?_
    refine St.rV [_] [] ?_;exact ie (by rw[d,om f e,aB g])
   ·refine g8 ?_
    refine St.aS (k+1) ⟨by omega,by omega,by rw[d,om f e,aA (λh=>h g)]⟩
 ·refine g15 ?_
  refine St.cq (λn=> ?_) (λn=> ?_)
  ·refine g7 ?_
   refine St.rV [_] [] ?_;exact ie (by obtain⟨y,hy⟩:=aF (show k<(b.map fV).length by rw[aO];omega);rw[d,vV hy (by rw[aO];omega)])
  ·refine g8 ?_
   refine St.rV [_] [] ?_;exact ie (by rw[d,z8 (by rw[aO];omega) (by rw[aO];omega)])
theorem D7 (x y:db):dK prog 240 #[Value.agg #[iv x.type,x.lv.1],Value.agg #[iv y.type,y.lv.1]] [cF x,cF y] (iv (xZ (mQ x) (mQ y))):=by
 refine dK.qf (args:=[Value.agg #[iv x.type,x.lv.1],Value.agg #[iv y.type,y.lv.1]]) 24 func240 rfl ntmps240 rfl (λc=>go ?_);refine St.fF (sl bC x.lv.1 x.bA) [cF x] (λρ h=>h _ (aR ..)) (St.fF (sl bC y.lv.1 y.bA) [cF y] (λρ h=>h _ (aR ..)) (go ?_));refine St.cC (.mk rfl) rfl (λb=>St.cC (.mk rfl) rfl (λd=>g4 ?_));refine St.jm [] mixed (λe f=>SW.gd 0 ?_);refine SW.gd 1 ?_;refine SW.gd 2 ?_;refine SW.gd 3 ?_;refine SW.dd 4 rfl (λ_=>Ev.call (eh _ _) qi (.aX rfl rfl)) (SW.gd 5 ?_);refine SW.gd 6 ?_;refine SW.gd 7 ?_;refine SW.gd 8 ?_;refine SW.gd 9 ?_;refine SW.gd 10 ?_;refine SW.dd 11 rfl (λ_=>Ev.call (eh _ _) qi (.aX rfl rfl)) (SW.gd 12 ?_);refine SW.gd 13 ?_;refine SW.gd 14 ?_;refine SW.gd 15 ?_;refine SW.dd 16 rfl (λ_=>Ev.call (B3 x.lv.1 y.lv.1 x.bA y.bA) ab9 (.eI rfl rfl rfl)) (SW.t1 17 ?_);refine St.iu rfl (.eI rfl rfl rfl) bQ dQ ec rfl rfl (by simp[Value.cells]) rfl rfl (λa=> ?_);refine St.aP (tO a 3 3) (show _=([(lf x.type y.type),(lf (x.bA.length:Nat) (y.bA.length:Nat)),(kI FN (x.bA.map fV) (y.bA.map fV))]).length from rfl) (show _=rows aJ ([(lf x.type y.type),(lf (x.bA.length:Nat) (y.bA.length:Nat)),(kI FN (x.bA.map fV) (y.bA.map fV))])from rfl) (g2 ?_);refine SW.go (SW.t1 18 ?_);refine St.ee (Ev.Bt (tx (tO a 3 3) [(lf x.type y.type),(lf (x.bA.length:Nat) (y.bA.length:Nat)),(kI FN (x.bA.map fV) (y.bA.map fV))]) Jw (.aq rfl) (eu.row eu.nil rfl rfl rfl (DR (λx hx=>by simp only[List.mem_cons,List.not_mem_nil,or_false]at hx;rcases hx with rfl|rfl|rfl;exact oq _ _;exact oq _ _;exact z7 OD _ _)))) ?_;refine g2 ?_;refine SW.go (SW.gd 19 ?_);refine SW.dn (g2 ?_);refine St.rV [_] [] ?_;exact ie (show te _ (te _ (te _ 0))=_ by rw[Kh];unfold xZ mQ;rw[aO,aO])
theorem B4 (x y:db):dK prog 240 ([Value.agg #[iv x.type,x.lv.1],Value.agg #[iv y.type,y.lv.1]]++ []).toArray [cF x,cF y] (iv (xZ (mQ x) (mQ y))):=D7 x y
theorem B5 (v0 v1:Value)(a b:List db):dK prog 239 #[v0,v1,.func (.func 240) #[] #[]] [sl bz v0 a,sl bz v1 b,aL cF a,aL cF b] (iv (kI xZ (a.map mQ) (b.map mQ))):=by
 refine dK.Jt (args:=[v0,v1,.func (.func 240) #[] #[]]) 39 func239 rfl ntmps239 rfl (λc=>go ?_);refine St.wf v0 (λi o=>St.wf v1 (λp q=>g13 ?_));refine St.lS (ι:=Nat) (λk T=>(13,iv k)::T) (λk=>k≤a.length∧k≤b.length∧kI xZ (a.map mQ) (b.map mQ)=kI xZ ((a.map mQ).drop k) ((b.map mQ).drop k)) (λk=>a.length-k) 0 (aC.k5 0 1 2 11 12) ⟨aQ _,aQ _,rfl⟩ ?_;intro k j;obtain⟨hk,r,d⟩:=j;refine g6 ?_;refine St.cq (λl=> ?_) (λl=> ?_)
 ·obtain⟨x,hx⟩:=aF (show k<a.length by omega)
  have f:(a.map mQ)[k]?=some (mQ x):=by rw[bJ,hx];rfl
  refine g8 ?_;refine St.ee (Ev.iD (.mk rfl) hx xK trivial jF gH.eq) (St.al (λs=>go ?_));refine St.sA (.mk rfl) (.mk rfl) jF ?_ (h1:=(fY.2 λu hu=>bz.one x u hu));refine g11 ?_;refine St.cq (λm=> ?_) (λm=> ?_)
  ·refine g12 ?_
   refine St.rV [_] [] ?_;exact ie (by rw[d,zA f (by rw[aO];omega)])
  ·obtain⟨y,hy⟩:=aF (show k<b.length by omega)
   have e:(b.map mQ)[k]?=some (mQ y):=by rw[bJ,hy];rfl
   refine g7 ?_;refine St.ee (Ev.iD (.mk rfl) hy xK trivial jF gH.eq) (St.al (λt=>St.sA (.mk rfl) (.mk rfl) jF ?_ (h1:=(fY.2 λu hu=>bz.one y u hu))));refine g6 ?_;refine St.slot 27 (Value.agg #[iv x.type,x.lv.1]) rfl rfl (go ?_);refine St.slot 28 (Value.agg #[iv y.type,y.lv.1]) rfl rfl (St.bh cF a (x:=x) (aY hx) (St.bh cF b (x:=y) (aY hy) (St.ee (Ev.ej (B4 x y) ab8 (.mk rfl) (.aX rfl rfl)) (g9 ?_))));refine St.cq (λg=> ?_) (λg=> ?_)
   ·refine g12 ?_
    refine St.rV [_] [] ?_;exact ie (by rw[d,om f e,aB g])
   ·refine g8 ?_
    refine St.aS (k+1) ⟨by omega,by omega,by rw[d,om f e,aA (λh=>h g)]⟩
 ·refine g15 ?_
  refine St.cq (λn=> ?_) (λn=> ?_)
  ·refine g7 ?_
   refine St.rV [_] [] ?_;exact ie (by obtain⟨y,hy⟩:=aF (show k<(b.map mQ).length by rw[aO];omega);rw[d,vV hy (by rw[aO];omega)])
  ·refine g8 ?_
   refine St.rV [_] [] ?_;exact ie (by rw[d,z8 (by rw[aO];omega) (by rw[aO];omega)])
theorem Az (x y:dC):dK prog 209 #[bF x,bF y] [aI x,aI y] (iv (kI xZ (bE x) (bE y))):=by
 refine dK.qf (args:=[bF x,bF y]) 10 func209 rfl ntmps209 rfl (λc=>go ?_)
 refine St.jU (aI x) (λ_:Unit=>jb x) (λρ h=>⟨(),h⟩) λ_=> ?_
 refine St.cast (H':=[aD (sl bz x.nv.1 x.nodes),aD (aL cF x.nodes),aD (aI x),aD (aI y)]) rfl ?_
 refine St.jU (aI y) (λ_:Unit=>jb y) (λρ h=>⟨(),h⟩) λ_=> ?_
 refine St.cast (H':=[aD (sl bz y.nv.1 y.nodes),aD (aL cF y.nodes),aD (sl bz x.nv.1 x.nodes),aD (aL cF x.nodes),aD (aI x),aD (aI y)]) rfl (go ?_);refine St.cC (.mk rfl) rfl (λa=>St.cC (.mk rfl) rfl (λb=>g9 ?_));refine St.ee (Ev.call (B5 x.nv.1 y.nv.1 x.nodes y.nodes) ab7 (.eI rfl rfl rfl)) (g4 ?_);refine St.rV [_] [] ?_;exact ie rfl
theorem D5 (x y:cT):dK prog 175 #[I3 x.frm x.tqo x.cp x.gr.nv.1,I3 y.frm y.tqo y.cp y.gr.nv.1] [aI x.gr,aI y.gr] (iv (yF (dy x).ed (dy y).ed)):=by
 refine dK.qf (args:=[I3 x.frm x.tqo x.cp x.gr.nv.1,I3 y.frm y.tqo y.cp y.gr.nv.1]) 27 func175 rfl ntmps175 rfl (λc=>g2 ?_);refine St.cC (.mk rfl) rfl (λb=>St.cC (.mk rfl) rfl (λd=>g4 ?_));refine St.jm [] mixed (λe f=>SW.gd 0 ?_);refine SW.gd 1 ?_;refine SW.gd 2 ?_;refine SW.gd 3 ?_;refine SW.dd 4 rfl (λ_=>Ev.call (eh _ _) qi (.aX rfl rfl)) (SW.gd 5 ?_);refine SW.gd 6 ?_;refine SW.gd 7 ?_;refine SW.gd 8 ?_;refine SW.dd 9 rfl (λ_=>Ev.call (eh _ _) qi (.aX rfl rfl)) (SW.gd 10 ?_);refine SW.gd 11 ?_;refine SW.gd 12 ?_;refine SW.gd 13 ?_;refine SW.dd 14 rfl (λ_=>Ev.call (eh _ _) qi (.aX rfl rfl)) (SW.gd 15 ?_);refine SW.dd 16 rfl (λ_=>Ev.jO 1 (.mk rfl) nI trivial jx rfl rfl) (SW.slot 21 (bF x.gr) rfl rfl (SW.gd 17 ?_));refine SW.dd 18 rfl (λ_=>Ev.jO 1 (.mk rfl) nI trivial jx rfl rfl) (SW.slot 23 (bF y.gr) rfl rfl (SW.dd 19 rfl (λ_=>Ev.call (Az x.gr y.gr) ab2 (.aX rfl rfl)) (SW.t1 20 ?_)));refine St.iu rfl (.gn rfl rfl rfl rfl) bQ dQ ec rfl rfl (by simp[Value.cells]) rfl rfl (λa=> ?_);refine St.aP (tO a 4 4) (show _=([(lf (x.frm:Nat) (y.frm:Nat)),(lf (x.tqo:Nat) (y.tqo:Nat)),(lf (x.cp:Nat) (y.cp:Nat)),(kI xZ (bE x.gr) (bE y.gr))]).length from rfl) (show _=rows aJ ([(lf (x.frm:Nat) (y.frm:Nat)),(lf (x.tqo:Nat) (y.tqo:Nat)),(lf (x.cp:Nat) (y.cp:Nat)),(kI xZ (bE x.gr) (bE y.gr))])from rfl) (g2 ?_);refine SW.go (SW.t1 21 ?_);refine St.ee (Ev.Bt (tx (tO a 4 4) [(lf (x.frm:Nat) (y.frm:Nat)),(lf (x.tqo:Nat) (y.tqo:Nat)),(lf (x.cp:Nat) (y.cp:Nat)),(kI xZ (bE x.gr) (bE y.gr))]) Jw (.aq rfl) (eu.row eu.nil rfl rfl rfl (DR (λx hx=>by simp only[List.mem_cons,List.not_mem_nil,or_false]at hx;rcases hx with rfl|rfl|rfl|rfl;exact oq _ _;exact oq _ _;exact oq _ _;exact z7 Xy _ _)))) ?_;refine g2 ?_;refine SW.go (SW.gd 22 ?_);refine SW.dn (g2 ?_);refine St.rV [_] [] ?_;exact ie (show te _ (te _ (te _ (te _ 0)))=_ by rw[Kh];rfl)
theorem JL (a b:Nat)(gb:ah)(its:List cT)(i j:Nat)(x y:cT)(hx:its[i]?=some x)(hy:its[j]?=some y):dK prog 174 #[iv (i:Nat),iv (j:Nat),tW a] [kH a (tW b),kH b gb.1,sl eT gb.1 its,aL (λx:cT=>aI x.gr) its] (iv (yF (dy x).ed (dy y).ed)):=by
 refine dK.Jt (args:=[iv (i:Nat),iv (j:Nat),tW a]) 23 func174 rfl ntmps174 rfl (λc=>go ?_);refine St.fF (aI x.gr) [aL (λx:cT=>aI x.gr) its] (λρ h=>h _ (aR ..) x (aY hx)) (St.fF (aI y.gr) [aL (λx:cT=>aI x.gr) its] (λρ h=>h _ (aR ..) y (aY hy)) ?_)
 have e:=bO hx
 have d:=bO hy
 refine g5 ?_;refine St.rq mixed (by kernel_rfl) (Mm.drawn _ _) ?_;refine g7 ?_;refine Sq.ee (Ev.MR (Rr:=eT) (sz:=4) (.mk rfl) hx underlying226 trivial L0 (by decide) (by decide)) ?_;refine Sq.slot 13 (I3 x.frm x.tqo x.cp x.gr.nv.1) rfl rfl (g7 ?_);refine Sq.ee (Ev.MR (Rr:=eT) (sz:=4) (.mk rfl) hy underlying226 trivial L0 (by decide) (by decide)) ?_;refine Sq.slot 21 (I3 y.frm y.tqo y.cp y.gr.nv.1) rfl rfl (Sq.ee (Ev.call (D5 x y) abV (.aX rfl rfl)) (g4 ?_));refine St.rV [_] [] ?_;exact ie rfl
end Go.Proofs.YtiefglecbgdaiaaGreatDoor
namespace Go.Proofs
open Go.Shelf
def Tryz.tJ:Go.Shelf.Ren:=⟨λ|6=>173|14=>208|15=>94|20=>231|21=>232|22=>233|23=>234|24=>235|25=>236|26=>237|27=>238|28=>139|29=>140|46=>249|47=>190|48=>191|49=>250|50=>251|57=>254|n=>n,λ|0=>0|3=>3|4=>4|5=>5|9=>9|22=>35|24=>3|25=>237|39=>192|45=>246|46=>247|50=>157|53=>253|55=>123|66=>295|70=>299|76=>323|77=>324|n=>n,λ|n=>n⟩
theorem Tryz.zi:Go.Proofs.SlLaysF.n6 Tryz.prog Tryz.tJ:={
 mixed:=by kernel_rfl
 f6:=⟨Tryz.f173.name,by decide,Tryz.func173.trans (congrArg some (by kernel_rfl))⟩
 f14:=⟨Tryz.f208.name,by decide,Tryz.func208.trans (congrArg some (by kernel_rfl))⟩
 f15:=Tryz.func94.trans (congrArg some (by kernel_rfl))
 f20:=⟨Tryz.f231.name,by decide,Tryz.func231.trans (congrArg some (by kernel_rfl))⟩
 f21:=⟨Tryz.f232.name,by decide,Tryz.func232.trans (congrArg some (by kernel_rfl))⟩
 f22:=⟨Tryz.f233.name,by decide,Tryz.func233.trans (congrArg some (by kernel_rfl))⟩
 f23:=⟨Tryz.f234.name,by decide,Tryz.func234.trans (congrArg some (by kernel_rfl))⟩
 f24:=⟨Tryz.f235.name,by decide,Tryz.func235.trans (congrArg some (by kernel_rfl))⟩
 f25:=⟨Tryz.f236.name,by decide,Tryz.func236.trans (congrArg some (by kernel_rfl))⟩
 f26:=⟨Tryz.f237.name,by decide,Tryz.func237.trans (congrArg some (by kernel_rfl))⟩
 f27:=⟨Tryz.f238.name,by decide,Tryz.func238.trans (congrArg some (by kernel_rfl))⟩
 f28:=Tryz.func139.trans (congrArg some (by kernel_rfl))
 f29:=Tryz.func140.trans (congrArg some (by kernel_rfl))
 f46:=⟨Tryz.f249.name,by decide,Tryz.func249.trans (congrArg some (by kernel_rfl))⟩
 f47:=Tryz.func190.trans (congrArg some (by kernel_rfl))
 f48:=Tryz.func191.trans (congrArg some (by kernel_rfl))
 f49:=⟨Tryz.f250.name,by decide,Tryz.func250.trans (congrArg some (by kernel_rfl))⟩
 f50:=⟨Tryz.f251.name,by decide,Tryz.func251.trans (congrArg some (by kernel_rfl))⟩
 f57:=⟨Tryz.f254.name,by decide,Tryz.func254.trans (congrArg some (by kernel_rfl))⟩
 t0:=Zb
 a0:=Tryz.isAgg0
 z0:=Tryz.sizeOf0
 v0:=Tryz.zeroValue0
 t3:=fA
 a3:=Tryz.isAgg3
 z3:=Tryz.sizeOf3
 v3:=Tryz.zeroValue3
 t4:=EY
 a4:=Tryz.isAgg4
 z4:=Tryz.sizeOf4
 v4:=Tryz.zeroValue4
 t5:=EZ
 a5:=Tryz.isAgg5
 z5:=Tryz.sizeOf5
 v5:=Tryz.zeroValue5
 t9:=wX
 a9:=Tryz.isAgg9
 z9:=Tryz.sizeOf9
 v9:=Tryz.zeroValue9
 t22:=bQ
 a22:=Tryz.isAgg35
 z22:=Tryz.sizeOf35
 v22:=Tryz.zeroValue35
 a24:=Tryz.isAgg3
 z24:=Tryz.sizeOf3
 t25:=Tryz.underlying237
 a25:=Tryz.isAgg237
 z25:=Tryz.sizeOf237
 v25:=Tryz.zeroValue237
 t39:=xL
 a39:=Tryz.isAgg192
 z39:=Tryz.sizeOf192
 v39:=Tryz.zeroValue192
 t45:=Tryz.underlying246
 a45:=Tryz.isAgg246
 z45:=Tryz.sizeOf246
 v45:=Tryz.zeroValue246
 t46:=Tryz.underlying247
 a46:=Tryz.isAgg247
 z46:=Tryz.sizeOf247
 v46:=Tryz.zeroValue247
 t50:=Tryz.underlying157
 a50:=Tryz.isAgg157
 z50:=Tryz.sizeOf157
 v50:=Tryz.zeroValue157
 t53:=Tryz.underlying253
 a53:=Tryz.isAgg253
 z53:=Tryz.sizeOf253
 v53:=Tryz.zeroValue253
 t55:=gj
 a55:=Tryz.isAgg123
 z55:=Tryz.sizeOf123
 v55:=Tryz.zeroValue123
 t66:=Tryz.underlying295
 a66:=Tryz.isAgg295
 z66:=Tryz.sizeOf295
 v66:=Tryz.zeroValue295
 t70:=Tryz.underlying299
 a70:=Tryz.isAgg299
 z70:=Tryz.sizeOf299
 v70:=Tryz.zeroValue299
 t76:=Tryz.underlying323
 a76:=Tryz.isAgg323
 z76:=Tryz.sizeOf323
 v76:=Tryz.zeroValue323
 t77:=Tryz.underlying324
 a77:=Tryz.isAgg324
 z77:=Tryz.sizeOf324
 v77:=Tryz.zeroValue324}
end Go.Proofs
namespace Go.J
open Go Go.Proofs Go.Shelf Go.RowKit Go.Lib Go.Sort
theorem Start.BA {ds:List e8}{W:World}(hd:∀d∈ds,d.f (J.all W)):Start (ds.map J.aD) (J.all W) W:=
 ⟨rfl,⟨rfl,λ_=>aU _⟩,rfl,aU _,λ_ _ _=>rfl,λ_ _ h=>h,Ro.le_refl _,λ_ _ _=>rfl,λE c=>by
  obtain⟨d,e,rfl⟩:=cS.1 c;exact dJ.2 (hd d e),
  (λE c b a=>by
   obtain⟨d,hd,rfl⟩:=cS.1 c
   rw[kP]at a;cases a),
  by
   refine su.2 (xQ (R:=λ_ _=>True) ?_ (List.pairwise_of_forall λ_ _=>trivial));intro d g _ _ _ b a
   rw[kP]at a;cases a⟩
theorem dK.W3 {P:Program}{f:FuncId}{args:Array Value}{ds:List e8}{v:Value}{W:World}(h:dK P f args ds v)(hd:∀d∈ds,d.f (J.all W)):
 Calls P f args W λe w'=>e= .returned v∧∃q a,w'=grow (W.drewN q) a:=by
 refine(h W (J.all W) (Start.BA hd)).mono ?_;rintro e w' ⟨u,H',rfl,rfl,hm⟩;obtain⟨kK,hm⟩:=hm.out;refine⟨rfl,w'.drawn-W.drawn,w'.heap.extract W.heap.size w'.heap.size,?_⟩
 have h1:=hm.os
 have b:=And.intro hm.tape.1 (hm.tape.2 trivial)
 have c:=hm.output
 have j:=hm.size
 have g:∀k,k<W.heap.size→w'.heap[k]?=W.heap[k]?:=λk hk=>hm.Ax k hk (jP ds k)
 clear hm
 cases w' with
 |mk l m n a o=>
  cases W with
  |mk heap tape drawn os out=>
   simp only at h1 b c j g
   simp only[grow,World.drewN,World.mk.injEq]
   refine⟨?_,b.1,by omega,h1,c⟩
   apply Array.ext_getElem?
   intro i;rw[Array.getElem?_append]
   split
   ·rename_i hi;exact g i hi
   ·rename_i hi
    rw[Array.getElem?_extract]
    split
    ·congr 1;omega
    ·rename_i p
     rw[SF zE]
section
variable {P:Program}{En:Ren}{α:Type}[Inhabited α]
theorem jt (enc:α→Value)(w:World)(g0 m k:Nat)(a:Array α)(os:Array Obj)(hk:k≠g0)(b:k<w.heap.size):(sortWorld enc w g0 0 m a os).heap[k]?=w.heap[k]?:=by
 unfold sortWorld grow putRow mapBlock
 simp only[]
 rw[Array.getElem?_append_left (by simpa using b),Array.getElem?_modify];rw[aA (λe=>hk e.symm)];rfl
theorem r7 (enc:α→Value)(w:World)(g0 m:Nat)(b:Array α)(os:Array Obj){cur:Array Value}{e:TypeId}{fr:Nat×Nat}(c:w.heap[g0]?=some (.cells cur e fr)):
 (sortWorld enc w g0 0 m b os).heap[g0]?=some (.cells (putCells enc 0 b cur) e fr):=by
 have d:=(od.1 c).1
 have a:(Sort.ahead w m).heap[g0]?=some (.cells cur e fr):=c
 unfold sortWorld grow putRow mapBlock
 simp only[]
 rw[Array.getElem?_append_left (by simpa using d),Array.getElem?_modify,aB rfl,a];rfl
theorem Start.sorted {ds:List e8}{enc:α→Value}{v:Value}{e:TypeId}{d:List α}{w:World}{ρ:Ro}(st:Start (ds.map aD++ [row v e 1 d.length (d.map enc)]) ρ w){g0 cap:Nat}{cur:Array Value}
 (f:v= tO g0 d.length cap) (h:w.heap[g0]?=some (.cells cur e (0,0))) (y:d.length≤cap) (z:cap≤maxLen) (A:cur.size=cap*1) (B:cur.toList.take (d.length*1)=d.map enc):
 Holds enc w g0 0 d.toArray∧g0<w.heap.size∧(∀(m:Nat) (os:Array Obj) (c:Array α),Ro.le ρ (J.all (sortWorld enc w g0 0 m c os)))∧
  ∀(n:Nat) (a:Array α) (os:Array Obj),a.size=d.length→Mm ⟨w,ρ,jl (ds.map aD++ [row v e 1 d.length (d.map enc)]),True⟩ [row v e 1 d.length (a.toList.map enc)] (sortWorld enc w g0 0 n a os):=by
 have hblk:=(od.1 h).1
 have s:ρ g0=Option.none:=(st.own _ (kz _ (sm _)) g0 (by rw[eA,f];rfl)).1
 have t:∀j (g:j<d.length),cur[j]?=some (enc d[j]):=λj g=>by
  have:=congrArg (λl=>l[j]?) B
  simp only[List.getElem?_take,List.getElem?_map,List.getElem?_eq_getElem g,Option.map_some]at this
  rw[aB zE]at this
  simpa using this
 have hle:∀(m:Nat) (os:Array Obj) (c:Array α),Ro.le ρ (J.all (sortWorld enc w g0 0 m c os)):=λm os c k o hk=>by
  have u:=st.fits k o hk
  have C:k≠g0:=by rintro rfl;rw[s]at hk;cases hk
  show(sortWorld enc w g0 0 m c os).heap[k]?=some o
  rw[jt enc w g0 m k c os C (od.1 u).1,u]
 refine⟨λj g=> ?_,hblk,hle,λn a os D=>Mm.mk (ρ:=ρ) ⟨rfl,⟨rfl,?_⟩,rfl,?_,?_,?_,Ro.le_refl _,λ_ _ _=>rfl,?_,?_,D2 ..⟩⟩
 ·have F:j<d.length:=by simpa using g
  refine⟨?_,?_⟩
  ·rw[World.cell?,h]
   simp only[Option.isSome_none,Bool.false_eq_true,if_false,Nat.zero_add]
   rw[t j F,getElem!_pos d.toArray j g]
   simp
  ·rw[World.frozen?,h];simp
 ·intro _;show w.drawn≤w.drawn+n;omega
 ·unfold sortWorld grow;simp
 ·intro k hk G
  refine jt enc w g0 n k a os ?_ hk;rintro rfl;exact G ⟨_,kz _ (sm _),by rw[eA,f];rfl⟩
 ·exact λk o hk=>hle n os a k o hk
 ·intro E q
  rw[ba.1 q];refine eQ.2 ⟨by simp[D],.inr ⟨g0,cap,putCells enc 0 a cur,f,aQ _,r7 enc w g0 n a os h,y,z,by simp[putCells,A],?_⟩⟩
  apply nN
  intro i
  simp only[putCells,List.getElem?_take,Array.getElem?_toList,Array.getElem?_mapIdx,List.getElem?_map]
  by_cases hi:i<d.length
  ·have r:i<a.size:=by omega
   rw[aB zE,t i hi]
   simp only[Option.map_some,Nat.zero_le,true_and,Nat.zero_add,Nat.sub_zero]
   rw[aB r,getElem!_pos a i r,py r];rfl
  ·rw[aA zE,SF zE];rfl
 ·intro E q b p
  rw[ba.1 q]at p
  have x:b=g0:=by rw[eA,f]at p;simp[Value.ownBlock]at p;exact p.symm
  exact⟨x▸s,.inr ⟨_,kz _ (sm _),by rw[eA,f,x];rfl⟩⟩
theorem Start.stays {ds:List e8}{E:ay}{w:World}{ρ:Ro}(st:Start (ds.map aD++ [E]) ρ w):Mm ⟨w,ρ,jl (ds.map aD++ [E]),True⟩ [E] w:=Mm.mk (fH.perm st kf).left
theorem BS (L:SlLaysF.n6 P En)(enc:α→Value)(h1:OneCell enc)(cf:α→α→Int)(hO:SWO (ltOf cf))(g:Nat)(k:Array Value)
 (D:∀args w,(callFunc g args).run P w= .ok (.enter g args) w) (ds:List e8) (E:∀x y,dK P g (#[enc x,enc y]++k) ds (.int .i64 (cf x y))) (v:Value) (e:TypeId) (d:List α) (hlen:d.length<4611686018427387904):
 dx P (En.f 6) #[v,.func (.func g) #[] k] (ds.map aD++ [row v e 1 d.length (d.map enc)])
  (λu H'=>u= .tuple #[]∧∃c:List α,c.Perm d∧c.Pairwise (λa b=>ltOf cf b a=false)∧H'=[row v e 1 d.length (c.map enc)]):=by
 intro w ρ st
 have F:=eQ.1 (st.dR _ (kz _ (sm _)))
 have G:∀x∈ds,x.f ρ:=λx hx=>dJ.1 (st.dR _ (ke _ (dh hx)))
 have none:∀(p:Option Addr) (cap:Nat),v= .slice p 0 cap→d=[]→Calls P (En.f 6) #[v,.func (.func g) #[] k] w λo w'=>∃l H',o= .returned l∧
  (l= .tuple #[]∧∃c:List α,c.Perm d∧c.Pairwise (λa b=>ltOf cf b a=false)∧H'=[row v e 1 d.length (c.map enc)])∧Mm ⟨w,ρ,jl (ds.map aD++ [row v e 1 d.length (d.map enc)]),True⟩ H' w':=by
  intro p cap h H
  have B:=AnyF.slices_SortFunc_none (P:=P) (ρ:=En) {L with} p cap (.func (.func g) #[] k) w
  rw[←h]at B;refine B.mono ?_;rintro I w' ⟨rfl,rfl⟩;exact⟨_,_,rfl,⟨rfl,d,.refl _,(by rw[H];exact .nil),rfl⟩,st.stays⟩
 rcases F.2 with⟨h,J⟩|⟨g0,cap,cur,h,_,K,M,N,O,Q⟩
 ·exact none _ _ h (ka J)
 ·by_cases hz:d.length=0
  ·rw[hz]at h;exact none _ _ h (ka hz)
  ·obtain⟨hH,hblk,hle,q⟩:=Start.sorted st h K M N O Q
   have r:CmpLays1 P g k enc cf g0 0 d.toArray.size w:=λm os R _ x y=>(E x y).W3 λx hx=>x.mono _ _ (hle m os R) (G x hx)
   have main:=Any.slices_SortFunc L enc h1 cf hO g k g0 0 cap d.toArray w D r hH hblk (by simpa using hlen)
   have s:v= .slice (some ⟨g0,0,Option.none⟩) d.toArray.size cap:=by rw[h];simp
   rw[←s]at main;refine main.mono ?_;rintro I w' ⟨rfl,c,n,os,⟨t,_,hp⟩,z,rfl⟩
   have S:c.size=d.length:=by simpa using t
   have A:c.toList.Perm d:=by
    have T:c.extract 0 d.toArray.size=c:=by rw[←t];simp
    have e2:d.toArray.extract 0 d.toArray.size=d.toArray:=by simp
    rw[T,e2]at hp
    simpa using hp
   refine⟨_,_,rfl,⟨rfl,c.toList,A,?_,rfl⟩,q n c os S⟩;rw[List.pairwise_iff_getElem];intro i j hi U V
   have W:i<c.size:=by simpa using hi
   have C:j<c.size:=by simpa using U
   have:=z i j (aQ _) V (by rw[←t];exact C)
   rw[getElem!_pos c i W,getElem!_pos c j C]at this
   simpa using this
end
section
variable {P:Program}{En:Ren}
theorem EP (L:SlLaysF.n6 P En)(fv v:Value)(e:TypeId)(D:e8):dx P (En.f 6) #[v,fv] ([D].map aD++ [row v e 1 0 []]) (λu H'=>u= .tuple #[]∧H'=[row v e 1 0 []]):=by
 intro w ρ st
 have g:=eQ.1 (st.dR (row v e 1 0 []) (kz _ (sm _)))
 have none:∀(p:Option Addr) (cap:Nat),v= .slice p 0 cap→Calls P (En.f 6) #[v,fv] w λc w'=>∃a H',c= .returned a∧(a= .tuple #[]∧H'=[row v e 1 0 []])∧Mm ⟨w,ρ,jl ([D].map aD++ [row v e 1 0 []]),True⟩ H' w':=by
  intro p cap b
  have d:=AnyF.slices_SortFunc_none (P:=P) (ρ:=En) {L with} p cap fv w
  rw[←b]at d;refine d.mono ?_;rintro h w' ⟨rfl,rfl⟩;exact⟨_,_,rfl,⟨rfl,rfl⟩,st.stays⟩
 rcases g.2 with⟨b,_⟩|⟨g0,cap,cur,b,_⟩
 ·exact none _ _ b
 ·exact none _ _ b
theorem ER (L:SlLaysF.n6 P En){m:Nat}(enc:Nat→Value)(h1:∀i,i<m→(enc i).oneCell'=true)(cf:Nat→Nat→Int)(n:∀a,a<m→¬cf a a<0)(p:∀a b c,a<m→b<m→c<m→cf a b<0→cf b c<0→cf a c<0)
 (q:∀a b c,a<m→b<m→c<m→¬cf a b<0→¬cf b c<0→¬cf a c<0) (g:Nat) (r:aK P g) (caps:List Value) (D:e8)
 (s:∀a b,a<m→b<m→dK P g ([enc a,enc b]++caps).toArray [D] (iv (cf a b))) (v:Value) (e:TypeId) (hm:m<4611686018427387904):
 dx P (En.f 6) #[v,.func (.func g) #[] caps.toArray] ([D].map aD++ [row v e 1 m ((List.range m).map enc)]) (λu H'=>u= .tuple #[]∧∃l:List Nat,l.Perm (List.range m)∧l.Pairwise (λa b=>¬cf b a<0)∧H'=[row v e 1 m (l.map enc)]):=by
 rcases Nat.eq_zero_or_pos m with rfl|t
 ·exact(EP L (.func (.func g) #[] caps.toArray) v e D).mono λu H' ⟨h1,j⟩=>⟨h1,[],List.Perm.refl _,List.Pairwise.nil,j⟩
 ·haveI:Inhabited {i:Nat//i<m}:=⟨⟨0,t⟩⟩
  let d:List {i:Nat//i<m}:=(List.range m).attach.map λx=>⟨x.1,dM.1 x.2⟩
  have o:d.length=m:=by simp[d]
  have k:d.map (λx=>x.1)=List.range m:=by simp[d,List.map_map,Function.comp_def]
  have A:d.map (λx=>enc x.1)=(List.range m).map enc:=by rw[←k];simp[List.map_map,Function.comp_def]
  have hO:SWO (ltOf λ(x y:{i:Nat//i<m})=>cf x.1 y.1):=by
   refine⟨λx=>df (n x.1 x.2),λx y z h1 j=>cX (p _ _ _ x.2 y.2 z.2 (im h1) (im j)),λx y z h1 j=>df (q _ _ _ x.2 y.2 z.2 (ly h1) (ly j))⟩
  have main:=BS L (λx:{i:Nat//i<m}=>enc x.1) (λx=>h1 x.1 x.2) (λx y=>cf x.1 y.1) hO g caps.toArray (λargs w=>r.run) [D] (λx y=>by have:=s x.1 y.1 x.2 y.2;simpa using this) v e d zE
  rw[o,A]at main;refine main.mono ?_;rintro u H' ⟨hu,B,hp,C,hH⟩;refine⟨hu,B.map (λx=>x.1),?_,?_,?_⟩
  ·have:=hp.map (λx=>x.1);rw[k]at this;exact this
  ·rw[su]
   exact C.imp λh=>ly h
  ·rw[hH];simp[List.map_map,Function.comp_def]
end
end Go.J
