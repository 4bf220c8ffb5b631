/-
  Laws of walks through programs, and facts on grammars, trees and queries.
  Conditions: none.
-/
import Derived.Test.YtblifkgpebebmaaGreatDoorGA8
set_option maxHeartbeats 8000000
set_option maxRecDepth 20000
set_option linter.unusedVariables false
set_option linter.unusedSimpArgs false
namespace Go.Proofs.YtblifkgpebebmaaGreatDoor
open Go Go.J Tryz
section
variable {n:Nat}{F:Fr}{c:Ctx}{H H' R:List ak}{T:Act→World→Prop}{L:List jJ}{e:Nat}{x:jJ}
theorem St.JE (a b:TypeId)(hx:L[e]?=some x)[t:jD (bE (kK a b) L) (row x.dv.1 a 5 x.done.length (rows LM x.done)::row x.nv.1 b 7 x.next.length (rows jM x.next)::aB (aF oL x.done)::aB (aF hS x.next)::bE (kK a b) (L.eraseIdx e)) H H'](h:St n F (Mm c H') T):St n F (Mm c H) T:=
 St.tail (t:=t) _ _ (nI (kK a b) hx) h
theorem St.T9 (f g:TypeId)(dv:Value)(a:dv.oneCell'=true)(done:List xL)(nv:Value)(d:nv.oneCell'=true)(next:List kq)(b:Bool)(he:e<L.length)
 [tk:eT [row dv f 5 done.length (rows LM done),row nv g 7 next.length (rows jM next),aB (aF oL done),aB (aF hS next)] H R] [t:jD (bE (kK f g) (L.eraseIdx e)) (bE (kK f g) (L.set e ⟨⟨dv,a⟩,done,⟨nv,d⟩,next,b⟩)) R H'] (h:St n F (Mm c H') T):St n F (Mm c H) T:=
 St.ma (tk:=tk) (t:=t) _ _ _ (sN (kK f g) (⟨⟨dv,a⟩,done,⟨nv,d⟩,next,b⟩:jJ) he) h
theorem NN {α:Type}(f:α→List ak){l:List α}{i:Nat}{a b:α}(h:l[i]?=some a)(c:f b=f a):bE f l=bE f (l.set i b):=by
 induction l generalizing i with
 |nil=>cases h
 |cons u l d=>
  cases i with
  |zero=>obtain rfl:=Option.some.inj h;rw[sD,iw,iw,c]
  |succ i=>rw[wg,iw,iw,←d h]
theorem St.Xm (X X':List ak)(hp:X=X')[t:jD X X' H H'](h:St n F (Mm c H') T):St n F (Mm c H) T:=St.tail X X' (hp▸ .refl _) h
end
theorem LS {α:Type}(R:Rp α){l:List α}{i:Nat}{a b:α}(h:l[i]?=some a)(c:R.cells b=R.cells a):rows R l=rows R (l.set i b):=by
 induction l generalizing i with
 |nil=>cases h
 |cons u l d=>
  cases i with
  |zero=>
   obtain rfl:=Option.some.inj h;rw[sD]
   show R.cells u++rows R l=R.cells b++rows R l
   rw[c]
  |succ i=>
   rw[wg]
   show R.cells u++rows R l=R.cells u++rows R (l.set i b)
   rw[d h]
def jJ.wb (x:jJ):jJ:=⟨x.dv,x.done,x.nv,x.next,true⟩
def jJ.wd (x:jJ)(u:aV)(l:List xL):jJ:=⟨u,l,x.nv,x.next,x.begun⟩
theorem TL {L:List jJ}{e:Nat}{x:jJ}(h:L[e]?=some x):(rows fM L).set (e*3+2) (.bool true)=rows fM (L.set e x.wb):=pF fM h (by decide) rfl
theorem FO {L:List jJ}{e:Nat}{x:jJ}(h:L[e]?=some x)(u:aV)(l:List xL):(rows fM L).set (e*3+0) u.1=rows fM (L.set e (x.wd u l)):=pF fM h (by decide) rfl
theorem fY {L:List jJ}{e:Nat}{x:jJ}(h:L[e]?=some x):(L.map fi)[e]?=some (fi x):=by rw[bQ,h];rfl
theorem LJ {B:cr}{get:eA→Nat→Nat→eA×Option jq}{e d:Nat}{c:jH}{st st2:eA}(h:mn B get st e c.fy (c.ranks.set d (c.ranks.getD d 0+1))=(st2,none)):zK B get e c d st=st2:=by unfold zK;rw[h]
theorem LK {B:cr}{get:eA→Nat→Nat→eA×Option jq}{e d:Nat}{c z:jH}{st st2:eA}{x:wD}(h:mn B get st e c.fy (c.ranks.set d (c.ranks.getD d 0+1))=(st2,some z))(hx:st2[e]?=some x):zK B get e c d st=st2.set e ⟨x.done,Ak x.next z,x.begun⟩:=by unfold zK;rw[h];show DA st2 e _=_;rw[r4 hx,gO hx]
theorem KP {B:cr}{get:eA→Nat→Nat→eA×Option jq}{e w:Nat}{st st2:eA}(h:mn B get st e w (List.replicate (B.fy e w).kids.length 0)=(st2,none)):AQ B get e st w=st2:=by unfold AQ;rw[h]
theorem KQ {B:cr}{get:eA→Nat→Nat→eA×Option jq}{e w:Nat}{c:jH}{st st2:eA}{x:wD}(h:mn B get st e w (List.replicate (B.fy e w).kids.length 0)=(st2,some c))(hx:st2[e]?=some x):AQ B get e st w=st2.set e ⟨x.done,x.next++ [c],x.begun⟩:=by unfold AQ;rw[h];show DA st2 e _=_;rw[r4 hx,gO hx]
theorem Sz {B:cr}{get:eA→Nat→Nat→eA×Option jq}{e r m:Nat}{st:eA}{x:wD}(hx:st[e]?=some x)(hm:0<m)(h:x.done.length≤r)(a:0<x.next.length):tq B get e r m st=tq B get e r (m-1) (Al B get e (FC st e) (FC st e).ranks.length 0 (LI st e)):=by
 obtain⟨k,rfl⟩:∃k,m=k+1:=⟨m-1,by omega⟩
 rw[tq,aC (by rw[gO hx];exact⟨h,a⟩)];rfl
theorem BO {B:cr}{get:eA→Nat→Nat→eA×Option jq}{e r m:Nat}{st:eA}{x:wD}(hx:st[e]?=some x)(h:¬(x.done.length≤r∧0<x.next.length)):tq B get e r m st=st:=by
 cases m with
 |zero=>rfl
 |succ k=>rw[tq,aA (by rw[gO hx];exact h)]
theorem r8 (l:List Nat)(d z:Nat):(rows aI (bW l)).set (d*1+0) (iv (z:Int))=rows aI (bW (l.set d z)):=by rw[jA,Ep]
section
variable {n:Nat}{F:Fr}{c:Ctx}{H H' R:List ak}{T:Act→World→Prop}{L:List jJ}{e:Nat}{x:jJ}
theorem St.D9 (a b:TypeId)(hx:L[e]?=some x)[tk:eT [row x.dv.1 a 5 x.done.length (rows LM x.done),row x.nv.1 b 7 x.next.length (rows jM x.next),aB (aF oL x.done),aB (aF hS x.next)] H R][t:jD (bE (kK a b) (L.eraseIdx e)) (bE (kK a b) L) R H'](h:St n F (Mm c H') T):St n F (Mm c H) T:=
 St.ma (tk:=tk) (t:=t) _ _ _ (nI (kK a b) hx).symm h
end
theorem BI (B:cr)(f:Nat)(st:eA)(e r:Nat){st2:eA}{x:wD}(h:tq B (fh B f) e r (r+1) (yK B (fh B f) e st)=st2)(hx:st2[e]?=some x):fh B (f+1) st e r=(st2,x.done[r]?):=by
 rw[fh];rw[h,gO hx]
theorem FJ {B:cr}{get:eA→Nat→Nat→eA×Option jq}{e d rd:Nat}{z:kq}{st:eA}(h:z.ranks[d]?=some rd):Al B get e (iR z) (z.ranks.length-d) d st=if 0<rd then zK B get e (iR z) d st else Al B get e (iR z) (z.ranks.length-(d+1)) (d+1) (zK B get e (iR z) d st):=by
 have b:=(ez.1 h).1
 rw[show z.ranks.length-d=(z.ranks.length-(d+1))+1 by omega,BU]
 have a:(iR z).ranks.getD d 0=rd:=by show z.ranks.getD d 0=rd;rw[aw,h];rfl
 rw[a]
theorem oM {l:List Int}{k:Nat}{x:Int}(h:l[k]?=some x):(rows aI l)[k*1+0]?=some (iv x):=eL aI l k 0 x h (by decide)
theorem NI (G j m0 k:Nat)(rv xv eC:aV)(R X:List Int)(its:List dJ)(H:o7 (⟨its.map cE,R,X⟩:cr)):∀f,VJ G j m0 k rv xv eC R X its f:=by
 refine Nat.rec (motive:=λf=>VJ G j m0 k rv xv eC R X its f) (λe r L _ h=>absurd h (Nat.not_lt_zero _)) (λf SE e r L he SB hr J3=> ?_);refine dx.body (args:=[.pointer (some ⟨G,0,none⟩),iv (e:Nat),iv (r:Nat)]) 167 func52 rfl ntmps52 rfl (λc=> ?_);refine go ?_;refine St.cast (H':=(aB (fO G [rv.1,xv.1,eC.1,(.slice (some ⟨j,0,none⟩) m0 k)])::aB (sl aI rv.1 R)::aB (sl aI xv.1 X)::aB (sl eB eC.1 its)::aB (aF cj its)::row (.slice (some ⟨j,0,none⟩) m0 k) 194 3 (L).length (rows fM (L))::bE (kK 71 196) L)) rfl ?_;obtain⟨y,hy⟩:=aE he
 have N:e<(⟨its.map cE,R,X⟩:cr).its.length:=by show e<(its.map cE).length;rw[aN];exact he
 have hLl:=sX J3
 obtain⟨x0,H8⟩:=aE (show e<L.length by omega)
 have hwb:y.cV.length≤1117240000000:=by rw[←CZ (R:=R) (X:=X) hy];exact H.nw e N
 have hnw:=CZ (R:=R) (X:=X) hy
 have Uf:=Cu H f
 refine St.cI cj its (x:=y) (ae hy) ?_;refine St.eY (sl mH y.wv.1 y.cV) [cj y] (λρ h=>h (cj y) (aP ..) _ (cN _ (aP ..))) ?_;refine go ?_;refine St.al (λb6=> ?_);refine g8 ?_;refine St.ee (Ev.qy (.mk rfl) underlying125 trivial rfl) ?_;refine g5 ?_;refine St.join (ι:=List jJ) (λLb T=>T) (λLb=>(row (.slice (some ⟨j,0,none⟩) m0 k) 194 3 (Lb).length (rows fM (Lb))::aB (fO G [rv.1,xv.1,eC.1,(.slice (some ⟨j,0,none⟩) m0 k)])::aB (sl aI rv.1 R)::aB (sl aI xv.1 X)::aB (sl eB eC.1 its)::aB (aF cj its)::aB (sl mH y.wv.1 y.cV)::aB (cj y)::aW b6 (.cells [iv 0,(.slice none 0 0),iv 0,iv 0,(.slice none 0 0)].toArray 71 (0,0))::(bE (kK 71 196) Lb))) (λLb=>Lb.map fi=yK (⟨its.map cE,R,X⟩:cr) (fh (⟨its.map cE,R,X⟩:cr) f) e (L.map fi)) (aD.cons 0 rfl (aD.cons 1 rfl (aD.cons 2 rfl (aD.cons 6 rfl (aD.cons 7 rfl (aD.cons 8 rfl aD.nil)))))) ?_ ?_
 ·refine g3 ?_
  refine St.ee (Ev.kf rfl (.mk rfl)) ?_;refine St.ee (Ev.jZ rfl (.mk rfl) Iu) ?_;refine St.slot 25 (cY (.slice (some ⟨j,0,none⟩) m0 k) 3 e 2) rfl rfl ?_;refine St.ee (Ev.ct (.mk rfl) IA trivial (by omega) (show(rows fM L)[e*3+2]?=some (.bool x0.begun)from u6 H8 (by decide))) ?_;refine g3 ?_;refine St.cond _ rfl (λh27=> ?_) (λh27=> ?_)
  ·skip
   have hb0:x0.begun=false:=by simpa using h27
   have Iz:((L.map fi).getD e nq).begun=false:=by rw[gO (fY H8)];exact hb0
   refine g3 ?_;refine St.ee (Ev.kf rfl (.mk rfl)) ?_;refine St.ee (Ev.jZ rfl (.mk rfl) Iu) ?_;refine St.slot 30 (cY (.slice (some ⟨j,0,none⟩) m0 k) 3 e 2) rfl rfl ?_;refine St.cG (.mk rfl) (.mk rfl) Bj rfl (by omega) (by decide) ?_;refine St.aM (.slice (some ⟨j,0,none⟩) m0 k) (show _=(L.set e x0.wb).length by rw[cn]) (show _=rows fM (L.set e x0.wb)from TL H8) ?_;refine St.Xm (bE (kK 71 196) L) (bE (kK 71 196) (L.set e x0.wb)) (NN _ H8 rfl) ?_;refine g8 ?_;refine St.ee (Ev.qy (.mk rfl) nT trivial rfl) ?_;refine g9 ?_;refine St.lH (ι:=Nat×List jJ) (λ⟨w,b⟩ T=>(40,iv w)::T) (λ⟨w,b⟩=>(row (.slice (some ⟨j,0,none⟩) m0 k) 194 3 (b).length (rows fM (b))::aB (fO G [rv.1,xv.1,eC.1,(.slice (some ⟨j,0,none⟩) m0 k)])::aB (sl aI rv.1 R)::aB (sl aI xv.1 X)::aB (sl eB eC.1 its)::aB (aF cj its)::aB (sl mH y.wv.1 y.cV)::aB (cj y)::aW b6 (.cells [iv 0,(.slice none 0 0),iv 0,iv 0,(.slice none 0 0)].toArray 71 (0,0))::(bE (kK 71 196) b))) (λ⟨w,b⟩=>w≤y.cV.length∧b.map fi=E3 (⟨its.map cE,R,X⟩:cr) (fh (⟨its.map cE,R,X⟩:cr) f) e (L.map fi) w) (λ⟨w,b⟩=>y.cV.length-w) ⟨0,L.set e x0.wb⟩ (aD.cons 0 rfl (aD.cons 1 rfl (aD.cons 2 rfl (aD.cons 6 rfl (aD.cons 7 rfl (aD.cons 8 rfl (aD.cons 39 rfl aD.nil))))))) ⟨aO _,by show _=(L.map fi).set e _;rw[gO (fY H8),jk];rfl⟩ ?_;rintro ⟨w,b⟩ ⟨hw,Z⟩
   dsimp only at hw Z⊢
   have Qe:=CU H Uf N SB J3 Iz w (by omega)
   rw[←Z]at Qe
   have hl1:=sX Qe.ok
   obtain⟨a,n⟩:=aE (show e<b.length by omega);refine g6 ?_;refine St.cq (λh41=> ?_) (λh41=> ?_)
   ·have Nr:w<y.cV.length:=by omega
    obtain⟨A,hwy⟩:=aE Nr
    have SU:=U6 (R:=R) (X:=X) hy hwy
    have hwn:w<rM (⟨its.map cE,R,X⟩:cr) e:=by rw[hnw];exact Nr
    have hk3:A.kids.length≤3:=by have h:=afF H N hwn;rw[SU]at h;exact h
    have hnk:(bW A.kids).length=A.kids.length:=dW _
    refine St.eY (sl aI A.kv.1 (bW A.kids)) [cj y] (λρ h=>h (cj y) (aP ..) (aF mS y.cV) (cN _ (cN _ (aP ..))) A (ae hwy)) ?_;refine g2 ?_;refine St.join (ι:=List jJ) (λs T=>T) (λs=>(row (.slice (some ⟨j,0,none⟩) m0 k) 194 3 (s).length (rows fM (s))::aB (fO G [rv.1,xv.1,eC.1,(.slice (some ⟨j,0,none⟩) m0 k)])::aB (sl aI rv.1 R)::aB (sl aI xv.1 X)::aB (sl eB eC.1 its)::aB (aF cj its)::aB (sl mH y.wv.1 y.cV)::aB (cj y)::aW b6 (.cells [iv 0,(.slice none 0 0),iv 0,iv 0,(.slice none 0 0)].toArray 71 (0,0))::(bE (kK 71 196) s))) (λs=>s.map fi=AQ (⟨its.map cE,R,X⟩:cr) (fh (⟨its.map cE,R,X⟩:cr) f) e (b.map fi) w) (aD.cons 0 rfl (aD.cons 1 rfl (aD.cons 2 rfl (aD.cons 6 rfl (aD.cons 7 rfl (aD.cons 8 rfl (aD.cons 39 rfl (aD.cons 40 rfl aD.nil)))))))) ?_ ?_
    ·refine g15 ?_
     refine St.ee (Ev.qy (.mk rfl) nT trivial rfl) ?_;refine g9 ?_;refine St.nJ (Rr:=aI) (g:=0) (m:=A.kids.length) (sz:=1) rfl (.mk rfl) (.mk rfl) bI dL eQ xO (congrArg _ hnk) (congrArg _ hnk) (by omega) rfl rfl (λb60=> ?_);refine St.aM (.slice (some ⟨b60,0,none⟩) A.kids.length A.kids.length) (show _=(bW (List.replicate A.kids.length 0)).length by rw[dW,kG]) (show _=rows aI (bW (List.replicate A.kids.length 0)) by unfold bW;rw[s9];rfl) ?_;refine St.bR (.slice (some ⟨b60,0,none⟩) A.kids.length A.kids.length) aI (bW (List.replicate A.kids.length 0)) rfl rfl (λq hq=>by obtain⟨i,hi,rfl⟩:=cy.1 hq;rw[wa hi];show aa _;unfold aa;omega) ?_;refine St.pQ (ds:=[fO G [rv.1,xv.1,eC.1,(.slice (some ⟨j,0,none⟩) m0 k)],sl aI rv.1 R,sl aI xv.1 X,sl eB eC.1 its,aF cj its,sl aI (⟨(.slice (some ⟨b60,0,none⟩) A.kids.length A.kids.length),rfl⟩:aV).1 (bW (List.replicate A.kids.length 0))]) (L:=[row (.slice (some ⟨j,0,none⟩) m0 k) 194 3 (b).length (rows fM (b))]) (X:=bE (kK 71 196) b) (post:=λv L' X'=>∃(p:List jJ) (cc:kq) (o:Bool),mn (⟨its.map cE,R,X⟩:cr) (fh (⟨its.map cE,R,X⟩:cr) f) (b.map fi) e w (List.replicate A.kids.length 0)=(p.map fi,if o then some (iR cc)else none)∧v= .tuple #[E9 cc,.bool o]∧L'=[row (.slice (some ⟨j,0,none⟩) m0 k) 194 3 (p).length (rows fM (p)),aB (hS cc)]∧X'=bE (kK 71 196) p) ((wG G j m0 k rv xv eC R X its H f SE e w (0) (⟨(.slice (some ⟨b60,0,none⟩) A.kids.length A.kids.length),rfl⟩) (List.replicate A.kids.length 0) b he SB hwn (by rw[SU];exact kG) (λq hq=>by rw[wa hq];exact aR _) (by have:=H.ht e N;omega) Qe.ok).mono (λv H' ⟨p,cc,o,a1,a2,a3⟩=>⟨[_,_],_,a3,p,cc,o,a1,a2,rfl,rfl⟩)) Zv (.gW rfl rfl rfl rfl) rfl ?_;rintro v61 _ _ ⟨p,cc,o,hch,rfl,rfl,rfl⟩;refine St.dQ ?_
     have hco:=Ce (D:=0) (ranks:=List.replicate A.kids.length 0) H Uf N SB hwn (by rw[SU];exact kG) (λq hq=>by rw[wa hq];exact aR _) (by have:=H.ht e N;omega) Qe.ok
     rw[hch]at hco
     have hs2:jm (⟨its.map cE,R,X⟩:cr) (p.map fi):=hco.1
     have hl2:=sX hs2
     obtain⟨l,SV⟩:=aE (show e<p.length by omega)
     have NU:mn (⟨its.map cE,R,X⟩:cr) (fh (⟨its.map cE,R,X⟩:cr) f) (b.map fi) e w (List.replicate ((⟨its.map cE,R,X⟩:cr).fy e w).kids.length 0)=(p.map fi,if o then some (iR cc)else none):=by rw[SU];exact hch
     refine g3 ?_;refine St.al (λb10=> ?_);refine St.sA (.mk rfl) (.mk rfl) ji ?_ (h1:=(eW.2 λu hu=>jM.one cc u hu));refine g8 ?_;refine St.cond _ rfl (λh64=> ?_) (λh64=> ?_)
     ·skip
      obtain rfl:o=true:=h64
      have M:=(hs2.nl e _ (fY SV)).nl
      have Ko:=(hs2.nl e _ (fY SV)).dl
      have M:(l.next.map iR).length≤rM (⟨its.map cE,R,X⟩:cr) e+3*(l.done.map mV).length:=M
      have Ko:(l.done.map mV).length+l3 (⟨its.map cE,R,X⟩:cr) e≤262:=Ko
      rw[aN]at M Ko;rw[aN]at M;refine St.JE (L:=p) (e:=e) 71 196 SV ?_;refine St.da (row (.slice (some ⟨j,0,none⟩) m0 k) 194 3 (p).length (rows fM (p))::row l.nv.1 196 7 (l.next).length (rows jM (l.next))::(bE (kK 71 196) (p.eraseIdx e))) mixed (λnp ns=> ?_);refine SW.gd 0 ?_;refine SW.gd 1 ?_;refine SW.dd 2 rfl (λ_=>Ev.kf rfl (.mk rfl)) ?_;refine SW.dd 3 rfl (λ_=>Ev.jZ rfl (.mk rfl) oy) ?_;refine SW.slot 68 (cY (.slice (some ⟨j,0,none⟩) m0 k) 3 e 1) rfl rfl ?_;refine SW.gd 5 ?_;refine SW.slot 70 (E9 cc) rfl rfl ?_;refine SW.t2 4 6 ?_ ?_
      focus
       refine St.ee (Ev.ct (.mk rfl) ib trivial (by omega) (nL SV)) ?_;refine g2 ?_;refine SW.go ?_;refine SW.t1 6 ?_;refine St.fp rfl (.ar rfl) ib ji C8 rfl rfl (by simp[Value.cells]) rfl rfl (λb71=> ?_);refine g2 ?_;refine SW.go ?_;refine SW.t1 7 ?_;refine St.aj (.mk rfl) (.mk rfl) ib ji C8 Mf (by intro u hu;exact jM.one cc u hu) (by omega) (by omega) rfl rfl rfl rfl (λv72 akC=> ?_);refine St.aM v72 (show _=(l.next++ [cc]).length by rw[bN];rfl) (show _=rows jM (l.next++ [cc]) by rw[ax];rfl) ?_;refine St.bZ v72 (λO _=> ?_);refine g2 ?_;refine SW.go ?_;refine SW.dd 8 rfl (λ_=>Ev.kf rfl (.mk rfl)) ?_;refine SW.dd 9 rfl (λ_=>Ev.jZ rfl (.mk rfl) oy) ?_;refine SW.slot 74 (cY (.slice (some ⟨j,0,none⟩) m0 k) 3 e 1) rfl rfl ?_;refine SW.t1 10 ?_;refine St.cG (.mk rfl) (.mk rfl) Ji O (by omega) (by decide) ?_;refine St.aM (.slice (some ⟨j,0,none⟩) m0 k) (show _=(p.set e ⟨⟨l.dv.1,l.dv.2⟩,l.done,⟨v72,O⟩,l.next++ [cc],l.begun⟩).length by rw[cn]) (show _=rows fM (p.set e ⟨⟨l.dv.1,l.dv.2⟩,l.done,⟨v72,O⟩,l.next++ [cc],l.begun⟩)from oO SV ⟨v72,O⟩ _) ?_;refine g2 ?_;refine SW.go ?_;refine SW.dn ?_
      rotate_left
      focus
       refine St.fp rfl (.ar rfl) ib ji C8 rfl rfl (by simp[Value.cells]) rfl rfl (λb71=> ?_);refine g2 ?_;refine SW.go ?_;refine SW.t1 4 ?_;refine St.ee (Ev.ct (.mk rfl) ib trivial (by omega) (nL SV)) ?_;refine g2 ?_;refine SW.go ?_;refine SW.t1 7 ?_;refine St.aj (.mk rfl) (.mk rfl) ib ji C8 Mf (by intro u hu;exact jM.one cc u hu) (by omega) (by omega) rfl rfl rfl rfl (λv72 akC=> ?_);refine St.aM v72 (show _=(l.next++ [cc]).length by rw[bN];rfl) (show _=rows jM (l.next++ [cc]) by rw[ax];rfl) ?_;refine St.bZ v72 (λO _=> ?_);refine g2 ?_;refine SW.go ?_;refine SW.dd 8 rfl (λ_=>Ev.kf rfl (.mk rfl)) ?_;refine SW.dd 9 rfl (λ_=>Ev.jZ rfl (.mk rfl) oy) ?_;refine SW.slot 74 (cY (.slice (some ⟨j,0,none⟩) m0 k) 3 e 1) rfl rfl ?_;refine SW.t1 10 ?_;refine St.cG (.mk rfl) (.mk rfl) Ji O (by omega) (by decide) ?_;refine St.aM (.slice (some ⟨j,0,none⟩) m0 k) (show _=(p.set e ⟨⟨l.dv.1,l.dv.2⟩,l.done,⟨v72,O⟩,l.next++ [cc],l.begun⟩).length by rw[cn]) (show _=rows fM (p.set e ⟨⟨l.dv.1,l.dv.2⟩,l.done,⟨v72,O⟩,l.next++ [cc],l.begun⟩)from oO SV ⟨v72,O⟩ _) ?_;refine g2 ?_;refine SW.go ?_;refine SW.dn ?_
      all_goals
       refine g2 ?_;refine St.eY (aF hS (l.next++ [cc])) [aF hS l.next,hS cc] (λρ h u hu=>by rcases cD.1 hu with hu|hu;exact h (aF hS l.next) (aP ..) u hu;rw[bO]at hu;subst hu;exact h (hS u) (cN _ (aP ..))) ?_;refine St.T9 (L:=p) (e:=e) 71 196 (l.dv.1) (l.dv.2) (l.done) (v72) (O) (l.next++ [cc]) (l.begun) (by omega) ?_;refine St.mE (p.set e ⟨⟨l.dv.1,l.dv.2⟩,l.done,⟨v72,O⟩,l.next++ [cc],l.begun⟩) (by rw[KQ NU (fY SV),jk];show(p.map fi).set e (⟨_,(l.next++ [cc]).map iR,_⟩:wD)=_;rw[cO];rfl)
     ·skip
      obtain rfl:o=false:=h64;refine g3 ?_;refine St.mE p (by rw[KP NU])
    ·intro s hL3
     refine g5 ?_;refine St.aH ⟨w+1,s⟩ ⟨by omega,by rw[B5,←Z];exact hL3⟩
   ·obtain rfl:w=y.cV.length:=by omega
    have M:=(Qe.ok.nl e _ (fY n)).nl
    have Ko:=(Qe.ok.nl e _ (fY n)).dl
    have M:(a.next.map iR).length≤rM (⟨its.map cE,R,X⟩:cr) e+3*(a.done.map mV).length:=M
    have Ko:(a.done.map mV).length+l3 (⟨its.map cE,R,X⟩:cr) e≤262:=Ko
    rw[aN]at M Ko;rw[aN]at M;refine St.JE (L:=b) (e:=e) 71 196 n ?_;refine g7 ?_;refine St.ee (Ev.kf rfl (.mk rfl)) ?_;refine St.ee (Ev.jZ rfl (.mk rfl) oy) ?_;refine St.slot 78 (cY (.slice (some ⟨j,0,none⟩) m0 k) 3 e 1) rfl rfl ?_;refine St.ee (Ev.iface (.mk rfl) underlying202 trivial) ?_;refine St.call (Kv j m0 k e b a n a.next (by omega)) ahT (.ar rfl) rfl ?_;rintro v80 _ ⟨P,rfl,J0,hm2,rfl⟩;refine St.iQ ?_;refine St.aM (.slice (some ⟨j,0,none⟩) m0 k) (show _=(b.set e ⟨⟨a.dv.1,a.dv.2⟩,a.done,⟨a.nv.1,a.nv.2⟩,P,a.begun⟩).length by rw[cn]) (show _=rows fM (b.set e ⟨⟨a.dv.1,a.dv.2⟩,a.done,⟨a.nv.1,a.nv.2⟩,P,a.begun⟩)from LS fM n rfl) ?_;refine St.T9 (L:=b) (e:=e) 71 196 (a.dv.1) (a.dv.2) (a.done) (a.nv.1) (a.nv.2) (P) (a.begun) (by omega) ?_;refine g2 ?_;refine St.mE (b.set e ⟨⟨a.dv.1,a.dv.2⟩,a.done,⟨a.nv.1,a.nv.2⟩,P,a.begun⟩) (by rw[E0 Iz,hnw,←Z,r4 (fY n),gO (fY n),jk];show(b.map fi).set e (⟨_,P.map iR,_⟩:wD)=_;rw[J0];show _=(b.map fi).set e (⟨_,td (a.next.map iR).length ((a.next.map iR).length/2) _,_⟩:wD);rw[aN];rfl)
  ·skip
   have hb0:x0.begun=true:=by simpa using h27
   refine g2 ?_;refine St.mE L (E2 (by rw[gO (fY H8)];exact hb0)).symm
 ·intro Lb hLb
  have hmb:=MQ H Uf N SB J3
  rw[←hLb]at hmb;refine g2 ?_;refine St.lH (ι:=Nat×List jJ) (λ⟨m,b⟩ T=>T) (λ⟨m,b⟩=>(row (.slice (some ⟨j,0,none⟩) m0 k) 194 3 (b).length (rows fM (b))::aB (fO G [rv.1,xv.1,eC.1,(.slice (some ⟨j,0,none⟩) m0 k)])::aB (sl aI rv.1 R)::aB (sl aI xv.1 X)::aB (sl eB eC.1 its)::aB (aF cj its)::aB (sl mH y.wv.1 y.cV)::aB (cj y)::aW b6 (.cells [iv 0,(.slice none 0 0),iv 0,iv 0,(.slice none 0 0)].toArray 71 (0,0))::(bE (kK 71 196) b))) (λ⟨m,b⟩=>GM (⟨its.map cE,R,X⟩:cr) e (L.map fi) (b.map fi)∧tq (⟨its.map cE,R,X⟩:cr) (fh (⟨its.map cE,R,X⟩:cr) f) e r m (b.map fi)=tq (⟨its.map cE,R,X⟩:cr) (fh (⟨its.map cE,R,X⟩:cr) f) e r (r+1) (yK (⟨its.map cE,R,X⟩:cr) (fh (⟨its.map cE,R,X⟩:cr) f) e (L.map fi))∧(∀x,b[e]?=some x→r+1≤m+x.done.length)) (λ⟨m,b⟩=>m) ⟨r+1,Lb⟩ (aD.cons 0 rfl (aD.cons 1 rfl (aD.cons 2 rfl (aD.cons 6 rfl (aD.cons 7 rfl (aD.cons 8 rfl aD.nil)))))) ⟨hmb,by rw[hLb],λx _=>(by omega)⟩ ?_;rintro ⟨m,b⟩ ⟨hmi,Q,hmf⟩
  dsimp only at hmi Q hmf⊢
  have hl1:=sX hmi.ok
  obtain⟨a,n⟩:=aE (show e<b.length by omega)
  have hmf:=hmf a n
  have hN1:=hmi.ok.nl e _ (fY n)
  have M:(a.next.map iR).length≤rM (⟨its.map cE,R,X⟩:cr) e+3*(a.done.map mV).length:=hN1.nl
  have Ko:(a.done.map mV).length+l3 (⟨its.map cE,R,X⟩:cr) e≤262:=hN1.dl
  rw[aN]at M Ko;rw[aN]at M;refine St.JE (L:=b) (e:=e) 71 196 n ?_;refine g4 ?_;refine St.ee (Ev.kf rfl (.mk rfl)) ?_;refine St.ee (Ev.jZ rfl (.mk rfl) nH) ?_;refine St.slot 83 (cY (.slice (some ⟨j,0,none⟩) m0 k) 3 e 0) rfl rfl ?_;refine St.ee (Ev.ct (.mk rfl) oY trivial (by omega) (show(rows fM b)[e*3+0]?=some a.dv.1 from u6 n (by decide))) ?_;refine g4 ?_;refine St.split 88 _ rfl (λWg=> ?_) (λWg=> ?_)
  ·have NW:a.done.length≤r:=by have:=ei Wg;omega
   refine St.cF rfl rfl ?_;refine go ?_;refine St.cF rfl rfl ?_;refine St.ee (Ev.kf rfl (.mk rfl)) ?_;refine St.cF rfl rfl ?_;refine St.ee (Ev.jZ rfl (.mk rfl) oy) ?_;refine St.slot 91 (cY (.slice (some ⟨j,0,none⟩) m0 k) 3 e 1) rfl rfl ?_;refine St.cF rfl rfl ?_;refine St.ee (Ev.ct (.mk rfl) ib trivial (by omega) (nL n)) ?_;refine St.cF rfl rfl ?_;refine St.ee (Ev.yQ (qp a.nv.1 a.next) RL (.ar rfl) ((dm.row dm.nil rfl rfl rfl (λ_ _=>trivial)))) ?_;refine St.cF rfl rfl ?_;refine go ?_;refine St.ee (Ev.gZ (.mk rfl) rfl (.mk rfl)) ?_;refine g2 ?_;refine St.cq (λh95=> ?_) (λh95=> ?_)
   ·have I:0<a.next.length:=by omega
    obtain⟨hpi,W⟩:=Oq hmi (fY n) hr (by show(a.done.map mV).length≤r;rw[aN];exact NW) (by show 0<(a.next.map iR).length;rw[aN];exact I)
    have SN:=Sz (B:=(⟨its.map cE,R,X⟩:cr)) (get:=(fh (⟨its.map cE,R,X⟩:cr) f)) (e:=e) (r:=r) (m:=m) (fY n) (by omega) (by show(a.done.map mV).length≤r;rw[aN];exact NW) (by show 0<(a.next.map iR).length;rw[aN];exact I)
    refine g6 ?_;refine St.ee (Ev.kf rfl (.mk rfl)) ?_;refine St.ee (Ev.jZ rfl (.mk rfl) oy) ?_;refine St.slot 98 (cY (.slice (some ⟨j,0,none⟩) m0 k) 3 e 1) rfl rfl ?_;refine St.ee (Ev.iface (.mk rfl) underlying202 trivial) ?_;refine St.call (Kr j m0 k e b a n a.next (by omega) I) ahU (.ar rfl) rfl ?_;rintro an9 _ ⟨u,E,z,rfl,hq3,hz,hm3,rfl⟩;refine St.iQ ?_;refine St.cI hS E (x:=z) (ae hz) ?_;refine St.eY (aF hS (E.take (a.next.length-1))) [aF hS E] (λρ h u hu=>h (aF hS E) (aP ..) u (C5 hu)) ?_;refine St.eY (sl aI z.rv.1 (bW z.ranks)) [hS z] (λρ h=>h (hS z) (aP ..) _ (cN _ (cN _ (aP ..)))) ?_;refine St.eY (aF oL (a.done++ [z.rk])) [aF oL a.done,hS z] (λρ h u hu=>by rcases cD.1 hu with hu|hu;exact h (aF oL a.done) (aP ..) u hu;rw[bO]at hu;subst hu;have hc:=h (hS z) (cN _ (aP ..));intro d hd;simp only[List.mem_cons,List.not_mem_nil,or_false]at hd;rcases hd with rfl|rfl;exact hc _ (aP ..);exact hc _ (cN _ (aP ..))) ?_
    have Lu:(b.set e (a.wn u (E.take (a.next.length-1))))[e]?=some (a.wn u (E.take (a.next.length-1))):=fU (by omega)
    refine St.ee (Ev.assert (.mk rfl) uQ trivial) ?_;refine St.slot 101 (E9 z) rfl rfl ?_;refine St.al (λR6=> ?_);refine St.sA (.mk rfl) (.mk rfl) ji ?_ (h1:=(eW.2 λu hu=>jM.one z u hu));refine g3 ?_;refine St.da (row (.slice (some ⟨j,0,none⟩) m0 k) 194 3 (b.set e (a.wn u (E.take (a.next.length-1)))).length (rows fM (b.set e (a.wn u (E.take (a.next.length-1)))))::row a.dv.1 71 5 a.done.length (rows LM a.done)::(bE (kK 71 196) (b.eraseIdx e))) mixed (λnp ns=> ?_);refine SW.gd 0 ?_;refine SW.gd 1 ?_;refine SW.dd 2 rfl (λ_=>Ev.kf rfl (.mk rfl)) ?_;refine SW.dd 3 rfl (λ_=>Ev.jZ rfl (.mk rfl) nH) ?_;refine SW.slot 105 (cY (.slice (some ⟨j,0,none⟩) m0 k) 3 e 0) rfl rfl ?_;refine SW.gd 5 ?_;refine SW.dd 6 rfl (λ_=>Ev.iV 5 (.mk rfl) IC trivial vm rfl rfl) ?_;refine SW.slot 108 (kU z.rk) rfl rfl ?_;refine SW.t2 4 7 ?_ ?_
    focus
     refine St.ee (Ev.ct (.mk rfl) oY trivial (by rw[cn];omega) (show(rows fM _)[e*3+0]?=some a.dv.1 from u6 (x:=a.wn u (E.take (a.next.length-1))) Lu (by decide))) ?_;refine g2 ?_;refine SW.go ?_;refine SW.t1 7 ?_;refine St.fp rfl (.ar rfl) oY vm Ty rfl rfl (by simp[Value.cells]) rfl rfl (λafS=> ?_);refine g2 ?_;refine SW.go ?_;refine SW.t1 8 ?_;refine St.aj (.mk rfl) (.mk rfl) oY vm Ty ZD (by intro u hu;exact LM.one z.rk u hu) (by omega) (by omega) rfl rfl rfl rfl (λJ ac6=> ?_);refine St.aM J (show _=(a.done++ [z.rk]).length by rw[bN];rfl) (show _=rows LM (a.done++ [z.rk]) by rw[ax];rfl) ?_;refine St.bZ J (λS _=> ?_);refine g2 ?_;refine SW.go ?_;refine SW.dd 9 rfl (λ_=>Ev.kf rfl (.mk rfl)) ?_;refine SW.dd 10 rfl (λ_=>Ev.jZ rfl (.mk rfl) nH) ?_;refine SW.slot 112 (cY (.slice (some ⟨j,0,none⟩) m0 k) 3 e 0) rfl rfl ?_;refine SW.t1 11 ?_;refine St.cG (.mk rfl) (.mk rfl) V8 S (by rw[cn];omega) (by decide) ?_;refine St.aM (.slice (some ⟨j,0,none⟩) m0 k) (show _=(b.set e ⟨⟨J,S⟩,a.done++ [z.rk],⟨u.1,u.2⟩,E.take (a.next.length-1),a.begun⟩).length by rw[cn,cn]) (show _=rows fM (b.set e ⟨⟨J,S⟩,a.done++ [z.rk],⟨u.1,u.2⟩,E.take (a.next.length-1),a.begun⟩) by rw[FO Lu ⟨J,S⟩ (a.done++ [z.rk]),List.set_set];rfl) ?_;refine g2 ?_;refine SW.go ?_;refine SW.dn ?_
    rotate_left
    focus
     refine St.fp rfl (.ar rfl) oY vm Ty rfl rfl (by simp[Value.cells]) rfl rfl (λafS=> ?_);refine g2 ?_;refine SW.go ?_;refine SW.t1 4 ?_;refine St.ee (Ev.ct (.mk rfl) oY trivial (by rw[cn];omega) (show(rows fM _)[e*3+0]?=some a.dv.1 from u6 (x:=a.wn u (E.take (a.next.length-1))) Lu (by decide))) ?_;refine g2 ?_;refine SW.go ?_;refine SW.t1 8 ?_;refine St.aj (.mk rfl) (.mk rfl) oY vm Ty ZD (by intro u hu;exact LM.one z.rk u hu) (by omega) (by omega) rfl rfl rfl rfl (λJ ac6=> ?_);refine St.aM J (show _=(a.done++ [z.rk]).length by rw[bN];rfl) (show _=rows LM (a.done++ [z.rk]) by rw[ax];rfl) ?_;refine St.bZ J (λS _=> ?_);refine g2 ?_;refine SW.go ?_;refine SW.dd 9 rfl (λ_=>Ev.kf rfl (.mk rfl)) ?_;refine SW.dd 10 rfl (λ_=>Ev.jZ rfl (.mk rfl) nH) ?_;refine SW.slot 112 (cY (.slice (some ⟨j,0,none⟩) m0 k) 3 e 0) rfl rfl ?_;refine SW.t1 11 ?_;refine St.cG (.mk rfl) (.mk rfl) V8 S (by rw[cn];omega) (by decide) ?_;refine St.aM (.slice (some ⟨j,0,none⟩) m0 k) (show _=(b.set e ⟨⟨J,S⟩,a.done++ [z.rk],⟨u.1,u.2⟩,E.take (a.next.length-1),a.begun⟩).length by rw[cn,cn]) (show _=rows fM (b.set e ⟨⟨J,S⟩,a.done++ [z.rk],⟨u.1,u.2⟩,E.take (a.next.length-1),a.begun⟩) by rw[FO Lu ⟨J,S⟩ (a.done++ [z.rk]),List.set_set];rfl) ?_;refine g2 ?_;refine SW.go ?_;refine SW.dn ?_
    all_goals
     refine g2 ?_;refine St.T9 (L:=b) (e:=e) 71 196 (J) (S) (a.done++ [z.rk]) (u.1) (u.2) (E.take (a.next.length-1)) (a.begun) (by omega) ?_
     obtain⟨p,aaL⟩:∃p,p=b.set e ⟨⟨J,S⟩,a.done++ [z.rk],⟨u.1,u.2⟩,E.take (a.next.length-1),a.begun⟩:=⟨_,rfl⟩
     have hzK:FC (b.map fi) e=iR z:=by rw[JM (fY n)];show(pC (a.next.map iR)).getD ((a.next.map iR).length-1) Ie=_;rw[←hq3,aN];exact qw hz
     have hL2:p.map fi=LI (b.map fi) e:=by rw[Oo (fY n),aaL,jk];show(b.map fi).set e (⟨(a.done++ [z.rk]).map mV,(E.take (a.next.length-1)).map iR,_⟩:wD)=(b.map fi).set e (⟨_++ [((pC (a.next.map iR)).getD ((a.next.map iR).length-1) Ie).rk],(pC (a.next.map iR)).take ((a.next.map iR).length-1),_⟩:wD);rw[←hq3,aN,qw hz,cO,List.map_take];rfl
     rw[←hL2]at hpi;rw[hzK]at W;rw[hzK,←hL2]at SN
     have W:uZ (⟨its.map cE,R,X⟩:cr) e a.done.length (iR z):=by have h:uZ (⟨its.map cE,R,X⟩:cr) e (a.done.map mV).length (iR z):=W;rwa[aN]at h
     have hpi:Dq (⟨its.map cE,R,X⟩:cr) e (a.done.length+1) (L.map fi) 0 (p.map fi):=by have h:Dq (⟨its.map cE,R,X⟩:cr) e ((a.done.map mV).length+1) (L.map fi) 0 (p.map fi):=hpi;rwa[aN]at h
     rw[←aaL]
     have hz3:z.ranks.length≤3:=aeY H N W
     have hnz:(bW z.ranks).length=z.ranks.length:=dW _
     obtain⟨PF,hPF⟩:∃PF,PF=Al (⟨its.map cE,R,X⟩:cr) (fh (⟨its.map cE,R,X⟩:cr) f) e (iR z) (iR z).ranks.length 0 (p.map fi):=⟨_,rfl⟩
     rw[←hPF]at SN;refine g8 ?_;refine St.lH (ι:=Nat×List jJ) (λ⟨d,s⟩ T=>(116,iv d)::T) (λ⟨d,s⟩=>(row (.slice (some ⟨j,0,none⟩) m0 k) 194 3 (s).length (rows fM (s))::aB (fO G [rv.1,xv.1,eC.1,(.slice (some ⟨j,0,none⟩) m0 k)])::aB (sl aI rv.1 R)::aB (sl aI xv.1 X)::aB (sl eB eC.1 its)::aB (aF cj its)::aB (sl mH y.wv.1 y.cV)::aB (cj y)::aB (sl aI z.rv.1 (bW z.ranks))::aW b6 (.cells [iv 0,(.slice none 0 0),iv 0,iv 0,(.slice none 0 0)].toArray 71 (0,0))::aW R6 (.cells [iv z.rk.wt,z.rk.cv.1,iv z.rk.tree.rule,iv z.rk.tree.lex,z.rk.tree.kv.1,iv (z.fy:Nat),z.rv.1].toArray 196 (0,0))::(bE (kK 71 196) s))) (λ⟨d,s⟩=>d≤z.ranks.length∧Dq (⟨its.map cE,R,X⟩:cr) e (a.done.length+1) (L.map fi) d (s.map fi)∧Al (⟨its.map cE,R,X⟩:cr) (fh (⟨its.map cE,R,X⟩:cr) f) e (iR z) (z.ranks.length-d) d (s.map fi)=PF) (λ⟨d,s⟩=>z.ranks.length-d) ⟨0,p⟩ (aD.cons 0 rfl (aD.cons 1 rfl (aD.cons 2 rfl (aD.cons 6 rfl (aD.cons 7 rfl (aD.cons 8 rfl (aD.cons 12 rfl (aD.cons 115 rfl aD.nil)))))))) ⟨aO _,hpi,hPF.symm⟩ ?_;rintro ⟨d,s⟩ ⟨hd,Uk,Wa⟩
     dsimp only at hd Uk Wa⊢
     have hl3:=sX Uk.ok
     refine g6 ?_;refine St.cq (λNQ=> ?_) (λNQ=> ?_)
     ·obtain⟨rd,K⟩:=aE (show d<z.ranks.length by omega)
      have anK:rd≤a.done.length:=W.rks rd (ae K)
      have hgd:(iR z).ranks.getD d 0=rd:=by show z.ranks.getD d 0=rd;rw[aw,K];rfl
      obtain⟨r1,r2⟩:=JQ (d:=d) W;rw[hgd]at r1 r2
      have hD2:a.done.length+1+l3 (⟨its.map cE,R,X⟩:cr) e≤262:=by omega
      refine g14 ?_;refine St.ag (Dk z.rv.1 (bW z.ranks) (by omega)) ahV (.ar rfl) rfl ?_;rintro aoC _ ⟨u1,rfl,rfl⟩;refine St.ao ?_;refine g8 ?_;refine St.ee (Ev.ct (.mk rfl) gG trivial (by omega) (oM (gT K))) ?_;refine go ?_;refine St.slot 126 (iv ((rd+1:Nat):Int)) rfl (congrArg iv (by push_cast;rfl)) ?_;refine go ?_;refine St.cG (.mk rfl) (.mk rfl) dL rfl (by omega) (by decide) ?_;refine St.aM u1.1 (show _=(bW (z.ranks.set d (rd+1))).length by rw[dW,dW,cn]) (show _=rows aI (bW (z.ranks.set d (rd+1)))from r8 _ _ _) ?_;refine St.bR u1.1 aI (bW (z.ranks.set d (rd+1))) rfl rfl (λq hq=>by obtain⟨i,hi,rfl⟩:=cy.1 hq;have h2:=r2 i hi;show aa _;unfold aa;omega) ?_;refine g2 ?_;refine St.join (ι:=List jJ) (λY T=>T) (λY=>(row (.slice (some ⟨j,0,none⟩) m0 k) 194 3 (Y).length (rows fM (Y))::aB (fO G [rv.1,xv.1,eC.1,(.slice (some ⟨j,0,none⟩) m0 k)])::aB (sl aI rv.1 R)::aB (sl aI xv.1 X)::aB (sl eB eC.1 its)::aB (aF cj its)::aB (sl mH y.wv.1 y.cV)::aB (cj y)::aB (sl aI z.rv.1 (bW z.ranks))::aW b6 (.cells [iv 0,(.slice none 0 0),iv 0,iv 0,(.slice none 0 0)].toArray 71 (0,0))::aW R6 (.cells [iv z.rk.wt,z.rk.cv.1,iv z.rk.tree.rule,iv z.rk.tree.lex,z.rk.tree.kv.1,iv (z.fy:Nat),z.rv.1].toArray 196 (0,0))::(bE (kK 71 196) Y))) (λY=>Y.map fi=zK (⟨its.map cE,R,X⟩:cr) (fh (⟨its.map cE,R,X⟩:cr) f) e (iR z) d (s.map fi)) (aD.cons 0 rfl (aD.cons 1 rfl (aD.cons 2 rfl (aD.cons 6 rfl (aD.cons 7 rfl (aD.cons 8 rfl (aD.cons 12 rfl (aD.cons 13 rfl (aD.cons 115 rfl (aD.cons 116 rfl aD.nil)))))))))) ?_ ?_
      ·refine g7 ?_
       refine St.pQ (ds:=[fO G [rv.1,xv.1,eC.1,(.slice (some ⟨j,0,none⟩) m0 k)],sl aI rv.1 R,sl aI xv.1 X,sl eB eC.1 its,aF cj its,sl aI (u1:aV).1 (bW (z.ranks.set d (rd+1)))]) (L:=[row (.slice (some ⟨j,0,none⟩) m0 k) 194 3 (s).length (rows fM (s))]) (X:=bE (kK 71 196) s) (post:=λv L' X'=>∃(C:List jJ) (cc:kq) (o:Bool),mn (⟨its.map cE,R,X⟩:cr) (fh (⟨its.map cE,R,X⟩:cr) f) (s.map fi) e z.fy (z.ranks.set d (rd+1))=(C.map fi,if o then some (iR cc)else none)∧v= .tuple #[E9 cc,.bool o]∧L'=[row (.slice (some ⟨j,0,none⟩) m0 k) 194 3 (C).length (rows fM (C)),aB (hS cc)]∧X'=bE (kK 71 196) C) ((wG G j m0 k rv xv eC R X its H f SE e z.fy ((a.done.length+1)) (u1) (z.ranks.set d (rd+1)) s he SB W.fy r1 r2 hD2 Uk.ok).mono (λv H' ⟨C,cc,o,a1,a2,a3⟩=>⟨[_,_],_,a3,C,cc,o,a1,a2,rfl,rfl⟩)) Zv (.gW rfl rfl rfl rfl) rfl ?_;rintro al2 _ _ ⟨C,cc,o,hch,rfl,rfl,rfl⟩;refine St.dQ ?_
       have hco:=Ce (D:=a.done.length+1) H Uf N SB W.fy r1 r2 hD2 Uk.ok
       have U:=DE (d:=d) H Uf N SB W (by omega) Uk
       have NU:mn (⟨its.map cE,R,X⟩:cr) (fh (⟨its.map cE,R,X⟩:cr) f) (s.map fi) e (iR z).fy ((iR z).ranks.set d ((iR z).ranks.getD d 0+1))=(C.map fi,if o then some (iR cc)else none):=by rw[hgd];exact hch
       have hqf:(mn (⟨its.map cE,R,X⟩:cr) (fh (⟨its.map cE,R,X⟩:cr) f) (s.map fi) e (iR z).fy ((iR z).ranks.set d (rd+1))).1=C.map fi:=congrArg Prod.fst hch
       have WQ:jm (⟨its.map cE,R,X⟩:cr) (C.map fi):=hqf▸hco.1
       have hl4:=sX WQ
       obtain⟨t,V⟩:=aE (show e<C.length by omega);refine g3 ?_;refine St.al (λVc=> ?_);refine St.sA (.mk rfl) (.mk rfl) ji ?_ (h1:=(eW.2 λu hu=>jM.one cc u hu));refine g8 ?_;refine St.cond _ rfl (λNR=> ?_) (λNR=> ?_)
       ·skip
        obtain rfl:o=true:=NR
        have ab5:(t.next.map iR).length≤rM (⟨its.map cE,R,X⟩:cr) e+3*(t.done.map mV).length:=(WQ.nl e _ (fY V)).nl
        have ajX:(t.done.map mV).length+l3 (⟨its.map cE,R,X⟩:cr) e≤262:=(WQ.nl e _ (fY V)).dl
        rw[aN]at ab5 ajX;rw[aN]at ab5;refine St.JE (L:=C) (e:=e) 71 196 V ?_;refine St.da (row (.slice (some ⟨j,0,none⟩) m0 k) 194 3 (C).length (rows fM (C))::row t.nv.1 196 7 (t.next).length (rows jM (t.next))::aB (aF hS t.next)::aB (hS cc)::(bE (kK 71 196) (C.eraseIdx e))) mixed (λnp ns=> ?_);refine SW.gd 0 ?_;refine SW.dd 1 rfl (λ_=>Ev.kf rfl (.mk rfl)) ?_;refine SW.dd 2 rfl (λ_=>Ev.jZ rfl (.mk rfl) oy) ?_;refine SW.slot 140 (cY (.slice (some ⟨j,0,none⟩) m0 k) 3 e 1) rfl rfl ?_;refine SW.dd 3 rfl (λ_=>Ev.iface (.mk rfl) underlying202 trivial) ?_;refine SW.gd 4 ?_;refine SW.slot 142 (E9 cc) rfl rfl ?_;refine SW.dd 5 rfl (λ_=>Ev.iface (.mk rfl) uQ trivial) ?_;refine SW.t1 6 ?_;refine St.call (H5 j m0 k e C t V t.next (by omega) cc) ahW (.aY rfl rfl) rfl ?_;rintro aoH _ ⟨u,P,rfl,J0,hm2,rfl⟩;refine St.iQ ?_;refine St.aM (.slice (some ⟨j,0,none⟩) m0 k) (show _=(C.set e ⟨⟨t.dv.1,t.dv.2⟩,t.done,⟨u.1,u.2⟩,P,t.begun⟩).length by rw[cn,cn]) (show _=rows fM (C.set e ⟨⟨t.dv.1,t.dv.2⟩,t.done,⟨u.1,u.2⟩,P,t.begun⟩)from rfl) ?_;refine g2 ?_;refine SW.go ?_;refine SW.dn ?_;refine go ?_;refine St.T9 (L:=C) (e:=e) 71 196 (t.dv.1) (t.dv.2) (t.done) (u.1) (u.2) (P) (t.begun) (by omega) ?_;refine St.mE (C.set e ⟨⟨t.dv.1,t.dv.2⟩,t.done,⟨u.1,u.2⟩,P,t.begun⟩) (by rw[LK NU (fY V),jk];show(C.map fi).set e (⟨_,P.map iR,_⟩:wD)=_;rw[J0];rfl)
       ·skip
        obtain rfl:o=false:=NR;refine g2 ?_;refine St.mE C (by rw[LJ NU])
      ·intro Y hL5
       have U:=DE (d:=d) H Uf N SB W (by omega) Uk
       rw[←hL5]at U;refine g6 ?_;refine St.ee (Ev.ld1 (.mk rfl) (gT K) gG trivial rfl) ?_;refine g3 ?_;refine St.cq (λWJ=> ?_) (λWJ=> ?_)
       ·have aj0:Y.map fi=PF:=by rw[←Wa,FJ K,aC (by omega)];exact hL5
        refine g7 ?_;refine St.aH ⟨m-1,Y⟩ ⟨uC U,by rw[aj0,←SN];exact Q,λx hx=>by obtain⟨x',Wi,WS,_⟩:=U.at_;rw[fY hx]at Wi;obtain rfl:=Option.some.inj Wi;have WS:(x.done.map mV).length=a.done.length+1:=WS;rw[aN]at WS;dsimp only;omega⟩
       ·refine g8 ?_
        refine St.aH ⟨d+1,Y⟩ ⟨by omega,U,by rw[←Wa,FJ K];dsimp only;rw[aA (by omega),←hL5]⟩
     ·obtain rfl:d=z.ranks.length:=by omega
      rw[ff]at Wa
      have Wa:s.map fi=PF:=Wa
      refine g6 ?_;refine St.aH ⟨m-1,s⟩ ⟨uC Uk,by rw[Wa,←SN];exact Q,λx hx=>by obtain⟨x',Wi,WS,_⟩:=Uk.at_;rw[fY hx]at Wi;obtain rfl:=Option.some.inj Wi;have WS:(x.done.map mV).length=a.done.length+1:=WS;rw[aN]at WS;dsimp only;omega⟩
   ·have I:¬0<a.next.length:=by omega
    refine g7 ?_
    have H7:tq (⟨its.map cE,R,X⟩:cr) (fh (⟨its.map cE,R,X⟩:cr) f) e r (r+1) (yK (⟨its.map cE,R,X⟩:cr) (fh (⟨its.map cE,R,X⟩:cr) f) e (L.map fi))=b.map fi:=by rw[←Q];exact BO (fY n) (λh=>by have h1:(a.done.map mV).length≤r:=h.1;have h2:0<(a.next.map iR).length:=h.2;rw[aN]at h1 h2;first|exact NW h1|exact I h2)
    have SF:=BI (⟨its.map cE,R,X⟩:cr) f (L.map fi) e r H7 (fY n)
    refine g3 ?_;refine St.ee (Ev.kf rfl (.mk rfl)) ?_;refine St.ee (Ev.jZ rfl (.mk rfl) nH) ?_;refine St.slot 155 (cY (.slice (some ⟨j,0,none⟩) m0 k) 3 e 0) rfl rfl ?_;refine St.ee (Ev.ct (.mk rfl) oY trivial (by omega) (show(rows fM b)[e*3+0]?=some a.dv.1 from u6 n (by decide))) ?_;refine g4 ?_;refine St.cq (λWL=> ?_) (λWL=> ?_)
    ·have Ng:(fi a).done[r]?=none:=by show(a.done.map mV)[r]?=none;rw[ic];rw[aN];omega
     rw[Ng]at SF;refine g2 ?_;refine St.ee (Ev.build (bH.nil) (λw=>MY w)) ?_;refine St.slot 159 (.agg #[iv 0,(.slice none 0 0),iv 0,iv 0,(.slice none 0 0)]) rfl rfl ?_;refine go ?_;refine St.fk aI ?_;refine St.fact (br (.mk 0 0 bT [])) (λρ _ _=>qc _ _ _) ?_;refine St.eY (oL Jz) [sl aI (.slice none 0 0) [],br (.mk 0 0 bT [])] (λρ h=>h) ?_;refine St.D9 (L:=b) (e:=e) 71 196 n ?_;refine g5 ?_;refine St.rV [_,_] (row (.slice (some ⟨j,0,none⟩) m0 k) 194 3 (b).length (rows fM (b))::aB (oL Jz)::(bE (kK 71 196) b)) ?_;exact⟨b,Jz,false,SF,rfl,rfl⟩
    ·obtain⟨F,WT⟩:=aE (show r<a.done.length by omega)
     have Nl:(fi a).done[r]?=some (mV F):=by show(a.done.map mV)[r]?=_;rw[bQ,WT];rfl
     rw[Nl]at SF;refine St.eY (oL F) [aF oL a.done] (λρ h=>h (aF oL a.done) (aP ..) F (ae WT)) ?_;refine g5 ?_;refine St.ee (Ev.kf rfl (.mk rfl)) ?_;refine St.ee (Ev.jZ rfl (.mk rfl) nH) ?_;refine St.slot 162 (cY (.slice (some ⟨j,0,none⟩) m0 k) 3 e 0) rfl rfl ?_;refine St.ee (Ev.ct (.mk rfl) oY trivial (by omega) (show(rows fM b)[e*3+0]?=some a.dv.1 from u6 n (by decide))) ?_;refine g2 ?_;refine St.ee (Ev.vJ (R:=LM) (.mk rfl) WT IC trivial vm (by omega)) ?_;refine St.slot 166 (kU F) rfl rfl ?_;refine St.sA (.mk rfl) (.mk rfl) vm ?_ (h1:=(eW.2 λu hu=>LM.one F u hu));refine St.D9 (L:=b) (e:=e) 71 196 n ?_;refine g4 ?_;refine St.rV [_,_] (row (.slice (some ⟨j,0,none⟩) m0 k) 194 3 (b).length (rows fM (b))::aB (oL F)::(bE (kK 71 196) b)) ?_;exact⟨b,F,true,SF,rfl,rfl⟩
  ·have NW:¬a.done.length≤r:=by have:=iX Wg;omega
   refine St.bq rfl rfl rfl ?_;refine St.bq rfl rfl rfl ?_;refine St.bq rfl rfl rfl ?_;refine St.bq rfl rfl rfl ?_;refine St.bq rfl rfl rfl ?_;refine St.bq rfl rfl rfl ?_;refine St.ee (Ev.kR (.mk rfl) rfl (.mk rfl)) ?_;refine g2 ?_;refine St.tG _ rfl rfl ?_;refine g7 ?_
   have H7:tq (⟨its.map cE,R,X⟩:cr) (fh (⟨its.map cE,R,X⟩:cr) f) e r (r+1) (yK (⟨its.map cE,R,X⟩:cr) (fh (⟨its.map cE,R,X⟩:cr) f) e (L.map fi))=b.map fi:=by rw[←Q];exact BO (fY n) (λh=>by have h1:(a.done.map mV).length≤r:=h.1;have h2:0<(a.next.map iR).length:=h.2;rw[aN]at h1 h2;first|exact NW h1|exact I h2)
   have SF:=BI (⟨its.map cE,R,X⟩:cr) f (L.map fi) e r H7 (fY n)
   refine g3 ?_;refine St.ee (Ev.kf rfl (.mk rfl)) ?_;refine St.ee (Ev.jZ rfl (.mk rfl) nH) ?_;refine St.slot 155 (cY (.slice (some ⟨j,0,none⟩) m0 k) 3 e 0) rfl rfl ?_;refine St.ee (Ev.ct (.mk rfl) oY trivial (by omega) (show(rows fM b)[e*3+0]?=some a.dv.1 from u6 n (by decide))) ?_;refine g4 ?_;refine St.cq (λWL=> ?_) (λWL=> ?_)
   ·have Ng:(fi a).done[r]?=none:=by show(a.done.map mV)[r]?=none;rw[ic];rw[aN];omega
    rw[Ng]at SF;refine g2 ?_;refine St.ee (Ev.build (bH.nil) (λw=>MY w)) ?_;refine St.slot 159 (.agg #[iv 0,(.slice none 0 0),iv 0,iv 0,(.slice none 0 0)]) rfl rfl ?_;refine go ?_;refine St.fk aI ?_;refine St.fact (br (.mk 0 0 bT [])) (λρ _ _=>qc _ _ _) ?_;refine St.eY (oL Jz) [sl aI (.slice none 0 0) [],br (.mk 0 0 bT [])] (λρ h=>h) ?_;refine St.D9 (L:=b) (e:=e) 71 196 n ?_;refine g5 ?_;refine St.rV [_,_] (row (.slice (some ⟨j,0,none⟩) m0 k) 194 3 (b).length (rows fM (b))::aB (oL Jz)::(bE (kK 71 196) b)) ?_;exact⟨b,Jz,false,SF,rfl,rfl⟩
   ·obtain⟨F,WT⟩:=aE (show r<a.done.length by omega)
    have Nl:(fi a).done[r]?=some (mV F):=by show(a.done.map mV)[r]?=_;rw[bQ,WT];rfl
    rw[Nl]at SF;refine St.eY (oL F) [aF oL a.done] (λρ h=>h (aF oL a.done) (aP ..) F (ae WT)) ?_;refine g5 ?_;refine St.ee (Ev.kf rfl (.mk rfl)) ?_;refine St.ee (Ev.jZ rfl (.mk rfl) nH) ?_;refine St.slot 162 (cY (.slice (some ⟨j,0,none⟩) m0 k) 3 e 0) rfl rfl ?_;refine St.ee (Ev.ct (.mk rfl) oY trivial (by omega) (show(rows fM b)[e*3+0]?=some a.dv.1 from u6 n (by decide))) ?_;refine g2 ?_;refine St.ee (Ev.vJ (R:=LM) (.mk rfl) WT IC trivial vm (by omega)) ?_;refine St.slot 166 (kU F) rfl rfl ?_;refine St.sA (.mk rfl) (.mk rfl) vm ?_ (h1:=(eW.2 λu hu=>LM.one F u hu));refine St.D9 (L:=b) (e:=e) 71 196 n ?_;refine g4 ?_;refine St.rV [_,_] (row (.slice (some ⟨j,0,none⟩) m0 k) 194 3 (b).length (rows fM (b))::aB (oL F)::(bE (kK 71 196) b)) ?_;exact⟨b,F,true,SF,rfl,rfl⟩
theorem OC {nf nn i:Int}:∀{l:ko} {last:Int},(Ac nf nn i last l).1=0→(∀x∈l,last<x.1)∧sF l∧∀x∈l,(0≤x.1∧x.1<nf)∧0≤x.2∧x.2<nn
 | [],_,_=>⟨λ_ h=>(by cases h),.nil,λ_ h=>(by cases h)⟩
 |x::l,last,h=>by
  rw[Ac]at h
  by_cases h1:x.1<0∨nf≤x.1∨x.2<0∨nn≤x.2
  ·rw[aC h1]at h;exact absurd h (by simp)
  rw[aA h1]at h
  by_cases d:x.1≤last
  ·rw[aC d]at h;exact absurd h (by simp)
  rw[aA d]at h;obtain⟨a,b,c⟩:=OC h;refine⟨λy hy=> ?_,.cons (λy hy=>a y hy) b,λy hy=> ?_⟩
  ·rcases cH.1 hy with rfl|hy
   ·omega
   ·have:=a y hy;omega
  ·rcases cH.1 hy with rfl|hy
   ·omega
   ·exact c y hy
theorem ti {nt nf nn:Int}:∀{l:dz} {i:Nat},(fD nt nf nn i l).1=0→∀n∈l,(0≤n.1∧n.1<nt)∧sF n.2∧∀x∈n.2,(0≤x.1∧x.1<nf)∧0≤x.2∧x.2<nn
 | [],_,_,_,h=>by cases h
 |y::l,i,h,n,d=>by
  rw[fD]at h
  by_cases h1:y.1<0∨nt≤y.1
  ·rw[aC h1]at h;exact absurd h (by simp)
  rw[aA h1]at h
  by_cases a:(Ac nf nn i (-1) y.2).1≠0
  ·rw[aC a]at h;exact absurd h a
  rw[aA a]at h
  rcases cH.1 d with rfl|d
  ·obtain⟨_,b,c⟩:=OC (iG.1 a)
   exact⟨by omega,b,c⟩
  ·exact ti h n d
theorem OG {nt nf:Nat}{g:dz}(h:(fX nt nf g).1=0):e7 nt nf g∧g.length≤60:=by
 unfold fX at h
 by_cases h1:g.length=0∨60<g.length
 ·rw[aC h1]at h;exact absurd h (by simp)
 rw[aA h1]at h;exact⟨⟨by omega,λn a=>ti h n a⟩,by omega⟩
theorem vx {T:List ej}{Fs:List od}{g:dz}(h:(dP T Fs g).1=0):e7 T.length Fs.length g∧g.length≤60:=by
 unfold dP at h
 by_cases h1:(fX T.length Fs.length g).1≠0
 ·rw[aC h1]at h;exact absurd h h1
 ·exact OG (iG.1 h1)
theorem HW {g:dz}{kids:Int}(h:nN g kids=true)(a:kids≤3):∀k:Int,0≤k→k≤kids→0≤rR g k:=λk b hk=>by
 unfold nN at h
 have:=eW.1 h k.toNat (dq.2 (by omega))
 rw[show((k.toNat:Nat):Int)=k by omega,dt hk]at this
 simpa using this
structure GO (nt nf:Nat)(r:sg):Prop where
 kids:1≤r.kids∧r.kids≤3
 wt:0≤r.weight∧r.weight≤1000000
 gr:e7 nt nf r.graph
 len:r.graph.length≤60
 rR:∀k:Int,0≤k→k≤r.kids→0≤rR r.graph k
structure M5 (nt nf:Nat)(x:Dn):Prop where
 word:isWord x.word=true
 wt:0≤x.weight∧x.weight≤1000000
 gr:e7 nt nf x.graph
 len:x.graph.length≤60
structure M1 (g:gB):Prop where
 ty:im g.types
 ft:g.cB.length≤40
 rn:g.rules.length≤40
 xn:g.aL.length≤100
 rule:∀r∈g.rules,GO g.types.length g.cB.length r
 lex:∀x∈g.aL,M5 g.types.length g.cB.length x
 start:e7 g.types.length g.cB.length g.start∧g.start.length≤60
theorem PL {T:List ej}{Fs:List od}{r:sg}(h:pV T Fs r=0):GO T.length Fs.length r:=by
 unfold pV at h
 by_cases h1:r.kids<1∨3<r.kids∨r.weight<0∨1000000<r.weight
 ·rw[aC h1]at h;exact absurd h (by decide)
 rw[aA h1]at h
 by_cases c:(dP T Fs r.graph).1≠0
 ·rw[aC c]at h;exact absurd h c
 rw[aA c]at h
 by_cases d:nN r.graph r.kids=false
 ·rw[aC d]at h;exact absurd h (by decide)
 obtain⟨a,b⟩:=vx (iG.1 c);exact⟨by omega,by omega,a,b,HW (by simpa using d) (by omega)⟩
theorem Sp {T:List ej}{Fs:List od}{x:Dn}(h:xD T Fs x=0):M5 T.length Fs.length x:=by
 unfold xD at h
 by_cases c:isWord x.word=false
 ·rw[aC c]at h;exact absurd h (by decide)
 rw[aA c]at h
 by_cases h1:x.weight<0∨1000000<x.weight
 ·rw[aC h1]at h;exact absurd h (by decide)
 rw[aA h1]at h
 by_cases d:(dP T Fs x.graph).1≠0
 ·rw[aC d]at h;exact absurd h d
 obtain⟨a,b⟩:=vx (iG.1 d);exact⟨by simpa using c,by omega,a,b⟩
theorem BZ {T:List ej}{Fs:List od}:∀{l:List sg} {known:List bB} {i:Nat},(jb T Fs known i l).1=0→∀r∈l,GO T.length Fs.length r
 | [],_,_,_,_,h=>by cases h
 |y::l,known,i,h,r,b=>by
  rw[jb]at h
  by_cases h1:isName y.name=false
  ·rw[aC h1]at h;exact absurd h (by simp)
  rw[aA h1]at h
  by_cases c:y.name∈known
  ·rw[aC c]at h;exact absurd h (by simp)
  rw[aA c]at h
  by_cases a:pV T Fs y≠0
  ·rw[aC a]at h;exact absurd h a
  rw[aA a]at h
  rcases cH.1 b with rfl|b
  ·exact PL (iG.1 a)
  ·exact BZ h r b
theorem BN {T:List ej}{Fs:List od}:∀{l:List Dn} {i:Nat},(ja T Fs i l).1=0→∀x∈l,M5 T.length Fs.length x
 | [],_,_,_,h=>by cases h
 |y::l,i,h,x,hx=>by
  rw[ja]at h
  by_cases a:xD T Fs y≠0
  ·rw[aC a]at h;exact absurd h a
  rw[aA a]at h
  rcases cH.1 hx with rfl|hx
  ·exact Sp (iG.1 a)
  ·exact BN h x hx
theorem vA {g:gB}(h:(jN g).1=0):M1 g:=by
 unfold jN at h
 by_cases h1:(jO g.types g.cB).1≠0
 ·rw[aC h1]at h;exact absurd h h1
 rw[aA h1]at h
 by_cases f:g.cB.length≤3
 ·rw[aC f]at h;exact absurd h (by simp)
 rw[aA f]at h
 by_cases i:40<g.rules.length∨100<g.aL.length
 ·rw[aC i]at h;exact absurd h (by simp)
 rw[aA i]at h
 by_cases b:(jb g.types g.cB [] 0 g.rules).1≠0
 ·rw[aC b]at h;exact absurd h b
 rw[aA b]at h
 by_cases c:(ja g.types g.cB 0 g.aL).1≠0
 ·rw[aC c]at h;exact absurd h c
 rw[aA c]at h
 by_cases d:(dP g.types g.cB g.start).1≠0
 ·rw[aC d]at h;exact absurd h d
 have a:=iG.1 h1
 unfold jO at a
 by_cases j:40<g.cB.length
 ·rw[aC j]at a;exact absurd a (by simp)
 rw[aA j]at a
 by_cases e:(Aq g.types).1≠0
 ·rw[aC e]at a;exact absurd a e
 obtain⟨_,_,ht⟩:=I6 (iG.1 e);exact⟨ht,by omega,by omega,by omega,BZ (iG.1 b),BN (iG.1 c),vx (iG.1 d)⟩
theorem zb {nt nf n:Nat}:nW nt nf n 1 0 ⟨[],List.replicate (n*(n+1)) []⟩:=by
 have a:∀k,(List.replicate (n*(n+1)) ([]:List Nat)).getD k []=[]:=λk=>by
  rw[aw,s7]
  split<;>rfl
 refine⟨⟨kG ..,λl b e he=> ?_,?_,λi j e _ he=> ?_,λit h=>(by cases h),λit h=>(by cases h),λit h=>(by cases h)⟩,aO _,λit h=>(by cases h),λi h=>(by cases h)⟩
 ·rw[(List.mem_replicate.1 b).2]at he;cases he
 ·show((List.replicate (n*(n+1)) ([]:List Nat)).map List.length).sum=0
  rw[s9];simp
 ·rw[show(⟨[],List.replicate (n*(n+1)) []⟩:Cs).sp=List.replicate (n*(n+1)) []from rfl,a]at he;cases he
theorem EY {N:Nat}(e:N≤256):∀(l m:ko) (u v:bB),l.length=m.length→(∀x∈l,(0≤x.1∧x.1<N)∧0≤x.2∧x.2<N)→(∀x∈m,(0≤x.1∧x.1<N)∧0≤x.2∧x.2<N)→vF l++u=vF m++v→l=m∧u=v
 | [],[],u,v,_,_,_,h=>⟨rfl,h⟩
 | [],_::_,_,_,h,_,_,_=>by cases h
 |_::_,[],_,_,h,_,_,_=>by cases h
 |a::l,b::m,u,v,f,c,d,h=>by
  have h:jw a.1::jw a.2::(vF l++u)=jw b.1::jw b.2::(vF m++v):=h
  rw[List.cons.injEq,List.cons.injEq]at h;obtain⟨h1,g,i⟩:=h;obtain⟨⟨j,a2⟩,a3,a4⟩:=c a (by simp);obtain⟨⟨k,z⟩,n,A⟩:=d b (by simp);obtain⟨p,q⟩:=a;obtain⟨r,s⟩:=b
  dsimp only at*
  have B:=lf (a:=p.toNat) (b:=r.toNat) (by omega) (by omega) (by rw[uV j,uV k];exact h1)
  have e2:=lf (a:=q.toNat) (b:=s.toNat) (by omega) (by omega) (by rw[uV a3,uV n];exact g)
  obtain⟨o,t⟩:=EY e l m u v (by simpa using f) (λx hx=>c x (by simp[hx])) (λx hx=>d x (by simp[hx])) i
  have w:p=r:=by omega
  have y:q=s:=by omega
  exact⟨by rw[o,w,y],t⟩
def Lz (g:dz):Prop:=∀n∈g,(0≤n.1∧n.1<(256:Nat))∧n.2.length<256∧∀x∈n.2,(0≤x.1∧x.1<(256:Nat))∧0≤x.2∧x.2<(256:Nat)
theorem EX:∀(l m:dz),Lz l→Lz m→yt l=yt m→l=m
 | [],[],_,_,_=>rfl
 | [],_::_,_,_,h=>by cases h
 |_::_,[],_,_,h=>by cases h
 |a::l,b::m,c,d,h=>by
  have h:jw a.1::jw (a.2.length:Nat)::(vF a.2++yt l)=jw b.1::jw (b.2.length:Nat)::(vF b.2++yt m):=h
  rw[List.cons.injEq,List.cons.injEq]at h;obtain⟨h1,e,f⟩:=h;obtain⟨⟨g,a2⟩,a3,a4⟩:=c a (by simp);obtain⟨⟨i,u⟩,j,k⟩:=d b (by simp);obtain⟨p,q⟩:=a;obtain⟨r,s⟩:=b
  dsimp only at*
  have v:=lf (a:=p.toNat) (b:=r.toNat) (by omega) (by omega) (by rw[uV g,uV i];exact h1)
  have e2:=lf a3 j e
  obtain⟨n,o⟩:=EY (aR 256) q s (yt l) (yt m) e2 a4 k f
  have t:p=r:=by omega
  rw[t,n,EX l m (λx hx=>c x (by simp[hx])) (λx hx=>d x (by simp[hx])) o]
theorem e7.yP {nt nf:Nat}{g:dz}(h:e7 nt nf g)(k:nt≤250)(l:nf≤250)(m:g.length≤60):Lz g:=λn d=>by
 obtain⟨h1,e,c⟩:=h.nd n d;refine⟨by omega,?_,λx hx=> ?_⟩
 ·have f:(n.2.map λz=>z.1.toNat).Nodup:=by
   unfold List.Nodup;rw[sC];exact wY (λ{a b} p q r=>by have:=(c a p).1;have:=(c b q).1;omega) e
  have:=kg f (n:=nf) (λj i=>by obtain⟨z,hz,rfl⟩:=cy.1 i;have:=(c z hz).1;omega)
  rw[aN]at this;omega
 ·have:=c x hx;omega
theorem key_inj {e d:oh}(he:e.frm<256∧e.tqo<256∧e.cw<256∧Lz e.gr)(hd:d.frm<256∧d.tqo<256∧d.cw<256∧Lz d.gr)(h:fZ e=fZ d):e=d:=by
 unfold fZ at h;rw[List.cons.injEq,List.cons.injEq,List.cons.injEq]at h;obtain⟨h1,a,b,c⟩:=h
 have f:=lf he.1 hd.1 h1
 have e2:=lf he.2.1 hd.2.1 a
 have g:=lf he.2.2.1 hd.2.2.1 b
 have i:=EX _ _ he.2.2.2 hd.2.2.2 c
 cases e;cases d;simp_all
def kM (cs:Cs)(tqo:Nat):Nat→List Nat→Prop
 |a,[]=>a=tqo
 |a,k::l=>k<cs.its.length∧(cs.ed k).frm=a∧kM cs tqo (cs.ed k).tqo l
def ru (mt:Nat→Nat→Option Nat):dz→Nat→List dz→Option dz
 |x,_,[]=>some x
 |x,k,y::l=>match mw mt x ((k:Nat):Int) y with
  |none=>none
  |some z=>ru mt z (k+1) l
theorem Bc {mt:Nat→Nat→Option Nat}:∀{l:List dz} {x z:dz} {k:Nat} (y:dz),ru mt x k l=some z→ru mt x k (l++ [y])=mw mt z ((k+l.length:Nat):Int) y
 | [],x,z,k,y,h=>by
  obtain rfl:=Option.some.inj h
  show(match mw mt x ((k:Nat):Int) y with|none=>none|some z=>ru mt z (k+1) [])=mw mt x ((k+0:Nat):Int) y
  rw[j4]
  cases mw mt x ((k:Nat):Int) y<;>rfl
 |a::l,x,z,k,y,h=>by
  rw[wZ,ru];rw[ru]at h
  cases b:mw mt x ((k:Nat):Int) a with
  |none=>rw[b]at h;cases h
  |some w=>
   rw[b]at h
   dsimp only at h⊢
   rw[Bc y h,fA,show k+1+l.length=k+(l.length+1) by omega]
def Zw (cs:Cs):List Nat→Nat
 | [k]=>(cs.ed k).cw+1
 |_=>0
def yD (Q:Qr)(words:List bB)(cs:Cs)(e:oh)(w:ud):Prop:=
 (w.rule= -1∧w.kids=[]∧e.tqo=e.frm+1∧e.cw=0∧∃i:Nat,i<Q.aL.length∧w.lex=i∧(Q.aL.getD i Qj).word=words.getD e.frm []∧e.gr=gl (Q.aL.getD i Qj).graph 0)∨
 (∃i:Nat,i<Q.rules.length∧w.rule=i∧w.lex=0∧((w.kids.length:Nat):Int)=(Q.rules.getD i oQ).kids∧kM cs e.tqo e.frm w.kids∧e.cw=Zw cs w.kids∧∃y,ru Q.mt (Q.rules.getD i oQ).graph 1 (w.kids.map λk=>(cs.ed k).gr)=some y∧e.gr=lu y)
def gK (Q:Qr)(words:List bB)(cs:Cs):Prop:=∀it∈cs.its,∀w∈it.cV,yD Q words cs it.ed w
structure rH (cs fg:Cs):Prop where
 more:cs.its.length≤fg.its.length
 ed:∀i,i<cs.its.length→fg.ed i=cs.ed i
theorem Grow.stay {n frm tqo a:Nat}{cs fg:Cs}(h:Grow n frm tqo cs fg a):rH cs fg:=⟨h.more,h.ed⟩
theorem rH.refl (cs:Cs):rH cs cs:=⟨aR _,λ_ _=>rfl⟩
theorem rH.trans {x y z:Cs}(h:rH x y)(k:rH y z):rH x z:=⟨dY h.more k.more,λi a=>by rw[k.ed i (fQ a h.more),h.ed i a]⟩
theorem kM.stay {cs fg:Cs}(h:rH cs fg){tqo:Nat}:∀{l:List Nat} {a:Nat},kM cs tqo a l→kM fg tqo a l
 | [],_,k=>k
 |i::l,a,⟨b,c,k3⟩=>⟨fQ b h.more,by rw[h.ed i b];exact c,by rw[h.ed i b];exact kM.stay h k3⟩
theorem kM.lt {cs:Cs}{tqo:Nat}:∀{l:List Nat} {a:Nat},kM cs tqo a l→∀k∈l,k<cs.its.length
 | [],_,_,_,h=>by cases h
 |i::l,a,⟨b,_,k3⟩,k,h=>by
  rcases cH.1 h with rfl|h
  ·exact b
  ·exact kM.lt k3 k h
theorem kM.snoc {cs:Cs}{b tqo e:Nat}(he:e<cs.its.length)(h1:(cs.ed e).frm=b)(c:(cs.ed e).tqo=tqo):∀{l:List Nat} {a:Nat},kM cs b a l→kM cs tqo a (l++ [e])
 | [],a,k=>⟨he,by rw[h1];exact k.symm,c⟩
 |i::l,a,⟨d,f,k3⟩=>⟨d,f,kM.snoc he h1 c k3⟩
theorem OJ {cs fg:Cs}(h:rH cs fg){l:List Nat}(a:∀k∈l,k<cs.its.length):(l.map λk=>(fg.ed k).gr)=l.map λk=>(cs.ed k).gr:=C1 λk hk=>by rw[h.ed k (a k hk)]
theorem yD.stay {Q:Qr}{words:List bB}{cs fg:Cs}(h:rH cs fg){e:oh}{w:ud}(k:yD Q words cs e w):yD Q words fg e w:=by
 rcases k with k|⟨i,c,d,k3,f,a,g,y,j,l⟩
 ·exact .inl k
 ·have b:=a.lt
  refine .inr ⟨i,c,d,k3,f,a.stay h,?_,y,by rw[OJ h b];exact j,l⟩;rw[g]
  match hk:w.kids with
  | []=>rfl
  | [q]=>show _=(fg.ed q).cw+1;rw[h.ed q (b q (by rw[hk];simp))];rfl
  |_::_::_=>rfl
theorem CJ {nt nf n:Nat}(r:n≤12)(p:nt≤250)(q:nf≤250){Q:Qr}{words:List bB}{cs:Cs}(h:gi nt nf n cs)(g:gK Q words cs){e:oh}{w:ud}(he:e.frm<e.tqo∧e.tqo≤n∧e.cw≤3∧e7 nt nf e.gr∧e.gr.length≤60)(hk:∀k∈w.kids,k<cs.its.length)(hw:yD Q words cs e w):gK Q words (kZ n cs e w):=by
 have b:=(yF r h he hk).2.stay
 have AA:∀it∈cs.its,∀w∈it.cV,yD Q words (kZ n cs e w) it.ed w→True:=λ_ _ _ _ _=>trivial
 intro it hit v a
 have l:(∃i,xX cs.its (fZ e)=some i)∨xX cs.its (fZ e)=none:=by
  cases xX cs.its (fZ e)with
  |none=>exact .inr rfl
  |some i=>exact .inl ⟨i,rfl⟩
 rcases l with⟨i,f⟩|f
 ·have m:(kZ n cs e w).its=cs.its.modify i λit=>it.put w:=by unfold kZ;rw[f]
  rw[m]at hit;obtain⟨j,d,rfl⟩:=G8.1 hit;rw[pb]at d;rw[List.getElem_modify]at a⊢;obtain⟨x,hx,o⟩:=yu f
  by_cases c:i=j
  ·subst c
   rw[aC rfl]at a⊢
   have s:cs.its[i]=x:=by rw[bU d]at hx;exact Option.some.inj hx
   rcases cD.1 a with a|a
   ·exact(g _ (gz d) v a).stay b
   ·rw[bO.1 a]
    obtain⟨g1,g2,g3,g4,g5⟩:=h.gr cs.its[i] (gz d)
    have t:cs.its[i].ed=e:=key_inj ⟨by omega,by omega,by omega,g4.yP p q g5⟩ ⟨by omega,by omega,by omega,he.2.2.2.1.yP p q he.2.2.2.2⟩ (by rw[s];exact o)
    show yD Q words _ cs.its[i].ed w
    rw[t];exact hw.stay b
  ·rw[aA c]at a⊢
   exact(g _ (gz d) v a).stay b
 ·have m:(kZ n cs e w).its=cs.its++ [(⟨e,[],[]⟩:lJ).put w]:=by unfold kZ;rw[f]
  rw[m]at hit
  rcases cD.1 hit with hit|hit
  ·exact(g it hit v a).stay b
  ·rw[bO.1 hit]at a⊢
   have a:v∈([]:List ud)++ [w]:=a
   rw[A6]at a;rw[bO.1 a];exact hw.stay b
theorem uz {β:Type}(f:Cs→β→Cs)(I:Cs→Prop):∀(l:List β) (cs:Cs),I cs→(∀cs x,x∈l→I cs→I (f cs x))→I (l.foldl f cs)
 | [],_,h,_=>h
 |x::l,cs,h,a=>uz f I l (f cs x) (a cs x (by simp) h) λcs y hy=>a cs y (by simp[hy])
theorem Fo {Q:Qr}{cs:Cs}{rule a e:Nat}{x y:dz}(h:lO Q cs rule x a e=some y):mw Q.mt x a (cs.ed e).gr=some y:=by
 unfold lO at h
 split at h
 ·exact h
 ·cases h
theorem Rs {nt nf:Nat}{Q:Qr}(A:Q.n≤12)(I:nt≤250)(J:nf≤250)(B:y8 nt Q.mt){words:List bB}{rule frm tqo:Nat}(K:rule<Q.rules.length)(C:frm<tqo)(ht:tqo≤Q.n)(c:Nat→Nat→Nat):∀(l:Nat) (cs:Cs) (x:dz) (kids:List Nat) (a:Nat),
 ik nt nf Q.n frm tqo c 0 cs→e7 nt nf x→(frm<a∨(a=frm∧1≤l))→a<tqo→gK Q words cs→kM cs a frm kids→((kids.length+l+1:Nat):Int)=(Q.rules.getD rule oQ).kids→ru Q.mt (Q.rules.getD rule oQ).graph 1 (kids.map λk=>(cs.ed k).gr)=some x→
 gK Q words (uw Q rule frm tqo l cs x kids a):=by
 intro l
 induction l using Nat.strongRecOn with|_ l L=> ?_
 intro cs x kids a M hx X N s b D O;rw[Im]
 have t:∀z∈List.range' (nj l a tqo) (rK l a tqo),a<z∧z≤tqo∧(1≤l→z<tqo)∧(l=0→z=tqo):=λz hz=>by
  obtain⟨j,P,rfl⟩:=List.mem_range'.1 hz
  have:=Ck N P
  rw[Nat.one_mul];exact⟨this.1,this.2.1,this.2.2.2,this.2.2.1⟩
 refine(uz (Kc Q rule frm tqo l x kids a) (λfg=>ik nt nf Q.n frm tqo c 0 fg∧gK Q words fg∧rH cs fg) _ cs ⟨M,s,rH.refl _⟩ (λd en R ⟨s1,S,E⟩=> ?_)).2.1;obtain⟨Y,e2,F,T⟩:=t en R
 have g:∀e∈d.at_ Q.n a en,e<d.its.length:=λe he=>s1.ok.q8 he
 have h:∀e∈d.at_ Q.n a en,(d.ed e).frm=a∧(d.ed e).tqo=en:=λe he=>s1.ok.prt a en e (by omega) he
 have inner:=uz (tM Q rule frm tqo l x kids en) (λfg=>ik nt nf Q.n frm tqo c 0 fg∧gK Q words fg∧rH d fg) (d.at_ Q.n a en) d ⟨s1,S,rH.refl _⟩ (λf e he ⟨s2,u,p⟩=> ?_)
 ·exact⟨inner.1,inner.2.1,E.trans inner.2.2⟩
 have r:e<f.its.length:=fQ (g e he) p.more
 have G:=p.ed e (g e he)
 have v:=E.trans p
 have i:∀k∈kids,k<f.its.length:=λk hk=>fQ (b.lt k hk) v.more
 obtain⟨g1,g2⟩:=EJ A B C ht c (l:=l) (rule:=rule) s2 hx (en:=en) ⟨by omega,F⟩ i r;refine⟨g1,?_,p.trans g2.stay⟩;unfold tM
 cases hy:lO Q f rule x (kids.length+1) e with
 |none=>exact u
 |some y=>
  dsimp only
  obtain⟨H,U,_⟩:=vp B s2.ok hx r hy
  have V:=Fo hy
  have m:kM f en frm (kids++ [e]):=kM.snoc r (by rw[G];exact(h e he).1) (by rw[G];exact(h e he).2) (b.stay v)
  have w:((kids++ [e]).map λk=>(f.ed k).gr)=(kids.map λk=>(cs.ed k).gr)++ [(f.ed e).gr]:=by rw[cO,OJ v b.lt];rfl
  have o:ru Q.mt (Q.rules.getD rule oQ).graph 1 ((kids++ [e]).map λk=>(f.ed k).gr)=some y:=by
   rw[w,Bc _ O,aN,Nat.add_comm 1];exact V
  cases l with
  |zero=>
   dsimp only
   obtain⟨m1,m2⟩:=qP H U
   have W:=T rfl
   subst W;refine CJ A I J s2.ok u ⟨C,ht,aO _,m1,m2⟩ (λk hk=> ?_) (.inr ⟨rule,K,rfl,rfl,by rw[←D,bN];simp,m,?_,y,o,rfl⟩)
   ·rcases cD.1 hk with hk|hk
    ·exact i k hk
    ·rw[bO.1 hk];exact r
   ·cases kids with
    |nil=>
     have:frm=a:=b
     omega
    |cons q kids=>
     cases kids with
     |nil=>rfl
     |cons _ _=>rfl
  |succ l=>
   dsimp only
   exact L l (by omega) f y (kids++ [e]) en s2 H (.inl (by omega)) (F (by omega)) u m (by rw[←D,bN];simp;omega) o
theorem Ss {nt nf:Nat}{Q:Qr}(a:qq nt nf Q)(e:nt≤250)(f:nf≤250){words:List bB}{w:bB}{frm tqo i:Nat}(hw:w=words.getD frm [])(g:tqo=frm+1)(ht:tqo≤Q.n){cs:Cs}(h:gi nt nf Q.n cs)(b:gK Q words cs)(c:i<Q.aL.length):gK Q words (rL Q w frm tqo cs i):=by
 obtain⟨d,j⟩:=a.Uo c;unfold rL
 split
 ·rename_i l
  obtain⟨f1,f2,_⟩:=tY d d.pos;exact CJ a.n e f h b ⟨by dsimp only;omega,ht,aO _,f1,dY f2 j⟩ (λk hk=>by cases hk) (.inl ⟨rfl,rfl,g,rfl,i,c,rfl,by rw[l,hw],rfl⟩)
 ·exact b
theorem TM {nt nf:Nat}{Q:Qr}(a:qq nt nf Q)(f:nt≤250)(g:nf≤250){words:List bB}{frm tqo i:Nat}{c:Nat→Nat→Nat}(b:frm<tqo)(ht:tqo≤Q.n){cs:Cs}(h:ik nt nf Q.n frm tqo c 0 cs)(d:gK Q words cs)(e:i<Q.rules.length):gK Q words (rP Q frm tqo cs i):=by
 obtain⟨⟨k,k3⟩,j,_⟩:=a.vY e;unfold rP
 split
 ·rename_i l
  exact Rs a.n f g a.mt e b ht c _ cs _ [] frm h j (.inr ⟨rfl,by omega⟩) b d rfl (by show((0+((Q.rules.getD i oQ).kids.toNat-1)+1:Nat):Int)=_;omega) rfl
 ·exact d
theorem Ti {nt nf:Nat}{Q:Qr}(a:qq nt nf Q)(f:nt≤250)(g:nf≤250){words:List bB}{frm tqo e i:Nat}(j:frm<tqo)(ht:tqo≤Q.n){cs:Cs}(h:gi nt nf Q.n cs)(b:gK Q words cs)(he:e<cs.its.length)(c:(cs.ed e).frm=frm∧(cs.ed e).tqo=tqo)(q:(cs.ed e).cw<3)(d:i<Q.rules.length):gK Q words (qd Q frm tqo e cs i):=by
 obtain⟨_,l,_⟩:=a.vY d;unfold qd
 split
 ·exact b
 ·rename_i hk
  cases hy:lO Q cs i (Q.rules.getD i oQ).graph 1 e with
  |none=>exact b
  |some x=>
   dsimp only
   obtain⟨m,o,_⟩:=vp a.mt h l he hy;obtain⟨m1,m2⟩:=qP m o
   have p:=Fo hy
   refine CJ a.n f g h b ⟨j,ht,by dsimp only;omega,m1,m2⟩ (λk hk=>by rw[bO.1 hk];exact he) (.inr ⟨i,d,rfl,rfl,?_,⟨he,c.1,c.2⟩,rfl,x,?_,rfl⟩)
   ·show((1:Nat):Int)=_
    omega
   ·show(match mw Q.mt _ ((1:Nat):Int) (cs.ed e).gr with|none=>none|some z=>ru Q.mt z (1+1) [])=some x
    rw[p];rfl
theorem R9 {nt nf:Nat}{Q:Qr}(d:qq nt nf Q)(f:nt≤250)(g:nf≤250){words:List bB}{frm tqo:Nat}(e:frm<tqo)(ht:tqo≤Q.n){cs:Cs}(h:gi nt nf Q.n cs)(m:cs.its.length≤300)(k:gK Q words cs):gK Q words (mm Q words frm tqo cs):=by
 have l:ik nt nf Q.n frm tqo (λi j=>(cs.at_ Q.n i j).length) 0 cs:=⟨h,λ_ _ _ _=>rfl,aO _⟩
 unfold mm
 split
 ·rename_i o
  exact(uz (rL Q (words.getD frm []) frm tqo) (λfg=>ik nt nf Q.n frm tqo (λi j=>(cs.at_ Q.n i j).length) 0 fg∧gK Q words fg) _ cs ⟨l,k⟩ (λp i c ⟨a,b⟩=>⟨(yx d e ht a (dq.1 c)).1,Ss d f g rfl o ht a.ok b (dq.1 c)⟩)).2
 ·exact(uz (rP Q frm tqo) (λfg=>ik nt nf Q.n frm tqo (λi j=>(cs.at_ Q.n i j).length) 0 fg∧gK Q words fg) _ cs ⟨l,k⟩ (λp i c ⟨a,b⟩=>⟨(zT d e ht h m a (dq.1 c)).1,TM d f g e ht a b (dq.1 c)⟩)).2
theorem zy {nt nf:Nat}{Q:Qr}(g:qq nt nf Q)(p:nt≤250)(q:nf≤250){words:List bB}{frm tqo:Nat}(j:frm<tqo)(ht:tqo≤Q.n):∀(f k:Nat) (cs:Cs),gi nt nf Q.n cs→gK Q words cs→gK Q words (qe Q frm tqo f k cs)
 |0,_,_,_,h=>h
 |f+1,k,cs,c,h=>by
  rw[qe]
  split
  ·rename_i hk
   have r:(cs.at_ Q.n frm tqo)[k]?=some ((cs.at_ Q.n frm tqo).getD k 0):=by rw[aw,bU hk];rfl
   have m:=ae r
   have d:=c.q8 m
   have s:=c.prt frm tqo _ (by omega) m
   split
   ·exact zy g p q j ht f (k+1) cs c h
   ·rename_i w
    have x:(cs.ed ((cs.at_ Q.n frm tqo).getD k 0)).cw≤3:=by
     have:cs.ed ((cs.at_ Q.n frm tqo).getD k 0)=(cs.its[(cs.at_ Q.n frm tqo).getD k 0]'d).ed:=by unfold Cs.ed;rw[aw (l:=cs.its),bU d];rfl
     rw[this];exact(c.gr _ (gz d)).2.2.1
    have t:(cs.ed ((cs.at_ Q.n frm tqo).getD k 0)).cw<3:=by omega
    have hu:=Bq g j ht (e:=(cs.at_ Q.n frm tqo).getD k 0) (ch:=(cs.ed ((cs.at_ Q.n frm tqo).getD k 0)).cw) t c d rfl
    refine zy g p q j ht f (k+1) _ hu.ok ?_;refine(uz (qd Q frm tqo ((cs.at_ Q.n frm tqo).getD k 0)) (λfg=>gi nt nf Q.n fg∧gK Q words fg∧rH cs fg) _ cs ⟨c,h,rH.refl _⟩ (λz i v ⟨a,b,y⟩=> ?_)).2.1
    have o:=fQ d y.more
    have u:=y.ed _ d
    have h1:=Jq g j ht a o (by rw[u]) t (dq.1 v)
    exact⟨h1.ok,Ti g p q j ht a b o (by rw[u];exact s) (by rw[u];exact t) (dq.1 v),y.trans h1.gr.stay⟩
  ·exact h
theorem Ja {nt nf len:Nat}{Q:Qr}(a:qq nt nf Q)(b:nt≤250)(c:nf≤250){words:List bB}{frm:Nat}(d:1≤len)(ht:frm+len≤Q.n){cs:Cs}(h:nW nt nf Q.n len frm cs)(e:gK Q words cs):gK Q words (pJ Q words frm (frm+len) cs):=by
 obtain⟨f,_,_⟩:=DR a (words:=words) d ht h;exact zy a b c (by omega) ht _ _ _ f (R9 a b c (by omega) ht h.ok h.BF e)
theorem QJ {words:List bB}{k:Nat}{w:bB}(h:words[k]?=some w):xJ k (words.drop k)=if isWord w=false then(10,(k:Int))else xJ (k+1) (words.drop (k+1)):=by rw[bP h,xJ]
theorem Tt {words:List bB}{k:Nat}(h:words.length≤k):xJ k (words.drop k)=(0,0):=by rw[j6 h,xJ]
theorem NF {L:List Dn}{words:List bB}{k:Nat}{w:bB}(h:words[k]?=some w):AV L k (words.drop k)=if w∈L.map (·.word)then AV L (k+1) (words.drop (k+1))else(6,(k:Int)):=by rw[bP h,AV]
theorem Rx {L:List Dn}{words:List bB}{k:Nat}(h:words.length≤k):AV L k (words.drop k)=(0,0):=by rw[j6 h,AV]
theorem vI {g:gB}{words:List bB}(h:(ph g words).1=0):0<words.length∧words.length≤12:=by
 unfold ph at h
 by_cases c:words.length=0∨12<words.length
 ·rw[aC c]at h;exact absurd h (by decide)
 ·omega
theorem Mm.D5 {c:Ctx}(a:TypeId){w:World}:∀(m:Nat) (H:List ak),Mm c H w→Mm c (bE (fq a) (List.replicate m (bT,[]))++H) w
 |0,_,h=>h
 |m+1,H,h=>by
  obtain⟨ρ,hm⟩:=(Mm.D5 a m H h).out;exact Mm.mk (hm.Ag rfl ⟨rfl,aR _⟩ rfl (aR _) (λ_ _=>rfl) (eK.2 (World.ownsRow_nil _ _ _ _)) (λb d=>by rw[eG]at d;simp[Value.ownBlock]at d))
theorem St.D5 {n:Nat}{F:Fr}{c:Ctx}{H H':List ak}{T:Act→World→Prop}(e d:TypeId)(m:Nat)[t:jD [] (bE (ek e d) []++bE (fq d) (List.replicate m (bT,[]))) H H'](h:St n F (Mm c H') T):St n F (Mm c H) T:=by
 obtain⟨L,a,b⟩:=t.eq
 refine h.o6 λw hw=> ?_
 rw[a,gq]at hw;obtain⟨ρ,k⟩:=(Mm.D5 d m L hw).out;rw[b];exact Mm.mk (k.perm jX)
theorem St.afA {n:Nat}{F:Fr}{c:Ctx}{H H':List ak}{T:Act→World→Prop}(X Y:List ak)[t:jD (X++Y) X H H'](h:St n F (Mm c H') T):St n F (Mm c H) T:=by
 obtain⟨L,a,b⟩:=t.eq
 refine h.o6 λw hw=> ?_
 rw[a,←dp]at hw;obtain⟨ρ,k⟩:=hw.out;rw[b];exact Mm.mk k.left
theorem TG {f:kr}{g:gb}{words:List bB}(h:wC f (ca g) (hC (g.types.map dG)))(hk:∀r∈(ca g).rules,r.kids≤3):kT f (g.types.map dG) words.length g=qrG (ca g) words:=by
 unfold qrG kT
 rw[MF h hk];rfl
theorem XT {g:gb}(h:M1 (ca g)){f:kr}{n:Nat}(b:n≤12):qq (g.types.map dG).length (g.cB.map gy).length (kT f (g.types.map dG) n g):=
 ⟨b,zB _,h.rn,h.xn,λr a=>⟨(h.rule r a).kids,(h.rule r a).gr,(h.rule r a).len⟩,λx hx=>⟨(h.lex x hx).gr,(h.lex x hx).len⟩⟩
theorem Ts {nt nf n len frm:Nat}{Q:Qr}{words:List bB}(a:qq nt nf Q){d:nA}(c:nW nt nf n len frm d.cs)(hd:gK Q words d.cs):∀x∈d.its,x.cV.length≤3000000000000∧∀w∈x.cV,mH.wf w∧w.kids.length≤1000∧∀k∈w.kids,k<d.its.length:=λx hx=>by
 have hm:cE x∈d.cs.its:=eN hx
 have h1:=c.cV _ hm
 have g:(cE x).cV.length=x.cV.length:=aN _
 unfold ve at h1;refine⟨by omega,λw hw=> ?_⟩
 have e:wyE w∈(cE x).cV:=eN hw
 have hk:∀k∈w.kids,k<d.its.length:=λk hk=>by rw[←iT];exact c.ok.kids _ hm _ e k hk
 rcases hd _ hm _ e with⟨b,a2,_,_,i,f,a5,_⟩|⟨i,f,a2,a3,a4,_⟩
 ·have b:w.rule= -1:=b
  have a2:w.kids=[]:=a2
  have a5:w.lex=i:=a5
  have:=a.xn
  exact⟨⟨by rw[b];unfold aa;omega,by rw[a5];unfold aa;omega⟩,by rw[a2];exact aO _,hk⟩
 ·have a2:w.rule=i:=a2
  have a3:w.lex=0:=a3
  have a4:((w.kids.length:Nat):Int)=_:=a4
  have:=a.rn
  have h:=(a.vY f).1.2
  exact⟨⟨by rw[a2];unfold aa;omega,by rw[a3];unfold aa;omega⟩,by omega,hk⟩
theorem PW {nt nf n:Nat}{cs:Cs}(h:gi nt nf n cs){it:lJ}(hit:it∈gn cs.its):it.ed.frm<it.ed.tqo∧it.ed.tqo≤n∧it.ed.cw≤3∧e7 nt nf it.ed.gr∧it.ed.gr.length≤60:=by
 unfold gn at hit;obtain⟨i,b,rfl⟩:=cy.1 hit
 have a:i<cs.its.length:=dq.1 ((jg _ _).mem_iff.1 b)
 have e:cs.its.getD i gh=cs.its[i]:=by rw[aw,bU a];rfl
 dsimp only
 rw[e];exact h.gr _ (gz a)
theorem Ed {Q:Qr}{words:List bB}{len m frm:Nat}{cs:Cs}(hm:0<m):Ab Q words len m frm cs=if 300<(pJ Q words frm (frm+len) cs).its.length then none else Ab Q words len (m-1) (frm+1) (pJ Q words frm (frm+len) cs):=by
 obtain⟨k,rfl⟩:∃k,m=k+1:=⟨m-1,by omega⟩
 rfl
theorem Dx {Q:Qr}{words:List bB}{len m:Nat}{cs:Cs}(hm:0<m):yG Q words m len cs=(Ab Q words len (Q.n+1-len) 0 cs).bind λcs=>yG Q words (m-1) (len+1) cs:=by
 obtain⟨k,rfl⟩:∃k,m=k+1:=⟨m-1,by omega⟩
 rfl
theorem yk {mt:Nat→Nat→Option Nat}{n:Nat}{start:dz}{its:List lJ}{k:Nat}:((List.range (k+1)).filter λi=>decide ((its.getD i gh).ed.frm=0)&&decide ((its.getD i gh).ed.tqo=n)&&(dT mt (its.getD i gh).ed.gr 0 start).isSome)=
 ((List.range k).filter λi=>decide ((its.getD i gh).ed.frm=0)&&decide ((its.getD i gh).ed.tqo=n)&&(dT mt (its.getD i gh).ed.gr 0 start).isSome)++if(decide ((its.getD k gh).ed.frm=0)&&decide ((its.getD k gh).ed.tqo=n)&&(dT mt (its.getD k gh).ed.gr 0 start).isSome)=true then [k]else []:=by
 rw[uW,List.filter_append,List.filter_cons,List.filter_nil]
theorem O3 (g:gb)(wv:Value)(words:List bB):kX prog 87 #[fV g,wv] [sl dy g.xv.1 g.aL,aF eO g.aL,sl bL wv words,u8] (fv (ph (ca g) words)):=by
 refine kX.body (args:=[fV g,wv]) (ds:=[sl dy g.xv.1 g.aL,aF eO g.aL,sl bL wv words,u8]) 69 func87 rfl ntmps87 rfl (λc r=> ?_);refine St.cast (H':=[aB (sl dy g.xv.1 g.aL),aB (aF eO g.aL),aB (sl bL wv words),aB (u8)]) rfl ?_;refine go ?_;refine St.wf wv (λs B=> ?_);refine St.wf g.xv.1 (λC D=> ?_);refine go ?_;refine St.dK (.mk rfl) rfl (λi=> ?_);refine St.al (λj=> ?_);refine g9 ?_;refine St.gf _ rfl rfl (λd=>Ev.move (.mk rfl)) rfl ?_;refine St.gf _ rfl rfl (λd=>Ev.fj (ai.gv rfl d) mz) rfl ?_;refine St.gf _ rfl rfl (λd=>Ev.gtr (ai.gv rfl d) (.mk rfl)) rfl ?_;refine g3 ?_;refine St.cq (λt=> ?_) (λt=> ?_)
 ·have hk:(ph (ca g) words)=(9,-2):=by unfold ph;rw[aC (by omega)]
  refine g2 ?_;refine St.ee (Ev.build (bH.aY rfl rfl) (λw=>gj rfl rfl w)) ?_;refine g5 ?_;refine St.rV [_] [] ?_
  rw[hk];rfl
 ·have hk:(ph (ca g) words)=if(xJ 0 words).1≠0 then xJ 0 words else AV (g.aL.map og) 0 words:=by unfold ph;rw[aA (by omega)];rfl
  refine g11 ?_;refine St.lH (ι:=Nat) (λk T=>(25,iv k)::T) (λk=>[aW i (.cells (iu g).toArray 32 (0,0)),aW j (.cells [iv 0,iv 0].toArray 35 (0,0)),aB (sl dy g.xv.1 g.aL),aB (aF eO g.aL),aB (sl bL wv words),aB (u8)]) (λk=>k≤words.length∧xJ 0 words=xJ k (words.drop k)) (λk=>words.length-k) 0 (aD.cons 1 rfl (aD.cons 2 rfl (aD.cons 4 rfl (aD.cons 23 rfl (aD.cons 24 rfl aD.nil))))) ⟨aO _,rfl⟩ ?_;rintro k ⟨v,e⟩;refine g6 ?_;refine St.cq (λy=> ?_) (λy=> ?_)
  ·obtain⟨w,hw⟩:=aE (show k<words.length by omega)
   have z:w.length≤140737488351232:=s w (ae hw)
   have f:=QJ hw
   refine g16 ?_;refine St.ee (Ev.nF r (uc w (by omega)) Vv (.ar rfl)) ?_;refine g3 ?_;refine St.cond _ rfl (λa=> ?_) (λa=> ?_)
   ·skip
    rw[aC (show isWord w=false by simpa using a)]at f;rw[e.trans f,aC (show(10:Int)≠0 by decide)]at hk;refine g3 ?_;refine St.ee (Ev.build (bH.aY rfl rfl) (λw=>gj rfl rfl w)) ?_;refine g9 ?_;refine St.rV [_] [] ?_
    rw[hk];rfl
   ·skip
    rw[aA (show ¬isWord w=false by simpa using a)]at f;refine g8 ?_;refine St.aH (k+1) ⟨by omega,e.trans f⟩
  ·rw[Tt (by omega)]at e
   rw[e,aA (by decide)]at hk;refine g7 ?_;refine St.makeMap mkStr rfl (λp=> ?_);refine g13 ?_;refine St.te (ι:=Nat) (κ:=List (bB×Value)) (λq m T=>(40,iv q)::T) (λq m=>[aW p (eU mkStr m),aW i (.cells (iu g).toArray 32 (0,0)),aW j (.cells [iv 0,iv 0].toArray 35 (0,0)),aB (sl dy g.xv.1 g.aL),aB (aF eO g.aL),aB (sl bL wv words),aB (u8)]) (λq m=>q≤g.aL.length∧KD m ((g.aL.take q).map eX.word)) (λq m=>g.aL.length-q) 0 [] (aD.cons 1 rfl (aD.cons 4 rfl (aD.cons 7 rfl (aD.cons 38 rfl (aD.cons 39 rfl aD.nil))))) ⟨aO _,KD.nil⟩ ?_;rintro q m ⟨E,l⟩;refine g6 ?_;refine St.cq (λA=> ?_) (λA=> ?_)
   ·obtain⟨x,hx⟩:=aE (show q<g.aL.length by omega)
    refine g8 ?_;refine St.ee (Ev.jr (.mk rfl) hx zt trivial nR j7.eq) ?_;refine St.al (λF=> ?_);refine go ?_;refine St.sA (.mk rfl) (.mk rfl) nR ?_ (h1:=(eW.2 λu hu=>dy.one x u hu));refine g7 ?_;refine St.mapUpdate mkStr (k:=x.word) (.mk rfl) (.mk rfl) (.mk rfl) pY (by exact wW) ?_;refine g8 ?_;refine St.ue (q+1) (l6 m x.word (iv q)) ⟨by omega,by rw[gV eX.word hx];exact l.snoc _ _⟩
   ·obtain rfl:q=g.aL.length:=by omega
    rw[jl]at l;refine g14 ?_;refine St.lH (ι:=Nat) (λk T=>(52,iv k)::T) (λk=>[aW p (eU mkStr m),aW i (.cells (iu g).toArray 32 (0,0)),aW j (.cells [iv 0,iv 0].toArray 35 (0,0)),aB (sl dy g.xv.1 g.aL),aB (aF eO g.aL),aB (sl bL wv words),aB (u8)]) (λk=>k≤words.length∧AV (g.aL.map og) 0 words=AV (g.aL.map og) k (words.drop k)) (λk=>words.length-k) 0 (aD.cons 4 rfl (aD.cons 7 rfl (aD.cons 50 rfl (aD.cons 51 rfl aD.nil)))) ⟨aO _,rfl⟩ ?_;rintro k ⟨v,h⟩;refine g6 ?_;refine St.cq (λn=> ?_) (λn=> ?_)
    ·obtain⟨w,hw⟩:=aE (show k<words.length by omega)
     have b:=NF (L:=g.aL.map og) hw
     rw[kH]at b;refine g17 ?_;refine St.ee (Ev.th mkStr (k:=w) (.mk rfl) (.mk rfl) pY (by exact wW) eQ) ?_;refine g3 ?_;refine St.slot 62 (.bool (decide (w∈g.aL.map eX.word))) rfl (congrArg Value.bool (l w)) ?_;refine g10 ?_;refine St.cond _ rfl (λo=> ?_) (λo=> ?_)
     ·skip
      rw[aA (show ¬w∈g.aL.map ((·.word)∘og)from(by simpa using o:¬w∈g.aL.map eX.word))]at b;rw[h.trans b]at hk;refine g3 ?_;refine St.ee (Ev.build (bH.aY rfl rfl) (λw=>gj rfl rfl w)) ?_;refine g9 ?_;refine St.rV [_] [] ?_
      rw[hk];rfl
     ·skip
      rw[aC (show w∈g.aL.map ((·.word)∘og)from(by simpa using o:w∈g.aL.map eX.word))]at b;refine g8 ?_;refine St.aH (k+1) ⟨by omega,h.trans b⟩
    ·rw[Rx (by omega)]at h
     rw[h]at hk;refine g7 ?_;refine St.ee (Ev.build (bH.nil) (λw=>jv w)) ?_;refine g4 ?_;refine St.rV [_] [] ?_
     rw[hk];rfl
theorem FG (g:gb)(wv:Value)(words:List bB):uY prog 50 #[fV g,wv] ([fB g,sl bL wv words,tz,u8].map aB) (λv H'=>∃(p u3:aV) (m:Nat) (d:List dJ),v= .tuple #[.agg #[p.1,iv (m:Nat),u3.1],fv (dS (ca g) words).2]∧d.map cE=(dS (ca g) words).1.1∧H'=[aB (sl eB p.1 d),aB (aF cj d),aB (sl aI u3.1 (bW (dS (ca g) words).1.2))]):=by
 refine uY.body (args:=[fV g,wv]) 124 func50 rfl ntmps50 rfl (λc hdr=> ?_);refine St.cast (H':=[aB (fB g),aB (sl bL wv words),aB (tz),aB (u8)]) rfl ?_
 refine St.jP (fB g) (λ_:Unit=>Gv g) (λρ h=>⟨(),h⟩) λ_=> ?_
 refine St.cast (H':=[aB (sl ml g.tv.1 g.types),aB (aF ry g.types),aB (sl gY g.fv.1 g.cB),aB (sl cS g.rv.1 g.rules),aB (aF bx g.rules),aB (sl dy g.xv.1 g.aL),aB (aF eO g.aL),aB (aG g.start),aB (fB g),aB (sl bL wv words),aB (tz),aB (u8)]) rfl ?_;refine g2 ?_;refine St.dK (.mk rfl) rfl (λQ=> ?_);refine St.al (λF=> ?_);refine St.al (λG=> ?_);refine g6 ?_;refine St.slot 17 (fV g) rfl rfl ?_;refine St.ee (Ev.nF hdr (qJ g) Vr (.ar rfl)) ?_;refine St.slot 18 (.agg #[iv (jN (ca g)).1,iv (jN (ca g)).2]) rfl rfl ?_;refine St.al (λb6=> ?_);refine g10 ?_;refine St.cq (λh21=> ?_) (λh21=> ?_)
 ·have l:(dS (ca g) words)=(([],[]),jN (ca g)):=by unfold dS;rw[aC h21]
  refine go ?_;refine St.qS [F,G] mixed (λnp ns=> ?_);refine SW.dd 0 rfl (λ_=>Ev.build (ps:=[]) (bH.nil) (λw=>CX w)) ?_;refine SW.gd 1 ?_;refine SW.t1 2 ?_;refine g3 ?_;refine SW.go ?_;refine SW.t1 3 ?_;refine g3 ?_;refine SW.go ?_;refine SW.dn ?_;refine g3 ?_;refine St.fk eB ?_;refine St.dN cj ?_;refine St.fk aI ?_;refine St.rV [_,_] [aB (sl eB (.slice none 0 0) []),aB (aF cj []),aB (sl aI (.slice none 0 0) [])] ?_;exact⟨bT,bT,0,[],by rw[l];rfl,by rw[l];rfl,by rw[l];rfl⟩
 ·have hg0:(jN (ca g)).1=0:=by omega
  have s:=vA hg0
  have S:im (g.types.map dG):=s.ty
  have hTl:=S.len
  have hFl:(g.cB.map gy).length≤40:=s.ft
  refine g6 ?_;refine St.slot 24 (fV g) rfl rfl ?_;refine go ?_;refine St.ee (Ev.nF hdr (O3 g wv words) ahO (.aY rfl rfl)) ?_;refine St.slot 26 (.agg #[iv (ph (ca g) words).1,iv (ph (ca g) words).2]) rfl rfl ?_;refine St.al (λb7=> ?_);refine g10 ?_;refine St.cq (λU=> ?_) (λU=> ?_)
  ·have l:(dS (ca g) words)=(([],[]),(ph (ca g) words)):=by unfold dS;rw[aA (λh=>h hg0),aC U]
   refine go ?_;refine St.qS [F,G] mixed (λnp ns=> ?_);refine SW.dd 0 rfl (λ_=>Ev.build (ps:=[]) (bH.nil) (λw=>CX w)) ?_;refine SW.gd 1 ?_;refine SW.t1 2 ?_;refine g3 ?_;refine SW.go ?_;refine SW.t1 3 ?_;refine g3 ?_;refine SW.go ?_;refine SW.dn ?_;refine g3 ?_;refine St.fk eB ?_;refine St.dN cj ?_;refine St.fk aI ?_;refine St.rV [_,_] [aB (sl eB (.slice none 0 0) []),aB (aF cj []),aB (sl aI (.slice none 0 0) [])] ?_;exact⟨bT,bT,0,[],by rw[l];rfl,by rw[l];rfl,by rw[l];rfl⟩
  ·have V:(ph (ca g) words).1=0:=by omega
   obtain⟨hw0,I⟩:=vI V
   have hru:∀r∈g.rules,(1≤r.kids∧r.kids≤3)∧e7 (g.types.map dG).length (g.cB.map gy).length (ay r.graph)∧r.graph.nodes.length≤60:=λr J=>by have h:=s.rule (lI r) (eN J);exact⟨h.kids,h.gr,by rw[←cz];exact h.len⟩
   have WV:∀x∈g.aL,e7 (g.types.map dG).length (g.cB.map gy).length (ay x.graph)∧x.graph.nodes.length≤60:=λx hx=>by have h:=s.lex (og x) (eN hx);exact⟨h.gr,by rw[←cz];exact h.len⟩
   have SP:e7 (g.types.map dG).length (g.cB.map gy).length (ay g.start)∧g.start.nodes.length≤60:=⟨s.start.1,by rw[←cz];exact s.start.2⟩
   have GD:∀r∈g.rules,∀k:Int,0≤k→k≤r.kids→0≤rR (ay r.graph) k:=λr J=>(s.rule (lI r) (eN J)).rR
   have hrn:g.rules.length≤40:=by have h:(g.rules.map lI).length≤40:=s.rn;rwa[aN]at h
   have hxn:g.aL.length≤100:=by have h:(g.aL.map og).length≤100:=s.xn;rwa[aN]at h
   refine g7 ?_;refine St.ag (py g.tv.1 g.types S) Vs (.ar rfl) rfl ?_;rintro v35 _ ⟨a,b,rfl,rfl⟩;refine St.dQ ?_;refine St.al (λR=> ?_);refine g3 ?_;refine St.join (ι:=kr×aV×Nat×Nat×nA) (λ⟨f,sv,e,y,d0⟩ T=>(9,.pointer (some ⟨y,0,none⟩))::T) (λ⟨f,sv,e,y,d0⟩=>(aB (aF (λx:dJ=>aG x.gr) d0.its)::aW y (.cells (mq g a b f words.length d0.eC.1 sv.1 e).toArray 180 (0,0))::aW e (eU mkStr d0.m)::row d0.eC.1 186 6 d0.its.length (rows eB d0.its)::row sv.1 58 1 d0.bz.length (rows bS (d0.bz.map Prod.fst))::aB (iP [hY f,sl cS g.rv.1 g.rules,aF bx g.rules,sl dy g.xv.1 g.aL,aF eO g.aL])::aB (iP [sl bF a.1 (de (g.types.map dG)),sl bF b.1 (db (g.types.map dG)),tz,sl bL wv words,aG g.start])::aW Q (.cells (iu g).toArray 32 (0,0))::aW F (.cells [(.slice none 0 0),iv 0,(.slice none 0 0)].toArray 120 (0,0))::aW G (.cells [iv 0,iv 0].toArray 35 (0,0))::aW R (.cells [a.1,b.1].toArray 100 (0,0))::(bE (ek 200 3) d0.its++bE (fq 3) d0.bz))) (λ⟨f,sv,e,y,d0⟩=>wC f (ca g) (hC (g.types.map dG))∧d0.nQ=sv∧lK d0∧d0.cs=(⟨[],List.replicate (words.length*(words.length+1)) []⟩:Cs)) (aD.cons 1 rfl (aD.cons 2 rfl (aD.cons 4 rfl (aD.cons 5 rfl (aD.cons 8 rfl aD.nil))))) ?_ ?_
   ·refine St.da [aB (sl cS g.rv.1 g.rules),aB (aF bx g.rules),aB (sl dy g.xv.1 g.aL),aB (aF eO g.aL),aB (aG g.start),aB (sl bF a.1 (de (g.types.map dG))),aB (sl bF b.1 (db (g.types.map dG))),aB (tz)] mixed (λnp ns=> ?_)
    repeat' first
     |with_reducible refine SW.me ?_
      first
       |refine SW.gd 0 ?_
        refine SW.slot 36 (fV g) rfl rfl ?_
       |refine SW.gd 1 ?_
        refine SW.slot 37 (kC a b) rfl rfl ?_
       |refine SW.gd 2 ?_
        refine SW.slot 38 (fV g) rfl rfl ?_
       |refine SW.gd 3 ?_
        refine SW.slot 39 (kC a b) rfl rfl ?_
       |refine SW.gd 5 ?_
       |refine SW.gd 6 ?_
       |refine SW.dd 9 rfl (λ_=>Ev.build (ps:=[(0,(.tmp 36)),(1,(.tmp 37)),(2,(.tmp 40)),(4,(.tmp 43)),(5,(.tmp 44))]) (bH.Aj rfl rfl rfl rfl rfl) (λw=>uj rfl w)) ?_
        refine SW.slot 45 (.agg (mq g a b f words.length bT.1 sv.1 e).toArray) rfl rfl ?_
       |refine SW.gd 11 ?_
       |refine SW.t2 4 8 ?_ ?_
       |refine SW.t2 7 8 ?_ ?_
       |refine SW.t1 8 ?_
       |refine SW.t1 10 ?_
       |refine SW.t1 7 ?_
       |refine SW.t1 4 ?_
     |with_reducible refine SW.tg 4 ?_
      refine St.ag (Qs g a b (g.types.map dG) S (g.cB.map gy).length (by omega) hrn hxn hru WV SP GD) ahP (.aY rfl rfl) rfl ?_;rintro v40 _ ⟨f,rfl,A,rfl⟩;refine St.ao ?_;refine g2 ?_;refine SW.go ?_
     |with_reducible refine SW.tg 7 ?_
      refine St.call (Ah words.length I (words.length*(words.length+1)) rfl) ahQ (.ar rfl) rfl ?_;rintro v43 _ ⟨sv,rfl,rfl⟩;refine St.ao ?_;refine g2 ?_;refine SW.go ?_
     |with_reducible refine SW.tg 8 ?_
      refine St.makeMap mkStr rfl (λe=> ?_);refine g2 ?_;refine SW.go ?_
     |with_reducible refine SW.tg 10 ?_
      refine St.dK (.mk rfl) rfl (λy=> ?_);refine g2 ?_;refine SW.go ?_
    all_goals refine SW.dn ?_
    all_goals
     refine go ?_;refine St.aM sv.1 (show _=(List.replicate (words.length*(words.length+1)) ((bT,[]):aV×List Nat)).length by rw[kG,kG]) (show _=rows bS ((List.replicate (words.length*(words.length+1)) ((bT,[]):aV×List Nat)).map Prod.fst) by rw[s9]) ?_;refine St.e9 186 6 ?_;refine St.aM (.slice none 0 0) (show _=([]:List dJ).length from rfl) (show _=rows eB []from rfl) ?_;refine St.dN (λx:dJ=>aG x.gr) ?_;refine St.D5 200 3 (words.length*(words.length+1)) ?_;refine St.eY (iP [hY f,sl cS g.rv.1 g.rules,aF bx g.rules,sl dy g.xv.1 g.aL,aF eO g.aL]) [hY f,sl cS g.rv.1 g.rules,aF bx g.rules,sl dy g.xv.1 g.aL,aF eO g.aL] (λρ h=>h) ?_;refine St.eY (iP [sl bF a.1 (de (g.types.map dG)),sl bF b.1 (db (g.types.map dG)),tz,sl bL wv words,aG g.start]) [sl bF a.1 (de (g.types.map dG)),sl bF b.1 (db (g.types.map dG)),tz,sl bL wv words,aG g.start] (λρ h=>h) ?_;refine St.mE ⟨f,sv,e,y,(⟨bT,[],sv,List.replicate (words.length*(words.length+1)) (bT,[]),[]⟩:nA)⟩ ⟨A,rfl,⟨λ_ h=>(by cases h),wm.nil,.nil⟩,(by show(⟨_,_⟩:Cs)=_;rw[s9];rfl)⟩
   ·rintro ⟨f,sv,e,y,d0⟩ ⟨A,Y,hp0,hc0⟩
    dsimp only at A Y hp0 hc0⊢
    refine St.JG [sl bF a.1 (de (g.types.map dG)),sl bF b.1 (db (g.types.map dG)),tz,sl bL wv words,aG g.start] ?_;refine St.cast (H':=(aB (sl bF a.1 (de (g.types.map dG)))::aB (sl bF b.1 (db (g.types.map dG)))::aB (tz)::aB (sl bL wv words)::aB (aG g.start)::(aB (aF (λx:dJ=>aG x.gr) d0.its)::aW y (.cells (mq g a b f words.length d0.eC.1 sv.1 e).toArray 180 (0,0))::aW e (eU mkStr d0.m)::row d0.eC.1 186 6 d0.its.length (rows eB d0.its)::row sv.1 58 1 d0.bz.length (rows bS (d0.bz.map Prod.fst))::aB (iP [hY f,sl cS g.rv.1 g.rules,aF bx g.rules,sl dy g.xv.1 g.aL,aF eO g.aL])::aB (iP [sl bF a.1 (de (g.types.map dG)),sl bF b.1 (db (g.types.map dG)),tz,sl bL wv words,aG g.start])::aW Q (.cells (iu g).toArray 32 (0,0))::aW F (.cells [(.slice none 0 0),iv 0,(.slice none 0 0)].toArray 120 (0,0))::aW G (.cells [iv 0,iv 0].toArray 35 (0,0))::aW R (.cells [a.1,b.1].toArray 100 (0,0))::(bE (ek 200 3) d0.its++bE (fq 3) d0.bz)))) rfl ?_;refine St.JG [hY f,sl cS g.rv.1 g.rules,aF bx g.rules,sl dy g.xv.1 g.aL,aF eO g.aL] ?_;refine St.cast (H':=(aB (hY f)::aB (sl cS g.rv.1 g.rules)::aB (aF bx g.rules)::aB (sl dy g.xv.1 g.aL)::aB (aF eO g.aL)::aB (sl bF a.1 (de (g.types.map dG)))::aB (sl bF b.1 (db (g.types.map dG)))::aB (tz)::aB (sl bL wv words)::aB (aG g.start)::aB (aF (λx:dJ=>aG x.gr) d0.its)::aW y (.cells (mq g a b f words.length d0.eC.1 sv.1 e).toArray 180 (0,0))::aW e (eU mkStr d0.m)::row d0.eC.1 186 6 d0.its.length (rows eB d0.its)::row sv.1 58 1 d0.bz.length (rows bS (d0.bz.map Prod.fst))::aB (iP [hY f,sl cS g.rv.1 g.rules,aF bx g.rules,sl dy g.xv.1 g.aL,aF eO g.aL])::aB (iP [sl bF a.1 (de (g.types.map dG)),sl bF b.1 (db (g.types.map dG)),tz,sl bL wv words,aG g.start])::aW Q (.cells (iu g).toArray 32 (0,0))::aW F (.cells [(.slice none 0 0),iv 0,(.slice none 0 0)].toArray 120 (0,0))::aW G (.cells [iv 0,iv 0].toArray 35 (0,0))::aW R (.cells [a.1,b.1].toArray 100 (0,0))::(bE (ek 200 3) d0.its++bE (fq 3) d0.bz))) rfl ?_
    have hFn:=A.ln (by have:=s.rn;omega) (by have:=s.xn;omega) (λr J=>(s.rule r J).kids.2)
    have hQ:=XT s (f:=f) I
    have hQs:=TG (words:=words) A (λr J=>(s.rule r J).kids.2)
    have ajO:f.nr=g.rules.length:=by rw[A.nr];exact aN _
    obtain⟨W,hW⟩:∃W,W=yG (kT f (g.types.map dG) words.length g) words words.length 1 (⟨[],List.replicate (words.length*(words.length+1)) []⟩:Cs):=⟨_,rfl⟩
    have ajJ:wo (ca g) words=W.map λcs=>gn cs.its:=by unfold wo;rw[←hQs,hW]
    have l:(dS (ca g) words)=match wo (ca g) words with|none=>(([],[]),(17,-2))|some its=>((its,Gs (hC (g.types.map dG)) words.length (ay g.start) its),(0,0)):=by unfold dS;rw[aA (λh=>h hg0),aA (λh=>h V)];rfl
    rw[ajJ]at l;refine g7 ?_;refine St.lH (ι:=Nat×nA) (λ⟨i,d1⟩ T=>(10,iv ((i+1:Nat):Int))::T) (λ⟨i,d1⟩=>(aB (aF (λx:dJ=>aG x.gr) d1.its)::aW y (.cells (mq g a b f words.length d1.eC.1 sv.1 e).toArray 180 (0,0))::aW e (eU mkStr d1.m)::row d1.eC.1 186 6 d1.its.length (rows eB d1.its)::row sv.1 58 1 d1.bz.length (rows bS (d1.bz.map Prod.fst))::aB (hY f)::aB (sl cS g.rv.1 g.rules)::aB (aF bx g.rules)::aB (sl dy g.xv.1 g.aL)::aB (aF eO g.aL)::aB (sl bF a.1 (de (g.types.map dG)))::aB (sl bF b.1 (db (g.types.map dG)))::aB (tz)::aB (sl bL wv words)::aB (aG g.start)::aW Q (.cells (iu g).toArray 32 (0,0))::aW F (.cells [(.slice none 0 0),iv 0,(.slice none 0 0)].toArray 120 (0,0))::aW G (.cells [iv 0,iv 0].toArray 35 (0,0))::aW R (.cells [a.1,b.1].toArray 100 (0,0))::(bE (ek 200 3) d1.its++bE (fq 3) d1.bz))) (λ⟨i,d1⟩=>i≤words.length∧d1.nQ=sv∧lK d1∧nW (g.types.map dG).length (g.cB.map gy).length words.length (i+1) 0 d1.cs∧gK (kT f (g.types.map dG) words.length g) words d1.cs∧yG (kT f (g.types.map dG) words.length g) words (words.length-i) (i+1) d1.cs=W) (λ⟨i,d1⟩=>words.length-i) ⟨0,d0⟩ (aD.cons 1 rfl (aD.cons 2 rfl (aD.cons 4 rfl (aD.cons 5 rfl (aD.cons 8 rfl (aD.cons 9 rfl aD.nil)))))) ⟨aO _,Y,hp0,by rw[hc0];exact zb,by rw[hc0];exact λit h=>(by cases h),by rw[hc0,hW];rfl⟩ ?_;rintro ⟨i,d1⟩ ⟨hi,Kt,WZ,B,K,Z⟩
    dsimp only at hi Kt WZ B K Z⊢
    refine g9 ?_;refine St.cq (λh50=> ?_) (λh50=> ?_)
    ·have SH:i<words.length:=by omega
     rw[Dx (by omega),show((kT f (g.types.map dG) words.length g)).n+1-(i+1)=words.length-i from(by show words.length+1-(i+1)=_;omega)]at Z;refine g10 ?_;refine St.lH (ι:=Nat×nA) (λ⟨fr,d2⟩ T=>(11,iv fr)::T) (λ⟨fr,d2⟩=>(aB (aF (λx:dJ=>aG x.gr) d2.its)::aW y (.cells (mq g a b f words.length d2.eC.1 sv.1 e).toArray 180 (0,0))::aW e (eU mkStr d2.m)::row d2.eC.1 186 6 d2.its.length (rows eB d2.its)::row sv.1 58 1 d2.bz.length (rows bS (d2.bz.map Prod.fst))::aB (hY f)::aB (sl cS g.rv.1 g.rules)::aB (aF bx g.rules)::aB (sl dy g.xv.1 g.aL)::aB (aF eO g.aL)::aB (sl bF a.1 (de (g.types.map dG)))::aB (sl bF b.1 (db (g.types.map dG)))::aB (tz)::aB (sl bL wv words)::aB (aG g.start)::aW Q (.cells (iu g).toArray 32 (0,0))::aW F (.cells [(.slice none 0 0),iv 0,(.slice none 0 0)].toArray 120 (0,0))::aW G (.cells [iv 0,iv 0].toArray 35 (0,0))::aW R (.cells [a.1,b.1].toArray 100 (0,0))::(bE (ek 200 3) d2.its++bE (fq 3) d2.bz))) (λ⟨fr,d2⟩=>fr+i≤words.length∧d2.nQ=sv∧lK d2∧nW (g.types.map dG).length (g.cB.map gy).length words.length (i+1) fr d2.cs∧gK (kT f (g.types.map dG) words.length g) words d2.cs∧(Ab (kT f (g.types.map dG) words.length g) words (i+1) (words.length-i-fr) fr d2.cs).bind (λcs=>yG (kT f (g.types.map dG) words.length g) words (words.length-i-1) (i+1+1) cs)=W) (λ⟨fr,d2⟩=>words.length-fr) ⟨0,d1⟩ (aD.cons 1 rfl (aD.cons 2 rfl (aD.cons 4 rfl (aD.cons 5 rfl (aD.cons 8 rfl (aD.cons 9 rfl (aD.cons 10 rfl aD.nil))))))) ⟨by omega,Kt,WZ,B,K,Z⟩ ?_;rintro ⟨fr,d2⟩ ⟨hfr,AY,Nh,E,hn2,hlen⟩
     dsimp only at hfr AY Nh E hn2 hlen⊢
     refine g6 ?_;refine St.slot 55 (iv ((fr+(i+1):Nat):Int)) rfl (congrArg iv (by push_cast;omega)) ?_;refine g5 ?_;refine St.cq (λh58=> ?_) (λh58=> ?_)
     ·have SC:fr+(i+1)≤words.length:=by omega
      rw[Ed (by omega)]at hlen;refine g12 ?_;refine St.slot 66 (iv ((fr+(i+1):Nat):Int)) rfl (congrArg iv (by push_cast;omega)) ?_;refine St.pQ (ds:=[hY f,sl cS g.rv.1 g.rules,aF bx g.rules,sl dy g.xv.1 g.aL,aF eO g.aL,sl bF a.1 (de (g.types.map dG)),sl bF b.1 (db (g.types.map dG)),tz,sl bL wv words,aF (λx:dJ=>aG x.gr) d2.its]) (L:=[aW y (.cells (mq g a b f words.length d2.eC.1 sv.1 e).toArray 180 (0,0)),aW e (eU mkStr d2.m),row d2.eC.1 186 6 d2.its.length (rows eB d2.its),row sv.1 58 1 d2.bz.length (rows bS (d2.bz.map Prod.fst))]) (X:=(bE (ek 200 3) d2.its++bE (fq 3) d2.bz)) (post:=λv L' X'=>∃d3:nA,d3.cs=pJ (kT f (g.types.map dG) words.length g) words fr (fr+(i+1)) d2.cs∧d3.nQ=sv∧lK d3∧L'=[aB (aF (λx:dJ=>aG x.gr) d3.its),aW y (.cells (mq g a b f words.length d3.eC.1 sv.1 e).toArray 180 (0,0)),aW e (eU mkStr d3.m),row d3.eC.1 186 6 d3.its.length (rows eB d3.its),row sv.1 58 1 d3.bz.length (rows bS (d3.bz.map Prod.fst))]∧X'=(bE (ek 200 3) d3.its++bE (fq 3) d3.bz)) ((Ld g a b (g.types.map dG) S (g.cB.map gy).length (by omega) f hFn words.length I y e sv wv words rfl ajO hQ GD fr (fr+(i+1)) (i+1) (by omega) rfl SC d2 AY Nh E).mono (λv H' ⟨d3,H,a2,a3,a4⟩=>⟨_,_,a4,d3,H,a2,a3,rfl,rfl⟩)) ahR (.gW rfl rfl rfl rfl) rfl ?_;rintro v67 _ _ ⟨d3,H,a2,a3,rfl,rfl⟩;refine St.CO ?_;refine g12 ?_;refine St.cq (λh73=> ?_) (λh73=> ?_)
      ·rw[aC (by rw[←H,iT];omega)]at hlen
       have hWn:W=none:=hlen.symm
       rw[hWn]at l;refine g2 ?_;refine St.ee (Ev.build (bH.nil) (λw=>CX w)) ?_;refine St.ee (Ev.build (bH.aY rfl rfl) (λw=>gj rfl rfl w)) ?_;refine g14 ?_;refine St.fk eB ?_;refine St.dN cj ?_;refine St.fk aI ?_;refine St.rV [_,_] [aB (sl eB (.slice none 0 0) []),aB (aF cj []),aB (sl aI (.slice none 0 0) [])] ?_;exact⟨bT,bT,0,[],by rw[l];rfl,by rw[l];rfl,by rw[l];rfl⟩
      ·have hle:¬300<(pJ (kT f (g.types.map dG) words.length g) words fr (fr+(i+1)) d2.cs).its.length:=by rw[←H,iT];omega
       rw[aA hle,←H]at hlen
       have hs3:=FZ hQ (words:=words) (show 1≤i+1 by omega) SC E hle
       have hn3:=Ja hQ (by omega) (by omega) (show 1≤i+1 by omega) SC E hn2
       rw[←H]at hs3 hn3;refine g9 ?_;refine St.aH ⟨fr+1,d3⟩ ⟨by omega,a2,a3,hs3,hn3,by dsimp only;rw[show words.length-i-(fr+1)=words.length-i-fr-1 by omega];exact hlen⟩
     ·rw[show words.length-i-fr=0 by omega]at hlen
      have ab3:yG (kT f (g.types.map dG) words.length g) words (words.length-i-1) (i+1+1) d2.cs=W:=hlen
      refine g12 ?_;refine St.aH ⟨i+1,d2⟩ ⟨by omega,AY,Nh,JZ E,hn2,by dsimp only;rw[show words.length-(i+1)=words.length-i-1 by omega];exact ab3⟩
    ·obtain rfl:i=words.length:=by omega
     rw[ff]at Z
     have hWs:W=some d1.cs:=Z.symm
     rw[hWs]at l;refine g13 ?_;refine St.ee (Ev.build (bH.aY rfl rfl) (λw=>Ga d1.eC.2 rfl w)) ?_;refine St.slot 82 (.agg #[d1.eC.1,iv (words.length:Nat),(.slice none 0 0)]) rfl rfl ?_;refine St.al (λR6=> ?_);refine g5 ?_
     have ajL:=B.BF
     rw[iT]at ajL;refine St.afA (bE (ek 200 3) (d1.its)) (bE (fq 3) d1.bz) ?_;refine St.pQ (ds:=[aF (λx:dJ=>aG x.gr) d1.its]) (L:=[aW R6 (.cells [d1.eC.1,iv (words.length:Nat),(.slice none 0 0)].toArray 120 (0,0)),row d1.eC.1 186 6 d1.its.length (rows eB d1.its)]) (X:=bE (ek 200 3) (d1.its)) (post:=λv L' X'=>∃(p:aV) (d:List dJ),d.map cE=gn (d1.its.map cE)∧L'=[aW R6 (.cells [p.1,iv (words.length:Nat),(.slice none 0 0)].toArray 120 (0,0)),aB (sl eB p.1 d),aB (aF cj d)]∧X'=[]) ((Lc R6 words.length d1.eC d1.its WZ.nd (by omega) (Ts hQ B K)).mono (λv H' ⟨p,d,H,a2⟩=>⟨[_,_,_],[],a2,p,d,H,rfl,rfl⟩)) ahS (.ar rfl) rfl ?_;rintro v83 _ _ ⟨p,d,E,rfl,rfl⟩;refine St.iQ ?_;refine St.wf p.1 (λ_ hl2=> ?_);refine g12 ?_;refine St.e9 3 1 ?_;refine St.aM (.slice none 0 0) (show _=([]:List Nat).length from rfl) (show _=rows aI (bW [])from rfl) ?_
     have hl3:d.length≤300:=by have h:=congrArg List.length E;rw[aN]at h;unfold gn at h;rw[aN]at h;have h2:(l7 (d1.its.map cE)).length=_:=(jg _ _).length_eq;rw[jV,aN]at h2;omega
     refine St.lH (ι:=Nat×aV×List Nat) (λ⟨k,C,j⟩ T=>(87,iv k)::T) (λ⟨k,C,j⟩=>(row C.1 3 1 (j).length (rows aI (bW (j)))::aW R6 (.cells [p.1,iv (words.length:Nat),C.1].toArray 120 (0,0))::aB (sl eB p.1 d)::aB (aF cj d)::aB (hY f)::aB (sl cS g.rv.1 g.rules)::aB (aF bx g.rules)::aB (sl dy g.xv.1 g.aL)::aB (aF eO g.aL)::aB (sl bF a.1 (de (g.types.map dG)))::aB (sl bF b.1 (db (g.types.map dG)))::aB (tz)::aB (sl bL wv words)::aB (aG g.start)::aW Q (.cells (iu g).toArray 32 (0,0))::aW F (.cells [(.slice none 0 0),iv 0,(.slice none 0 0)].toArray 120 (0,0))::aW G (.cells [iv 0,iv 0].toArray 35 (0,0))::aW R (.cells [a.1,b.1].toArray 100 (0,0))::[])) (λ⟨k,C,j⟩=>k≤d.length∧j=((List.range (k)).filter λi=>decide ((((d.map cE)).getD i gh).ed.frm=0)&&decide ((((d.map cE)).getD i gh).ed.tqo=words.length)&&(dT (hC (g.types.map dG)) (((d.map cE)).getD i gh).ed.gr 0 (ay g.start)).isSome)) (λ⟨k,C,j⟩=>d.length-k) ⟨0,bT,[]⟩ (aD.cons 2 rfl (aD.cons 4 rfl (aD.cons 5 rfl (aD.cons 8 rfl (aD.cons 12 rfl (aD.cons 85 rfl (aD.cons 86 rfl aD.nil))))))) ⟨aO _,rfl⟩ ?_;rintro ⟨k,C,j⟩ ⟨hk,o⟩
     dsimp only at hk o⊢
     have am4:j.length≤k:=by rw[o];exact dY (G7 _ _) (Nat.le_of_eq jV)
     refine g6 ?_;refine St.cq (λh88=> ?_) (λh88=> ?_)
     ·obtain⟨x,hx⟩:=aE (show k<d.length by omega)
      have M:(d.map cE).getD k gh=cE x:=by rw[aw,bQ,hx];rfl
      obtain⟨_,_,_,Gz,A8⟩:=PW B.ok (it:=cE x) (by show _∈gn (d1.its.map cE);rw[←E];exact eN (ae hx))
      have A8:x.gr.nodes.length≤60:=by rw[←cz];exact A8
      have hsx:=gP (g:=x.gr) Gz (by omega)
      have hss:=gP SP.1 (by omega)
      refine St.cI cj d (x:=x) (ae hx) ?_;refine St.eY (aG x.gr) [cj x] (λρ h=>h (cj x) (aP ..) (aG x.gr) (aP ..)) ?_;refine g8 ?_;refine St.ee (Ev.Ea (Rr:=eB) (sz:=6) (.mk rfl) hx underlying186 trivial oX (by decide) (by decide)) ?_;refine St.slot 91 (.agg #[iv (x.frm:Nat),iv (x.tqo:Nat),iv (x.cw:Nat),x.gr.nv.1,x.wv.1,x.tv.1]) rfl rfl ?_;refine St.al (λML=> ?_);refine g11 ?_;refine St.gt _ rfl rfl (λD=>Ev.dV (.mk rfl) tT) rfl ?_;refine St.gt _ rfl rfl (λD=>Ev.W9 (ai.gv rfl D) Cq) rfl ?_;refine St.gt _ rfl rfl (λD=>Ev.kP (ai.gv rfl D) gG trivial (by rfl)) rfl ?_;refine St.gt _ rfl rfl (λD=>Ev.dV (.mk rfl) Ry) rfl ?_;refine St.gt _ rfl rfl (λD=>Ev.kP (ai.gv rfl D) gG trivial (by rfl)) rfl ?_;refine St.gt _ rfl rfl (λD=>Ev.eql (ai.gv rfl D) (ai.gv rfl D)) rfl ?_;refine g3 ?_;refine St.cq (λNO=> ?_) (λNO=> ?_)
      ·have e1:(cE x).ed.frm=0:=(show x.frm=0 by omega)
       have e2:(cE x).ed.tqo=words.length:=(show x.tqo=words.length by omega)
       refine g3 ?_;refine St.slot 105 (kC a b) rfl rfl ?_;refine g2 ?_;refine St.ee (Ev.iV 1 (.mk rfl) mf trivial jT rfl rfl) ?_;refine St.slot 108 (bA x.gr) rfl rfl ?_;refine go ?_;refine St.ee (Ev.iV 1 (.mk rfl) mf trivial jT rfl rfl) ?_;refine St.slot 110 (bA g.start) rfl rfl ?_;refine St.ag (qn a b (g.types.map dG) S (g.cB.map gy).length (by omega) x.gr g.start Gz SP.1 A8 SP.2 (λt ht=>by have:=(hsx t ht).2;omega) (λt ht=>by have:=(hss t ht).2;omega) 0 (by have:=Gz.pos;rw[show(cE x).ed.gr=ay x.gr from rfl,cz]at this;exact this)) RJ (.gW rfl rfl rfl rfl) rfl ?_;rintro Tl _ ⟨u,rfl,rfl⟩;refine St.ao ?_;refine St.bK ((dT (hC (g.types.map dG)) (ay x.gr) 0 (ay g.start)).getD []) u (λz hz=> ?_);obtain⟨rfl,hzE⟩:=hz;refine g3 ?_;refine St.al (λVc=> ?_);refine g9 ?_;refine St.cond _ rfl (λN=> ?_) (λN=> ?_)
       ·skip
        have SI:(dT (hC (g.types.map dG)) (cE x).ed.gr 0 (ay g.start)).isSome=true:=N
        refine g4 ?_;refine St.fp rfl (.ar rfl) bI dL eQ rfl rfl (by simp[Value.cells]) rfl rfl (λYs=> ?_);refine St.aj (.mk rfl) (.mk rfl) bI dL eQ xO (by simp[Value.oneCell',Value.cells]) (by omega) (by omega) rfl rfl rfl rfl (λTm amK=> ?_);refine St.aM Tm (show _=(j++ [k]).length by rw[bN];rfl) (show _=rows aI (bW (j++ [k])) by rw[ke,ax];rfl) ?_;refine St.bZ Tm (λaaF _=> ?_);refine go ?_;refine St.cJ (.mk rfl) (.mk rfl) fE aaF (by rfl) ?_;refine g8 ?_;refine St.aH ⟨k+1,⟨Tm,aaF⟩,j++ [k]⟩ ⟨by omega,by rw[yk,←o,M,dt e1,dt e2,SI,aC (by decide)]⟩
       ·skip
        have SI:(dT (hC (g.types.map dG)) (cE x).ed.gr 0 (ay g.start)).isSome=false:=N
        refine g8 ?_;refine St.aH ⟨k+1,C,j⟩ ⟨by omega,by rw[yk,←o,M,SI,Bool.and_false,aA (by decide)];exact(gq _).symm⟩
      ·have Qh:(decide ((cE x).ed.frm=0)&&decide ((cE x).ed.tqo=words.length))=false:=by by_cases e1:x.frm=0;rw[fK (show ¬(cE x).ed.tqo=words.length from(show ¬x.tqo=words.length by omega)),Bool.and_false];rw[fK (show ¬(cE x).ed.frm=0 from e1),Bool.false_and]
       refine g8 ?_;refine St.aH ⟨k+1,C,j⟩ ⟨by omega,by rw[yk,←o,M,Qh,Bool.false_and,aA (by decide)];exact(gq _).symm⟩
     ·obtain rfl:k=d.length:=by omega
      obtain⟨⟨O,hfv⟩,Wh⟩:∃z,z=C:=⟨C,rfl⟩
      subst Wh;refine St.bR O aI (bW j) rfl (dW _).symm (λz hz=>by obtain⟨q,hq,rfl⟩:=cy.1 hz;rw[o]at hq;have:=dq.1 (List.mem_filter.1 hq).1;show aa (q:Int);unfold aa;omega) ?_
      have P:(dS (ca g) words)=((d.map cE,j),(0,0)):=by rw[l];show((gn d1.cs.its,Gs (hC (g.types.map dG)) words.length (ay g.start) (gn d1.cs.its)),((0:Int),(0:Int)))=_;rw[show gn d1.cs.its=d.map cE from E.symm,o];unfold Gs;rw[aN]
      refine g8 ?_;refine St.ee (Ev.build (bH.nil) (λw=>jv w)) ?_;refine St.sA (.mk rfl) (.mk rfl) Pf ?_ (h1:=(by simp only[List.all_cons,List.all_nil,Bool.and_true,Bool.and_eq_true];exact⟨p.2,rfl,hfv⟩));refine g4 ?_;refine St.rV [_,_] [aB (sl eB p.1 d),aB (aF cj d),aB (sl aI O (bW j))] ?_;exact⟨p,⟨O,hfv⟩,words.length,d,by rw[P];rfl,by rw[P],by rw[P]⟩
theorem afN:(prog.info? 194).bind (·.zero)=some (Value.agg #[.slice none 0 0,.slice none 0 0,.bool false]):=by kernel_rfl
theorem Z9:(prog.info? 194).map (·.bytes)=some 56:=by kernel_rfl
theorem Zp:aJ prog 50:=⟨_,func50,rfl,by kernel_rfl⟩
theorem ahD:aJ prog 51:=⟨_,func51,rfl,by kernel_rfl⟩
theorem aeJ (w:World):cu prog 127 w= .ok #[(0,1),(1,1),(2,1),(3,1)] w:=by kernel_rfl
theorem afH:(prog.info? 127).bind (λi=>i.zero.map Value.cells)=some #[.slice none 0 0,.slice none 0 0,.slice none 0 0,.slice none 0 0]:=by kernel_rfl
theorem ag7:aJ prog 27:=⟨_,func27,rfl,by kernel_rfl⟩
theorem ag5:aJ prog 25:=⟨_,func25,rfl,by kernel_rfl⟩
theorem ag6:aJ prog 26:=⟨_,func26,rfl,by kernel_rfl⟩
instance:rf prog 44 #[.slice none 0 0]:=⟨by kernel_rfl⟩
theorem Gb {a b:Value}(c:a.oneCell'=true)(d:b.oneCell'=true)(w:World):(Instr.build 127 #[(2,a),(3,b)]).run prog w= .ok (.agg #[.slice none 0 0,.slice none 0 0,a,b]) w:=
 bM afH (aeJ w) (by simp[Instr.fill,J.bJ,J.cells_one c,J.cells_one d])
def tx:jJ:=⟨bT,[],bT,[],false⟩
theorem j2 {α β:Type}{f:α→β}{l:List α}{k:Nat}{a:α}(h:l[k]?=some a):(l.take (k+1)).map f=(l.take k).map f++ [f a]:=Bk h
theorem Cv {g:gB}{words:List bB}(h:(dS g words).2.1=0):(jN g).1=0:=by
 by_cases h1:(jN g).1=0
 ·exact h1
 ·unfold dS at h;rw[aC h1]at h;exact absurd h h1
theorem FH {g:gB}{words:List bB}(h:(dS g words).2.1=0):(dS g words).2=(0,0):=by
 unfold dS at h⊢
 by_cases h1:(jN g).1≠0
 ·rw[aC h1]at h;exact absurd h h1
 ·rw[aA h1]at h⊢
  by_cases a:(ph g words).1≠0
  ·rw[aC a]at h;exact absurd h a
  ·rw[aA a]at h⊢
   cases b:wo g words with
   |none=>rw[b]at h;have h:(17:Int)=0:=h;omega
   |some its=>rfl
theorem Eb {Q:Qr}{words:List bB}{len:Nat}:∀(m frm:Nat) (cs a:Cs),cs.its.length≤300→Ab Q words len m frm cs=some a→a.its.length≤300
 |0,frm,cs,a,h,e=>by obtain rfl:=Option.some.inj e;exact h
 |m+1,frm,cs,a,h,e=>by
  rw[Ed (by omega)]at e
  split at e
  ·cases e
  ·rename_i b;exact Eb m _ _ a (by omega) e
theorem Dw {Q:Qr}{words:List bB}:∀(m len:Nat) (cs a:Cs),cs.its.length≤300→yG Q words m len cs=some a→a.its.length≤300
 |0,len,cs,a,h,e=>by obtain rfl:=Option.some.inj e;exact h
 |m+1,len,cs,a,h,e=>by
  rw[Dx (by omega)]at e;obtain⟨c,h1,b⟩:=pO.1 e;exact Dw m _ _ a (Eb _ _ _ _ h h1) b
theorem PV (its:List lJ):(gn its).length=its.length:=by
 unfold gn;rw[aN]
 have h:(l7 its).length=_:=(jg _ _).length_eq
 rw[h,jV]
theorem JN (g:gB)(words:List bB):(dS g words).1.1.length≤300:=by
 unfold dS
 split
 ·exact aO _
 ·split
  ·exact aO _
  ·cases a:wo g words with
   |none=>exact aO _
   |some its=>
    unfold wo at a;obtain⟨cs,h1,rfl⟩:=di.1 a
    show(gn cs.its).length≤300
    rw[PV];exact Dw _ _ _ _ (aO _) h1
theorem TE {g:gB}{words:List bB}{its:List dJ}(h:its.map cE=(dS g words).1.1):its.length≤300:=by
 have a:=JN g words
 rw[←h,aN]at a;exact a
theorem Mm.J6 {c:Ctx}(d a:TypeId){w:World}:∀(m:Nat) (H:List ak),Mm c H w→Mm c (bE (kK d a) (List.replicate m tx)++H) w
 |0,_,h=>h
 |m+1,H,h=>by
  obtain⟨ρ,hm⟩:=(Mm.J6 d a m H h).out
  have h1:Mm c (row bT.1 a 7 0 []::(bE (kK d a) (List.replicate m tx)++H)) w:=Mm.mk (hm.Ag rfl ⟨rfl,aR _⟩ rfl (aR _) (λ_ _=>rfl) (eK.2 (World.ownsRow_nil _ _ _ _)) (λb e=>by rw[eG]at e;simp[Value.ownBlock]at e))
  obtain⟨j,f⟩:=h1.out
  have g:Mm c (row bT.1 d 5 0 []::row bT.1 a 7 0 []::(bE (kK d a) (List.replicate m tx)++H)) w:=Mm.mk (f.Ag rfl ⟨rfl,aR _⟩ rfl (aR _) (λ_ _=>rfl) (eK.2 (World.ownsRow_nil _ _ _ _)) (λb e=>by rw[eG]at e;simp[Value.ownBlock]at e))
  have i:=(g.fact (aF oL []) (λρ _ x hx=>by cases hx)).fact (aF hS []) (λρ _ x hx=>by cases hx)
  obtain⟨k,k3⟩:=i.out
  exact Mm.mk (k3.perm (jX (l₁:=[aB (aF hS []),aB (aF oL [])]) (l₂:=[row bT.1 d 5 0 [],row bT.1 a 7 0 []])|>.append_right _|>.trans (by
   show([row bT.1 d 5 0 [],row bT.1 a 7 0 [],aB (aF hS []),aB (aF oL [])]++_).Perm ([row bT.1 d 5 0 [],row bT.1 a 7 0 [],aB (aF oL []),aB (aF hS [])]++_)
   exact List.Perm.append_right _ (((List.Perm.swap _ _ _).cons _).cons _))))
theorem St.J6 {n:Nat}{F:Fr}{c:Ctx}{H H':List ak}{T:Act→World→Prop}(d e:TypeId)(m:Nat)[t:jD [] (bE (kK d e) (List.replicate m tx)) H H'](h:St n F (Mm c H') T):St n F (Mm c H) T:=by
 obtain⟨L,a,b⟩:=t.eq
 refine h.o6 λw hw=> ?_
 rw[a,gq]at hw;obtain⟨ρ,k⟩:=(Mm.J6 d e m L hw).out;rw[b];exact Mm.mk (k.perm jX)
theorem GK (a b:aV)(m:Int):eD prog 51 #[.agg #[a.1,iv m,b.1]] [] (.tuple #[a.1,b.1]):=by
 refine eD.qB (args:=[.agg #[a.1,iv m,b.1]]) 8 func51 rfl ntmps51 rfl (λc=> ?_);refine g2 ?_;refine St.dK (.mk rfl) rfl (λd=> ?_);refine g5 ?_;refine St.qS [] mixed (λe f=> ?_);refine SW.gd 0 ?_;refine SW.gd 1 ?_;refine SW.gd 2 ?_;refine SW.gd 3 ?_;refine SW.gd 4 ?_;refine SW.gd 5 ?_;refine SW.dn ?_;refine g2 ?_;refine St.rV [_,_] [] ?_;rfl
theorem Hw (g:gb)(wv:Value)(words:List bB):uY prog 25 #[fV g,wv] ([fB g,sl bL wv words,tz,u8].map aB) (λv H'=>((dS (ca g) words).2.1≠0∧v= .tuple #[.pointer none,(.slice none 0 0),fv (dS (ca g) words).2]∧H'=[])∨((dS (ca g) words).2.1=0∧∃(B C:Nat) (rv xv a e:aV) (its:List dJ),its.map cE=(dS (ca g) words).1.1∧v= .tuple #[.pointer (some ⟨B,0,none⟩),e.1,fv (0,0)]∧H'=aB (sl aI e.1 (bW (dS (ca g) words).1.2))::aB (fO B [rv.1,xv.1,a.1,.slice (some ⟨C,0,none⟩) its.length its.length])::aB (sl aI rv.1 (g.rules.map cZ.weight))::aB (sl aI xv.1 (g.aL.map eX.weight))::aB (sl eB a.1 its)::aB (aF cj its)::row (.slice (some ⟨C,0,none⟩) its.length its.length) 194 3 (List.replicate its.length tx).length (rows fM (List.replicate its.length tx))::bE (kK 71 196) (List.replicate its.length tx))):=by
 refine uY.body (args:=[fV g,wv]) 78 func25 rfl ntmps25 rfl (λc I=> ?_);refine St.cast (H':=[aB (fB g),aB (sl bL wv words),aB (tz),aB (u8)]) rfl ?_;refine g2 ?_;refine St.dK (.mk rfl) rfl (λD=> ?_);refine g2 ?_;refine St.al (λp=> ?_);refine g5 ?_;refine St.slot 17 (fV g) rfl rfl ?_;refine go ?_;refine St.nb I (FG g wv words) Zp (.aY rfl rfl) rfl ?_;rintro J _ ⟨a,e,m,its,rfl,E,rfl⟩;refine St.iQ ?_;refine g2 ?_;refine St.slot 20 (.agg #[a.1,iv (m:Nat),e.1]) rfl rfl ?_;refine go ?_;refine St.slot 21 (fv (dS (ca g) words).2) rfl rfl ?_;refine St.al (λP=> ?_);refine St.al (λQ=> ?_);refine g12 ?_;refine St.cq (λF=> ?_) (λF=> ?_)
 ·have l:(dS (ca g) words).2.1≠0:=F
  refine go ?_;refine St.qS [p] mixed (λG H=> ?_);refine SW.gd 0 ?_;refine SW.gd 1 ?_;refine SW.gd 2 ?_;refine SW.t1 3 ?_;refine g3 ?_;refine SW.go ?_;refine SW.dn ?_;refine g3 ?_;refine St.rV [_,_,_] [] ?_;exact .inl ⟨l,rfl,rfl⟩
 ·have l:(dS (ca g) words).2.1=0:=by omega
  have n:=vA (Cv l)
  have R:g.rules.length≤40:=by have h:(g.rules.map lI).length≤40:=n.rn;rwa[aN]at h
  have K:g.aL.length≤100:=by have h:(g.aL.map og).length≤100:=n.xn;rwa[aN]at h
  have S:its.length≤300:=TE E
  have L:(dS (ca g) words).2=(0,0):=FH l
  refine St.eY (sl cS g.rv.1 g.rules) [fB g] (λρ h=>h (fB g) (aP ..) _ (by simp[Gv])) ?_;refine St.eY (sl dy g.xv.1 g.aL) [fB g] (λρ h=>h (fB g) (aP ..) _ (by simp[Gv])) ?_;refine g5 ?_;refine St.slot 27 (.agg #[a.1,iv (m:Nat),e.1]) rfl rfl ?_;refine St.ee (Ev.call (GK a e m) ahD (.ar rfl)) ?_;refine g2 ?_;refine St.slot 29 a.1 rfl rfl ?_;refine go ?_;refine St.slot 30 e.1 rfl rfl ?_;refine g9 ?_;refine St.nJ (Rr:=fM) (g:=tx) (m:=its.length) (sz:=3) rfl (.mk rfl) (.mk rfl) underlying125 Pg afN Z9 rfl rfl (by omega) rfl rfl (λf=> ?_);refine St.aM (.slice (some ⟨f,0,none⟩) its.length its.length) (show _=(List.replicate its.length tx).length by rw[kG]) rfl ?_;refine St.ee (Ev.build (bH.aY rfl rfl) (λw=>Gb a.2 rfl w)) ?_;refine St.slot 35 (.agg #[(.slice none 0 0),(.slice none 0 0),a.1,(.slice (some ⟨f,0,none⟩) its.length its.length)]) rfl rfl ?_;refine St.dK (.mk rfl) rfl (λj=> ?_);refine g13 ?_;refine St.e9 3 1 ?_;refine St.aM (.slice none 0 0) (show _=((g.rules.take 0).map cZ.weight).length from rfl) (show _=rows aI ((g.rules.take 0).map cZ.weight)from rfl) ?_;refine St.lH (ι:=Nat×aV) (λ⟨k,rv⟩ T=>(40,iv k)::T) (λ⟨k,rv⟩=>[row rv.1 3 1 ((g.rules.take k).map cZ.weight).length (rows aI ((g.rules.take k).map cZ.weight)),aW j (.cells [rv.1,(.slice none 0 0),a.1,(.slice (some ⟨f,0,none⟩) its.length its.length)].toArray 127 (0,0)),row (.slice (some ⟨f,0,none⟩) its.length its.length) 194 3 (List.replicate its.length tx).length (rows fM (List.replicate its.length tx)),aB (sl eB a.1 its),aB (aF cj its),aB (sl aI e.1 (bW (dS (ca g) words).1.2)),aB (sl cS g.rv.1 g.rules),aB (sl dy g.xv.1 g.aL),aW D (.cells (iu g).toArray 32 (0,0)),aW p (.cells [iv 0,iv 0].toArray 35 (0,0))]) (λ⟨k,rv⟩=>k≤g.rules.length) (λ⟨k,rv⟩=>g.rules.length-k) ⟨0,bT⟩ (aD.cons 2 rfl (aD.cons 4 rfl (aD.cons 5 rfl (aD.cons 6 rfl (aD.cons 10 rfl (aD.cons 11 rfl (aD.cons 38 rfl (aD.cons 39 rfl aD.nil)))))))) (aO _) ?_;rintro ⟨k,rv⟩ hk
  dsimp only at hk⊢
  have M:((g.rules.take k).map cZ.weight).length=k:=by rw[aN,eR];omega
  refine g6 ?_;refine St.cq (λN=> ?_) (λN=> ?_)
  ·obtain⟨x,hx⟩:=aE (show k<g.rules.length by omega)
   refine g7 ?_;refine St.ee (Ev.jr (.mk rfl) hx uO trivial kV j7.eq) ?_;refine St.al (λU=> ?_);refine St.sA (.mk rfl) (.mk rfl) kV ?_ (h1:=(eW.2 λu hu=>cS.one x u hu));refine g2 ?_;refine St.da [aW j (.cells [rv.1,(.slice none 0 0),a.1,(.slice (some ⟨f,0,none⟩) its.length its.length)].toArray 127 (0,0)),row rv.1 3 1 ((g.rules.take k).map cZ.weight).length (rows aI ((g.rules.take k).map cZ.weight))] mixed (λG H=> ?_);refine SW.gd 0 ?_;refine SW.gd 1 ?_;refine SW.gd 2 ?_;refine SW.gd 3 ?_;refine SW.gd 5 ?_;refine SW.gd 6 ?_;refine SW.t2 4 7 ?_ ?_
   focus
    refine g3 ?_;refine SW.go ?_;refine SW.t1 7 ?_;refine St.fp rfl (.ar rfl) bI dL eQ rfl rfl (by simp[Value.cells]) rfl rfl (λO=> ?_);refine g2 ?_;refine SW.go ?_;refine SW.t1 8 ?_;refine St.aj (.mk rfl) (.mk rfl) bI dL eQ xO (by simp[Value.oneCell',Value.cells]) (by omega) (by omega) rfl rfl rfl rfl (λb q=> ?_);refine St.aM b (show _=((g.rules.take (k+1)).map cZ.weight).length by rw[j2 hx,bN];rfl) (show _=rows aI ((g.rules.take (k+1)).map cZ.weight) by rw[j2 hx,ax];rfl) ?_;refine St.bZ b (λo _=> ?_);refine g2 ?_;refine SW.go ?_;refine SW.gd 9 ?_;refine SW.gd 10 ?_;refine SW.t1 11 ?_;refine St.cJ (.mk rfl) (.mk rfl) fE o (by rfl) ?_;refine g2 ?_;refine SW.go ?_;refine SW.dn ?_
   rotate_left
   focus
    refine St.fp rfl (.ar rfl) bI dL eQ rfl rfl (by simp[Value.cells]) rfl rfl (λO=> ?_);refine g2 ?_;refine SW.go ?_;refine SW.t1 4 ?_;refine g3 ?_;refine SW.go ?_;refine SW.t1 8 ?_;refine St.aj (.mk rfl) (.mk rfl) bI dL eQ xO (by simp[Value.oneCell',Value.cells]) (by omega) (by omega) rfl rfl rfl rfl (λb q=> ?_);refine St.aM b (show _=((g.rules.take (k+1)).map cZ.weight).length by rw[j2 hx,bN];rfl) (show _=rows aI ((g.rules.take (k+1)).map cZ.weight) by rw[j2 hx,ax];rfl) ?_;refine St.bZ b (λo _=> ?_);refine g2 ?_;refine SW.go ?_;refine SW.gd 9 ?_;refine SW.gd 10 ?_;refine SW.t1 11 ?_;refine St.cJ (.mk rfl) (.mk rfl) fE o (by rfl) ?_;refine g2 ?_;refine SW.go ?_;refine SW.dn ?_
   all_goals
    refine g7 ?_;refine St.aH ⟨k+1,⟨b,o⟩⟩ (by dsimp only;omega)
  ·obtain rfl:k=g.rules.length:=by omega
   rw[jl];refine St.bR rv.1 aI (g.rules.map cZ.weight) rfl rfl (λz hz=>by obtain⟨r,s,rfl⟩:=cy.1 hz;have h:=(n.rule (lI r) (eN s)).wt;have h:0≤r.weight∧r.weight≤1000000:=h;show aa _;unfold aa;omega) ?_;refine g15 ?_;refine St.e9 3 1 ?_;refine St.aM (.slice none 0 0) (show _=((g.aL.take 0).map eX.weight).length from rfl) (show _=rows aI ((g.aL.take 0).map eX.weight)from rfl) ?_;refine St.lH (ι:=Nat×aV) (λ⟨k,xv⟩ T=>(59,iv k)::T) (λ⟨k,xv⟩=>[row xv.1 3 1 ((g.aL.take k).map eX.weight).length (rows aI ((g.aL.take k).map eX.weight)),aB (sl aI rv.1 (g.rules.map cZ.weight)),aW j (.cells [rv.1,xv.1,a.1,(.slice (some ⟨f,0,none⟩) its.length its.length)].toArray 127 (0,0)),row (.slice (some ⟨f,0,none⟩) its.length its.length) 194 3 (List.replicate its.length tx).length (rows fM (List.replicate its.length tx)),aB (sl eB a.1 its),aB (aF cj its),aB (sl aI e.1 (bW (dS (ca g) words).1.2)),aB (sl cS g.rv.1 g.rules),aB (sl dy g.xv.1 g.aL),aW D (.cells (iu g).toArray 32 (0,0)),aW p (.cells [iv 0,iv 0].toArray 35 (0,0))]) (λ⟨k,xv⟩=>k≤g.aL.length) (λ⟨k,xv⟩=>g.aL.length-k) ⟨0,bT⟩ (aD.cons 4 rfl (aD.cons 5 rfl (aD.cons 6 rfl (aD.cons 10 rfl (aD.cons 11 rfl (aD.cons 57 rfl (aD.cons 58 rfl aD.nil))))))) (aO _) ?_;rintro ⟨k,xv⟩ hk
   dsimp only at hk⊢
   have M:((g.aL.take k).map eX.weight).length=k:=by rw[aN,eR];omega
   refine g6 ?_;refine St.cq (λt=> ?_) (λt=> ?_)
   ·obtain⟨x,hx⟩:=aE (show k<g.aL.length by omega)
    refine g7 ?_;refine St.ee (Ev.jr (.mk rfl) hx zt trivial nR j7.eq) ?_;refine St.al (λV=> ?_);refine St.sA (.mk rfl) (.mk rfl) nR ?_ (h1:=(eW.2 λu hu=>dy.one x u hu));refine g2 ?_;refine St.da [aW j (.cells [rv.1,xv.1,a.1,(.slice (some ⟨f,0,none⟩) its.length its.length)].toArray 127 (0,0)),row xv.1 3 1 ((g.aL.take k).map eX.weight).length (rows aI ((g.aL.take k).map eX.weight))] mixed (λG H=> ?_);refine SW.gd 0 ?_;refine SW.gd 1 ?_;refine SW.gd 2 ?_;refine SW.gd 3 ?_;refine SW.gd 5 ?_;refine SW.gd 6 ?_;refine SW.t2 4 7 ?_ ?_
    focus
     refine g3 ?_;refine SW.go ?_;refine SW.t1 7 ?_;refine St.fp rfl (.ar rfl) bI dL eQ rfl rfl (by simp[Value.cells]) rfl rfl (λy=> ?_);refine g2 ?_;refine SW.go ?_;refine SW.t1 8 ?_;refine St.aj (.mk rfl) (.mk rfl) bI dL eQ xO (by simp[Value.oneCell',Value.cells]) (by omega) (by omega) rfl rfl rfl rfl (λd A=> ?_);refine St.aM d (show _=((g.aL.take (k+1)).map eX.weight).length by rw[j2 hx,bN];rfl) (show _=rows aI ((g.aL.take (k+1)).map eX.weight) by rw[j2 hx,ax];rfl) ?_;refine St.bZ d (λi _=> ?_);refine g2 ?_;refine SW.go ?_;refine SW.gd 9 ?_;refine SW.gd 10 ?_;refine SW.t1 11 ?_;refine St.cJ (.mk rfl) (.mk rfl) fE i (by rfl) ?_;refine g2 ?_;refine SW.go ?_;refine SW.dn ?_
    rotate_left
    focus
     refine St.fp rfl (.ar rfl) bI dL eQ rfl rfl (by simp[Value.cells]) rfl rfl (λy=> ?_);refine g2 ?_;refine SW.go ?_;refine SW.t1 4 ?_;refine g3 ?_;refine SW.go ?_;refine SW.t1 8 ?_;refine St.aj (.mk rfl) (.mk rfl) bI dL eQ xO (by simp[Value.oneCell',Value.cells]) (by omega) (by omega) rfl rfl rfl rfl (λd A=> ?_);refine St.aM d (show _=((g.aL.take (k+1)).map eX.weight).length by rw[j2 hx,bN];rfl) (show _=rows aI ((g.aL.take (k+1)).map eX.weight) by rw[j2 hx,ax];rfl) ?_;refine St.bZ d (λi _=> ?_);refine g2 ?_;refine SW.go ?_;refine SW.gd 9 ?_;refine SW.gd 10 ?_;refine SW.t1 11 ?_;refine St.cJ (.mk rfl) (.mk rfl) fE i (by rfl) ?_;refine g2 ?_;refine SW.go ?_;refine SW.dn ?_
    all_goals
     refine g7 ?_;refine St.aH ⟨k+1,⟨d,i⟩⟩ (by dsimp only;omega)
   ·obtain rfl:k=g.aL.length:=by omega
    rw[jl];refine St.bR xv.1 aI (g.aL.map eX.weight) rfl rfl (λz hz=>by obtain⟨r,s,rfl⟩:=cy.1 hz;have h:=(n.lex (og r) (eN s)).wt;have h:0≤r.weight∧r.weight≤1000000:=h;show aa _;unfold aa;omega) ?_;refine St.vT j ?_;refine St.J6 71 196 its.length ?_;refine g9 ?_;refine St.ee (Ev.build (bH.nil) (λw=>jv w)) ?_;refine g6 ?_;refine St.rV [_,_,_] (aB (sl aI e.1 (bW (dS (ca g) words).1.2))::aB (fO j [rv.1,xv.1,a.1,(.slice (some ⟨f,0,none⟩) its.length its.length)])::aB (sl aI rv.1 (g.rules.map cZ.weight))::aB (sl aI xv.1 (g.aL.map eX.weight))::aB (sl eB a.1 its)::aB (aF cj its)::row (.slice (some ⟨f,0,none⟩) its.length its.length) 194 3 (List.replicate its.length tx).length (rows fM (List.replicate its.length tx))::(bE (kK 71 196) (List.replicate its.length tx))) ?_;exact .inr ⟨l,j,f,rv,xv,a,e,its,E,rfl,rfl⟩
theorem PQ {α:Type}(l:List α)(a b:α):(l++ [a]).set l.length b=l++ [b]:=by
 rw[lG _ _ (aR _),ff];rfl
theorem TK {B:cr}{e:Nat}{k:xL}(h:Dr B e (mV k)):dC.wf k.tree∧AN (cx k.tree):=by
 have a:Qw (cx k.tree):=h.rt
 rw[lA]at a
 have a: -1≤k.tree.rule∧k.tree.rule≤1000∧0≤k.tree.lex∧k.tree.lex≤1000:=a
 exact⟨⟨by show aa _;unfold aa;omega,by show aa _;unfold aa;omega⟩,h.thin⟩
theorem IH (a d n:Nat)(k:xL)(b:aV)(outs:List dE)(hw:dC.wf k.tree)(e:AN (cx k.tree))(m:outs.length≤1000)(o:n≤1000):dx prog 27 ([kU k]++ [Value.pointer (some ⟨a,0,none⟩),Value.pointer (some ⟨d,0,none⟩)]).toArray ([oL k,ri d (iv (n:Nat))].map aB++ [aW a (.cells [b.1].toArray 44 (0,0)),row b.1 69 3 (outs).length (rows dC (outs)),aB (aF br outs)]) (λv H'=>∃(f:aV) (t:dE),v= .bool (decide (outs.length+1<n))∧cx t=cx k.tree∧H'=[aW a (.cells [f.1].toArray 44 (0,0)),row f.1 69 3 (outs++ [t]).length (rows dC (outs++ [t])),aB (aF br (outs++ [t]))]):=by
 refine dx.body (args:=[kU k]++ [Value.pointer (some ⟨a,0,none⟩),Value.pointer (some ⟨d,0,none⟩)]) 17 func27 rfl ntmps27 rfl (λc=> ?_);refine go ?_;refine St.cast (H':=[aB (oL k),aB (ri d (iv (n:Nat))),aW a (.cells [b.1].toArray 44 (0,0)),row b.1 69 3 (outs).length (rows dC (outs)),aB (aF br outs)]) rfl ?_;refine St.eY (br k.tree) [oL k] (λρ h=>h (oL k) (aP ..) _ (cN _ (aP ..))) ?_;refine go ?_;refine St.dK (.mk rfl) rfl (λp=> ?_);refine g4 ?_;refine St.da [aW a (.cells [b.1].toArray 44 (0,0)),row b.1 69 3 (outs).length (rows dC (outs))] mixed (λq r=> ?_)
 repeat' first
  |with_reducible refine SW.me ?_
   first
    |refine SW.gd 1 ?_
    |refine SW.dd 2 rfl (λ_=>Ev.iV 3 (.mk rfl) IB trivial pt rfl rfl) ?_
     refine SW.slot 7 (uM k.tree) rfl rfl ?_
    |refine SW.Pw (i:=0) (j:=3) (k:=5) (by decide+kernel) rfl rfl rfl ?_ ?_ ?_
    |refine SW.Pw (i:=3) (j:=4) (k:=5) (by decide+kernel) rfl rfl rfl ?_ ?_ ?_
    |refine SW.t2 4 5 ?_ ?_
    |refine SW.t1 5 ?_
    |refine SW.t1 6 ?_
    |refine SW.t2 7 9 ?_ ?_
    |refine SW.t2 8 9 ?_ ?_
    |refine SW.t1 9 ?_
    |refine SW.t1 8 ?_
    |refine SW.t1 7 ?_
    |refine SW.t1 4 ?_
    |refine SW.t2 3 5 ?_ ?_
    |refine SW.t1 3 ?_
    |refine SW.t2 3 4 ?_ ?_
    |refine SW.t2 0 5 ?_ ?_
    |refine SW.t1 0 ?_
    |refine SW.t2 0 3 ?_ ?_
  |with_reducible refine SW.tg 0 ?_
   refine g3 ?_;refine SW.go ?_
  |with_reducible refine SW.tg 3 ?_
   refine St.ag (Gh k.tree hw e) Zl (.ar rfl) rfl ?_;rintro s _ ⟨t,rfl,ht,rfl⟩;refine St.ao ?_;refine g2 ?_;refine SW.go ?_
  |with_reducible refine SW.tg 4 ?_
   refine g3 ?_;refine SW.go ?_
  |with_reducible refine SW.tg 5 ?_
   refine St.fp rfl (.ar rfl) zw pt Ls rfl rfl (by simp[Value.cells]) rfl rfl (λw=> ?_);refine g2 ?_;refine SW.go ?_
  |with_reducible refine SW.tg 6 ?_
   refine St.aj (.mk rfl) (.mk rfl) zw pt Ls Vm (by intro u hu;exact dC.one (.mk 0 0 bT []:dE) u hu) (by omega) (by omega) rfl rfl rfl rfl (λv11 l=> ?_);refine St.aM v11 (show _=(outs++ [(.mk 0 0 bT []:dE)]).length by rw[bN];rfl) (show _=rows dC (outs++ [(.mk 0 0 bT []:dE)]) by rw[ax];rfl) ?_;refine St.bZ v11 (λg _=> ?_);refine g2 ?_;refine SW.go ?_
  |with_reducible refine SW.tg 7 ?_
   refine St.ee (Ev.dX (k:=outs.length) (.mk rfl) (.mk rfl) zw pt (by omega) (by rw[bN];exact pN _)) ?_;refine g2 ?_;refine SW.go ?_
  |with_reducible refine SW.tg 8 ?_
   refine St.uJ (Rr:=dC) (show dC.size=3 from rfl) t (.mk rfl) (.mk rfl) pt (by rw[bN];exact pN _) (by rw[bN];exact pN _) ?_;refine St.aM v11 (show _=(outs++ [t]).length by rw[bN,bN];rfl) (show _=rows dC (outs++ [t]) by rw[PQ]) ?_;refine g2 ?_;refine SW.go ?_
  |with_reducible refine SW.tg 9 ?_
   refine St.cJ (.mk rfl) (.mk rfl) Xk g (by rfl) ?_;refine g2 ?_;refine SW.go ?_
 all_goals refine SW.dn ?_
 all_goals
  refine g2 ?_;refine St.eY (aF br (outs++ [t])) [aF br outs,br t] (λρ h u hu=>by rcases cD.1 hu with hu|hu;exact h (aF br outs) (aP ..) u hu;rw[bO]at hu;subst hu;exact h (br u) (cN _ (aP ..))) ?_;refine g9 ?_;refine St.rV [_] [aW a (.cells [v11].toArray 44 (0,0)),row v11 69 3 (outs++ [t]).length (rows dC (outs++ [t])),aB (aF br (outs++ [t]))] ?_;exact⟨⟨v11,g⟩,t,congrArg Value.bool (by rw[bN];show decide (((outs.length+1:Nat):Int)<n)=_;exact decide_eq_decide.2 (by omega)),ht,rfl⟩
theorem r6 (get:eA→Nat→Nat→eA×Option jq)(ranks:List Nat)(e:Nat)(l:List Nat)(i:Nat)(st:eA)(b:Option (Nat×jq)):pD get ranks (e::l) i st b=match get st e (ranks.getD i 0)with
 |(st,none)=>pD get ranks l (i+1) st b
 |(st,some x)=>pD get ranks l (i+1) st (match b with
  |none=>some (i,x)
  |some y=>if Qb x y.2<0 then some (i,x)else some y):=rfl
def KU (bi:Int)(a:xL):Option (Nat×jq):=if bi<0 then none else some (bi.toNat,mV a)
theorem B8 {bi:Int}(a:xL)(h:bi<0):KU bi a=none:=aC h
theorem uk {bi:Int}(a:xL)(h:¬bi<0):KU bi a=some (bi.toNat,mV a):=aA h
theorem IY (i:Nat)(a:xL):KU (i:Int) a=some (i,mV a):=by unfold KU;rw[aA (by omega)];rfl
theorem XV {get:eA→Nat→Nat→eA×Option jq}{ranks full:List Nat}{i q rr:Nat}{st st2:eA}{b:Option (Nat×jq)}(a:full[i]?=some q)(c:ranks[i]?=some rr)(h:get st q rr=(st2,none)):pD get ranks (full.drop i) i st b=pD get ranks (full.drop (i+1)) (i+1) st2 b:=by
 rw[bP a,r6,show ranks.getD i 0=rr by rw[aw,c];rfl,h]
theorem LN {get:eA→Nat→Nat→eA×Option jq}{ranks full:List Nat}{i q rr:Nat}{st st2:eA}{x:jq}(a:full[i]?=some q)(b:ranks[i]?=some rr)(h:get st q rr=(st2,some x)):pD get ranks (full.drop i) i st none=pD get ranks (full.drop (i+1)) (i+1) st2 (some (i,x)):=by
 rw[bP a,r6,show ranks.getD i 0=rr by rw[aw,b];rfl,h]
theorem P5 {get:eA→Nat→Nat→eA×Option jq}{ranks full:List Nat}{i q rr:Nat}{st st2:eA}{x:jq}{y:Nat×jq}(a:full[i]?=some q)(b:ranks[i]?=some rr)(h:get st q rr=(st2,some x))(c:Qb x y.2<0):pD get ranks (full.drop i) i st (some y)=pD get ranks (full.drop (i+1)) (i+1) st2 (some (i,x)):=by
 rw[bP a,r6,show ranks.getD i 0=rr by rw[aw,b];rfl,h]
 dsimp only
 rw[aC c]
theorem P6 {get:eA→Nat→Nat→eA×Option jq}{ranks full:List Nat}{i q rr:Nat}{st st2:eA}{x:jq}{y:Nat×jq}(a:full[i]?=some q)(b:ranks[i]?=some rr)(h:get st q rr=(st2,some x))(c:¬Qb x y.2<0):pD get ranks (full.drop i) i st (some y)=pD get ranks (full.drop (i+1)) (i+1) st2 (some y):=by
 rw[bP a,r6,show ranks.getD i 0=rr by rw[aw,b];rfl,h]
 dsimp only
 rw[aA c]
theorem EI {get:eA→Nat→Nat→eA×Option jq}{full ranks:List Nat}{m:Nat}{st st2:eA}{out:List jY}{i:Nat}{x:jq}{a:Nat}(hm:0<m)(h:pD get ranks full 0 st none=(st2,some (i,x)))(b:ranks[i]?=some a):tL get full m st ranks out=tL get full (m-1) st2 (ranks.set i (a+1)) (out++ [x.tree]):=by
 obtain⟨k,rfl⟩:∃k,m=k+1:=⟨m-1,by omega⟩
 rw[tL,h]
 dsimp only
 rw[show ranks.getD i 0=a by rw[aw,b];rfl];rfl
theorem Rj {get:eA→Nat→Nat→eA×Option jq}{full ranks:List Nat}{m:Nat}{st st2:eA}{out:List jY}(hm:0<m)(h:pD get ranks full 0 st none=(st2,none)):tL get full m st ranks out=out:=by
 obtain⟨k,rfl⟩:∃k,m=k+1:=⟨m-1,by omega⟩
 rw[tL,h]
theorem Kb (D l m0 p:Nat)(rv xv eC:aV)(R X:List Int)(its:List dJ)(hB:o7 (⟨its.map cE,R,X⟩:cr))(full:List Nat)(J:aV)(NX:∀e∈full,e<its.length)(SC:full.length≤1000)(s y n:Nat)(hn0:0<n)(hn:n≤200)(L:List jJ)(J3:jm (⟨its.map cE,R,X⟩:cr) (L.map fi)):
 dx prog 26 #[.pointer (some ⟨D,0,none⟩),J.1,Value.func (.func 27) #[] #[Value.pointer (some ⟨s,0,none⟩),Value.pointer (some ⟨y,0,none⟩)]] ([fO D [rv.1,xv.1,eC.1,(.slice (some ⟨l,0,none⟩) m0 p)],sl aI rv.1 R,sl aI xv.1 X,sl eB eC.1 its,aF cj its,sl aI J.1 (bW full),ri y (iv (n:Nat))].map aB++(aW s (.cells [(.slice none 0 0)].toArray 44 (0,0))::row (.slice none 0 0) 69 3 (([]:List dE)).length (rows dC (([]:List dE)))::aB (aF br [])::row (.slice (some ⟨l,0,none⟩) m0 p) 194 3 (L).length (rows fM (L))::bE (kK 71 196) L)) (λv H'=>∃(E:aV) (Q:List dE),v= .tuple #[]∧Q.map cx=tL (fh (⟨its.map cE,R,X⟩:cr) 60) full n (L.map fi) (List.replicate full.length 0) []∧(∀t∈Q,dC.wf t)∧H'=[aW s (.cells [E.1].toArray 44 (0,0)),row E.1 69 3 (Q).length (rows dC (Q)),aB (aF br Q)]):=by
 refine dx.body (args:=[.pointer (some ⟨D,0,none⟩),J.1,Value.func (.func 27) #[] #[Value.pointer (some ⟨s,0,none⟩),Value.pointer (some ⟨y,0,none⟩)]]) 61 func26 rfl ntmps26 rfl (λc=> ?_);refine go ?_;refine St.cast (H':=(aB (fO D [rv.1,xv.1,eC.1,(.slice (some ⟨l,0,none⟩) m0 p)])::aB (sl aI rv.1 R)::aB (sl aI xv.1 X)::aB (sl eB eC.1 its)::aB (aF cj its)::aB (sl aI J.1 (bW full))::aB (ri y (iv (n:Nat)))::aW s (.cells [(.slice none 0 0)].toArray 44 (0,0))::row (.slice none 0 0) 69 3 (([]:List dE)).length (rows dC (([]:List dE)))::aB (aF br [])::row (.slice (some ⟨l,0,none⟩) m0 p) 194 3 (L).length (rows fM (L))::bE (kK 71 196) L)) rfl ?_
 have Kq:(bW full).length=full.length:=dW _
 have Uf:=Cu hB 60
 refine g3 ?_;refine St.nJ (Rr:=aI) (g:=0) (m:=full.length) (sz:=1) rfl (.mk rfl) (.mk rfl) bI dL eQ xO (congrArg _ Kq) (congrArg _ Kq) (by omega) rfl rfl (λVc=> ?_);refine St.aM (.slice (some ⟨Vc,0,none⟩) full.length full.length) (show _=(List.replicate full.length 0).length by rw[kG]) (show _=rows aI (bW (List.replicate full.length 0)) by unfold bW;rw[s9];rfl) ?_;refine g4 ?_;refine St.lH (ι:=Nat×List jJ×List Nat×aV×List dE) (λ⟨m,w,ranks,f,outs⟩ T=>T) (λ⟨m,w,ranks,f,outs⟩=>(row (.slice (some ⟨l,0,none⟩) m0 p) 194 3 (w).length (rows fM (w))::aB (fO D [rv.1,xv.1,eC.1,(.slice (some ⟨l,0,none⟩) m0 p)])::aB (sl aI rv.1 R)::aB (sl aI xv.1 X)::aB (sl eB eC.1 its)::aB (aF cj its)::aB (sl aI J.1 (bW full))::aB (ri y (iv (n:Nat)))::row (.slice (some ⟨Vc,0,none⟩) full.length full.length) 3 1 ranks.length (rows aI (bW ranks))::aW s (.cells [f.1].toArray 44 (0,0))::row f.1 69 3 (outs).length (rows dC (outs))::aB (aF br outs)::(bE (kK 71 196) w))) (λ⟨m,w,ranks,f,outs⟩=>0<m∧outs.length+m=n∧ranks.length=full.length∧(∀r∈ranks,r≤outs.length)∧jm (⟨its.map cE,R,X⟩:cr) (w.map fi)∧tL (fh (⟨its.map cE,R,X⟩:cr) 60) full m (w.map fi) ranks (outs.map cx)=tL (fh (⟨its.map cE,R,X⟩:cr) 60) full n (L.map fi) (List.replicate full.length 0) []∧(∀t∈outs,dC.wf t)) (λ⟨m,w,ranks,f,outs⟩=>m) ⟨n,L,List.replicate full.length 0,bT,[]⟩ (aD.cons 0 rfl (aD.cons 1 rfl (aD.cons 2 rfl (aD.cons 6 rfl aD.nil)))) ⟨hn0,jG _,kG,λr K=>by rw[wa K];exact aO _,J3,rfl,λt ht=>by cases ht⟩ ?_;rintro ⟨m,w,ranks,f,outs⟩ ⟨Nf,hom,Wc,S,U,z,A⟩
 dsimp only at Nf hom Wc S U z A⊢
 have hnr:(bW ranks).length=ranks.length:=dW _
 refine g8 ?_;refine St.al (λb8=> ?_);refine g11 ?_;refine St.fk aI ?_;refine St.fact (br (.mk 0 0 bT [])) (λρ _ _=>qc _ _ _) ?_;refine St.eY (oL Jz) [sl aI (.slice none 0 0) [],br (.mk 0 0 bT [])] (λρ h=>h) ?_;refine St.mK b8 (L':=[iv Jz.wt,Jz.cv.1,iv Jz.tree.rule,iv Jz.tree.lex,Jz.tree.kv.1]) rfl ?_;refine St.lH (ι:=Nat×List jJ×Int×xL) (λ⟨i,b,bi,a⟩ T=>(18,iv i)::(7,iv bi)::T) (λ⟨i,b,bi,a⟩=>(row (.slice (some ⟨l,0,none⟩) m0 p) 194 3 (b).length (rows fM (b))::aB (fO D [rv.1,xv.1,eC.1,(.slice (some ⟨l,0,none⟩) m0 p)])::aB (sl aI rv.1 R)::aB (sl aI xv.1 X)::aB (sl eB eC.1 its)::aB (aF cj its)::aB (sl aI J.1 (bW full))::aB (ri y (iv (n:Nat)))::row (.slice (some ⟨Vc,0,none⟩) full.length full.length) 3 1 ranks.length (rows aI (bW ranks))::aW s (.cells [f.1].toArray 44 (0,0))::row f.1 69 3 (outs).length (rows dC (outs))::aB (aF br outs)::aW b8 (.cells [iv a.wt,a.cv.1,iv a.tree.rule,iv a.tree.lex,a.tree.kv.1].toArray 71 (0,0))::aB (oL a)::(bE (kK 71 196) b))) (λ⟨i,b,bi,a⟩=>i≤full.length∧jm (⟨its.map cE,R,X⟩:cr) (b.map fi)∧(-1≤bi∧bi<full.length)∧(¬bi<0→∃e,Dr (⟨its.map cE,R,X⟩:cr) e (mV a))∧pD (fh (⟨its.map cE,R,X⟩:cr) 60) ranks (full.drop i) i (b.map fi) (KU bi a)=pD (fh (⟨its.map cE,R,X⟩:cr) 60) ranks full 0 (w.map fi) none) (λ⟨i,b,bi,a⟩=>full.length-i) ⟨0,w,(-1:Int),Jz⟩ (aD.cons 0 rfl (aD.cons 1 rfl (aD.cons 2 rfl (aD.cons 6 rfl (aD.cons 8 rfl (aD.cons 16 rfl (aD.cons 17 rfl aD.nil))))))) ⟨aO _,U,⟨by omega,by omega⟩,λh=>absurd (show(-1:Int)<0 by decide) h,rfl⟩ ?_;rintro ⟨i,b,bi,a⟩ ⟨hi,V,Qe,B,x⟩
 dsimp only at hi V Qe B x⊢
 have hl2:=sX V
 refine g6 ?_;refine St.cq (λh19=> ?_) (λh19=> ?_)
 ·obtain⟨q,M⟩:=aE (show i<full.length by omega)
  obtain⟨rr,N⟩:=aE (show i<ranks.length by omega)
  have Lv:=NX q (ae M)
  have J0:q<(⟨its.map cE,R,X⟩:cr).its.length:=by show q<(its.map cE).length;rw[aN];exact Lv
  have We:=S rr (ae N)
  have W:=hB.ht q J0
  have Gy:=Uf.ok q rr (b.map fi) J0 W (by omega) V
  refine g8 ?_;refine St.ee (Ev.ld1 (.mk rfl) (gT M) gG trivial rfl) ?_;refine g11 ?_;refine St.ee (Ev.ct (.mk rfl) gG trivial (by omega) (oM (gT N))) ?_;refine St.pQ (ds:=[fO D [rv.1,xv.1,eC.1,(.slice (some ⟨l,0,none⟩) m0 p)],sl aI rv.1 R,sl aI xv.1 X,sl eB eC.1 its,aF cj its]) (L:=[row (.slice (some ⟨l,0,none⟩) m0 p) 194 3 (b).length (rows fM (b))]) (X:=bE (kK 71 196) b) (post:=λv L' X'=>∃(j:List jJ) (d:xL) (o:Bool),fh (⟨its.map cE,R,X⟩:cr) 60 (b.map fi) q rr=(j.map fi,if o then some (mV d)else none)∧v= .tuple #[kU d,.bool o]∧L'=[row (.slice (some ⟨l,0,none⟩) m0 p) 194 3 (j).length (rows fM (j)),aB (oL d)]∧X'=bE (kK 71 196) j) ((NI D l m0 p rv xv eC R X its hB 60 q rr b Lv W (by omega) V).mono (λv H' ⟨j,d,o,a1,a2,a3⟩=>⟨[_,_],_,a3,j,d,o,a1,a2,rfl,rfl⟩)) Zq (.eh rfl rfl rfl) rfl ?_;rintro v30 _ _ ⟨j,d,o,Y,rfl,rfl,rfl⟩;refine St.dQ ?_;rw[Y]at Gy;obtain⟨O,_,AX⟩:=Gy
  have O:jm (⟨its.map cE,R,X⟩:cr) (j.map fi):=O
  refine g3 ?_;refine St.al (λYA=> ?_);refine g8 ?_;refine St.split 34 _ rfl (λF=> ?_) (λF=> ?_)
  ·obtain rfl:o=true:=F
   have AX:=AX (mV d) rfl
   refine St.cF rfl rfl ?_;refine go ?_;refine St.cF rfl rfl ?_;refine go ?_;refine St.cF rfl rfl ?_;refine go ?_;refine St.split 37 _ rfl (λG=> ?_) (λG=> ?_)
   ·have C:bi<0:=ei G
    rw[B8 a C,LN M N Y]at x;refine St.bq rfl rfl rfl ?_;refine St.bq rfl rfl rfl ?_;refine St.bq rfl rfl rfl ?_;refine St.bq rfl rfl rfl ?_;refine St.cF rfl rfl ?_;refine St.ee (Ev.gZ (.mk rfl) rfl (.mk rfl)) ?_;refine St.ee (Ev.gZ (.mk rfl) rfl (.mk rfl)) ?_;refine g2 ?_;refine St.Ih _ rfl rfl ?_;refine St.da (aW b8 (.cells [iv a.wt,a.cv.1,iv a.tree.rule,iv a.tree.lex,a.tree.kv.1].toArray 71 (0,0))::(bE (kK 71 196) j)) mixed (λnp ns=> ?_);refine SW.gd 0 ?_;refine SW.gd 1 ?_;refine SW.gd 2 ?_;refine SW.t1 3 ?_;refine g3 ?_;refine SW.go ?_;refine SW.dn ?_;refine g7 ?_;refine St.aH ⟨i+1,j,(i:Int),d⟩ ⟨by omega,O,⟨(by dsimp only;omega),(by dsimp only;omega)⟩,λ_=>⟨q,AX⟩,by dsimp only;rw[IY];exact x⟩
   ·have C:¬bi<0:=iX G
    rw[uk a C]at x;refine St.eY (sl aI d.cv.1 d.code) [oL d] (λρ h=>h (oL d) (aP ..) _ (aP ..)) ?_;refine St.eY (sl aI a.cv.1 a.code) [oL a] (λρ h=>h (oL a) (aP ..) _ (aP ..)) ?_;refine St.cF rfl rfl ?_;refine go ?_;refine St.slot 38 (kU d) rfl rfl ?_;refine St.cF rfl rfl ?_;refine go ?_;refine St.slot 39 (kU a) rfl rfl ?_;refine St.cF rfl rfl ?_;refine St.ee (Ev.call (xk d a) Zr (.aY rfl rfl)) ?_;refine St.cF rfl rfl ?_;refine go ?_;refine St.cF rfl rfl ?_;refine St.ee (Ev.kR (.mk rfl) rfl (.mk rfl)) ?_;refine St.ee (Ev.gZ (.mk rfl) rfl (.mk rfl)) ?_;refine g2 ?_;refine St.cond _ rfl (λH=> ?_) (λH=> ?_)
    ·skip
     have NV:Qb (mV d) (mV a)<0:=ei H
     rw[P5 M N Y NV]at x;refine St.da (aW b8 (.cells [iv a.wt,a.cv.1,iv a.tree.rule,iv a.tree.lex,a.tree.kv.1].toArray 71 (0,0))::(bE (kK 71 196) j)) mixed (λnp ns=> ?_);refine SW.gd 0 ?_;refine SW.gd 1 ?_;refine SW.gd 2 ?_;refine SW.t1 3 ?_;refine g3 ?_;refine SW.go ?_;refine SW.dn ?_;refine g7 ?_;refine St.aH ⟨i+1,j,(i:Int),d⟩ ⟨by omega,O,⟨(by dsimp only;omega),(by dsimp only;omega)⟩,λ_=>⟨q,AX⟩,by dsimp only;rw[IY];exact x⟩
    ·skip
     have NV:¬Qb (mV d) (mV a)<0:=iX H
     rw[P6 M N Y NV,←uk a C]at x;refine g8 ?_;refine St.aH ⟨i+1,j,bi,a⟩ ⟨by omega,O,Qe,B,x⟩
  ·obtain rfl:o=false:=F
   rw[XV M N Y]at x;refine St.bq rfl rfl rfl ?_;refine St.bq rfl rfl rfl ?_;refine St.bq rfl rfl rfl ?_;refine St.JV rfl rfl rfl ?_;refine St.JV rfl rfl rfl ?_;refine St.JV rfl rfl rfl ?_;refine St.JV rfl rfl rfl ?_;refine St.bq rfl rfl rfl ?_;refine St.ee (Ev.kR (.mk rfl) rfl (.mk rfl)) ?_;refine g2 ?_;refine St.tG _ rfl rfl ?_;refine g8 ?_;refine St.aH ⟨i+1,j,bi,a⟩ ⟨by omega,O,Qe,B,x⟩
 ·obtain rfl:i=full.length:=by omega
  rw[List.drop_length]at x
  have J2:pD (fh (⟨its.map cE,R,X⟩:cr) 60) ranks full 0 (w.map fi) none=(b.map fi,KU bi a):=x.symm
  refine g11 ?_;refine St.split 49 _ rfl (λI=> ?_) (λI=> ?_)
  ·have C:bi<0:=ei I
   rw[B8 a C]at J2;refine St.bq rfl rfl rfl ?_;refine St.bq rfl rfl rfl ?_;refine St.bq rfl rfl rfl ?_;refine St.bq rfl rfl rfl ?_;refine St.ee (Ev.gZ (.mk rfl) rfl (.mk rfl)) ?_;refine g2 ?_;refine St.Ih _ rfl rfl ?_;refine g5 ?_;refine St.rV [] [aW s (.cells [f.1].toArray 44 (0,0)),row f.1 69 3 (outs).length (rows dC (outs)),aB (aF br (outs))] ?_;exact⟨f,outs,rfl,(by rw[←z,Rj Nf J2]),A,rfl⟩
  ·have C:¬bi<0:=iX I
   rw[uk a C]at J2;obtain⟨eb,hbe⟩:=B C;obtain⟨hw,hth⟩:=TK hbe;obtain⟨P,Z⟩:=aE (show bi.toNat<ranks.length by omega)
   have acV:=J2
   refine St.dup (ri y (iv (n:Nat))) ?_;refine St.cF rfl rfl ?_;refine go ?_;refine St.cF rfl rfl ?_;refine go ?_;refine St.slot 51 (kU a) rfl rfl ?_;refine St.cF rfl rfl ?_;refine St.ep (show dx prog 27 ([kU a]++ [Value.pointer (some ⟨s,0,none⟩),Value.pointer (some ⟨y,0,none⟩)]).toArray [aB (oL a),aB (ri y (iv (n:Nat))),aW s (.cells [f.1].toArray 44 (0,0)),row f.1 69 3 (outs).length (rows dC (outs)),aB (aF br outs)] _ from IH s y n a f outs hw hth (by omega) (by omega)) ag7 (.mk rfl) (.ar rfl) rfl ?_;rintro v52 _ ⟨E,t,rfl,ht,rfl⟩;refine St.iQ ?_;refine St.cF rfl rfl ?_;refine go ?_;refine St.ee (Ev.kR (.mk rfl) rfl (.mk rfl)) ?_;refine g2 ?_;refine St.cond _ rfl (λh54=> ?_) (λh54=> ?_)
   ·skip
    have YI:¬outs.length+1<n:=by simpa using h54
    refine g5 ?_;refine St.rV [] [aW s (.cells [E.1].toArray 44 (0,0)),row E.1 69 3 ((outs++ [t])).length (rows dC ((outs++ [t]))),aB (aF br ((outs++ [t])))] ?_;exact⟨E,(outs++ [t]),rfl,(by rw[←z,EI Nf acV Z,show m-1=0 by omega,cO,show [t].map cx=[cx t]from rfl,ht];rfl),(λu hu=>by rcases cD.1 hu with hu|hu;exact A u hu;rw[bO]at hu;subst hu;obtain⟨e1,e2⟩:=zq ht;exact⟨by rw[e1];exact hw.1,by rw[e2];exact hw.2⟩),rfl⟩
   ·skip
    have YI:outs.length+1<n:=by simpa using h54
    refine g5 ?_;refine St.ee (Ev.dX (k:=bi.toNat) (.mk rfl) (.mk rfl) bI dL (by omega) (by omega)) ?_;refine St.ee (Ev.ct (.mk rfl) gG trivial (by omega) (oM (gT Z))) ?_;refine St.ee (Ev.add (.mk rfl) (.mk rfl) (by have:=S P (ae Z);omega)) ?_;refine St.slot 59 (iv ((P+1:Nat):Int)) rfl (congrArg iv (by push_cast;rfl)) ?_;refine St.ee (Ev.dX (k:=bi.toNat) (.mk rfl) (.mk rfl) bI dL (by omega) (by omega)) ?_;refine St.cG (.mk rfl) (.mk rfl) dL rfl (by omega) (by decide) ?_;refine St.aM (.slice (some ⟨Vc,0,none⟩) full.length full.length) (show _=(ranks.set bi.toNat (P+1)).length by rw[cn]) (show _=rows aI (bW (ranks.set bi.toNat (P+1)))from r8 _ _ _) ?_;refine g3 ?_;refine St.aH ⟨m-1,b,ranks.set bi.toNat (P+1),E,outs++ [t]⟩ ⟨by dsimp only;omega,by dsimp only;rw[bN,pc];omega,by dsimp only;rw[cn];exact Wc,λr K=>by dsimp only at K⊢;rw[bN,pc];rcases lF K with K|rfl;have:=S r K;omega;have:=S P (ae Z);omega,V,by dsimp only;rw[←z,EI Nf acV Z,cO,show [t].map cx=[cx t]from rfl,ht];rfl,λu hu=>(by rcases cD.1 hu with hu|hu;exact A u hu;rw[bO]at hu;subst hu;obtain⟨e1,e2⟩:=zq ht;exact⟨by rw[e1];exact hw.1,by rw[e2];exact hw.2⟩)⟩
end Go.Proofs.YtblifkgpebebmaaGreatDoor
