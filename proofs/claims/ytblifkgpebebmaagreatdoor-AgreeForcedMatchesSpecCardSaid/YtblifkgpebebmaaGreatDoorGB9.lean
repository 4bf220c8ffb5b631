/-
  Laws of walks through programs, and facts on grammars, trees and queries.
  Conditions: none.
-/
import Derived.Test.YtblifkgpebebmaaGreatDoorGB8
set_option maxHeartbeats 8000000
set_option maxRecDepth 20000
set_option linter.unusedVariables false
set_option linter.unusedSimpArgs false
namespace Go.Proofs.YtblifkgpebebmaaGreatDoor
open Go Go.J Tryz
section
variable {n:Nat}{F:Fr}{c:Ctx}{H H' R:List ak}{T:Act→World→Prop}{L:List jK}{e:Nat}{x:jK}
theorem St.JD (a b:TypeId)(hx:L[e]?=some x)[t:jE (bF (kK a b) L) (row x.dv.1 a 5 x.done.length (rows LJ x.done)::row x.nv.1 b 7 x.next.length (rows jN x.next)::aB (aF oK x.done)::aB (aF hS x.next)::bF (kK a b) (L.eraseIdx e)) H H'](h:St n F (Mm c H') T):St n F (Mm c H) T:=
 St.tail (t:=t) _ _ (nK (kK a b) hx) h
theorem St.T1 (f g:TypeId)(dv:Value)(a:dv.oneCell'=true)(done:List xQ)(nv:Value)(d:nv.oneCell'=true)(next:List ku)(b:Bool)(he:e<L.length)
 [tk:eV [row dv f 5 done.length (rows LJ done),row nv g 7 next.length (rows jN next),aB (aF oK done),aB (aF hS next)] H R] [t:jE (bF (kK f g) (L.eraseIdx e)) (bF (kK f g) (L.set e ⟨⟨dv,a⟩,done,⟨nv,d⟩,next,b⟩)) R H'] (h:St n F (Mm c H') T):St n F (Mm c H) T:=
 St.mj (tk:=tk) (t:=t) _ _ _ (sR (kK f g) (⟨⟨dv,a⟩,done,⟨nv,d⟩,next,b⟩:jK) he) h
theorem NJ {α:Type}(f:α→List ak){l:List α}{i:Nat}{a b:α}(h:l[i]?=some a)(c:f b=f a):bF f l=bF f (l.set i b):=by
 induction l generalizing i with
 |nil=>cases h
 |cons u l d=>
  cases i with
  |zero=>obtain rfl:=Option.some.inj h;rw[sG,iy,iy,c]
  |succ i=>rw[wm,iy,iy,←d h]
theorem St.Xn (X X':List ak)(hp:X=X')[t:jE X X' H H'](h:St n F (Mm c H') T):St n F (Mm c H) T:=St.tail X X' (hp▸ .refl _) h
end
theorem LP {α:Type}(R:Rp α){l:List α}{i:Nat}{a b:α}(h:l[i]?=some a)(c:R.cells b=R.cells a):rows R l=rows R (l.set i b):=by
 induction l generalizing i with
 |nil=>cases h
 |cons u l d=>
  cases i with
  |zero=>
   obtain rfl:=Option.some.inj h;rw[sG]
   show R.cells u++rows R l=R.cells b++rows R l
   rw[c]
  |succ i=>
   rw[wm]
   show R.cells u++rows R l=R.cells u++rows R (l.set i b)
   rw[d h]
def jK.wb (x:jK):jK:=⟨x.dv,x.done,x.nv,x.next,true⟩
def jK.wd (x:jK)(u:aV)(l:List xQ):jK:=⟨u,l,x.nv,x.next,x.begun⟩
theorem TH {L:List jK}{e:Nat}{x:jK}(h:L[e]?=some x):(rows fL L).set (e*3+2) (.bool true)=rows fL (L.set e x.wb):=pF fL h (by decide) rfl
theorem FP {L:List jK}{e:Nat}{x:jK}(h:L[e]?=some x)(u:aV)(l:List xQ):(rows fL L).set (e*3+0) u.1=rows fL (L.set e (x.wd u l)):=pF fL h (by decide) rfl
theorem fY {L:List jK}{e:Nat}{x:jK}(h:L[e]?=some x):(L.map fm)[e]?=some (fm x):=by rw[bQ,h];rfl
theorem LH {B:cr}{get:eC→Nat→Nat→eC×Option jr}{e d:Nat}{c:jI}{st st2:eC}(h:n5 B get st e c.fz (c.ranks.set d (c.ranks.getD d 0+1))=(st2,none)):zM B get e c d st=st2:=by unfold zM;rw[h]
theorem LI {B:cr}{get:eC→Nat→Nat→eC×Option jr}{e d:Nat}{c z:jI}{st st2:eC}{x:wF}(h:n5 B get st e c.fz (c.ranks.set d (c.ranks.getD d 0+1))=(st2,some z))(hx:st2[e]?=some x):zM B get e c d st=st2.set e ⟨x.done,Am x.next z,x.begun⟩:=by unfold zM;rw[h];show DB st2 e _=_;rw[qz hx,gN hx]
theorem KO {B:cr}{get:eC→Nat→Nat→eC×Option jr}{e w:Nat}{st st2:eC}(h:n5 B get st e w (List.replicate (B.fz e w).kids.length 0)=(st2,none)):AU B get e st w=st2:=by unfold AU;rw[h]
theorem KP {B:cr}{get:eC→Nat→Nat→eC×Option jr}{e w:Nat}{c:jI}{st st2:eC}{x:wF}(h:n5 B get st e w (List.replicate (B.fz e w).kids.length 0)=(st2,some c))(hx:st2[e]?=some x):AU B get e st w=st2.set e ⟨x.done,x.next++ [c],x.begun⟩:=by unfold AU;rw[h];show DB st2 e _=_;rw[qz hx,gN hx]
theorem Su {B:cr}{get:eC→Nat→Nat→eC×Option jr}{e r m:Nat}{st:eC}{x:wF}(hx:st[e]?=some x)(hm:0<m)(h:x.done.length≤r)(a:0<x.next.length):u7 B get e r m st=u7 B get e r (m-1) (An B get e (FB st e) (FB st e).ranks.length 0 (LG st e)):=by
 obtain⟨k,rfl⟩:∃k,m=k+1:=⟨m-1,by omega⟩
 rw[u7,aC (by rw[gN hx];exact⟨h,a⟩)];rfl
theorem BP {B:cr}{get:eC→Nat→Nat→eC×Option jr}{e r m:Nat}{st:eC}{x:wF}(hx:st[e]?=some x)(h:¬(x.done.length≤r∧0<x.next.length)):u7 B get e r m st=st:=by
 cases m with
 |zero=>rfl
 |succ k=>rw[u7,aA (by rw[gN hx];exact h)]
theorem r7 (l:List Nat)(d z:Nat):(rows aJ (bW l)).set (d*1+0) (iv (z:Int))=rows aJ (bW (l.set d z)):=by rw[jB,En]
section
variable {n:Nat}{F:Fr}{c:Ctx}{H H' R:List ak}{T:Act→World→Prop}{L:List jK}{e:Nat}{x:jK}
theorem St.DA (a b:TypeId)(hx:L[e]?=some x)[tk:eV [row x.dv.1 a 5 x.done.length (rows LJ x.done),row x.nv.1 b 7 x.next.length (rows jN x.next),aB (aF oK x.done),aB (aF hS x.next)] H R][t:jE (bF (kK a b) (L.eraseIdx e)) (bF (kK a b) L) R H'](h:St n F (Mm c H') T):St n F (Mm c H) T:=
 St.mj (tk:=tk) (t:=t) _ _ _ (nK (kK a b) hx).symm h
end
theorem BJ (B:cr)(f:Nat)(st:eC)(e r:Nat){st2:eC}{x:wF}(h:u7 B (fk B f) e r (r+1) (yQ B (fk B f) e st)=st2)(hx:st2[e]?=some x):fk B (f+1) st e r=(st2,x.done[r]?):=by
 rw[fk];rw[h,gN hx]
theorem FI {B:cr}{get:eC→Nat→Nat→eC×Option jr}{e d rd:Nat}{z:ku}{st:eC}(h:z.ranks[d]?=some rd):An B get e (iR z) (z.ranks.length-d) d st=if 0<rd then zM B get e (iR z) d st else An B get e (iR z) (z.ranks.length-(d+1)) (d+1) (zM B get e (iR z) d st):=by
 have b:=(fA.1 h).1
 rw[show z.ranks.length-d=(z.ranks.length-(d+1))+1 by omega,BV]
 have a:(iR z).ranks.getD d 0=rd:=by show z.ranks.getD d 0=rd;rw[aw,h];rfl
 rw[a]
theorem oL {l:List Int}{k:Nat}{x:Int}(h:l[k]?=some x):(rows aJ l)[k*1+0]?=some (iv x):=eO aJ l k 0 x h (by decide)
theorem ND (G j m0 k:Nat)(rv xv eF:aV)(R X:List Int)(its:List dL)(H:o7 (⟨its.map cH,R,X⟩:cr)):∀f,VI G j m0 k rv xv eF R X its f:=by
 refine Nat.rec (motive:=λf=>VI G j m0 k rv xv eF R X its f) (λe r L _ h=>absurd h (Nat.not_lt_zero _)) (λf S9 e r L he S5 hr J3=> ?_);refine dz.body (args:=[.pointer (some ⟨G,0,none⟩),iv (e:Nat),iv (r:Nat)]) 167 func52 rfl ntmps52 rfl (λc=> ?_);refine go ?_;refine St.cast (H':=(aB (fM G [rv.1,xv.1,eF.1,(.slice (some ⟨j,0,none⟩) m0 k)])::aB (sl aJ rv.1 R)::aB (sl aJ xv.1 X)::aB (sl eD eF.1 its)::aB (aF cj its)::row (.slice (some ⟨j,0,none⟩) m0 k) 194 3 (L).length (rows fL (L))::bF (kK 71 196) L)) rfl ?_;obtain⟨y,hy⟩:=aE he
 have N:e<(⟨its.map cH,R,X⟩:cr).its.length:=by show e<(its.map cH).length;rw[aO];exact he
 have hLl:=sb J3
 obtain⟨x0,HF⟩:=aE (show e<L.length by omega)
 have hwb:y.cW.length≤1117240000000:=by rw[←Cb (R:=R) (X:=X) hy];exact H.nw e N
 have hnw:=Cb (R:=R) (X:=X) hy
 have Ud:=Cw H f
 refine St.cL cj its (x:=y) (aZ hy) ?_;refine St.ea (sl mK y.wv.1 y.cW) [cj y] (λρ h=>h (cj y) (aQ ..) _ (cO _ (aQ ..))) ?_;refine go ?_;refine St.al (λb6=> ?_);refine g8 ?_;refine St.ee (Ev.qx (.mk rfl) underlying125 trivial rfl) ?_;refine g5 ?_;refine St.join (ι:=List jK) (λLb T=>T) (λLb=>(row (.slice (some ⟨j,0,none⟩) m0 k) 194 3 (Lb).length (rows fL (Lb))::aB (fM G [rv.1,xv.1,eF.1,(.slice (some ⟨j,0,none⟩) m0 k)])::aB (sl aJ rv.1 R)::aB (sl aJ xv.1 X)::aB (sl eD eF.1 its)::aB (aF cj its)::aB (sl mK y.wv.1 y.cW)::aB (cj y)::aW b6 (.cells [iv 0,(.slice none 0 0),iv 0,iv 0,(.slice none 0 0)].toArray 71 (0,0))::(bF (kK 71 196) Lb))) (λLb=>Lb.map fm=yQ (⟨its.map cH,R,X⟩:cr) (fk (⟨its.map cH,R,X⟩:cr) f) e (L.map fm)) (aD.cons 0 rfl (aD.cons 1 rfl (aD.cons 2 rfl (aD.cons 6 rfl (aD.cons 7 rfl (aD.cons 8 rfl aD.nil)))))) ?_ ?_
 ·refine g3 ?_
  refine St.ee (Ev.kg rfl (.mk rfl)) ?_;refine St.ee (Ev.jb rfl (.mk rfl) Iu) ?_;refine St.slot 25 (cZ (.slice (some ⟨j,0,none⟩) m0 k) 3 e 2) rfl rfl ?_;refine St.ee (Ev.ct (.mk rfl) ID trivial (by omega) (show(rows fL L)[e*3+2]?=some (.bool x0.begun)from uB HF (by decide))) ?_;refine g3 ?_;refine St.cond _ rfl (λh27=> ?_) (λh27=> ?_)
  ·skip
   have hb0:x0.begun=false:=by simpa using h27
   have Iz:((L.map fm).getD e nq).begun=false:=by rw[gN (fY HF)];exact hb0
   refine g3 ?_;refine St.ee (Ev.kg rfl (.mk rfl)) ?_;refine St.ee (Ev.jb rfl (.mk rfl) Iu) ?_;refine St.slot 30 (cZ (.slice (some ⟨j,0,none⟩) m0 k) 3 e 2) rfl rfl ?_;refine St.cJ (.mk rfl) (.mk rfl) Bk rfl (by omega) (by decide) ?_;refine St.aM (.slice (some ⟨j,0,none⟩) m0 k) (show _=(L.set e x0.wb).length by rw[cn]) (show _=rows fL (L.set e x0.wb)from TH HF) ?_;refine St.Xn (bF (kK 71 196) L) (bF (kK 71 196) (L.set e x0.wb)) (NJ _ HF rfl) ?_;refine g8 ?_;refine St.ee (Ev.qx (.mk rfl) nV trivial rfl) ?_;refine g9 ?_;refine St.lH (ι:=Nat×List jK) (λ⟨w,b⟩ T=>(40,iv w)::T) (λ⟨w,b⟩=>(row (.slice (some ⟨j,0,none⟩) m0 k) 194 3 (b).length (rows fL (b))::aB (fM G [rv.1,xv.1,eF.1,(.slice (some ⟨j,0,none⟩) m0 k)])::aB (sl aJ rv.1 R)::aB (sl aJ xv.1 X)::aB (sl eD eF.1 its)::aB (aF cj its)::aB (sl mK y.wv.1 y.cW)::aB (cj y)::aW b6 (.cells [iv 0,(.slice none 0 0),iv 0,iv 0,(.slice none 0 0)].toArray 71 (0,0))::(bF (kK 71 196) b))) (λ⟨w,b⟩=>w≤y.cW.length∧b.map fm=E3 (⟨its.map cH,R,X⟩:cr) (fk (⟨its.map cH,R,X⟩:cr) f) e (L.map fm) w) (λ⟨w,b⟩=>y.cW.length-w) ⟨0,L.set e x0.wb⟩ (aD.cons 0 rfl (aD.cons 1 rfl (aD.cons 2 rfl (aD.cons 6 rfl (aD.cons 7 rfl (aD.cons 8 rfl (aD.cons 39 rfl aD.nil))))))) ⟨aP _,by show _=(L.map fm).set e _;rw[gN (fY HF),jm];rfl⟩ ?_;rintro ⟨w,b⟩ ⟨hw,Z⟩
   dsimp only at hw Z⊢
   have QU:=CV H Ud N S5 J3 Iz w (by omega)
   rw[←Z]at QU
   have hl1:=sb QU.ok
   obtain⟨a,n⟩:=aE (show e<b.length by omega);refine g6 ?_;refine St.cq (λh41=> ?_) (λh41=> ?_)
   ·have Lu:w<y.cW.length:=by omega
    obtain⟨A,hwy⟩:=aE Lu
    have SP:=U4 (R:=R) (X:=X) hy hwy
    have hwn:w<rO (⟨its.map cH,R,X⟩:cr) e:=by rw[hnw];exact Lu
    have hk3:A.kids.length≤3:=by have h:=afE H N hwn;rw[SP]at h;exact h
    have hnk:(bW A.kids).length=A.kids.length:=dY _
    refine St.ea (sl aJ A.kv.1 (bW A.kids)) [cj y] (λρ h=>h (cj y) (aQ ..) (aF mX y.cW) (cO _ (cO _ (aQ ..))) A (aZ hwy)) ?_;refine g2 ?_;refine St.join (ι:=List jK) (λs T=>T) (λs=>(row (.slice (some ⟨j,0,none⟩) m0 k) 194 3 (s).length (rows fL (s))::aB (fM G [rv.1,xv.1,eF.1,(.slice (some ⟨j,0,none⟩) m0 k)])::aB (sl aJ rv.1 R)::aB (sl aJ xv.1 X)::aB (sl eD eF.1 its)::aB (aF cj its)::aB (sl mK y.wv.1 y.cW)::aB (cj y)::aW b6 (.cells [iv 0,(.slice none 0 0),iv 0,iv 0,(.slice none 0 0)].toArray 71 (0,0))::(bF (kK 71 196) s))) (λs=>s.map fm=AU (⟨its.map cH,R,X⟩:cr) (fk (⟨its.map cH,R,X⟩:cr) f) e (b.map fm) w) (aD.cons 0 rfl (aD.cons 1 rfl (aD.cons 2 rfl (aD.cons 6 rfl (aD.cons 7 rfl (aD.cons 8 rfl (aD.cons 39 rfl (aD.cons 40 rfl aD.nil)))))))) ?_ ?_
    ·refine g15 ?_
     refine St.ee (Ev.qx (.mk rfl) nV trivial rfl) ?_;refine g9 ?_;refine St.nL (Rr:=aJ) (g:=0) (m:=A.kids.length) (sz:=1) rfl (.mk rfl) (.mk rfl) bJ dK eT xT (congrArg _ hnk) (congrArg _ hnk) (by omega) rfl rfl (λb60=> ?_);refine St.aM (.slice (some ⟨b60,0,none⟩) A.kids.length A.kids.length) (show _=(bW (List.replicate A.kids.length 0)).length by rw[dY,kG]) (show _=rows aJ (bW (List.replicate A.kids.length 0)) by unfold bW;rw[sC];rfl) ?_;refine St.bS (.slice (some ⟨b60,0,none⟩) A.kids.length A.kids.length) aJ (bW (List.replicate A.kids.length 0)) rfl rfl (λq hq=>by obtain⟨i,hi,rfl⟩:=dC.1 hq;rw[wg hi];show aa _;unfold aa;omega) ?_;refine St.pQ (ds:=[fM G [rv.1,xv.1,eF.1,(.slice (some ⟨j,0,none⟩) m0 k)],sl aJ rv.1 R,sl aJ xv.1 X,sl eD eF.1 its,aF cj its,sl aJ (⟨(.slice (some ⟨b60,0,none⟩) A.kids.length A.kids.length),rfl⟩:aV).1 (bW (List.replicate A.kids.length 0))]) (L:=[row (.slice (some ⟨j,0,none⟩) m0 k) 194 3 (b).length (rows fL (b))]) (X:=bF (kK 71 196) b) (post:=λv L' X'=>∃(p:List jK) (cc:ku) (o:Bool),n5 (⟨its.map cH,R,X⟩:cr) (fk (⟨its.map cH,R,X⟩:cr) f) (b.map fm) e w (List.replicate A.kids.length 0)=(p.map fm,if o then some (iR cc)else none)∧v= .tuple #[E9 cc,.bool o]∧L'=[row (.slice (some ⟨j,0,none⟩) m0 k) 194 3 (p).length (rows fL (p)),aB (hS cc)]∧X'=bF (kK 71 196) p) ((wJ G j m0 k rv xv eF R X its H f S9 e w (0) (⟨(.slice (some ⟨b60,0,none⟩) A.kids.length A.kids.length),rfl⟩) (List.replicate A.kids.length 0) b he S5 hwn (by rw[SP];exact kG) (λq hq=>by rw[wg hq];exact aR _) (by have:=H.ht e N;omega) QU.ok).mono (λv H' ⟨p,cc,o,a1,a2,a3⟩=>⟨[_,_],_,a3,p,cc,o,a1,a2,rfl,rfl⟩)) Zt (.gY rfl rfl rfl rfl) rfl ?_;rintro v61 _ _ ⟨p,cc,o,hch,rfl,rfl,rfl⟩;refine St.dQ ?_
     have hco:=Cg (D:=0) (ranks:=List.replicate A.kids.length 0) H Ud N S5 hwn (by rw[SP];exact kG) (λq hq=>by rw[wg hq];exact aR _) (by have:=H.ht e N;omega) QU.ok
     rw[hch]at hco
     have hs2:jn (⟨its.map cH,R,X⟩:cr) (p.map fm):=hco.1
     have hl2:=sb hs2
     obtain⟨l,SQ⟩:=aE (show e<p.length by omega)
     have NO:n5 (⟨its.map cH,R,X⟩:cr) (fk (⟨its.map cH,R,X⟩:cr) f) (b.map fm) e w (List.replicate ((⟨its.map cH,R,X⟩:cr).fz e w).kids.length 0)=(p.map fm,if o then some (iR cc)else none):=by rw[SP];exact hch
     refine g3 ?_;refine St.al (λb10=> ?_);refine St.sA (.mk rfl) (.mk rfl) jk ?_ (h1:=(eY.2 λu hu=>jN.one cc u hu));refine g8 ?_;refine St.cond _ rfl (λh64=> ?_) (λh64=> ?_)
     ·skip
      obtain rfl:o=true:=h64
      have M:=(hs2.nl e _ (fY SQ)).nl
      have Km:=(hs2.nl e _ (fY SQ)).dl
      have M:(l.next.map iR).length≤rO (⟨its.map cH,R,X⟩:cr) e+3*(l.done.map ma).length:=M
      have Km:(l.done.map ma).length+l6 (⟨its.map cH,R,X⟩:cr) e≤262:=Km
      rw[aO]at M Km;rw[aO]at M;refine St.JD (L:=p) (e:=e) 71 196 SQ ?_;refine St.dc (row (.slice (some ⟨j,0,none⟩) m0 k) 194 3 (p).length (rows fL (p))::row l.nv.1 196 7 (l.next).length (rows jN (l.next))::(bF (kK 71 196) (p.eraseIdx e))) mixed (λnp ns=> ?_);refine SW.gd 0 ?_;refine SW.gd 1 ?_;refine SW.dd 2 rfl (λ_=>Ev.kg rfl (.mk rfl)) ?_;refine SW.dd 3 rfl (λ_=>Ev.jb rfl (.mk rfl) ox) ?_;refine SW.slot 68 (cZ (.slice (some ⟨j,0,none⟩) m0 k) 3 e 1) rfl rfl ?_;refine SW.gd 5 ?_;refine SW.slot 70 (E9 cc) rfl rfl ?_;refine SW.t2 4 6 ?_ ?_
      focus
       refine St.ee (Ev.ct (.mk rfl) ic trivial (by omega) (nN SQ)) ?_;refine g2 ?_;refine SW.go ?_;refine SW.t1 6 ?_;refine St.gV rfl (.ar rfl) ic jk C9 rfl rfl (by simp[Value.cells]) rfl rfl (λb71=> ?_);refine g2 ?_;refine SW.go ?_;refine SW.t1 7 ?_;refine St.aj (.mk rfl) (.mk rfl) ic jk C9 Mb (by intro u hu;exact jN.one cc u hu) (by omega) (by omega) rfl rfl rfl rfl (λv72 akF=> ?_);refine St.aM v72 (show _=(l.next++ [cc]).length by rw[bR];rfl) (show _=rows jN (l.next++ [cc]) by rw[ay];rfl) ?_;refine St.ba v72 (λO _=> ?_);refine g2 ?_;refine SW.go ?_;refine SW.dd 8 rfl (λ_=>Ev.kg rfl (.mk rfl)) ?_;refine SW.dd 9 rfl (λ_=>Ev.jb rfl (.mk rfl) ox) ?_;refine SW.slot 74 (cZ (.slice (some ⟨j,0,none⟩) m0 k) 3 e 1) rfl rfl ?_;refine SW.t1 10 ?_;refine St.cJ (.mk rfl) (.mk rfl) Ji O (by omega) (by decide) ?_;refine St.aM (.slice (some ⟨j,0,none⟩) m0 k) (show _=(p.set e ⟨⟨l.dv.1,l.dv.2⟩,l.done,⟨v72,O⟩,l.next++ [cc],l.begun⟩).length by rw[cn]) (show _=rows fL (p.set e ⟨⟨l.dv.1,l.dv.2⟩,l.done,⟨v72,O⟩,l.next++ [cc],l.begun⟩)from oM SQ ⟨v72,O⟩ _) ?_;refine g2 ?_;refine SW.go ?_;refine SW.dn ?_
      rotate_left
      focus
       refine St.gV rfl (.ar rfl) ic jk C9 rfl rfl (by simp[Value.cells]) rfl rfl (λb71=> ?_);refine g2 ?_;refine SW.go ?_;refine SW.t1 4 ?_;refine St.ee (Ev.ct (.mk rfl) ic trivial (by omega) (nN SQ)) ?_;refine g2 ?_;refine SW.go ?_;refine SW.t1 7 ?_;refine St.aj (.mk rfl) (.mk rfl) ic jk C9 Mb (by intro u hu;exact jN.one cc u hu) (by omega) (by omega) rfl rfl rfl rfl (λv72 akF=> ?_);refine St.aM v72 (show _=(l.next++ [cc]).length by rw[bR];rfl) (show _=rows jN (l.next++ [cc]) by rw[ay];rfl) ?_;refine St.ba v72 (λO _=> ?_);refine g2 ?_;refine SW.go ?_;refine SW.dd 8 rfl (λ_=>Ev.kg rfl (.mk rfl)) ?_;refine SW.dd 9 rfl (λ_=>Ev.jb rfl (.mk rfl) ox) ?_;refine SW.slot 74 (cZ (.slice (some ⟨j,0,none⟩) m0 k) 3 e 1) rfl rfl ?_;refine SW.t1 10 ?_;refine St.cJ (.mk rfl) (.mk rfl) Ji O (by omega) (by decide) ?_;refine St.aM (.slice (some ⟨j,0,none⟩) m0 k) (show _=(p.set e ⟨⟨l.dv.1,l.dv.2⟩,l.done,⟨v72,O⟩,l.next++ [cc],l.begun⟩).length by rw[cn]) (show _=rows fL (p.set e ⟨⟨l.dv.1,l.dv.2⟩,l.done,⟨v72,O⟩,l.next++ [cc],l.begun⟩)from oM SQ ⟨v72,O⟩ _) ?_;refine g2 ?_;refine SW.go ?_;refine SW.dn ?_
      all_goals
       refine g2 ?_;refine St.ea (aF hS (l.next++ [cc])) [aF hS l.next,hS cc] (λρ h u hu=>by rcases cG.1 hu with hu|hu;exact h (aF hS l.next) (aQ ..) u hu;rw[bP]at hu;subst hu;exact h (hS u) (cO _ (aQ ..))) ?_;refine St.T1 (L:=p) (e:=e) 71 196 (l.dv.1) (l.dv.2) (l.done) (v72) (O) (l.next++ [cc]) (l.begun) (by omega) ?_;refine St.mE (p.set e ⟨⟨l.dv.1,l.dv.2⟩,l.done,⟨v72,O⟩,l.next++ [cc],l.begun⟩) (by rw[KP NO (fY SQ),jm];show(p.map fm).set e (⟨_,(l.next++ [cc]).map iR,_⟩:wF)=_;rw[cP];rfl)
     ·skip
      obtain rfl:o=false:=h64;refine g3 ?_;refine St.mE p (by rw[KO NO])
    ·intro s hL3
     refine g5 ?_;refine St.aH ⟨w+1,s⟩ ⟨by omega,by rw[B8,←Z];exact hL3⟩
   ·obtain rfl:w=y.cW.length:=by omega
    have M:=(QU.ok.nl e _ (fY n)).nl
    have Km:=(QU.ok.nl e _ (fY n)).dl
    have M:(a.next.map iR).length≤rO (⟨its.map cH,R,X⟩:cr) e+3*(a.done.map ma).length:=M
    have Km:(a.done.map ma).length+l6 (⟨its.map cH,R,X⟩:cr) e≤262:=Km
    rw[aO]at M Km;rw[aO]at M;refine St.JD (L:=b) (e:=e) 71 196 n ?_;refine g7 ?_;refine St.ee (Ev.kg rfl (.mk rfl)) ?_;refine St.ee (Ev.jb rfl (.mk rfl) ox) ?_;refine St.slot 78 (cZ (.slice (some ⟨j,0,none⟩) m0 k) 3 e 1) rfl rfl ?_;refine St.ee (Ev.iface (.mk rfl) underlying202 trivial) ?_;refine St.call (Kt j m0 k e b a n a.next (by omega)) ahW (.ar rfl) rfl ?_;rintro v80 _ ⟨P,rfl,J0,hm2,rfl⟩;refine St.iQ ?_;refine St.aM (.slice (some ⟨j,0,none⟩) m0 k) (show _=(b.set e ⟨⟨a.dv.1,a.dv.2⟩,a.done,⟨a.nv.1,a.nv.2⟩,P,a.begun⟩).length by rw[cn]) (show _=rows fL (b.set e ⟨⟨a.dv.1,a.dv.2⟩,a.done,⟨a.nv.1,a.nv.2⟩,P,a.begun⟩)from LP fL n rfl) ?_;refine St.T1 (L:=b) (e:=e) 71 196 (a.dv.1) (a.dv.2) (a.done) (a.nv.1) (a.nv.2) (P) (a.begun) (by omega) ?_;refine g2 ?_;refine St.mE (b.set e ⟨⟨a.dv.1,a.dv.2⟩,a.done,⟨a.nv.1,a.nv.2⟩,P,a.begun⟩) (by rw[E0 Iz,hnw,←Z,qz (fY n),gN (fY n),jm];show(b.map fm).set e (⟨_,P.map iR,_⟩:wF)=_;rw[J0];show _=(b.map fm).set e (⟨_,ti (a.next.map iR).length ((a.next.map iR).length/2) _,_⟩:wF);rw[aO];rfl)
  ·skip
   have hb0:x0.begun=true:=by simpa using h27
   refine g2 ?_;refine St.mE L (E2 (by rw[gN (fY HF)];exact hb0)).symm
 ·intro Lb hLb
  have hmb:=MN H Ud N S5 J3
  rw[←hLb]at hmb;refine g2 ?_;refine St.lH (ι:=Nat×List jK) (λ⟨m,b⟩ T=>T) (λ⟨m,b⟩=>(row (.slice (some ⟨j,0,none⟩) m0 k) 194 3 (b).length (rows fL (b))::aB (fM G [rv.1,xv.1,eF.1,(.slice (some ⟨j,0,none⟩) m0 k)])::aB (sl aJ rv.1 R)::aB (sl aJ xv.1 X)::aB (sl eD eF.1 its)::aB (aF cj its)::aB (sl mK y.wv.1 y.cW)::aB (cj y)::aW b6 (.cells [iv 0,(.slice none 0 0),iv 0,iv 0,(.slice none 0 0)].toArray 71 (0,0))::(bF (kK 71 196) b))) (λ⟨m,b⟩=>GO (⟨its.map cH,R,X⟩:cr) e (L.map fm) (b.map fm)∧u7 (⟨its.map cH,R,X⟩:cr) (fk (⟨its.map cH,R,X⟩:cr) f) e r m (b.map fm)=u7 (⟨its.map cH,R,X⟩:cr) (fk (⟨its.map cH,R,X⟩:cr) f) e r (r+1) (yQ (⟨its.map cH,R,X⟩:cr) (fk (⟨its.map cH,R,X⟩:cr) f) e (L.map fm))∧(∀x,b[e]?=some x→r+1≤m+x.done.length)) (λ⟨m,b⟩=>m) ⟨r+1,Lb⟩ (aD.cons 0 rfl (aD.cons 1 rfl (aD.cons 2 rfl (aD.cons 6 rfl (aD.cons 7 rfl (aD.cons 8 rfl aD.nil)))))) ⟨hmb,by rw[hLb],λx _=>(by omega)⟩ ?_;rintro ⟨m,b⟩ ⟨hmi,Q,hmf⟩
  dsimp only at hmi Q hmf⊢
  have hl1:=sb hmi.ok
  obtain⟨a,n⟩:=aE (show e<b.length by omega)
  have hmf:=hmf a n
  have hN1:=hmi.ok.nl e _ (fY n)
  have M:(a.next.map iR).length≤rO (⟨its.map cH,R,X⟩:cr) e+3*(a.done.map ma).length:=hN1.nl
  have Km:(a.done.map ma).length+l6 (⟨its.map cH,R,X⟩:cr) e≤262:=hN1.dl
  rw[aO]at M Km;rw[aO]at M;refine St.JD (L:=b) (e:=e) 71 196 n ?_;refine g4 ?_;refine St.ee (Ev.kg rfl (.mk rfl)) ?_;refine St.ee (Ev.jb rfl (.mk rfl) nJ) ?_;refine St.slot 83 (cZ (.slice (some ⟨j,0,none⟩) m0 k) 3 e 0) rfl rfl ?_;refine St.ee (Ev.ct (.mk rfl) oX trivial (by omega) (show(rows fL b)[e*3+0]?=some a.dv.1 from uB n (by decide))) ?_;refine g4 ?_;refine St.split 88 _ rfl (λWh=> ?_) (λWh=> ?_)
  ·have NR:a.done.length≤r:=by have:=fJ Wh;omega
   refine St.cD rfl rfl ?_;refine go ?_;refine St.cD rfl rfl ?_;refine St.ee (Ev.kg rfl (.mk rfl)) ?_;refine St.cD rfl rfl ?_;refine St.ee (Ev.jb rfl (.mk rfl) ox) ?_;refine St.slot 91 (cZ (.slice (some ⟨j,0,none⟩) m0 k) 3 e 1) rfl rfl ?_;refine St.cD rfl rfl ?_;refine St.ee (Ev.ct (.mk rfl) ic trivial (by omega) (nN n)) ?_;refine St.cD rfl rfl ?_;refine St.ee (Ev.wI (qn a.nv.1 a.next) RA (.ar rfl) ((dV.row dV.nil rfl rfl rfl (λ_ _=>trivial)))) ?_;refine St.cD rfl rfl ?_;refine go ?_;refine St.ee (Ev.gT (.mk rfl) rfl (.mk rfl)) ?_;refine g2 ?_;refine St.cq (λh95=> ?_) (λh95=> ?_)
   ·have I:0<a.next.length:=by omega
    obtain⟨hpi,W⟩:=Oc hmi (fY n) hr (by show(a.done.map ma).length≤r;rw[aO];exact NR) (by show 0<(a.next.map iR).length;rw[aO];exact I)
    have SH:=Su (B:=(⟨its.map cH,R,X⟩:cr)) (get:=(fk (⟨its.map cH,R,X⟩:cr) f)) (e:=e) (r:=r) (m:=m) (fY n) (by omega) (by show(a.done.map ma).length≤r;rw[aO];exact NR) (by show 0<(a.next.map iR).length;rw[aO];exact I)
    refine g6 ?_;refine St.ee (Ev.kg rfl (.mk rfl)) ?_;refine St.ee (Ev.jb rfl (.mk rfl) ox) ?_;refine St.slot 98 (cZ (.slice (some ⟨j,0,none⟩) m0 k) 3 e 1) rfl rfl ?_;refine St.ee (Ev.iface (.mk rfl) underlying202 trivial) ?_;refine St.call (Ko j m0 k e b a n a.next (by omega) I) ahX (.ar rfl) rfl ?_;rintro an5 _ ⟨u,E,z,rfl,hq3,hz,hm3,rfl⟩;refine St.iQ ?_;refine St.cL hS E (x:=z) (aZ hz) ?_;refine St.ea (aF hS (E.take (a.next.length-1))) [aF hS E] (λρ h u hu=>h (aF hS E) (aQ ..) u (C5 hu)) ?_;refine St.ea (sl aJ z.rv.1 (bW z.ranks)) [hS z] (λρ h=>h (hS z) (aQ ..) _ (cO _ (cO _ (aQ ..)))) ?_;refine St.ea (aF oK (a.done++ [z.rk])) [aF oK a.done,hS z] (λρ h u hu=>by rcases cG.1 hu with hu|hu;exact h (aF oK a.done) (aQ ..) u hu;rw[bP]at hu;subst hu;have hc:=h (hS z) (cO _ (aQ ..));intro d hd;simp only[List.mem_cons,List.not_mem_nil,or_false]at hd;rcases hd with rfl|rfl;exact hc _ (aQ ..);exact hc _ (cO _ (aQ ..))) ?_
    have Lr:(b.set e (a.wn u (E.take (a.next.length-1))))[e]?=some (a.wn u (E.take (a.next.length-1))):=fT (by omega)
    refine St.ee (Ev.assert (.mk rfl) uT trivial) ?_;refine St.slot 101 (E9 z) rfl rfl ?_;refine St.al (λQv=> ?_);refine St.sA (.mk rfl) (.mk rfl) jk ?_ (h1:=(eY.2 λu hu=>jN.one z u hu));refine g3 ?_;refine St.dc (row (.slice (some ⟨j,0,none⟩) m0 k) 194 3 (b.set e (a.wn u (E.take (a.next.length-1)))).length (rows fL (b.set e (a.wn u (E.take (a.next.length-1)))))::row a.dv.1 71 5 a.done.length (rows LJ a.done)::(bF (kK 71 196) (b.eraseIdx e))) mixed (λnp ns=> ?_);refine SW.gd 0 ?_;refine SW.gd 1 ?_;refine SW.dd 2 rfl (λ_=>Ev.kg rfl (.mk rfl)) ?_;refine SW.dd 3 rfl (λ_=>Ev.jb rfl (.mk rfl) nJ) ?_;refine SW.slot 105 (cZ (.slice (some ⟨j,0,none⟩) m0 k) 3 e 0) rfl rfl ?_;refine SW.gd 5 ?_;refine SW.dd 6 rfl (λ_=>Ev.iU 5 (.mk rfl) IG trivial vn rfl rfl) ?_;refine SW.slot 108 (kU z.rk) rfl rfl ?_;refine SW.t2 4 7 ?_ ?_
    focus
     refine St.ee (Ev.ct (.mk rfl) oX trivial (by rw[cn];omega) (show(rows fL _)[e*3+0]?=some a.dv.1 from uB (x:=a.wn u (E.take (a.next.length-1))) Lr (by decide))) ?_;refine g2 ?_;refine SW.go ?_;refine SW.t1 7 ?_;refine St.gV rfl (.ar rfl) oX vn Tv rfl rfl (by simp[Value.cells]) rfl rfl (λafR=> ?_);refine g2 ?_;refine SW.go ?_;refine SW.t1 8 ?_;refine St.aj (.mk rfl) (.mk rfl) oX vn Tv ZD (by intro u hu;exact LJ.one z.rk u hu) (by omega) (by omega) rfl rfl rfl rfl (λJ ac5=> ?_);refine St.aM J (show _=(a.done++ [z.rk]).length by rw[bR];rfl) (show _=rows LJ (a.done++ [z.rk]) by rw[ay];rfl) ?_;refine St.ba J (λS _=> ?_);refine g2 ?_;refine SW.go ?_;refine SW.dd 9 rfl (λ_=>Ev.kg rfl (.mk rfl)) ?_;refine SW.dd 10 rfl (λ_=>Ev.jb rfl (.mk rfl) nJ) ?_;refine SW.slot 112 (cZ (.slice (some ⟨j,0,none⟩) m0 k) 3 e 0) rfl rfl ?_;refine SW.t1 11 ?_;refine St.cJ (.mk rfl) (.mk rfl) V7 S (by rw[cn];omega) (by decide) ?_;refine St.aM (.slice (some ⟨j,0,none⟩) m0 k) (show _=(b.set e ⟨⟨J,S⟩,a.done++ [z.rk],⟨u.1,u.2⟩,E.take (a.next.length-1),a.begun⟩).length by rw[cn,cn]) (show _=rows fL (b.set e ⟨⟨J,S⟩,a.done++ [z.rk],⟨u.1,u.2⟩,E.take (a.next.length-1),a.begun⟩) by rw[FP Lr ⟨J,S⟩ (a.done++ [z.rk]),List.set_set];rfl) ?_;refine g2 ?_;refine SW.go ?_;refine SW.dn ?_
    rotate_left
    focus
     refine St.gV rfl (.ar rfl) oX vn Tv rfl rfl (by simp[Value.cells]) rfl rfl (λafR=> ?_);refine g2 ?_;refine SW.go ?_;refine SW.t1 4 ?_;refine St.ee (Ev.ct (.mk rfl) oX trivial (by rw[cn];omega) (show(rows fL _)[e*3+0]?=some a.dv.1 from uB (x:=a.wn u (E.take (a.next.length-1))) Lr (by decide))) ?_;refine g2 ?_;refine SW.go ?_;refine SW.t1 8 ?_;refine St.aj (.mk rfl) (.mk rfl) oX vn Tv ZD (by intro u hu;exact LJ.one z.rk u hu) (by omega) (by omega) rfl rfl rfl rfl (λJ ac5=> ?_);refine St.aM J (show _=(a.done++ [z.rk]).length by rw[bR];rfl) (show _=rows LJ (a.done++ [z.rk]) by rw[ay];rfl) ?_;refine St.ba J (λS _=> ?_);refine g2 ?_;refine SW.go ?_;refine SW.dd 9 rfl (λ_=>Ev.kg rfl (.mk rfl)) ?_;refine SW.dd 10 rfl (λ_=>Ev.jb rfl (.mk rfl) nJ) ?_;refine SW.slot 112 (cZ (.slice (some ⟨j,0,none⟩) m0 k) 3 e 0) rfl rfl ?_;refine SW.t1 11 ?_;refine St.cJ (.mk rfl) (.mk rfl) V7 S (by rw[cn];omega) (by decide) ?_;refine St.aM (.slice (some ⟨j,0,none⟩) m0 k) (show _=(b.set e ⟨⟨J,S⟩,a.done++ [z.rk],⟨u.1,u.2⟩,E.take (a.next.length-1),a.begun⟩).length by rw[cn,cn]) (show _=rows fL (b.set e ⟨⟨J,S⟩,a.done++ [z.rk],⟨u.1,u.2⟩,E.take (a.next.length-1),a.begun⟩) by rw[FP Lr ⟨J,S⟩ (a.done++ [z.rk]),List.set_set];rfl) ?_;refine g2 ?_;refine SW.go ?_;refine SW.dn ?_
    all_goals
     refine g2 ?_;refine St.T1 (L:=b) (e:=e) 71 196 (J) (S) (a.done++ [z.rk]) (u.1) (u.2) (E.take (a.next.length-1)) (a.begun) (by omega) ?_
     obtain⟨p,aaK⟩:∃p,p=b.set e ⟨⟨J,S⟩,a.done++ [z.rk],⟨u.1,u.2⟩,E.take (a.next.length-1),a.begun⟩:=⟨_,rfl⟩
     have hzK:FB (b.map fm) e=iR z:=by rw[JM (fY n)];show(pC (a.next.map iR)).getD ((a.next.map iR).length-1) Ih=_;rw[←hq3,aO];exact qu hz
     have hL2:p.map fm=LG (b.map fm) e:=by rw[Ob (fY n),aaK,jm];show(b.map fm).set e (⟨(a.done++ [z.rk]).map ma,(E.take (a.next.length-1)).map iR,_⟩:wF)=(b.map fm).set e (⟨_++ [((pC (a.next.map iR)).getD ((a.next.map iR).length-1) Ih).rk],(pC (a.next.map iR)).take ((a.next.map iR).length-1),_⟩:wF);rw[←hq3,aO,qu hz,cP,List.map_take];rfl
     rw[←hL2]at hpi;rw[hzK]at W;rw[hzK,←hL2]at SH
     have W:uc (⟨its.map cH,R,X⟩:cr) e a.done.length (iR z):=by have h:uc (⟨its.map cH,R,X⟩:cr) e (a.done.map ma).length (iR z):=W;rwa[aO]at h
     have hpi:Dr (⟨its.map cH,R,X⟩:cr) e (a.done.length+1) (L.map fm) 0 (p.map fm):=by have h:Dr (⟨its.map cH,R,X⟩:cr) e ((a.done.map ma).length+1) (L.map fm) 0 (p.map fm):=hpi;rwa[aO]at h
     rw[←aaK]
     have hz3:z.ranks.length≤3:=aeX H N W
     have hnz:(bW z.ranks).length=z.ranks.length:=dY _
     obtain⟨PF,hPF⟩:∃PF,PF=An (⟨its.map cH,R,X⟩:cr) (fk (⟨its.map cH,R,X⟩:cr) f) e (iR z) (iR z).ranks.length 0 (p.map fm):=⟨_,rfl⟩
     rw[←hPF]at SH;refine g8 ?_;refine St.lH (ι:=Nat×List jK) (λ⟨d,s⟩ T=>(116,iv d)::T) (λ⟨d,s⟩=>(row (.slice (some ⟨j,0,none⟩) m0 k) 194 3 (s).length (rows fL (s))::aB (fM G [rv.1,xv.1,eF.1,(.slice (some ⟨j,0,none⟩) m0 k)])::aB (sl aJ rv.1 R)::aB (sl aJ xv.1 X)::aB (sl eD eF.1 its)::aB (aF cj its)::aB (sl mK y.wv.1 y.cW)::aB (cj y)::aB (sl aJ z.rv.1 (bW z.ranks))::aW b6 (.cells [iv 0,(.slice none 0 0),iv 0,iv 0,(.slice none 0 0)].toArray 71 (0,0))::aW Qv (.cells [iv z.rk.wt,z.rk.cv.1,iv z.rk.tree.rule,iv z.rk.tree.lex,z.rk.tree.kv.1,iv (z.fz:Nat),z.rv.1].toArray 196 (0,0))::(bF (kK 71 196) s))) (λ⟨d,s⟩=>d≤z.ranks.length∧Dr (⟨its.map cH,R,X⟩:cr) e (a.done.length+1) (L.map fm) d (s.map fm)∧An (⟨its.map cH,R,X⟩:cr) (fk (⟨its.map cH,R,X⟩:cr) f) e (iR z) (z.ranks.length-d) d (s.map fm)=PF) (λ⟨d,s⟩=>z.ranks.length-d) ⟨0,p⟩ (aD.cons 0 rfl (aD.cons 1 rfl (aD.cons 2 rfl (aD.cons 6 rfl (aD.cons 7 rfl (aD.cons 8 rfl (aD.cons 12 rfl (aD.cons 115 rfl aD.nil)))))))) ⟨aP _,hpi,hPF.symm⟩ ?_;rintro ⟨d,s⟩ ⟨hd,Ui,Wb⟩
     dsimp only at hd Ui Wb⊢
     have hl3:=sb Ui.ok
     refine g6 ?_;refine St.cq (λWI=> ?_) (λWI=> ?_)
     ·obtain⟨rd,K⟩:=aE (show d<z.ranks.length by omega)
      have anJ:rd≤a.done.length:=W.rks rd (aZ K)
      have hgd:(iR z).ranks.getD d 0=rd:=by show z.ranks.getD d 0=rd;rw[aw,K];rfl
      obtain⟨r1,r2⟩:=JQ (d:=d) W;rw[hgd]at r1 r2
      have hD2:a.done.length+1+l6 (⟨its.map cH,R,X⟩:cr) e≤262:=by omega
      refine g14 ?_;refine St.ae (Dj z.rv.1 (bW z.ranks) (by omega)) ahY (.ar rfl) rfl ?_;rintro an8 _ ⟨u1,rfl,rfl⟩;refine St.ao ?_;refine g8 ?_;refine St.ee (Ev.ct (.mk rfl) gD trivial (by omega) (oL (gQ K))) ?_;refine go ?_;refine St.slot 126 (iv ((rd+1:Nat):Int)) rfl (congrArg iv (by push_cast;rfl)) ?_;refine go ?_;refine St.cJ (.mk rfl) (.mk rfl) dK rfl (by omega) (by decide) ?_;refine St.aM u1.1 (show _=(bW (z.ranks.set d (rd+1))).length by rw[dY,dY,cn]) (show _=rows aJ (bW (z.ranks.set d (rd+1)))from r7 _ _ _) ?_;refine St.bS u1.1 aJ (bW (z.ranks.set d (rd+1))) rfl rfl (λq hq=>by obtain⟨i,hi,rfl⟩:=dC.1 hq;have h2:=r2 i hi;show aa _;unfold aa;omega) ?_;refine g2 ?_;refine St.join (ι:=List jK) (λY T=>T) (λY=>(row (.slice (some ⟨j,0,none⟩) m0 k) 194 3 (Y).length (rows fL (Y))::aB (fM G [rv.1,xv.1,eF.1,(.slice (some ⟨j,0,none⟩) m0 k)])::aB (sl aJ rv.1 R)::aB (sl aJ xv.1 X)::aB (sl eD eF.1 its)::aB (aF cj its)::aB (sl mK y.wv.1 y.cW)::aB (cj y)::aB (sl aJ z.rv.1 (bW z.ranks))::aW b6 (.cells [iv 0,(.slice none 0 0),iv 0,iv 0,(.slice none 0 0)].toArray 71 (0,0))::aW Qv (.cells [iv z.rk.wt,z.rk.cv.1,iv z.rk.tree.rule,iv z.rk.tree.lex,z.rk.tree.kv.1,iv (z.fz:Nat),z.rv.1].toArray 196 (0,0))::(bF (kK 71 196) Y))) (λY=>Y.map fm=zM (⟨its.map cH,R,X⟩:cr) (fk (⟨its.map cH,R,X⟩:cr) f) e (iR z) d (s.map fm)) (aD.cons 0 rfl (aD.cons 1 rfl (aD.cons 2 rfl (aD.cons 6 rfl (aD.cons 7 rfl (aD.cons 8 rfl (aD.cons 12 rfl (aD.cons 13 rfl (aD.cons 115 rfl (aD.cons 116 rfl aD.nil)))))))))) ?_ ?_
      ·refine g7 ?_
       refine St.pQ (ds:=[fM G [rv.1,xv.1,eF.1,(.slice (some ⟨j,0,none⟩) m0 k)],sl aJ rv.1 R,sl aJ xv.1 X,sl eD eF.1 its,aF cj its,sl aJ (u1:aV).1 (bW (z.ranks.set d (rd+1)))]) (L:=[row (.slice (some ⟨j,0,none⟩) m0 k) 194 3 (s).length (rows fL (s))]) (X:=bF (kK 71 196) s) (post:=λv L' X'=>∃(C:List jK) (cc:ku) (o:Bool),n5 (⟨its.map cH,R,X⟩:cr) (fk (⟨its.map cH,R,X⟩:cr) f) (s.map fm) e z.fz (z.ranks.set d (rd+1))=(C.map fm,if o then some (iR cc)else none)∧v= .tuple #[E9 cc,.bool o]∧L'=[row (.slice (some ⟨j,0,none⟩) m0 k) 194 3 (C).length (rows fL (C)),aB (hS cc)]∧X'=bF (kK 71 196) C) ((wJ G j m0 k rv xv eF R X its H f S9 e z.fz ((a.done.length+1)) (u1) (z.ranks.set d (rd+1)) s he S5 W.fz r1 r2 hD2 Ui.ok).mono (λv H' ⟨C,cc,o,a1,a2,a3⟩=>⟨[_,_],_,a3,C,cc,o,a1,a2,rfl,rfl⟩)) Zt (.gY rfl rfl rfl rfl) rfl ?_;rintro al5 _ _ ⟨C,cc,o,hch,rfl,rfl,rfl⟩;refine St.dQ ?_
       have hco:=Cg (D:=a.done.length+1) H Ud N S5 W.fz r1 r2 hD2 Ui.ok
       have U:=DF (d:=d) H Ud N S5 W (by omega) Ui
       have NO:n5 (⟨its.map cH,R,X⟩:cr) (fk (⟨its.map cH,R,X⟩:cr) f) (s.map fm) e (iR z).fz ((iR z).ranks.set d ((iR z).ranks.getD d 0+1))=(C.map fm,if o then some (iR cc)else none):=by rw[hgd];exact hch
       have hqf:(n5 (⟨its.map cH,R,X⟩:cr) (fk (⟨its.map cH,R,X⟩:cr) f) (s.map fm) e (iR z).fz ((iR z).ranks.set d (rd+1))).1=C.map fm:=congrArg Prod.fst hch
       have WS:jn (⟨its.map cH,R,X⟩:cr) (C.map fm):=hqf▸hco.1
       have hl4:=sb WS
       obtain⟨t,V⟩:=aE (show e<C.length by omega);refine g3 ?_;refine St.al (λVb=> ?_);refine St.sA (.mk rfl) (.mk rfl) jk ?_ (h1:=(eY.2 λu hu=>jN.one cc u hu));refine g8 ?_;refine St.cond _ rfl (λNL=> ?_) (λNL=> ?_)
       ·skip
        obtain rfl:o=true:=NL
        have ab4:(t.next.map iR).length≤rO (⟨its.map cH,R,X⟩:cr) e+3*(t.done.map ma).length:=(WS.nl e _ (fY V)).nl
        have aj0:(t.done.map ma).length+l6 (⟨its.map cH,R,X⟩:cr) e≤262:=(WS.nl e _ (fY V)).dl
        rw[aO]at ab4 aj0;rw[aO]at ab4;refine St.JD (L:=C) (e:=e) 71 196 V ?_;refine St.dc (row (.slice (some ⟨j,0,none⟩) m0 k) 194 3 (C).length (rows fL (C))::row t.nv.1 196 7 (t.next).length (rows jN (t.next))::aB (aF hS t.next)::aB (hS cc)::(bF (kK 71 196) (C.eraseIdx e))) mixed (λnp ns=> ?_);refine SW.gd 0 ?_;refine SW.dd 1 rfl (λ_=>Ev.kg rfl (.mk rfl)) ?_;refine SW.dd 2 rfl (λ_=>Ev.jb rfl (.mk rfl) ox) ?_;refine SW.slot 140 (cZ (.slice (some ⟨j,0,none⟩) m0 k) 3 e 1) rfl rfl ?_;refine SW.dd 3 rfl (λ_=>Ev.iface (.mk rfl) underlying202 trivial) ?_;refine SW.gd 4 ?_;refine SW.slot 142 (E9 cc) rfl rfl ?_;refine SW.dd 5 rfl (λ_=>Ev.iface (.mk rfl) uT trivial) ?_;refine SW.t1 6 ?_;refine St.call (H9 j m0 k e C t V t.next (by omega) cc) ahZ (.aX rfl rfl) rfl ?_;rintro aoD _ ⟨u,P,rfl,J0,hm2,rfl⟩;refine St.iQ ?_;refine St.aM (.slice (some ⟨j,0,none⟩) m0 k) (show _=(C.set e ⟨⟨t.dv.1,t.dv.2⟩,t.done,⟨u.1,u.2⟩,P,t.begun⟩).length by rw[cn,cn]) (show _=rows fL (C.set e ⟨⟨t.dv.1,t.dv.2⟩,t.done,⟨u.1,u.2⟩,P,t.begun⟩)from rfl) ?_;refine g2 ?_;refine SW.go ?_;refine SW.dn ?_;refine go ?_;refine St.T1 (L:=C) (e:=e) 71 196 (t.dv.1) (t.dv.2) (t.done) (u.1) (u.2) (P) (t.begun) (by omega) ?_;refine St.mE (C.set e ⟨⟨t.dv.1,t.dv.2⟩,t.done,⟨u.1,u.2⟩,P,t.begun⟩) (by rw[LI NO (fY V),jm];show(C.map fm).set e (⟨_,P.map iR,_⟩:wF)=_;rw[J0];rfl)
       ·skip
        obtain rfl:o=false:=NL;refine g2 ?_;refine St.mE C (by rw[LH NO])
      ·intro Y hL5
       have U:=DF (d:=d) H Ud N S5 W (by omega) Ui
       rw[←hL5]at U;refine g6 ?_;refine St.ee (Ev.ld1 (.mk rfl) (gQ K) gD trivial rfl) ?_;refine g3 ?_;refine St.cq (λWK=> ?_) (λWK=> ?_)
       ·have aj3:Y.map fm=PF:=by rw[←Wb,FI K,aC (by omega)];exact hL5
        refine g7 ?_;refine St.aH ⟨m-1,Y⟩ ⟨uG U,by rw[aj3,←SH];exact Q,λx hx=>by obtain⟨x',Wj,WT,_⟩:=U.at_;rw[fY hx]at Wj;obtain rfl:=Option.some.inj Wj;have WT:(x.done.map ma).length=a.done.length+1:=WT;rw[aO]at WT;dsimp only;omega⟩
       ·refine g8 ?_
        refine St.aH ⟨d+1,Y⟩ ⟨by omega,U,by rw[←Wb,FI K];dsimp only;rw[aA (by omega),←hL5]⟩
     ·obtain rfl:d=z.ranks.length:=by omega
      rw[fh]at Wb
      have Wb:s.map fm=PF:=Wb
      refine g6 ?_;refine St.aH ⟨m-1,s⟩ ⟨uG Ui,by rw[Wb,←SH];exact Q,λx hx=>by obtain⟨x',Wj,WT,_⟩:=Ui.at_;rw[fY hx]at Wj;obtain rfl:=Option.some.inj Wj;have WT:(x.done.map ma).length=a.done.length+1:=WT;rw[aO]at WT;dsimp only;omega⟩
   ·have I:¬0<a.next.length:=by omega
    refine g7 ?_
    have HE:u7 (⟨its.map cH,R,X⟩:cr) (fk (⟨its.map cH,R,X⟩:cr) f) e r (r+1) (yQ (⟨its.map cH,R,X⟩:cr) (fk (⟨its.map cH,R,X⟩:cr) f) e (L.map fm))=b.map fm:=by rw[←Q];exact BP (fY n) (λh=>by have h1:(a.done.map ma).length≤r:=h.1;have h2:0<(a.next.map iR).length:=h.2;rw[aO]at h1 h2;first|exact NR h1|exact I h2)
    have SA:=BJ (⟨its.map cH,R,X⟩:cr) f (L.map fm) e r HE (fY n)
    refine g3 ?_;refine St.ee (Ev.kg rfl (.mk rfl)) ?_;refine St.ee (Ev.jb rfl (.mk rfl) nJ) ?_;refine St.slot 155 (cZ (.slice (some ⟨j,0,none⟩) m0 k) 3 e 0) rfl rfl ?_;refine St.ee (Ev.ct (.mk rfl) oX trivial (by omega) (show(rows fL b)[e*3+0]?=some a.dv.1 from uB n (by decide))) ?_;refine g4 ?_;refine St.cq (λWM=> ?_) (λWM=> ?_)
    ·have Na:(fm a).done[r]?=none:=by show(a.done.map ma)[r]?=none;rw[ij];rw[aO];omega
     rw[Na]at SA;refine g2 ?_;refine St.ee (Ev.build (bH.nil) (λw=>MV w)) ?_;refine St.slot 159 (.agg #[iv 0,(.slice none 0 0),iv 0,iv 0,(.slice none 0 0)]) rfl rfl ?_;refine go ?_;refine St.fp aJ ?_;refine St.fact (bx (.mk 0 0 bT [])) (λρ _ _=>qc _ _ _) ?_;refine St.ea (oK Jy) [sl aJ (.slice none 0 0) [],bx (.mk 0 0 bT [])] (λρ h=>h) ?_;refine St.DA (L:=b) (e:=e) 71 196 n ?_;refine g5 ?_;refine St.rV [_,_] (row (.slice (some ⟨j,0,none⟩) m0 k) 194 3 (b).length (rows fL (b))::aB (oK Jy)::(bF (kK 71 196) b)) ?_;exact⟨b,Jy,false,SA,rfl,rfl⟩
    ·obtain⟨F,WU⟩:=aE (show r<a.done.length by omega)
     have Ng:(fm a).done[r]?=some (ma F):=by show(a.done.map ma)[r]?=_;rw[bQ,WU];rfl
     rw[Ng]at SA;refine St.ea (oK F) [aF oK a.done] (λρ h=>h (aF oK a.done) (aQ ..) F (aZ WU)) ?_;refine g5 ?_;refine St.ee (Ev.kg rfl (.mk rfl)) ?_;refine St.ee (Ev.jb rfl (.mk rfl) nJ) ?_;refine St.slot 162 (cZ (.slice (some ⟨j,0,none⟩) m0 k) 3 e 0) rfl rfl ?_;refine St.ee (Ev.ct (.mk rfl) oX trivial (by omega) (show(rows fL b)[e*3+0]?=some a.dv.1 from uB n (by decide))) ?_;refine g2 ?_;refine St.ee (Ev.vM (R:=LJ) (.mk rfl) WU IG trivial vn (by omega)) ?_;refine St.slot 166 (kU F) rfl rfl ?_;refine St.sA (.mk rfl) (.mk rfl) vn ?_ (h1:=(eY.2 λu hu=>LJ.one F u hu));refine St.DA (L:=b) (e:=e) 71 196 n ?_;refine g4 ?_;refine St.rV [_,_] (row (.slice (some ⟨j,0,none⟩) m0 k) 194 3 (b).length (rows fL (b))::aB (oK F)::(bF (kK 71 196) b)) ?_;exact⟨b,F,true,SA,rfl,rfl⟩
  ·have NR:¬a.done.length≤r:=by have:=iX Wh;omega
   refine St.br rfl rfl rfl ?_;refine St.br rfl rfl rfl ?_;refine St.br rfl rfl rfl ?_;refine St.br rfl rfl rfl ?_;refine St.br rfl rfl rfl ?_;refine St.br rfl rfl rfl ?_;refine St.ee (Ev.kR (.mk rfl) rfl (.mk rfl)) ?_;refine g2 ?_;refine St.rm _ rfl rfl ?_;refine g7 ?_
   have HE:u7 (⟨its.map cH,R,X⟩:cr) (fk (⟨its.map cH,R,X⟩:cr) f) e r (r+1) (yQ (⟨its.map cH,R,X⟩:cr) (fk (⟨its.map cH,R,X⟩:cr) f) e (L.map fm))=b.map fm:=by rw[←Q];exact BP (fY n) (λh=>by have h1:(a.done.map ma).length≤r:=h.1;have h2:0<(a.next.map iR).length:=h.2;rw[aO]at h1 h2;first|exact NR h1|exact I h2)
   have SA:=BJ (⟨its.map cH,R,X⟩:cr) f (L.map fm) e r HE (fY n)
   refine g3 ?_;refine St.ee (Ev.kg rfl (.mk rfl)) ?_;refine St.ee (Ev.jb rfl (.mk rfl) nJ) ?_;refine St.slot 155 (cZ (.slice (some ⟨j,0,none⟩) m0 k) 3 e 0) rfl rfl ?_;refine St.ee (Ev.ct (.mk rfl) oX trivial (by omega) (show(rows fL b)[e*3+0]?=some a.dv.1 from uB n (by decide))) ?_;refine g4 ?_;refine St.cq (λWM=> ?_) (λWM=> ?_)
   ·have Na:(fm a).done[r]?=none:=by show(a.done.map ma)[r]?=none;rw[ij];rw[aO];omega
    rw[Na]at SA;refine g2 ?_;refine St.ee (Ev.build (bH.nil) (λw=>MV w)) ?_;refine St.slot 159 (.agg #[iv 0,(.slice none 0 0),iv 0,iv 0,(.slice none 0 0)]) rfl rfl ?_;refine go ?_;refine St.fp aJ ?_;refine St.fact (bx (.mk 0 0 bT [])) (λρ _ _=>qc _ _ _) ?_;refine St.ea (oK Jy) [sl aJ (.slice none 0 0) [],bx (.mk 0 0 bT [])] (λρ h=>h) ?_;refine St.DA (L:=b) (e:=e) 71 196 n ?_;refine g5 ?_;refine St.rV [_,_] (row (.slice (some ⟨j,0,none⟩) m0 k) 194 3 (b).length (rows fL (b))::aB (oK Jy)::(bF (kK 71 196) b)) ?_;exact⟨b,Jy,false,SA,rfl,rfl⟩
   ·obtain⟨F,WU⟩:=aE (show r<a.done.length by omega)
    have Ng:(fm a).done[r]?=some (ma F):=by show(a.done.map ma)[r]?=_;rw[bQ,WU];rfl
    rw[Ng]at SA;refine St.ea (oK F) [aF oK a.done] (λρ h=>h (aF oK a.done) (aQ ..) F (aZ WU)) ?_;refine g5 ?_;refine St.ee (Ev.kg rfl (.mk rfl)) ?_;refine St.ee (Ev.jb rfl (.mk rfl) nJ) ?_;refine St.slot 162 (cZ (.slice (some ⟨j,0,none⟩) m0 k) 3 e 0) rfl rfl ?_;refine St.ee (Ev.ct (.mk rfl) oX trivial (by omega) (show(rows fL b)[e*3+0]?=some a.dv.1 from uB n (by decide))) ?_;refine g2 ?_;refine St.ee (Ev.vM (R:=LJ) (.mk rfl) WU IG trivial vn (by omega)) ?_;refine St.slot 166 (kU F) rfl rfl ?_;refine St.sA (.mk rfl) (.mk rfl) vn ?_ (h1:=(eY.2 λu hu=>LJ.one F u hu));refine St.DA (L:=b) (e:=e) 71 196 n ?_;refine g4 ?_;refine St.rV [_,_] (row (.slice (some ⟨j,0,none⟩) m0 k) 194 3 (b).length (rows fL (b))::aB (oK F)::(bF (kK 71 196) b)) ?_;exact⟨b,F,true,SA,rfl,rfl⟩
theorem O4 {nf nn i:Int}:∀{l:kq} {last:Int},(Ae nf nn i last l).1=0→(∀x∈l,last<x.1)∧sH l∧∀x∈l,(0≤x.1∧x.1<nf)∧0≤x.2∧x.2<nn
 | [],_,_=>⟨λ_ h=>(by cases h),.nil,λ_ h=>(by cases h)⟩
 |x::l,last,h=>by
  rw[Ae]at h
  by_cases h1:x.1<0∨nf≤x.1∨x.2<0∨nn≤x.2
  ·rw[aC h1]at h;exact absurd h (by simp)
  rw[aA h1]at h
  by_cases d:x.1≤last
  ·rw[aC d]at h;exact absurd h (by simp)
  rw[aA d]at h;obtain⟨a,b,c⟩:=O4 h;refine⟨λy hy=> ?_,.cons (λy hy=>a y hy) b,λy hy=> ?_⟩
  ·rcases cK.1 hy with rfl|hy
   ·omega
   ·have:=a y hy;omega
  ·rcases cK.1 hy with rfl|hy
   ·omega
   ·exact c y hy
theorem tq {nt nf nn:Int}:∀{l:e8} {i:Nat},(fC nt nf nn i l).1=0→∀n∈l,(0≤n.1∧n.1<nt)∧sH n.2∧∀x∈n.2,(0≤x.1∧x.1<nf)∧0≤x.2∧x.2<nn
 | [],_,_,_,h=>by cases h
 |y::l,i,h,n,d=>by
  rw[fC]at h
  by_cases h1:y.1<0∨nt≤y.1
  ·rw[aC h1]at h;exact absurd h (by simp)
  rw[aA h1]at h
  by_cases a:(Ae nf nn i (-1) y.2).1≠0
  ·rw[aC a]at h;exact absurd h a
  rw[aA a]at h
  rcases cK.1 d with rfl|d
  ·obtain⟨_,b,c⟩:=O4 (iY.1 a)
   exact⟨by omega,b,c⟩
  ·exact tq h n d
theorem O7 {nt nf:Nat}{g:e8}(h:(fX nt nf g).1=0):e9 nt nf g∧g.length≤60:=by
 unfold fX at h
 by_cases h1:g.length=0∨60<g.length
 ·rw[aC h1]at h;exact absurd h (by simp)
 rw[aA h1]at h;exact⟨⟨by omega,λn a=>tq h n a⟩,by omega⟩
theorem wA {T:List eo}{Fs:List oc}{g:e8}(h:(dP T Fs g).1=0):e9 T.length Fs.length g∧g.length≤60:=by
 unfold dP at h
 by_cases h1:(fX T.length Fs.length g).1≠0
 ·rw[aC h1]at h;exact absurd h h1
 ·exact O7 (iY.1 h1)
theorem Ha {g:e8}{kids:Int}(h:nP g kids=true)(a:kids≤3):∀k:Int,0≤k→k≤kids→0≤rX g k:=λk b hk=>by
 unfold nP at h
 have:=eY.1 h k.toNat (dt.2 (by omega))
 rw[show((k.toNat:Nat):Int)=k by omega,eB hk]at this
 simpa using this
structure GQ (nt nf:Nat)(r:sm):Prop where
 kids:1≤r.kids∧r.kids≤3
 wt:0≤r.weight∧r.weight≤1000000
 gr:e9 nt nf r.graph
 len:r.graph.length≤60
 rX:∀k:Int,0≤k→k≤r.kids→0≤rX r.graph k
structure M4 (nt nf:Nat)(x:Dp):Prop where
 word:isWord x.word=true
 wt:0≤x.weight∧x.weight≤1000000
 gr:e9 nt nf x.graph
 len:x.graph.length≤60
structure M0 (g:fj):Prop where
 ty:ir g.types
 ft:g.cC.length≤40
 rn:g.rules.length≤40
 xn:g.aN.length≤100
 rule:∀r∈g.rules,GQ g.types.length g.cC.length r
 lex:∀x∈g.aN,M4 g.types.length g.cC.length x
 start:e9 g.types.length g.cC.length g.start∧g.start.length≤60
theorem P9 {T:List eo}{Fs:List oc}{r:sm}(h:pU T Fs r=0):GQ T.length Fs.length r:=by
 unfold pU at h
 by_cases h1:r.kids<1∨3<r.kids∨r.weight<0∨1000000<r.weight
 ·rw[aC h1]at h;exact absurd h (by decide)
 rw[aA h1]at h
 by_cases c:(dP T Fs r.graph).1≠0
 ·rw[aC c]at h;exact absurd h c
 rw[aA c]at h
 by_cases d:nP r.graph r.kids=false
 ·rw[aC d]at h;exact absurd h (by decide)
 obtain⟨a,b⟩:=wA (iY.1 c);exact⟨by omega,by omega,a,b,Ha (by simpa using d) (by omega)⟩
theorem Sk {T:List eo}{Fs:List oc}{x:Dp}(h:xH T Fs x=0):M4 T.length Fs.length x:=by
 unfold xH at h
 by_cases c:isWord x.word=false
 ·rw[aC c]at h;exact absurd h (by decide)
 rw[aA c]at h
 by_cases h1:x.weight<0∨1000000<x.weight
 ·rw[aC h1]at h;exact absurd h (by decide)
 rw[aA h1]at h
 by_cases d:(dP T Fs x.graph).1≠0
 ·rw[aC d]at h;exact absurd h d
 obtain⟨a,b⟩:=wA (iY.1 d);exact⟨by simpa using c,by omega,a,b⟩
theorem Ba {T:List eo}{Fs:List oc}:∀{l:List sm} {known:List bC} {i:Nat},(jd T Fs known i l).1=0→∀r∈l,GQ T.length Fs.length r
 | [],_,_,_,_,h=>by cases h
 |y::l,known,i,h,r,b=>by
  rw[jd]at h
  by_cases h1:isName y.name=false
  ·rw[aC h1]at h;exact absurd h (by simp)
  rw[aA h1]at h
  by_cases c:y.name∈known
  ·rw[aC c]at h;exact absurd h (by simp)
  rw[aA c]at h
  by_cases a:pU T Fs y≠0
  ·rw[aC a]at h;exact absurd h a
  rw[aA a]at h
  rcases cK.1 b with rfl|b
  ·exact P9 (iY.1 a)
  ·exact Ba h r b
theorem BO {T:List eo}{Fs:List oc}:∀{l:List Dp} {i:Nat},(jc T Fs i l).1=0→∀x∈l,M4 T.length Fs.length x
 | [],_,_,_,h=>by cases h
 |y::l,i,h,x,hx=>by
  rw[jc]at h
  by_cases a:xH T Fs y≠0
  ·rw[aC a]at h;exact absurd h a
  rw[aA a]at h
  rcases cK.1 hx with rfl|hx
  ·exact Sk (iY.1 a)
  ·exact BO h x hx
theorem vE {g:fj}(h:(jO g).1=0):M0 g:=by
 unfold jO at h
 by_cases h1:(jP g.types g.cC).1≠0
 ·rw[aC h1]at h;exact absurd h h1
 rw[aA h1]at h
 by_cases f:g.cC.length≤3
 ·rw[aC f]at h;exact absurd h (by simp)
 rw[aA f]at h
 by_cases i:40<g.rules.length∨100<g.aN.length
 ·rw[aC i]at h;exact absurd h (by simp)
 rw[aA i]at h
 by_cases b:(jd g.types g.cC [] 0 g.rules).1≠0
 ·rw[aC b]at h;exact absurd h b
 rw[aA b]at h
 by_cases c:(jc g.types g.cC 0 g.aN).1≠0
 ·rw[aC c]at h;exact absurd h c
 rw[aA c]at h
 by_cases d:(dP g.types g.cC g.start).1≠0
 ·rw[aC d]at h;exact absurd h d
 have a:=iY.1 h1
 unfold jP at a
 by_cases j:40<g.cC.length
 ·rw[aC j]at a;exact absurd a (by simp)
 rw[aA j]at a
 by_cases e:(Au g.types).1≠0
 ·rw[aC e]at a;exact absurd a e
 obtain⟨_,_,ht⟩:=I9 (iY.1 e);exact⟨ht,by omega,by omega,by omega,Ba (iY.1 b),BO (iY.1 c),wA (iY.1 d)⟩
theorem ze {nt nf n:Nat}:nZ nt nf n 1 0 ⟨[],List.replicate (n*(n+1)) []⟩:=by
 have a:∀k,(List.replicate (n*(n+1)) ([]:List Nat)).getD k []=[]:=λk=>by
  rw[aw,s9]
  split<;>rfl
 refine⟨⟨kG ..,λl b e he=> ?_,?_,λi j e _ he=> ?_,λit h=>(by cases h),λit h=>(by cases h),λit h=>(by cases h)⟩,aP _,λit h=>(by cases h),λi h=>(by cases h)⟩
 ·rw[(List.mem_replicate.1 b).2]at he;cases he
 ·show((List.replicate (n*(n+1)) ([]:List Nat)).map List.length).sum=0
  rw[sC];simp
 ·rw[show(⟨[],List.replicate (n*(n+1)) []⟩:Cs).sp=List.replicate (n*(n+1)) []from rfl,a]at he;cases he
theorem EY {N:Nat}(e:N≤256):∀(l m:kq) (u v:bC),l.length=m.length→(∀x∈l,(0≤x.1∧x.1<N)∧0≤x.2∧x.2<N)→(∀x∈m,(0≤x.1∧x.1<N)∧0≤x.2∧x.2<N)→vI l++u=vI m++v→l=m∧u=v
 | [],[],u,v,_,_,_,h=>⟨rfl,h⟩
 | [],_::_,_,_,h,_,_,_=>by cases h
 |_::_,[],_,_,h,_,_,_=>by cases h
 |a::l,b::m,u,v,f,c,d,h=>by
  have h:jv a.1::jv a.2::(vI l++u)=jv b.1::jv b.2::(vI m++v):=h
  rw[List.cons.injEq,List.cons.injEq]at h;obtain⟨h1,g,i⟩:=h;obtain⟨⟨j,a2⟩,a3,a4⟩:=c a (by simp);obtain⟨⟨k,z⟩,n,A⟩:=d b (by simp);obtain⟨p,q⟩:=a;obtain⟨r,s⟩:=b
  dsimp only at*
  have B:=lj (a:=p.toNat) (b:=r.toNat) (by omega) (by omega) (by rw[uZ j,uZ k];exact h1)
  have e2:=lj (a:=q.toNat) (b:=s.toNat) (by omega) (by omega) (by rw[uZ a3,uZ n];exact g)
  obtain⟨o,t⟩:=EY e l m u v (by simpa using f) (λx hx=>c x (by simp[hx])) (λx hx=>d x (by simp[hx])) i
  have w:p=r:=by omega
  have y:q=s:=by omega
  exact⟨by rw[o,w,y],t⟩
def Ly (g:e8):Prop:=∀n∈g,(0≤n.1∧n.1<(256:Nat))∧n.2.length<256∧∀x∈n.2,(0≤x.1∧x.1<(256:Nat))∧0≤x.2∧x.2<(256:Nat)
theorem EX:∀(l m:e8),Ly l→Ly m→yu l=yu m→l=m
 | [],[],_,_,_=>rfl
 | [],_::_,_,_,h=>by cases h
 |_::_,[],_,_,h=>by cases h
 |a::l,b::m,c,d,h=>by
  have h:jv a.1::jv (a.2.length:Nat)::(vI a.2++yu l)=jv b.1::jv (b.2.length:Nat)::(vI b.2++yu m):=h
  rw[List.cons.injEq,List.cons.injEq]at h;obtain⟨h1,e,f⟩:=h;obtain⟨⟨g,a2⟩,a3,a4⟩:=c a (by simp);obtain⟨⟨i,u⟩,j,k⟩:=d b (by simp);obtain⟨p,q⟩:=a;obtain⟨r,s⟩:=b
  dsimp only at*
  have v:=lj (a:=p.toNat) (b:=r.toNat) (by omega) (by omega) (by rw[uZ g,uZ i];exact h1)
  have e2:=lj a3 j e
  obtain⟨n,o⟩:=EY (aR 256) q s (yu l) (yu m) e2 a4 k f
  have t:p=r:=by omega
  rw[t,n,EX l m (λx hx=>c x (by simp[hx])) (λx hx=>d x (by simp[hx])) o]
theorem e9.yV {nt nf:Nat}{g:e8}(h:e9 nt nf g)(k:nt≤250)(l:nf≤250)(m:g.length≤60):Ly g:=λn d=>by
 obtain⟨h1,e,c⟩:=h.nd n d;refine⟨by omega,?_,λx hx=> ?_⟩
 ·have f:(n.2.map λz=>z.1.toNat).Nodup:=by
   unfold List.Nodup;rw[sF];exact wc (λ{a b} p q r=>by have:=(c a p).1;have:=(c b q).1;omega) e
  have:=kh f (n:=nf) (λj i=>by obtain⟨z,hz,rfl⟩:=dC.1 i;have:=(c z hz).1;omega)
  rw[aO]at this;omega
 ·have:=c x hx;omega
theorem key_inj {e d:og}(he:e.frm<256∧e.tqo<256∧e.cw<256∧Ly e.gr)(hd:d.frm<256∧d.tqo<256∧d.cw<256∧Ly d.gr)(h:fa e=fa d):e=d:=by
 unfold fa at h;rw[List.cons.injEq,List.cons.injEq,List.cons.injEq]at h;obtain⟨h1,a,b,c⟩:=h
 have f:=lj he.1 hd.1 h1
 have e2:=lj he.2.1 hd.2.1 a
 have g:=lj he.2.2.1 hd.2.2.1 b
 have i:=EX _ _ he.2.2.2 hd.2.2.2 c
 cases e;cases d;simp_all
def kO (cs:Cs)(tqo:Nat):Nat→List Nat→Prop
 |a,[]=>a=tqo
 |a,k::l=>k<cs.its.length∧(cs.ed k).frm=a∧kO cs tqo (cs.ed k).tqo l
def rz (mt:Nat→Nat→Option Nat):e8→Nat→List e8→Option e8
 |x,_,[]=>some x
 |x,k,y::l=>match nC mt x ((k:Nat):Int) y with
  |none=>none
  |some z=>rz mt z (k+1) l
theorem Bd {mt:Nat→Nat→Option Nat}:∀{l:List e8} {x z:e8} {k:Nat} (y:e8),rz mt x k l=some z→rz mt x k (l++ [y])=nC mt z ((k+l.length:Nat):Int) y
 | [],x,z,k,y,h=>by
  obtain rfl:=Option.some.inj h
  show(match nC mt x ((k:Nat):Int) y with|none=>none|some z=>rz mt z (k+1) [])=nC mt x ((k+0:Nat):Int) y
  rw[j5]
  cases nC mt x ((k:Nat):Int) y<;>rfl
 |a::l,x,z,k,y,h=>by
  rw[we,rz];rw[rz]at h
  cases b:nC mt x ((k:Nat):Int) a with
  |none=>rw[b]at h;cases h
  |some w=>
   rw[b]at h
   dsimp only at h⊢
   rw[Bd y h,fU,show k+1+l.length=k+(l.length+1) by omega]
def Zu (cs:Cs):List Nat→Nat
 | [k]=>(cs.ed k).cw+1
 |_=>0
def yK (Q:Qr)(words:List bC)(cs:Cs)(e:og)(w:uh):Prop:=
 (w.rule= -1∧w.kids=[]∧e.tqo=e.frm+1∧e.cw=0∧∃i:Nat,i<Q.aN.length∧w.lex=i∧(Q.aN.getD i QZ).word=words.getD e.frm []∧e.gr=gl (Q.aN.getD i QZ).graph 0)∨
 (∃i:Nat,i<Q.rules.length∧w.rule=i∧w.lex=0∧((w.kids.length:Nat):Int)=(Q.rules.getD i oP).kids∧kO cs e.tqo e.frm w.kids∧e.cw=Zu cs w.kids∧∃y,rz Q.mt (Q.rules.getD i oP).graph 1 (w.kids.map λk=>(cs.ed k).gr)=some y∧e.gr=mA y)
def gH (Q:Qr)(words:List bC)(cs:Cs):Prop:=∀it∈cs.its,∀w∈it.cW,yK Q words cs it.ed w
structure rG (cs fi:Cs):Prop where
 more:cs.its.length≤fi.its.length
 ed:∀i,i<cs.its.length→fi.ed i=cs.ed i
theorem Grow.stay {n frm tqo a:Nat}{cs fi:Cs}(h:Grow n frm tqo cs fi a):rG cs fi:=⟨h.more,h.ed⟩
theorem rG.refl (cs:Cs):rG cs cs:=⟨aR _,λ_ _=>rfl⟩
theorem rG.trans {x y z:Cs}(h:rG x y)(k:rG y z):rG x z:=⟨dW h.more k.more,λi a=>by rw[k.ed i (fO a h.more),h.ed i a]⟩
theorem kO.stay {cs fi:Cs}(h:rG cs fi){tqo:Nat}:∀{l:List Nat} {a:Nat},kO cs tqo a l→kO fi tqo a l
 | [],_,k=>k
 |i::l,a,⟨b,c,k3⟩=>⟨fO b h.more,by rw[h.ed i b];exact c,by rw[h.ed i b];exact kO.stay h k3⟩
theorem kO.lt {cs:Cs}{tqo:Nat}:∀{l:List Nat} {a:Nat},kO cs tqo a l→∀k∈l,k<cs.its.length
 | [],_,_,_,h=>by cases h
 |i::l,a,⟨b,_,k3⟩,k,h=>by
  rcases cK.1 h with rfl|h
  ·exact b
  ·exact kO.lt k3 k h
theorem kO.snoc {cs:Cs}{b tqo e:Nat}(he:e<cs.its.length)(h1:(cs.ed e).frm=b)(c:(cs.ed e).tqo=tqo):∀{l:List Nat} {a:Nat},kO cs b a l→kO cs tqo a (l++ [e])
 | [],a,k=>⟨he,by rw[h1];exact k.symm,c⟩
 |i::l,a,⟨d,f,k3⟩=>⟨d,f,kO.snoc he h1 c k3⟩
theorem OA {cs fi:Cs}(h:rG cs fi){l:List Nat}(a:∀k∈l,k<cs.its.length):(l.map λk=>(fi.ed k).gr)=l.map λk=>(cs.ed k).gr:=C1 λk hk=>by rw[h.ed k (a k hk)]
theorem yK.stay {Q:Qr}{words:List bC}{cs fi:Cs}(h:rG cs fi){e:og}{w:uh}(k:yK Q words cs e w):yK Q words fi e w:=by
 rcases k with k|⟨i,c,d,k3,f,a,g,y,j,l⟩
 ·exact .inl k
 ·have b:=a.lt
  refine .inr ⟨i,c,d,k3,f,a.stay h,?_,y,by rw[OA h b];exact j,l⟩;rw[g]
  match hk:w.kids with
  | []=>rfl
  | [q]=>show _=(fi.ed q).cw+1;rw[h.ed q (b q (by rw[hk];simp))];rfl
  |_::_::_=>rfl
theorem CK {nt nf n:Nat}(r:n≤12)(p:nt≤250)(q:nf≤250){Q:Qr}{words:List bC}{cs:Cs}(h:gi nt nf n cs)(g:gH Q words cs){e:og}{w:uh}(he:e.frm<e.tqo∧e.tqo≤n∧e.cw≤3∧e9 nt nf e.gr∧e.gr.length≤60)(hk:∀k∈w.kids,k<cs.its.length)(hw:yK Q words cs e w):gH Q words (kZ n cs e w):=by
 have b:=(yL r h he hk).2.stay
 have AD:∀it∈cs.its,∀w∈it.cW,yK Q words (kZ n cs e w) it.ed w→True:=λ_ _ _ _ _=>trivial
 intro it hit v a
 have l:(∃i,xj cs.its (fa e)=some i)∨xj cs.its (fa e)=none:=by
  cases xj cs.its (fa e)with
  |none=>exact .inr rfl
  |some i=>exact .inl ⟨i,rfl⟩
 rcases l with⟨i,f⟩|f
 ·have m:(kZ n cs e w).its=cs.its.modify i λit=>it.put w:=by unfold kZ;rw[f]
  rw[m]at hit;obtain⟨j,d,rfl⟩:=GA.1 hit;rw[pa]at d;rw[List.getElem_modify]at a⊢;obtain⟨x,hx,o⟩:=yw f
  by_cases c:i=j
  ·subst c
   rw[aC rfl]at a⊢
   have s:cs.its[i]=x:=by rw[bU d]at hx;exact Option.some.inj hx
   rcases cG.1 a with a|a
   ·exact(g _ (iG d) v a).stay b
   ·rw[bP.1 a]
    obtain⟨g1,g2,g3,g4,g5⟩:=h.gr cs.its[i] (iG d)
    have t:cs.its[i].ed=e:=key_inj ⟨by omega,by omega,by omega,g4.yV p q g5⟩ ⟨by omega,by omega,by omega,he.2.2.2.1.yV p q he.2.2.2.2⟩ (by rw[s];exact o)
    show yK Q words _ cs.its[i].ed w
    rw[t];exact hw.stay b
  ·rw[aA c]at a⊢
   exact(g _ (iG d) v a).stay b
 ·have m:(kZ n cs e w).its=cs.its++ [(⟨e,[],[]⟩:lL).put w]:=by unfold kZ;rw[f]
  rw[m]at hit
  rcases cG.1 hit with hit|hit
  ·exact(g it hit v a).stay b
  ·rw[bP.1 hit]at a⊢
   have a:v∈([]:List uh)++ [w]:=a
   rw[C7]at a;rw[bP.1 a];exact hw.stay b
theorem vD {β:Type}(f:Cs→β→Cs)(I:Cs→Prop):∀(l:List β) (cs:Cs),I cs→(∀cs x,x∈l→I cs→I (f cs x))→I (l.foldl f cs)
 | [],_,h,_=>h
 |x::l,cs,h,a=>vD f I l (f cs x) (a cs x (by simp) h) λcs y hy=>a cs y (by simp[hy])
theorem Fu {Q:Qr}{cs:Cs}{rule a e:Nat}{x y:e8}(h:lQ Q cs rule x a e=some y):nC Q.mt x a (cs.ed e).gr=some y:=by
 unfold lQ at h
 split at h
 ·exact h
 ·cases h
theorem Rg {nt nf:Nat}{Q:Qr}(A:Q.n≤12)(I:nt≤250)(J:nf≤250)(B:yF nt Q.mt){words:List bC}{rule frm tqo:Nat}(K:rule<Q.rules.length)(C:frm<tqo)(ht:tqo≤Q.n)(c:Nat→Nat→Nat):∀(l:Nat) (cs:Cs) (x:e8) (kids:List Nat) (a:Nat),
 im nt nf Q.n frm tqo c 0 cs→e9 nt nf x→(frm<a∨(a=frm∧1≤l))→a<tqo→gH Q words cs→kO cs a frm kids→((kids.length+l+1:Nat):Int)=(Q.rules.getD rule oP).kids→rz Q.mt (Q.rules.getD rule oP).graph 1 (kids.map λk=>(cs.ed k).gr)=some x→
 gH Q words (uz Q rule frm tqo l cs x kids a):=by
 intro l
 induction l using Nat.strongRecOn with|_ l L=> ?_
 intro cs x kids a M hx X N s b D O;rw[Iq]
 have t:∀z∈List.range' (nj l a tqo) (rK l a tqo),a<z∧z≤tqo∧(1≤l→z<tqo)∧(l=0→z=tqo):=λz hz=>by
  obtain⟨j,P,rfl⟩:=List.mem_range'.1 hz
  have:=Cm N P
  rw[Nat.one_mul];exact⟨this.1,this.2.1,this.2.2.2,this.2.2.1⟩
 refine(vD (Kb Q rule frm tqo l x kids a) (λfi=>im nt nf Q.n frm tqo c 0 fi∧gH Q words fi∧rG cs fi) _ cs ⟨M,s,rG.refl _⟩ (λd en R ⟨s1,S,E⟩=> ?_)).2.1;obtain⟨Y,e2,F,T⟩:=t en R
 have g:∀e∈d.at_ Q.n a en,e<d.its.length:=λe he=>s1.ok.qA he
 have h:∀e∈d.at_ Q.n a en,(d.ed e).frm=a∧(d.ed e).tqo=en:=λe he=>s1.ok.prt a en e (by omega) he
 have inner:=vD (tQ Q rule frm tqo l x kids en) (λfi=>im nt nf Q.n frm tqo c 0 fi∧gH Q words fi∧rG d fi) (d.at_ Q.n a en) d ⟨s1,S,rG.refl _⟩ (λf e he ⟨s2,u,p⟩=> ?_)
 ·exact⟨inner.1,inner.2.1,E.trans inner.2.2⟩
 have r:e<f.its.length:=fO (g e he) p.more
 have G:=p.ed e (g e he)
 have v:=E.trans p
 have i:∀k∈kids,k<f.its.length:=λk hk=>fO (b.lt k hk) v.more
 obtain⟨g1,g2⟩:=EK A B C ht c (l:=l) (rule:=rule) s2 hx (en:=en) ⟨by omega,F⟩ i r;refine⟨g1,?_,p.trans g2.stay⟩;unfold tQ
 cases hy:lQ Q f rule x (kids.length+1) e with
 |none=>exact u
 |some y=>
  dsimp only
  obtain⟨H,U,_⟩:=vq B s2.ok hx r hy
  have V:=Fu hy
  have m:kO f en frm (kids++ [e]):=kO.snoc r (by rw[G];exact(h e he).1) (by rw[G];exact(h e he).2) (b.stay v)
  have w:((kids++ [e]).map λk=>(f.ed k).gr)=(kids.map λk=>(cs.ed k).gr)++ [(f.ed e).gr]:=by rw[cP,OA v b.lt];rfl
  have o:rz Q.mt (Q.rules.getD rule oP).graph 1 ((kids++ [e]).map λk=>(f.ed k).gr)=some y:=by
   rw[w,Bd _ O,aO,Nat.add_comm 1];exact V
  cases l with
  |zero=>
   dsimp only
   obtain⟨m1,m2⟩:=qR H U
   have W:=T rfl
   subst W;refine CK A I J s2.ok u ⟨C,ht,aP _,m1,m2⟩ (λk hk=> ?_) (.inr ⟨rule,K,rfl,rfl,by rw[←D,bR];simp,m,?_,y,o,rfl⟩)
   ·rcases cG.1 hk with hk|hk
    ·exact i k hk
    ·rw[bP.1 hk];exact r
   ·cases kids with
    |nil=>
     have:frm=a:=b
     omega
    |cons q kids=>
     cases kids with
     |nil=>rfl
     |cons _ _=>rfl
  |succ l=>
   dsimp only
   exact L l (by omega) f y (kids++ [e]) en s2 H (.inl (by omega)) (F (by omega)) u m (by rw[←D,bR];simp;omega) o
theorem Sm {nt nf:Nat}{Q:Qr}(a:qo nt nf Q)(e:nt≤250)(f:nf≤250){words:List bC}{w:bC}{frm tqo i:Nat}(hw:w=words.getD frm [])(g:tqo=frm+1)(ht:tqo≤Q.n){cs:Cs}(h:gi nt nf Q.n cs)(b:gH Q words cs)(c:i<Q.aN.length):gH Q words (rN Q w frm tqo cs i):=by
 obtain⟨d,j⟩:=a.Um c;unfold rN
 split
 ·rename_i l
  obtain⟨f1,f2,_⟩:=td d d.pos;exact CK a.n e f h b ⟨by dsimp only;omega,ht,aP _,f1,dW f2 j⟩ (λk hk=>by cases hk) (.inl ⟨rfl,rfl,g,rfl,i,c,rfl,by rw[l,hw],rfl⟩)
 ·exact b
theorem TI {nt nf:Nat}{Q:Qr}(a:qo nt nf Q)(f:nt≤250)(g:nf≤250){words:List bC}{frm tqo i:Nat}{c:Nat→Nat→Nat}(b:frm<tqo)(ht:tqo≤Q.n){cs:Cs}(h:im nt nf Q.n frm tqo c 0 cs)(d:gH Q words cs)(e:i<Q.rules.length):gH Q words (rR Q frm tqo cs i):=by
 obtain⟨⟨k,k3⟩,j,_⟩:=a.vb e;unfold rR
 split
 ·rename_i l
  exact Rg a.n f g a.mt e b ht c _ cs _ [] frm h j (.inr ⟨rfl,by omega⟩) b d rfl (by show((0+((Q.rules.getD i oP).kids.toNat-1)+1:Nat):Int)=_;omega) rfl
 ·exact d
theorem Tf {nt nf:Nat}{Q:Qr}(a:qo nt nf Q)(f:nt≤250)(g:nf≤250){words:List bC}{frm tqo e i:Nat}(j:frm<tqo)(ht:tqo≤Q.n){cs:Cs}(h:gi nt nf Q.n cs)(b:gH Q words cs)(he:e<cs.its.length)(c:(cs.ed e).frm=frm∧(cs.ed e).tqo=tqo)(q:(cs.ed e).cw<3)(d:i<Q.rules.length):gH Q words (qd Q frm tqo e cs i):=by
 obtain⟨_,l,_⟩:=a.vb d;unfold qd
 split
 ·exact b
 ·rename_i hk
  cases hy:lQ Q cs i (Q.rules.getD i oP).graph 1 e with
  |none=>exact b
  |some x=>
   dsimp only
   obtain⟨m,o,_⟩:=vq a.mt h l he hy;obtain⟨m1,m2⟩:=qR m o
   have p:=Fu hy
   refine CK a.n f g h b ⟨j,ht,by dsimp only;omega,m1,m2⟩ (λk hk=>by rw[bP.1 hk];exact he) (.inr ⟨i,d,rfl,rfl,?_,⟨he,c.1,c.2⟩,rfl,x,?_,rfl⟩)
   ·show((1:Nat):Int)=_
    omega
   ·show(match nC Q.mt _ ((1:Nat):Int) (cs.ed e).gr with|none=>none|some z=>rz Q.mt z (1+1) [])=some x
    rw[p];rfl
theorem Qy {nt nf:Nat}{Q:Qr}(d:qo nt nf Q)(f:nt≤250)(g:nf≤250){words:List bC}{frm tqo:Nat}(e:frm<tqo)(ht:tqo≤Q.n){cs:Cs}(h:gi nt nf Q.n cs)(m:cs.its.length≤300)(k:gH Q words cs):gH Q words (mz Q words frm tqo cs):=by
 have l:im nt nf Q.n frm tqo (λi j=>(cs.at_ Q.n i j).length) 0 cs:=⟨h,λ_ _ _ _=>rfl,aP _⟩
 unfold mz
 split
 ·rename_i o
  exact(vD (rN Q (words.getD frm []) frm tqo) (λfi=>im nt nf Q.n frm tqo (λi j=>(cs.at_ Q.n i j).length) 0 fi∧gH Q words fi) _ cs ⟨l,k⟩ (λp i c ⟨a,b⟩=>⟨(z6 d e ht a (dt.1 c)).1,Sm d f g rfl o ht a.ok b (dt.1 c)⟩)).2
 ·exact(vD (rR Q frm tqo) (λfi=>im nt nf Q.n frm tqo (λi j=>(cs.at_ Q.n i j).length) 0 fi∧gH Q words fi) _ cs ⟨l,k⟩ (λp i c ⟨a,b⟩=>⟨(zV d e ht h m a (dt.1 c)).1,TI d f g e ht a b (dt.1 c)⟩)).2
theorem A0 {nt nf:Nat}{Q:Qr}(g:qo nt nf Q)(p:nt≤250)(q:nf≤250){words:List bC}{frm tqo:Nat}(j:frm<tqo)(ht:tqo≤Q.n):∀(f k:Nat) (cs:Cs),gi nt nf Q.n cs→gH Q words cs→gH Q words (qe Q frm tqo f k cs)
 |0,_,_,_,h=>h
 |f+1,k,cs,c,h=>by
  rw[qe]
  split
  ·rename_i hk
   have r:(cs.at_ Q.n frm tqo)[k]?=some ((cs.at_ Q.n frm tqo).getD k 0):=by rw[aw,bU hk];rfl
   have m:=aZ r
   have d:=c.qA m
   have s:=c.prt frm tqo _ (by omega) m
   split
   ·exact A0 g p q j ht f (k+1) cs c h
   ·rename_i w
    have x:(cs.ed ((cs.at_ Q.n frm tqo).getD k 0)).cw≤3:=by
     have:cs.ed ((cs.at_ Q.n frm tqo).getD k 0)=(cs.its[(cs.at_ Q.n frm tqo).getD k 0]'d).ed:=by unfold Cs.ed;rw[aw (l:=cs.its),bU d];rfl
     rw[this];exact(c.gr _ (iG d)).2.2.1
    have t:(cs.ed ((cs.at_ Q.n frm tqo).getD k 0)).cw<3:=by omega
    have hu:=Br g j ht (e:=(cs.at_ Q.n frm tqo).getD k 0) (ch:=(cs.ed ((cs.at_ Q.n frm tqo).getD k 0)).cw) t c d rfl
    refine A0 g p q j ht f (k+1) _ hu.ok ?_;refine(vD (qd Q frm tqo ((cs.at_ Q.n frm tqo).getD k 0)) (λfi=>gi nt nf Q.n fi∧gH Q words fi∧rG cs fi) _ cs ⟨c,h,rG.refl _⟩ (λz i v ⟨a,b,y⟩=> ?_)).2.1
    have o:=fO d y.more
    have u:=y.ed _ d
    have h1:=Jp g j ht a o (by rw[u]) t (dt.1 v)
    exact⟨h1.ok,Tf g p q j ht a b o (by rw[u];exact s) (by rw[u];exact t) (dt.1 v),y.trans h1.gr.stay⟩
  ·exact h
theorem JZ {nt nf len:Nat}{Q:Qr}(a:qo nt nf Q)(b:nt≤250)(c:nf≤250){words:List bC}{frm:Nat}(d:1≤len)(ht:frm+len≤Q.n){cs:Cs}(h:nZ nt nf Q.n len frm cs)(e:gH Q words cs):gH Q words (pJ Q words frm (frm+len) cs):=by
 obtain⟨f,_,_⟩:=DS a (words:=words) d ht h;exact A0 a b c (by omega) ht _ _ _ f (Qy a b c (by omega) ht h.ok h.xV e)
theorem Q7 {words:List bC}{k:Nat}{w:bC}(h:words[k]?=some w):xO k (words.drop k)=if isWord w=false then(10,(k:Int))else xO (k+1) (words.drop (k+1)):=by rw[bO h,xO]
theorem Tp {words:List bC}{k:Nat}(h:words.length≤k):xO k (words.drop k)=(0,0):=by rw[j6 h,xO]
theorem NA {L:List Dp}{words:List bC}{k:Nat}{w:bC}(h:words[k]?=some w):AX L k (words.drop k)=if w∈L.map (·.word)then AX L (k+1) (words.drop (k+1))else(6,(k:Int)):=by rw[bO h,AX]
theorem Rm {L:List Dp}{words:List bC}{k:Nat}(h:words.length≤k):AX L k (words.drop k)=(0,0):=by rw[j6 h,AX]
theorem vL {g:fj}{words:List bC}(h:(pj g words).1=0):0<words.length∧words.length≤12:=by
 unfold pj at h
 by_cases c:words.length=0∨12<words.length
 ·rw[aC c]at h;exact absurd h (by decide)
 ·omega
theorem Mm.D5 {c:Ctx}(a:TypeId){w:World}:∀(m:Nat) (H:List ak),Mm c H w→Mm c (bF (fx a) (List.replicate m (bT,[]))++H) w
 |0,_,h=>h
 |m+1,H,h=>by
  obtain⟨ρ,hm⟩:=(Mm.D5 a m H h).out;exact Mm.mk (hm.Aj rfl ⟨rfl,aR _⟩ rfl (aR _) (λ_ _=>rfl) (eN.2 (World.ownsRow_nil _ _ _ _)) (λb d=>by rw[eI]at d;simp[Value.ownBlock]at d))
theorem St.D5 {n:Nat}{F:Fr}{c:Ctx}{H H':List ak}{T:Act→World→Prop}(e d:TypeId)(m:Nat)[t:jE [] (bF (ep e d) []++bF (fx d) (List.replicate m (bT,[]))) H H'](h:St n F (Mm c H') T):St n F (Mm c H) T:=by
 obtain⟨L,a,b⟩:=t.eq
 refine h.o6 λw hw=> ?_
 rw[a,gu]at hw;obtain⟨ρ,k⟩:=(Mm.D5 d m L hw).out;rw[b];exact Mm.mk (k.perm jX)
theorem St.ae9 {n:Nat}{F:Fr}{c:Ctx}{H H':List ak}{T:Act→World→Prop}(X Y:List ak)[t:jE (X++Y) X H H'](h:St n F (Mm c H') T):St n F (Mm c H) T:=by
 obtain⟨L,a,b⟩:=t.eq
 refine h.o6 λw hw=> ?_
 rw[a,←dq]at hw;obtain⟨ρ,k⟩:=hw.out;rw[b];exact Mm.mk k.left
theorem TC {f:kz}{g:gW}{words:List bC}(h:wE f (bZ g) (hC (g.types.map dG)))(hk:∀r∈(bZ g).rules,r.kids≤3):kT f (g.types.map dG) words.length g=qrG (bZ g) words:=by
 unfold qrG kT
 rw[ME h hk];rfl
theorem XU {g:gW}(h:M0 (bZ g)){f:kz}{n:Nat}(b:n≤12):qo (g.types.map dG).length (g.cC.map gz).length (kT f (g.types.map dG) n g):=
 ⟨b,zD _,h.rn,h.xn,λr a=>⟨(h.rule r a).kids,(h.rule r a).gr,(h.rule r a).len⟩,λx hx=>⟨(h.lex x hx).gr,(h.lex x hx).len⟩⟩
theorem Tn {nt nf n len frm:Nat}{Q:Qr}{words:List bC}(a:qo nt nf Q){d:nE}(c:nZ nt nf n len frm d.cs)(hd:gH Q words d.cs):∀x∈d.its,x.cW.length≤3000000000000∧∀w∈x.cW,mK.wf w∧w.kids.length≤1000∧∀k∈w.kids,k<d.its.length:=λx hx=>by
 have hm:cH x∈d.cs.its:=eQ hx
 have h1:=c.cW _ hm
 have g:(cH x).cW.length=x.cW.length:=aO _
 unfold vf at h1;refine⟨by omega,λw hw=> ?_⟩
 have e:wyE w∈(cH x).cW:=eQ hw
 have hk:∀k∈w.kids,k<d.its.length:=λk hk=>by rw[←iT];exact c.ok.kids _ hm _ e k hk
 rcases hd _ hm _ e with⟨b,a2,_,_,i,f,a5,_⟩|⟨i,f,a2,a3,a4,_⟩
 ·have b:w.rule= -1:=b
  have a2:w.kids=[]:=a2
  have a5:w.lex=i:=a5
  have:=a.xn
  exact⟨⟨by rw[b];unfold aa;omega,by rw[a5];unfold aa;omega⟩,by rw[a2];exact aP _,hk⟩
 ·have a2:w.rule=i:=a2
  have a3:w.lex=0:=a3
  have a4:((w.kids.length:Nat):Int)=_:=a4
  have:=a.rn
  have h:=(a.vb f).1.2
  exact⟨⟨by rw[a2];unfold aa;omega,by rw[a3];unfold aa;omega⟩,by omega,hk⟩
theorem PL {nt nf n:Nat}{cs:Cs}(h:gi nt nf n cs){it:lL}(hit:it∈gn cs.its):it.ed.frm<it.ed.tqo∧it.ed.tqo≤n∧it.ed.cw≤3∧e9 nt nf it.ed.gr∧it.ed.gr.length≤60:=by
 unfold gn at hit;obtain⟨i,b,rfl⟩:=dC.1 hit
 have a:i<cs.its.length:=dt.1 ((ji _ _).mem_iff.1 b)
 have e:cs.its.getD i gh=cs.its[i]:=by rw[aw,bU a];rfl
 dsimp only
 rw[e];exact h.gr _ (iG a)
theorem Ed {Q:Qr}{words:List bC}{len m frm:Nat}{cs:Cs}(hm:0<m):Ad Q words len m frm cs=if 300<(pJ Q words frm (frm+len) cs).its.length then none else Ad Q words len (m-1) (frm+1) (pJ Q words frm (frm+len) cs):=by
 obtain⟨k,rfl⟩:∃k,m=k+1:=⟨m-1,by omega⟩
 rfl
theorem Dx {Q:Qr}{words:List bC}{len m:Nat}{cs:Cs}(hm:0<m):yM Q words m len cs=(Ad Q words len (Q.n+1-len) 0 cs).bind λcs=>yM Q words (m-1) (len+1) cs:=by
 obtain⟨k,rfl⟩:∃k,m=k+1:=⟨m-1,by omega⟩
 rfl
theorem yn {mt:Nat→Nat→Option Nat}{n:Nat}{start:e8}{its:List lL}{k:Nat}:((List.range (k+1)).filter λi=>decide ((its.getD i gh).ed.frm=0)&&decide ((its.getD i gh).ed.tqo=n)&&(dT mt (its.getD i gh).ed.gr 0 start).isSome)=
 ((List.range k).filter λi=>decide ((its.getD i gh).ed.frm=0)&&decide ((its.getD i gh).ed.tqo=n)&&(dT mt (its.getD i gh).ed.gr 0 start).isSome)++if(decide ((its.getD k gh).ed.frm=0)&&decide ((its.getD k gh).ed.tqo=n)&&(dT mt (its.getD k gh).ed.gr 0 start).isSome)=true then [k]else []:=by
 rw[ua,List.filter_append,List.filter_cons,List.filter_nil]
theorem Nw (g:gW)(wv:Value)(words:List bC):kX prog 87 #[fG g,wv] [sl e7 g.xv.1 g.aN,aF eR g.aN,sl bE wv words,u8] (fv (pj (bZ g) words)):=by
 refine kX.body (args:=[fG g,wv]) (ds:=[sl e7 g.xv.1 g.aN,aF eR g.aN,sl bE wv words,u8]) 69 func87 rfl ntmps87 rfl (λc s=> ?_);refine St.cast (H':=[aB (sl e7 g.xv.1 g.aN),aB (aF eR g.aN),aB (sl bE wv words),aB (u8)]) rfl ?_;refine go ?_;refine St.wf wv (λi B=> ?_);refine St.wf g.xv.1 (λC D=> ?_);refine go ?_;refine St.dJ (.mk rfl) rfl (λj=> ?_);refine St.al (λl=> ?_);refine g9 ?_;refine St.gf _ rfl rfl (λd=>Ev.move (.mk rfl)) rfl ?_;refine St.gf _ rfl rfl (λd=>Ev.fc (ah.gv rfl d) lE) rfl ?_;refine St.gf _ rfl rfl (λd=>Ev.gtr (ah.gv rfl d) (.mk rfl)) rfl ?_;refine g3 ?_;refine St.cq (λt=> ?_) (λt=> ?_)
 ·have hk:(pj (bZ g) words)=(9,-2):=by unfold pj;rw[aC (by omega)]
  refine g2 ?_;refine St.ee (Ev.build (bH.aX rfl rfl) (λw=>gj rfl rfl w)) ?_;refine g5 ?_;refine St.rV [_] [] ?_
  rw[hk];rfl
 ·have hk:(pj (bZ g) words)=if(xO 0 words).1≠0 then xO 0 words else AX (g.aN.map oe) 0 words:=by unfold pj;rw[aA (by omega)];rfl
  refine g11 ?_;refine St.lH (ι:=Nat) (λk T=>(25,iv k)::T) (λk=>[aW j (.cells (jG g).toArray 32 (0,0)),aW l (.cells [iv 0,iv 0].toArray 35 (0,0)),aB (sl e7 g.xv.1 g.aN),aB (aF eR g.aN),aB (sl bE wv words),aB (u8)]) (λk=>k≤words.length∧xO 0 words=xO k (words.drop k)) (λk=>words.length-k) 0 (aD.cons 1 rfl (aD.cons 2 rfl (aD.cons 4 rfl (aD.cons 23 rfl (aD.cons 24 rfl aD.nil))))) ⟨aP _,rfl⟩ ?_;rintro k ⟨v,e⟩;refine g6 ?_;refine St.cq (λy=> ?_) (λy=> ?_)
  ·obtain⟨w,hw⟩:=aE (show k<words.length by omega)
   have z:w.length≤140737488351232:=i w (aZ hw)
   have f:=Q7 hw
   refine g16 ?_;refine St.ee (Ev.mO s (ug w (by omega)) Vu (.ar rfl)) ?_;refine g3 ?_;refine St.cond _ rfl (λa=> ?_) (λa=> ?_)
   ·skip
    rw[aC (show isWord w=false by simpa using a)]at f;rw[e.trans f,aC (show(10:Int)≠0 by decide)]at hk;refine g3 ?_;refine St.ee (Ev.build (bH.aX rfl rfl) (λw=>gj rfl rfl w)) ?_;refine g9 ?_;refine St.rV [_] [] ?_
    rw[hk];rfl
   ·skip
    rw[aA (show ¬isWord w=false by simpa using a)]at f;refine g8 ?_;refine St.aH (k+1) ⟨by omega,e.trans f⟩
  ·rw[Tp (by omega)]at e
   rw[e,aA (by decide)]at hk;refine g7 ?_;refine St.makeMap mkStr rfl (λr=> ?_);refine g13 ?_;refine St.tm (ι:=Nat) (κ:=List (bC×Value)) (λq m T=>(40,iv q)::T) (λq m=>[aW r (eW mkStr m),aW j (.cells (jG g).toArray 32 (0,0)),aW l (.cells [iv 0,iv 0].toArray 35 (0,0)),aB (sl e7 g.xv.1 g.aN),aB (aF eR g.aN),aB (sl bE wv words),aB (u8)]) (λq m=>q≤g.aN.length∧KC m ((g.aN.take q).map eZ.word)) (λq m=>g.aN.length-q) 0 [] (aD.cons 1 rfl (aD.cons 4 rfl (aD.cons 7 rfl (aD.cons 38 rfl (aD.cons 39 rfl aD.nil))))) ⟨aP _,KC.nil⟩ ?_;rintro q m ⟨E,n⟩;refine g6 ?_;refine St.cq (λA=> ?_) (λA=> ?_)
   ·obtain⟨x,hx⟩:=aE (show q<g.aN.length by omega)
    refine g8 ?_;refine St.ee (Ev.js (.mk rfl) hx zw trivial nT j7.eq) ?_;refine St.al (λF=> ?_);refine go ?_;refine St.sA (.mk rfl) (.mk rfl) nT ?_ (h1:=(eY.2 λu hu=>e7.one x u hu));refine g7 ?_;refine St.mapUpdate mkStr (k:=x.word) (.mk rfl) (.mk rfl) (.mk rfl) pX (by exact vt) ?_;refine g8 ?_;refine St.ui (q+1) (l8 m x.word (iv q)) ⟨by omega,by rw[gX eZ.word hx];exact n.snoc _ _⟩
   ·obtain rfl:q=g.aN.length:=by omega
    rw[jY]at n;refine g14 ?_;refine St.lH (ι:=Nat) (λk T=>(52,iv k)::T) (λk=>[aW r (eW mkStr m),aW j (.cells (jG g).toArray 32 (0,0)),aW l (.cells [iv 0,iv 0].toArray 35 (0,0)),aB (sl e7 g.xv.1 g.aN),aB (aF eR g.aN),aB (sl bE wv words),aB (u8)]) (λk=>k≤words.length∧AX (g.aN.map oe) 0 words=AX (g.aN.map oe) k (words.drop k)) (λk=>words.length-k) 0 (aD.cons 4 rfl (aD.cons 7 rfl (aD.cons 50 rfl (aD.cons 51 rfl aD.nil)))) ⟨aP _,rfl⟩ ?_;rintro k ⟨v,h⟩;refine g6 ?_;refine St.cq (λo=> ?_) (λo=> ?_)
    ·obtain⟨w,hw⟩:=aE (show k<words.length by omega)
     have b:=NA (L:=g.aN.map oe) hw
     rw[kH]at b;refine g17 ?_;refine St.ee (Ev.tn mkStr (k:=w) (.mk rfl) (.mk rfl) pX (by exact vt) eT) ?_;refine g3 ?_;refine St.slot 62 (.bool (decide (w∈g.aN.map eZ.word))) rfl (congrArg Value.bool (n w)) ?_;refine g10 ?_;refine St.cond _ rfl (λp=> ?_) (λp=> ?_)
     ·skip
      rw[aA (show ¬w∈g.aN.map ((·.word)∘oe)from(by simpa using p:¬w∈g.aN.map eZ.word))]at b;rw[h.trans b]at hk;refine g3 ?_;refine St.ee (Ev.build (bH.aX rfl rfl) (λw=>gj rfl rfl w)) ?_;refine g9 ?_;refine St.rV [_] [] ?_
      rw[hk];rfl
     ·skip
      rw[aC (show w∈g.aN.map ((·.word)∘oe)from(by simpa using p:w∈g.aN.map eZ.word))]at b;refine g8 ?_;refine St.aH (k+1) ⟨by omega,h.trans b⟩
    ·rw[Rm (by omega)]at h
     rw[h]at hk;refine g7 ?_;refine St.ee (Ev.build (bH.nil) (λw=>ja w)) ?_;refine g4 ?_;refine St.rV [_] [] ?_
     rw[hk];rfl
theorem FF (g:gW)(wv:Value)(words:List bC):sk prog 50 #[fG g,wv] ([eu g,sl bE wv words,tz,u8].map aB) (λv H'=>∃(p u3:aV) (m:Nat) (d:List dL),v= .tuple #[.agg #[p.1,iv (m:Nat),u3.1],fv (dS (bZ g) words).2]∧d.map cH=(dS (bZ g) words).1.1∧H'=[aB (sl eD p.1 d),aB (aF cj d),aB (sl aJ u3.1 (bW (dS (bZ g) words).1.2))]):=by
 refine sk.body (args:=[fG g,wv]) 124 func50 rfl ntmps50 rfl (λc hdr=> ?_);refine St.cast (H':=[aB (eu g),aB (sl bE wv words),aB (tz),aB (u8)]) rfl ?_
 refine St.jQ (eu g) (λ_:Unit=>Gz g) (λρ h=>⟨(),h⟩) λ_=> ?_
 refine St.cast (H':=[aB (sl mw g.tv.1 g.types),aB (aF s6 g.types),aB (sl ga g.fv.1 g.cC),aB (sl cT g.rv.1 g.rules),aB (aF bz g.rules),aB (sl e7 g.xv.1 g.aN),aB (aF eR g.aN),aB (aG g.start),aB (eu g),aB (sl bE wv words),aB (tz),aB (u8)]) rfl ?_;refine g2 ?_;refine St.dJ (.mk rfl) rfl (λQ=> ?_);refine St.al (λF=> ?_);refine St.al (λG=> ?_);refine g6 ?_;refine St.slot 17 (fG g) rfl rfl ?_;refine St.ee (Ev.mO hdr (qL g) Vo (.ar rfl)) ?_;refine St.slot 18 (.agg #[iv (jO (bZ g)).1,iv (jO (bZ g)).2]) rfl rfl ?_;refine St.al (λb6=> ?_);refine g10 ?_;refine St.cq (λh21=> ?_) (λh21=> ?_)
 ·have l:(dS (bZ g) words)=(([],[]),jO (bZ g)):=by unfold dS;rw[aC h21]
  refine go ?_;refine St.pA [F,G] mixed (λnp ns=> ?_);refine SW.dd 0 rfl (λ_=>Ev.build (ps:=[]) (bH.nil) (λw=>CY w)) ?_;refine SW.gd 1 ?_;refine SW.t1 2 ?_;refine g3 ?_;refine SW.go ?_;refine SW.t1 3 ?_;refine g3 ?_;refine SW.go ?_;refine SW.dn ?_;refine g3 ?_;refine St.fp eD ?_;refine St.dN cj ?_;refine St.fp aJ ?_;refine St.rV [_,_] [aB (sl eD (.slice none 0 0) []),aB (aF cj []),aB (sl aJ (.slice none 0 0) [])] ?_;exact⟨bT,bT,0,[],by rw[l];rfl,by rw[l];rfl,by rw[l];rfl⟩
 ·have hg0:(jO (bZ g)).1=0:=by omega
  have s:=vE hg0
  have S:ir (g.types.map dG):=s.ty
  have hTl:=S.len
  have hFl:(g.cC.map gz).length≤40:=s.ft
  refine g6 ?_;refine St.slot 24 (fG g) rfl rfl ?_;refine go ?_;refine St.ee (Ev.mO hdr (Nw g wv words) ahR (.aX rfl rfl)) ?_;refine St.slot 26 (.agg #[iv (pj (bZ g) words).1,iv (pj (bZ g) words).2]) rfl rfl ?_;refine St.al (λb7=> ?_);refine g10 ?_;refine St.cq (λU=> ?_) (λU=> ?_)
  ·have l:(dS (bZ g) words)=(([],[]),(pj (bZ g) words)):=by unfold dS;rw[aA (λh=>h hg0),aC U]
   refine go ?_;refine St.pA [F,G] mixed (λnp ns=> ?_);refine SW.dd 0 rfl (λ_=>Ev.build (ps:=[]) (bH.nil) (λw=>CY w)) ?_;refine SW.gd 1 ?_;refine SW.t1 2 ?_;refine g3 ?_;refine SW.go ?_;refine SW.t1 3 ?_;refine g3 ?_;refine SW.go ?_;refine SW.dn ?_;refine g3 ?_;refine St.fp eD ?_;refine St.dN cj ?_;refine St.fp aJ ?_;refine St.rV [_,_] [aB (sl eD (.slice none 0 0) []),aB (aF cj []),aB (sl aJ (.slice none 0 0) [])] ?_;exact⟨bT,bT,0,[],by rw[l];rfl,by rw[l];rfl,by rw[l];rfl⟩
  ·have V:(pj (bZ g) words).1=0:=by omega
   obtain⟨hw0,I⟩:=vL V
   have hru:∀r∈g.rules,(1≤r.kids∧r.kids≤3)∧e9 (g.types.map dG).length (g.cC.map gz).length (ax r.graph)∧r.graph.nodes.length≤60:=λr J=>by have h:=s.rule (lK r) (eQ J);exact⟨h.kids,h.gr,by rw[←cy];exact h.len⟩
   have WW:∀x∈g.aN,e9 (g.types.map dG).length (g.cC.map gz).length (ax x.graph)∧x.graph.nodes.length≤60:=λx hx=>by have h:=s.lex (oe x) (eQ hx);exact⟨h.gr,by rw[←cy];exact h.len⟩
   have SJ:e9 (g.types.map dG).length (g.cC.map gz).length (ax g.start)∧g.start.nodes.length≤60:=⟨s.start.1,by rw[←cy];exact s.start.2⟩
   have GG:∀r∈g.rules,∀k:Int,0≤k→k≤r.kids→0≤rX (ax r.graph) k:=λr J=>(s.rule (lK r) (eQ J)).rX
   have hrn:g.rules.length≤40:=by have h:(g.rules.map lK).length≤40:=s.rn;rwa[aO]at h
   have hxn:g.aN.length≤100:=by have h:(g.aN.map oe).length≤100:=s.xn;rwa[aO]at h
   refine g7 ?_;refine St.ae (q7 g.tv.1 g.types S) Vr (.ar rfl) rfl ?_;rintro v35 _ ⟨a,b,rfl,rfl⟩;refine St.dQ ?_;refine St.al (λR=> ?_);refine g3 ?_;refine St.join (ι:=kz×aV×Nat×Nat×nE) (λ⟨f,sv,e,y,d0⟩ T=>(9,.pointer (some ⟨y,0,none⟩))::T) (λ⟨f,sv,e,y,d0⟩=>(aB (aF (λx:dL=>aG x.gr) d0.its)::aW y (.cells (nA g a b f words.length d0.eF.1 sv.1 e).toArray 180 (0,0))::aW e (eW mkStr d0.m)::row d0.eF.1 186 6 d0.its.length (rows eD d0.its)::row sv.1 58 1 d0.cA.length (rows bN (d0.cA.map Prod.fst))::aB (iP [hY f,sl cT g.rv.1 g.rules,aF bz g.rules,sl e7 g.xv.1 g.aN,aF eR g.aN])::aB (iP [sl bI a.1 (dg (g.types.map dG)),sl bI b.1 (de (g.types.map dG)),tz,sl bE wv words,aG g.start])::aW Q (.cells (jG g).toArray 32 (0,0))::aW F (.cells [(.slice none 0 0),iv 0,(.slice none 0 0)].toArray 120 (0,0))::aW G (.cells [iv 0,iv 0].toArray 35 (0,0))::aW R (.cells [a.1,b.1].toArray 100 (0,0))::(bF (ep 200 3) d0.its++bF (fx 3) d0.cA))) (λ⟨f,sv,e,y,d0⟩=>wE f (bZ g) (hC (g.types.map dG))∧d0.nS=sv∧lM d0∧d0.cs=(⟨[],List.replicate (words.length*(words.length+1)) []⟩:Cs)) (aD.cons 1 rfl (aD.cons 2 rfl (aD.cons 4 rfl (aD.cons 5 rfl (aD.cons 8 rfl aD.nil))))) ?_ ?_
   ·refine St.dc [aB (sl cT g.rv.1 g.rules),aB (aF bz g.rules),aB (sl e7 g.xv.1 g.aN),aB (aF eR g.aN),aB (aG g.start),aB (sl bI a.1 (dg (g.types.map dG))),aB (sl bI b.1 (de (g.types.map dG))),aB (tz)] mixed (λnp ns=> ?_)
    repeat' first
     |with_reducible refine SW.me ?_
      first
       |refine SW.gd 0 ?_
        refine SW.slot 36 (fG g) rfl rfl ?_
       |refine SW.gd 1 ?_
        refine SW.slot 37 (kB a b) rfl rfl ?_
       |refine SW.gd 2 ?_
        refine SW.slot 38 (fG g) rfl rfl ?_
       |refine SW.gd 3 ?_
        refine SW.slot 39 (kB a b) rfl rfl ?_
       |refine SW.gd 5 ?_
       |refine SW.gd 6 ?_
       |refine SW.dd 9 rfl (λ_=>Ev.build (ps:=[(0,(.tmp 36)),(1,(.tmp 37)),(2,(.tmp 40)),(4,(.tmp 43)),(5,(.tmp 44))]) (bH.Al rfl rfl rfl rfl rfl) (λw=>uo rfl w)) ?_
        refine SW.slot 45 (.agg (nA g a b f words.length bT.1 sv.1 e).toArray) rfl rfl ?_
       |refine SW.gd 11 ?_
       |refine SW.t2 4 8 ?_ ?_
       |refine SW.t2 7 8 ?_ ?_
       |refine SW.t1 8 ?_
       |refine SW.t1 10 ?_
       |refine SW.t1 7 ?_
       |refine SW.t1 4 ?_
     |with_reducible refine SW.tg 4 ?_
      refine St.ae (Qh g a b (g.types.map dG) S (g.cC.map gz).length (by omega) hrn hxn hru WW SJ GG) ahS (.aX rfl rfl) rfl ?_;rintro v40 _ ⟨f,rfl,A,rfl⟩;refine St.ao ?_;refine g2 ?_;refine SW.go ?_
     |with_reducible refine SW.tg 7 ?_
      refine St.call (Ak words.length I (words.length*(words.length+1)) rfl) ahT (.ar rfl) rfl ?_;rintro v43 _ ⟨sv,rfl,rfl⟩;refine St.ao ?_;refine g2 ?_;refine SW.go ?_
     |with_reducible refine SW.tg 8 ?_
      refine St.makeMap mkStr rfl (λe=> ?_);refine g2 ?_;refine SW.go ?_
     |with_reducible refine SW.tg 10 ?_
      refine St.dJ (.mk rfl) rfl (λy=> ?_);refine g2 ?_;refine SW.go ?_
    all_goals refine SW.dn ?_
    all_goals
     refine go ?_;refine St.aM sv.1 (show _=(List.replicate (words.length*(words.length+1)) ((bT,[]):aV×List Nat)).length by rw[kG,kG]) (show _=rows bN ((List.replicate (words.length*(words.length+1)) ((bT,[]):aV×List Nat)).map Prod.fst) by rw[sC]) ?_;refine St.dw 186 6 ?_;refine St.aM (.slice none 0 0) (show _=([]:List dL).length from rfl) (show _=rows eD []from rfl) ?_;refine St.dN (λx:dL=>aG x.gr) ?_;refine St.D5 200 3 (words.length*(words.length+1)) ?_;refine St.ea (iP [hY f,sl cT g.rv.1 g.rules,aF bz g.rules,sl e7 g.xv.1 g.aN,aF eR g.aN]) [hY f,sl cT g.rv.1 g.rules,aF bz g.rules,sl e7 g.xv.1 g.aN,aF eR g.aN] (λρ h=>h) ?_;refine St.ea (iP [sl bI a.1 (dg (g.types.map dG)),sl bI b.1 (de (g.types.map dG)),tz,sl bE wv words,aG g.start]) [sl bI a.1 (dg (g.types.map dG)),sl bI b.1 (de (g.types.map dG)),tz,sl bE wv words,aG g.start] (λρ h=>h) ?_;refine St.mE ⟨f,sv,e,y,(⟨bT,[],sv,List.replicate (words.length*(words.length+1)) (bT,[]),[]⟩:nE)⟩ ⟨A,rfl,⟨λ_ h=>(by cases h),xA.nil,.nil⟩,(by show(⟨_,_⟩:Cs)=_;rw[sC];rfl)⟩
   ·rintro ⟨f,sv,e,y,d0⟩ ⟨A,Y,hp0,hc0⟩
    dsimp only at A Y hp0 hc0⊢
    refine St.JG [sl bI a.1 (dg (g.types.map dG)),sl bI b.1 (de (g.types.map dG)),tz,sl bE wv words,aG g.start] ?_;refine St.cast (H':=(aB (sl bI a.1 (dg (g.types.map dG)))::aB (sl bI b.1 (de (g.types.map dG)))::aB (tz)::aB (sl bE wv words)::aB (aG g.start)::(aB (aF (λx:dL=>aG x.gr) d0.its)::aW y (.cells (nA g a b f words.length d0.eF.1 sv.1 e).toArray 180 (0,0))::aW e (eW mkStr d0.m)::row d0.eF.1 186 6 d0.its.length (rows eD d0.its)::row sv.1 58 1 d0.cA.length (rows bN (d0.cA.map Prod.fst))::aB (iP [hY f,sl cT g.rv.1 g.rules,aF bz g.rules,sl e7 g.xv.1 g.aN,aF eR g.aN])::aB (iP [sl bI a.1 (dg (g.types.map dG)),sl bI b.1 (de (g.types.map dG)),tz,sl bE wv words,aG g.start])::aW Q (.cells (jG g).toArray 32 (0,0))::aW F (.cells [(.slice none 0 0),iv 0,(.slice none 0 0)].toArray 120 (0,0))::aW G (.cells [iv 0,iv 0].toArray 35 (0,0))::aW R (.cells [a.1,b.1].toArray 100 (0,0))::(bF (ep 200 3) d0.its++bF (fx 3) d0.cA)))) rfl ?_;refine St.JG [hY f,sl cT g.rv.1 g.rules,aF bz g.rules,sl e7 g.xv.1 g.aN,aF eR g.aN] ?_;refine St.cast (H':=(aB (hY f)::aB (sl cT g.rv.1 g.rules)::aB (aF bz g.rules)::aB (sl e7 g.xv.1 g.aN)::aB (aF eR g.aN)::aB (sl bI a.1 (dg (g.types.map dG)))::aB (sl bI b.1 (de (g.types.map dG)))::aB (tz)::aB (sl bE wv words)::aB (aG g.start)::aB (aF (λx:dL=>aG x.gr) d0.its)::aW y (.cells (nA g a b f words.length d0.eF.1 sv.1 e).toArray 180 (0,0))::aW e (eW mkStr d0.m)::row d0.eF.1 186 6 d0.its.length (rows eD d0.its)::row sv.1 58 1 d0.cA.length (rows bN (d0.cA.map Prod.fst))::aB (iP [hY f,sl cT g.rv.1 g.rules,aF bz g.rules,sl e7 g.xv.1 g.aN,aF eR g.aN])::aB (iP [sl bI a.1 (dg (g.types.map dG)),sl bI b.1 (de (g.types.map dG)),tz,sl bE wv words,aG g.start])::aW Q (.cells (jG g).toArray 32 (0,0))::aW F (.cells [(.slice none 0 0),iv 0,(.slice none 0 0)].toArray 120 (0,0))::aW G (.cells [iv 0,iv 0].toArray 35 (0,0))::aW R (.cells [a.1,b.1].toArray 100 (0,0))::(bF (ep 200 3) d0.its++bF (fx 3) d0.cA))) rfl ?_
    have hFn:=A.ln (by have:=s.rn;omega) (by have:=s.xn;omega) (λr J=>(s.rule r J).kids.2)
    have hQ:=XU s (f:=f) I
    have hQs:=TC (words:=words) A (λr J=>(s.rule r J).kids.2)
    have ajR:f.nr=g.rules.length:=by rw[A.nr];exact aO _
    obtain⟨W,hW⟩:∃W,W=yM (kT f (g.types.map dG) words.length g) words words.length 1 (⟨[],List.replicate (words.length*(words.length+1)) []⟩:Cs):=⟨_,rfl⟩
    have ajM:xB (bZ g) words=W.map λcs=>gn cs.its:=by unfold xB;rw[←hQs,hW]
    have l:(dS (bZ g) words)=match xB (bZ g) words with|none=>(([],[]),(17,-2))|some its=>((its,Gw (hC (g.types.map dG)) words.length (ax g.start) its),(0,0)):=by unfold dS;rw[aA (λh=>h hg0),aA (λh=>h V)];rfl
    rw[ajM]at l;refine g7 ?_;refine St.lH (ι:=Nat×nE) (λ⟨i,d1⟩ T=>(10,iv ((i+1:Nat):Int))::T) (λ⟨i,d1⟩=>(aB (aF (λx:dL=>aG x.gr) d1.its)::aW y (.cells (nA g a b f words.length d1.eF.1 sv.1 e).toArray 180 (0,0))::aW e (eW mkStr d1.m)::row d1.eF.1 186 6 d1.its.length (rows eD d1.its)::row sv.1 58 1 d1.cA.length (rows bN (d1.cA.map Prod.fst))::aB (hY f)::aB (sl cT g.rv.1 g.rules)::aB (aF bz g.rules)::aB (sl e7 g.xv.1 g.aN)::aB (aF eR g.aN)::aB (sl bI a.1 (dg (g.types.map dG)))::aB (sl bI b.1 (de (g.types.map dG)))::aB (tz)::aB (sl bE wv words)::aB (aG g.start)::aW Q (.cells (jG g).toArray 32 (0,0))::aW F (.cells [(.slice none 0 0),iv 0,(.slice none 0 0)].toArray 120 (0,0))::aW G (.cells [iv 0,iv 0].toArray 35 (0,0))::aW R (.cells [a.1,b.1].toArray 100 (0,0))::(bF (ep 200 3) d1.its++bF (fx 3) d1.cA))) (λ⟨i,d1⟩=>i≤words.length∧d1.nS=sv∧lM d1∧nZ (g.types.map dG).length (g.cC.map gz).length words.length (i+1) 0 d1.cs∧gH (kT f (g.types.map dG) words.length g) words d1.cs∧yM (kT f (g.types.map dG) words.length g) words (words.length-i) (i+1) d1.cs=W) (λ⟨i,d1⟩=>words.length-i) ⟨0,d0⟩ (aD.cons 1 rfl (aD.cons 2 rfl (aD.cons 4 rfl (aD.cons 5 rfl (aD.cons 8 rfl (aD.cons 9 rfl aD.nil)))))) ⟨aP _,Y,hp0,by rw[hc0];exact ze,by rw[hc0];exact λit h=>(by cases h),by rw[hc0,hW];rfl⟩ ?_;rintro ⟨i,d1⟩ ⟨hi,Kr,Wa,B,K,Z⟩
    dsimp only at hi Kr Wa B K Z⊢
    refine g9 ?_;refine St.cq (λh50=> ?_) (λh50=> ?_)
    ·have SC:i<words.length:=by omega
     rw[Dx (by omega),show((kT f (g.types.map dG) words.length g)).n+1-(i+1)=words.length-i from(by show words.length+1-(i+1)=_;omega)]at Z;refine g10 ?_;refine St.lH (ι:=Nat×nE) (λ⟨fr,d2⟩ T=>(11,iv fr)::T) (λ⟨fr,d2⟩=>(aB (aF (λx:dL=>aG x.gr) d2.its)::aW y (.cells (nA g a b f words.length d2.eF.1 sv.1 e).toArray 180 (0,0))::aW e (eW mkStr d2.m)::row d2.eF.1 186 6 d2.its.length (rows eD d2.its)::row sv.1 58 1 d2.cA.length (rows bN (d2.cA.map Prod.fst))::aB (hY f)::aB (sl cT g.rv.1 g.rules)::aB (aF bz g.rules)::aB (sl e7 g.xv.1 g.aN)::aB (aF eR g.aN)::aB (sl bI a.1 (dg (g.types.map dG)))::aB (sl bI b.1 (de (g.types.map dG)))::aB (tz)::aB (sl bE wv words)::aB (aG g.start)::aW Q (.cells (jG g).toArray 32 (0,0))::aW F (.cells [(.slice none 0 0),iv 0,(.slice none 0 0)].toArray 120 (0,0))::aW G (.cells [iv 0,iv 0].toArray 35 (0,0))::aW R (.cells [a.1,b.1].toArray 100 (0,0))::(bF (ep 200 3) d2.its++bF (fx 3) d2.cA))) (λ⟨fr,d2⟩=>fr+i≤words.length∧d2.nS=sv∧lM d2∧nZ (g.types.map dG).length (g.cC.map gz).length words.length (i+1) fr d2.cs∧gH (kT f (g.types.map dG) words.length g) words d2.cs∧(Ad (kT f (g.types.map dG) words.length g) words (i+1) (words.length-i-fr) fr d2.cs).bind (λcs=>yM (kT f (g.types.map dG) words.length g) words (words.length-i-1) (i+1+1) cs)=W) (λ⟨fr,d2⟩=>words.length-fr) ⟨0,d1⟩ (aD.cons 1 rfl (aD.cons 2 rfl (aD.cons 4 rfl (aD.cons 5 rfl (aD.cons 8 rfl (aD.cons 9 rfl (aD.cons 10 rfl aD.nil))))))) ⟨by omega,Kr,Wa,B,K,Z⟩ ?_;rintro ⟨fr,d2⟩ ⟨hfr,Aa,Nb,E,hn2,hlen⟩
     dsimp only at hfr Aa Nb E hn2 hlen⊢
     refine g6 ?_;refine St.slot 55 (iv ((fr+(i+1):Nat):Int)) rfl (congrArg iv (by push_cast;omega)) ?_;refine g5 ?_;refine St.cq (λh58=> ?_) (λh58=> ?_)
     ·have S7:fr+(i+1)≤words.length:=by omega
      rw[Ed (by omega)]at hlen;refine g12 ?_;refine St.slot 66 (iv ((fr+(i+1):Nat):Int)) rfl (congrArg iv (by push_cast;omega)) ?_;refine St.pQ (ds:=[hY f,sl cT g.rv.1 g.rules,aF bz g.rules,sl e7 g.xv.1 g.aN,aF eR g.aN,sl bI a.1 (dg (g.types.map dG)),sl bI b.1 (de (g.types.map dG)),tz,sl bE wv words,aF (λx:dL=>aG x.gr) d2.its]) (L:=[aW y (.cells (nA g a b f words.length d2.eF.1 sv.1 e).toArray 180 (0,0)),aW e (eW mkStr d2.m),row d2.eF.1 186 6 d2.its.length (rows eD d2.its),row sv.1 58 1 d2.cA.length (rows bN (d2.cA.map Prod.fst))]) (X:=(bF (ep 200 3) d2.its++bF (fx 3) d2.cA)) (post:=λv L' X'=>∃d3:nE,d3.cs=pJ (kT f (g.types.map dG) words.length g) words fr (fr+(i+1)) d2.cs∧d3.nS=sv∧lM d3∧L'=[aB (aF (λx:dL=>aG x.gr) d3.its),aW y (.cells (nA g a b f words.length d3.eF.1 sv.1 e).toArray 180 (0,0)),aW e (eW mkStr d3.m),row d3.eF.1 186 6 d3.its.length (rows eD d3.its),row sv.1 58 1 d3.cA.length (rows bN (d3.cA.map Prod.fst))]∧X'=(bF (ep 200 3) d3.its++bF (fx 3) d3.cA)) ((LZ g a b (g.types.map dG) S (g.cC.map gz).length (by omega) f hFn words.length I y e sv wv words rfl ajR hQ GG fr (fr+(i+1)) (i+1) (by omega) rfl S7 d2 Aa Nb E).mono (λv H' ⟨d3,H,a2,a3,a4⟩=>⟨_,_,a4,d3,H,a2,a3,rfl,rfl⟩)) ahU (.gY rfl rfl rfl rfl) rfl ?_;rintro v67 _ _ ⟨d3,H,a2,a3,rfl,rfl⟩;refine St.CP ?_;refine g12 ?_;refine St.cq (λh73=> ?_) (λh73=> ?_)
      ·rw[aC (by rw[←H,iT];omega)]at hlen
       have hWn:W=none:=hlen.symm
       rw[hWn]at l;refine g2 ?_;refine St.ee (Ev.build (bH.nil) (λw=>CY w)) ?_;refine St.ee (Ev.build (bH.aX rfl rfl) (λw=>gj rfl rfl w)) ?_;refine g14 ?_;refine St.fp eD ?_;refine St.dN cj ?_;refine St.fp aJ ?_;refine St.rV [_,_] [aB (sl eD (.slice none 0 0) []),aB (aF cj []),aB (sl aJ (.slice none 0 0) [])] ?_;exact⟨bT,bT,0,[],by rw[l];rfl,by rw[l];rfl,by rw[l];rfl⟩
      ·have hle:¬300<(pJ (kT f (g.types.map dG) words.length g) words fr (fr+(i+1)) d2.cs).its.length:=by rw[←H,iT];omega
       rw[aA hle,←H]at hlen
       have hs3:=Fa hQ (words:=words) (show 1≤i+1 by omega) S7 E hle
       have hn3:=JZ hQ (by omega) (by omega) (show 1≤i+1 by omega) S7 E hn2
       rw[←H]at hs3 hn3;refine g9 ?_;refine St.aH ⟨fr+1,d3⟩ ⟨by omega,a2,a3,hs3,hn3,by dsimp only;rw[show words.length-i-(fr+1)=words.length-i-fr-1 by omega];exact hlen⟩
     ·rw[show words.length-i-fr=0 by omega]at hlen
      have ab2:yM (kT f (g.types.map dG) words.length g) words (words.length-i-1) (i+1+1) d2.cs=W:=hlen
      refine g12 ?_;refine St.aH ⟨i+1,d2⟩ ⟨by omega,Aa,Nb,JY E,hn2,by dsimp only;rw[show words.length-(i+1)=words.length-i-1 by omega];exact ab2⟩
    ·obtain rfl:i=words.length:=by omega
     rw[fh]at Z
     have hWs:W=some d1.cs:=Z.symm
     rw[hWs]at l;refine g13 ?_;refine St.ee (Ev.build (bH.aX rfl rfl) (λw=>Gd d1.eF.2 rfl w)) ?_;refine St.slot 82 (.agg #[d1.eF.1,iv (words.length:Nat),(.slice none 0 0)]) rfl rfl ?_;refine St.al (λQv=> ?_);refine g5 ?_
     have ajO:=B.xV
     rw[iT]at ajO;refine St.ae9 (bF (ep 200 3) (d1.its)) (bF (fx 3) d1.cA) ?_;refine St.pQ (ds:=[aF (λx:dL=>aG x.gr) d1.its]) (L:=[aW Qv (.cells [d1.eF.1,iv (words.length:Nat),(.slice none 0 0)].toArray 120 (0,0)),row d1.eF.1 186 6 d1.its.length (rows eD d1.its)]) (X:=bF (ep 200 3) (d1.its)) (post:=λv L' X'=>∃(p:aV) (d:List dL),d.map cH=gn (d1.its.map cH)∧L'=[aW Qv (.cells [p.1,iv (words.length:Nat),(.slice none 0 0)].toArray 120 (0,0)),aB (sl eD p.1 d),aB (aF cj d)]∧X'=[]) ((LY Qv words.length d1.eF d1.its Wa.nd (by omega) (Tn hQ B K)).mono (λv H' ⟨p,d,H,a2⟩=>⟨[_,_,_],[],a2,p,d,H,rfl,rfl⟩)) ahV (.ar rfl) rfl ?_;rintro v83 _ _ ⟨p,d,E,rfl,rfl⟩;refine St.iQ ?_;refine St.wf p.1 (λ_ hl2=> ?_);refine g12 ?_;refine St.dw 3 1 ?_;refine St.aM (.slice none 0 0) (show _=([]:List Nat).length from rfl) (show _=rows aJ (bW [])from rfl) ?_
     have hl3:d.length≤300:=by have h:=congrArg List.length E;rw[aO]at h;unfold gn at h;rw[aO]at h;have h2:(l9 (d1.its.map cH)).length=_:=(ji _ _).length_eq;rw[jV,aO]at h2;omega
     refine St.lH (ι:=Nat×aV×List Nat) (λ⟨k,C,j⟩ T=>(87,iv k)::T) (λ⟨k,C,j⟩=>(row C.1 3 1 (j).length (rows aJ (bW (j)))::aW Qv (.cells [p.1,iv (words.length:Nat),C.1].toArray 120 (0,0))::aB (sl eD p.1 d)::aB (aF cj d)::aB (hY f)::aB (sl cT g.rv.1 g.rules)::aB (aF bz g.rules)::aB (sl e7 g.xv.1 g.aN)::aB (aF eR g.aN)::aB (sl bI a.1 (dg (g.types.map dG)))::aB (sl bI b.1 (de (g.types.map dG)))::aB (tz)::aB (sl bE wv words)::aB (aG g.start)::aW Q (.cells (jG g).toArray 32 (0,0))::aW F (.cells [(.slice none 0 0),iv 0,(.slice none 0 0)].toArray 120 (0,0))::aW G (.cells [iv 0,iv 0].toArray 35 (0,0))::aW R (.cells [a.1,b.1].toArray 100 (0,0))::[])) (λ⟨k,C,j⟩=>k≤d.length∧j=((List.range (k)).filter λi=>decide ((((d.map cH)).getD i gh).ed.frm=0)&&decide ((((d.map cH)).getD i gh).ed.tqo=words.length)&&(dT (hC (g.types.map dG)) (((d.map cH)).getD i gh).ed.gr 0 (ax g.start)).isSome)) (λ⟨k,C,j⟩=>d.length-k) ⟨0,bT,[]⟩ (aD.cons 2 rfl (aD.cons 4 rfl (aD.cons 5 rfl (aD.cons 8 rfl (aD.cons 12 rfl (aD.cons 85 rfl (aD.cons 86 rfl aD.nil))))))) ⟨aP _,rfl⟩ ?_;rintro ⟨k,C,j⟩ ⟨hk,o⟩
     dsimp only at hk o⊢
     have am6:j.length≤k:=by rw[o];exact dW (G9 _ _) (Nat.le_of_eq jV)
     refine g6 ?_;refine St.cq (λh88=> ?_) (λh88=> ?_)
     ·obtain⟨x,hx⟩:=aE (show k<d.length by omega)
      have M:(d.map cH).getD k gh=cH x:=by rw[aw,bQ,hx];rfl
      obtain⟨_,_,_,H5,AA⟩:=PL B.ok (it:=cH x) (by show _∈gn (d1.its.map cH);rw[←E];exact eQ (aZ hx))
      have AA:x.gr.nodes.length≤60:=by rw[←cy];exact AA
      have hsx:=gO (g:=x.gr) H5 (by omega)
      have hss:=gO SJ.1 (by omega)
      refine St.cL cj d (x:=x) (aZ hx) ?_;refine St.ea (aG x.gr) [cj x] (λρ h=>h (cj x) (aQ ..) (aG x.gr) (aQ ..)) ?_;refine g8 ?_;refine St.ee (Ev.Ea (Rr:=eD) (sz:=6) (.mk rfl) hx underlying186 trivial oV (by decide) (by decide)) ?_;refine St.slot 91 (.agg #[iv (x.frm:Nat),iv (x.tqo:Nat),iv (x.cw:Nat),x.gr.nv.1,x.wv.1,x.tv.1]) rfl rfl ?_;refine St.al (λQQ=> ?_);refine g11 ?_;refine St.gt _ rfl rfl (λD=>Ev.da (.mk rfl) tX) rfl ?_;refine St.gt _ rfl rfl (λD=>Ev.W8 (ah.gv rfl D) Cu) rfl ?_;refine St.gt _ rfl rfl (λD=>Ev.ke (ah.gv rfl D) gD trivial (by rfl)) rfl ?_;refine St.gt _ rfl rfl (λD=>Ev.da (.mk rfl) Rn) rfl ?_;refine St.gt _ rfl rfl (λD=>Ev.ke (ah.gv rfl D) gD trivial (by rfl)) rfl ?_;refine St.gt _ rfl rfl (λD=>Ev.eql (ah.gv rfl D) (ah.gv rfl D)) rfl ?_;refine g3 ?_;refine St.cq (λNK=> ?_) (λNK=> ?_)
      ·have e1:(cH x).ed.frm=0:=(show x.frm=0 by omega)
       have e2:(cH x).ed.tqo=words.length:=(show x.tqo=words.length by omega)
       refine g3 ?_;refine St.slot 105 (kB a b) rfl rfl ?_;refine g2 ?_;refine St.ee (Ev.iU 1 (.mk rfl) mm trivial jU rfl rfl) ?_;refine St.slot 108 (bA x.gr) rfl rfl ?_;refine go ?_;refine St.ee (Ev.iU 1 (.mk rfl) mm trivial jU rfl rfl) ?_;refine St.slot 110 (bA g.start) rfl rfl ?_;refine St.ae (ql a b (g.types.map dG) S (g.cC.map gz).length (by omega) x.gr g.start H5 SJ.1 AA SJ.2 (λt ht=>by have:=(hsx t ht).2;omega) (λt ht=>by have:=(hss t ht).2;omega) 0 (by have:=H5.pos;rw[show(cH x).ed.gr=ax x.gr from rfl,cy]at this;exact this)) R9 (.gY rfl rfl rfl rfl) rfl ?_;rintro Ti _ ⟨u,rfl,rfl⟩;refine St.ao ?_;refine St.bL ((dT (hC (g.types.map dG)) (ax x.gr) 0 (ax g.start)).getD []) u (λz hz=> ?_);obtain⟨rfl,hzE⟩:=hz;refine g3 ?_;refine St.al (λVb=> ?_);refine g9 ?_;refine St.cond _ rfl (λN=> ?_) (λN=> ?_)
       ·skip
        have SD:(dT (hC (g.types.map dG)) (cH x).ed.gr 0 (ax g.start)).isSome=true:=N
        refine g4 ?_;refine St.gV rfl (.ar rfl) bJ dK eT rfl rfl (by simp[Value.cells]) rfl rfl (λYs=> ?_);refine St.aj (.mk rfl) (.mk rfl) bJ dK eT xT (by simp[Value.oneCell',Value.cells]) (by omega) (by omega) rfl rfl rfl rfl (λTj amM=> ?_);refine St.aM Tj (show _=(j++ [k]).length by rw[bR];rfl) (show _=rows aJ (bW (j++ [k])) by rw[kf,ay];rfl) ?_;refine St.ba Tj (λaaE _=> ?_);refine go ?_;refine St.cI (.mk rfl) (.mk rfl) fD aaE (by rfl) ?_;refine g8 ?_;refine St.aH ⟨k+1,⟨Tj,aaE⟩,j++ [k]⟩ ⟨by omega,by rw[yn,←o,M,eB e1,eB e2,SD,aC (by decide)]⟩
       ·skip
        have SD:(dT (hC (g.types.map dG)) (cH x).ed.gr 0 (ax g.start)).isSome=false:=N
        refine g8 ?_;refine St.aH ⟨k+1,C,j⟩ ⟨by omega,by rw[yn,←o,M,SD,Bool.and_false,aA (by decide)];exact(gu _).symm⟩
      ·have QX:(decide ((cH x).ed.frm=0)&&decide ((cH x).ed.tqo=words.length))=false:=by by_cases e1:x.frm=0;rw[fI (show ¬(cH x).ed.tqo=words.length from(show ¬x.tqo=words.length by omega)),Bool.and_false];rw[fI (show ¬(cH x).ed.frm=0 from e1),Bool.false_and]
       refine g8 ?_;refine St.aH ⟨k+1,C,j⟩ ⟨by omega,by rw[yn,←o,M,QX,Bool.false_and,aA (by decide)];exact(gu _).symm⟩
     ·obtain rfl:k=d.length:=by omega
      obtain⟨⟨O,hfv⟩,Wi⟩:∃z,z=C:=⟨C,rfl⟩
      subst Wi;refine St.bS O aJ (bW j) rfl (dY _).symm (λz hz=>by obtain⟨q,hq,rfl⟩:=dC.1 hz;rw[o]at hq;have:=dt.1 (wj.1 hq).1;show aa (q:Int);unfold aa;omega) ?_
      have P:(dS (bZ g) words)=((d.map cH,j),(0,0)):=by rw[l];show((gn d1.cs.its,Gw (hC (g.types.map dG)) words.length (ax g.start) (gn d1.cs.its)),((0:Int),(0:Int)))=_;rw[show gn d1.cs.its=d.map cH from E.symm,o];unfold Gw;rw[aO]
      refine g8 ?_;refine St.ee (Ev.build (bH.nil) (λw=>ja w)) ?_;refine St.sA (.mk rfl) (.mk rfl) PT ?_ (h1:=(by simp only[List.all_cons,List.all_nil,Bool.and_true,Bool.and_eq_true];exact⟨p.2,rfl,hfv⟩));refine g4 ?_;refine St.rV [_,_] [aB (sl eD p.1 d),aB (aF cj d),aB (sl aJ O (bW j))] ?_;exact⟨p,⟨O,hfv⟩,words.length,d,by rw[P];rfl,by rw[P],by rw[P]⟩
theorem afM:(prog.info? 194).bind (·.zero)=some (Value.agg #[.slice none 0 0,.slice none 0 0,.bool false]):=by kernel_rfl
theorem Z8:(prog.info? 194).map (·.bytes)=some 56:=by kernel_rfl
theorem Zn:aI prog 50:=⟨_,func50,rfl,by kernel_rfl⟩
theorem ahF:aI prog 51:=⟨_,func51,rfl,by kernel_rfl⟩
theorem aeI (w:World):cu prog 127 w= .ok #[(0,1),(1,1),(2,1),(3,1)] w:=by kernel_rfl
theorem afG:(prog.info? 127).bind (λi=>i.zero.map Value.cells)=some #[.slice none 0 0,.slice none 0 0,.slice none 0 0,.slice none 0 0]:=by kernel_rfl
theorem ag8:aI prog 27:=⟨_,func27,rfl,by kernel_rfl⟩
theorem ag6:aI prog 25:=⟨_,func25,rfl,by kernel_rfl⟩
theorem ag7:aI prog 26:=⟨_,func26,rfl,by kernel_rfl⟩
instance:rH prog 44 #[.slice none 0 0]:=⟨by kernel_rfl⟩
theorem Ge {a b:Value}(c:a.oneCell'=true)(d:b.oneCell'=true)(w:World):(Instr.build 127 #[(2,a),(3,b)]).run prog w= .ok (.agg #[.slice none 0 0,.slice none 0 0,a,b]) w:=
 bM afG (aeI w) (by simp[Instr.fill,J.bK,J.cells_one c,J.cells_one d])
def uA:jK:=⟨bT,[],bT,[],false⟩
theorem j3 {α β:Type}{f:α→β}{l:List α}{k:Nat}{a:α}(h:l[k]?=some a):(l.take (k+1)).map f=(l.take k).map f++ [f a]:=Bl h
theorem Cx {g:fj}{words:List bC}(h:(dS g words).2.1=0):(jO g).1=0:=by
 by_cases h1:(jO g).1=0
 ·exact h1
 ·unfold dS at h;rw[aC h1]at h;exact absurd h h1
theorem FG {g:fj}{words:List bC}(h:(dS g words).2.1=0):(dS g words).2=(0,0):=by
 unfold dS at h⊢
 by_cases h1:(jO g).1≠0
 ·rw[aC h1]at h;exact absurd h h1
 ·rw[aA h1]at h⊢
  by_cases a:(pj g words).1≠0
  ·rw[aC a]at h;exact absurd h a
  ·rw[aA a]at h⊢
   cases b:xB g words with
   |none=>rw[b]at h;have h:(17:Int)=0:=h;omega
   |some its=>rfl
theorem Eb {Q:Qr}{words:List bC}{len:Nat}:∀(m frm:Nat) (cs a:Cs),cs.its.length≤300→Ad Q words len m frm cs=some a→a.its.length≤300
 |0,frm,cs,a,h,e=>by obtain rfl:=Option.some.inj e;exact h
 |m+1,frm,cs,a,h,e=>by
  rw[Ed (by omega)]at e
  split at e
  ·cases e
  ·rename_i b;exact Eb m _ _ a (by omega) e
theorem Dw {Q:Qr}{words:List bC}:∀(m len:Nat) (cs a:Cs),cs.its.length≤300→yM Q words m len cs=some a→a.its.length≤300
 |0,len,cs,a,h,e=>by obtain rfl:=Option.some.inj e;exact h
 |m+1,len,cs,a,h,e=>by
  rw[Dx (by omega)]at e;obtain⟨c,h1,b⟩:=pN.1 e;exact Dw m _ _ a (Eb _ _ _ _ h h1) b
theorem PK (its:List lL):(gn its).length=its.length:=by
 unfold gn;rw[aO]
 have h:(l9 its).length=_:=(ji _ _).length_eq
 rw[h,jV]
theorem JN (g:fj)(words:List bC):(dS g words).1.1.length≤300:=by
 unfold dS
 split
 ·exact aP _
 ·split
  ·exact aP _
  ·cases a:xB g words with
   |none=>exact aP _
   |some its=>
    unfold xB at a;obtain⟨cs,h1,rfl⟩:=dp.1 a
    show(gn cs.its).length≤300
    rw[PK];exact Dw _ _ _ _ (aP _) h1
theorem TA {g:fj}{words:List bC}{its:List dL}(h:its.map cH=(dS g words).1.1):its.length≤300:=by
 have a:=JN g words
 rw[←h,aO]at a;exact a
theorem Mm.J6 {c:Ctx}(d a:TypeId){w:World}:∀(m:Nat) (H:List ak),Mm c H w→Mm c (bF (kK d a) (List.replicate m uA)++H) w
 |0,_,h=>h
 |m+1,H,h=>by
  obtain⟨ρ,hm⟩:=(Mm.J6 d a m H h).out
  have h1:Mm c (row bT.1 a 7 0 []::(bF (kK d a) (List.replicate m uA)++H)) w:=Mm.mk (hm.Aj rfl ⟨rfl,aR _⟩ rfl (aR _) (λ_ _=>rfl) (eN.2 (World.ownsRow_nil _ _ _ _)) (λb e=>by rw[eI]at e;simp[Value.ownBlock]at e))
  obtain⟨j,f⟩:=h1.out
  have g:Mm c (row bT.1 d 5 0 []::row bT.1 a 7 0 []::(bF (kK d a) (List.replicate m uA)++H)) w:=Mm.mk (f.Aj rfl ⟨rfl,aR _⟩ rfl (aR _) (λ_ _=>rfl) (eN.2 (World.ownsRow_nil _ _ _ _)) (λb e=>by rw[eI]at e;simp[Value.ownBlock]at e))
  have i:=(g.fact (aF oK []) (λρ _ x hx=>by cases hx)).fact (aF hS []) (λρ _ x hx=>by cases hx)
  obtain⟨k,k3⟩:=i.out
  exact Mm.mk (k3.perm (jX (l₁:=[aB (aF hS []),aB (aF oK [])]) (l₂:=[row bT.1 d 5 0 [],row bT.1 a 7 0 []])|>.append_right _|>.trans (by
   show([row bT.1 d 5 0 [],row bT.1 a 7 0 [],aB (aF hS []),aB (aF oK [])]++_).Perm ([row bT.1 d 5 0 [],row bT.1 a 7 0 [],aB (aF oK []),aB (aF hS [])]++_)
   exact List.Perm.append_right _ (((List.Perm.swap _ _ _).cons _).cons _))))
theorem St.J6 {n:Nat}{F:Fr}{c:Ctx}{H H':List ak}{T:Act→World→Prop}(d e:TypeId)(m:Nat)[t:jE [] (bF (kK d e) (List.replicate m uA)) H H'](h:St n F (Mm c H') T):St n F (Mm c H) T:=by
 obtain⟨L,a,b⟩:=t.eq
 refine h.o6 λw hw=> ?_
 rw[a,gu]at hw;obtain⟨ρ,k⟩:=(Mm.J6 d e m L hw).out;rw[b];exact Mm.mk (k.perm jX)
theorem GM (a b:aV)(m:Int):eE prog 51 #[.agg #[a.1,iv m,b.1]] [] (.tuple #[a.1,b.1]):=by
 refine eE.qD (args:=[.agg #[a.1,iv m,b.1]]) 8 func51 rfl ntmps51 rfl (λc=> ?_);refine g2 ?_;refine St.dJ (.mk rfl) rfl (λd=> ?_);refine g5 ?_;refine St.pA [] mixed (λe f=> ?_);refine SW.gd 0 ?_;refine SW.gd 1 ?_;refine SW.gd 2 ?_;refine SW.gd 3 ?_;refine SW.gd 4 ?_;refine SW.gd 5 ?_;refine SW.dn ?_;refine g2 ?_;refine St.rV [_,_] [] ?_;rfl
theorem I0 (g:gW)(wv:Value)(words:List bC):sk prog 25 #[fG g,wv] ([eu g,sl bE wv words,tz,u8].map aB) (λv H'=>((dS (bZ g) words).2.1≠0∧v= .tuple #[.pointer none,(.slice none 0 0),fv (dS (bZ g) words).2]∧H'=[])∨((dS (bZ g) words).2.1=0∧∃(B C:Nat) (rv xv a e:aV) (its:List dL),its.map cH=(dS (bZ g) words).1.1∧v= .tuple #[.pointer (some ⟨B,0,none⟩),e.1,fv (0,0)]∧H'=aB (sl aJ e.1 (bW (dS (bZ g) words).1.2))::aB (fM B [rv.1,xv.1,a.1,.slice (some ⟨C,0,none⟩) its.length its.length])::aB (sl aJ rv.1 (g.rules.map ca.weight))::aB (sl aJ xv.1 (g.aN.map eZ.weight))::aB (sl eD a.1 its)::aB (aF cj its)::row (.slice (some ⟨C,0,none⟩) its.length its.length) 194 3 (List.replicate its.length uA).length (rows fL (List.replicate its.length uA))::bF (kK 71 196) (List.replicate its.length uA))):=by
 refine sk.body (args:=[fG g,wv]) 78 func25 rfl ntmps25 rfl (λc I=> ?_);refine St.cast (H':=[aB (eu g),aB (sl bE wv words),aB (tz),aB (u8)]) rfl ?_;refine g2 ?_;refine St.dJ (.mk rfl) rfl (λD=> ?_);refine g2 ?_;refine St.al (λp=> ?_);refine g5 ?_;refine St.slot 17 (fG g) rfl rfl ?_;refine go ?_;refine St.mP I (FF g wv words) Zn (.aX rfl rfl) rfl ?_;rintro J _ ⟨a,e,m,its,rfl,E,rfl⟩;refine St.iQ ?_;refine g2 ?_;refine St.slot 20 (.agg #[a.1,iv (m:Nat),e.1]) rfl rfl ?_;refine go ?_;refine St.slot 21 (fv (dS (bZ g) words).2) rfl rfl ?_;refine St.al (λP=> ?_);refine St.al (λQ=> ?_);refine g12 ?_;refine St.cq (λF=> ?_) (λF=> ?_)
 ·have l:(dS (bZ g) words).2.1≠0:=F
  refine go ?_;refine St.pA [p] mixed (λG H=> ?_);refine SW.gd 0 ?_;refine SW.gd 1 ?_;refine SW.gd 2 ?_;refine SW.t1 3 ?_;refine g3 ?_;refine SW.go ?_;refine SW.dn ?_;refine g3 ?_;refine St.rV [_,_,_] [] ?_;exact .inl ⟨l,rfl,rfl⟩
 ·have l:(dS (bZ g) words).2.1=0:=by omega
  have n:=vE (Cx l)
  have R:g.rules.length≤40:=by have h:(g.rules.map lK).length≤40:=n.rn;rwa[aO]at h
  have K:g.aN.length≤100:=by have h:(g.aN.map oe).length≤100:=n.xn;rwa[aO]at h
  have S:its.length≤300:=TA E
  have L:(dS (bZ g) words).2=(0,0):=FG l
  refine St.ea (sl cT g.rv.1 g.rules) [eu g] (λρ h=>h (eu g) (aQ ..) _ (by simp[Gz])) ?_;refine St.ea (sl e7 g.xv.1 g.aN) [eu g] (λρ h=>h (eu g) (aQ ..) _ (by simp[Gz])) ?_;refine g5 ?_;refine St.slot 27 (.agg #[a.1,iv (m:Nat),e.1]) rfl rfl ?_;refine St.ee (Ev.call (GM a e m) ahF (.ar rfl)) ?_;refine g2 ?_;refine St.slot 29 a.1 rfl rfl ?_;refine go ?_;refine St.slot 30 e.1 rfl rfl ?_;refine g9 ?_;refine St.nL (Rr:=fL) (g:=uA) (m:=its.length) (sz:=3) rfl (.mk rfl) (.mk rfl) underlying125 PU afM Z8 rfl rfl (by omega) rfl rfl (λf=> ?_);refine St.aM (.slice (some ⟨f,0,none⟩) its.length its.length) (show _=(List.replicate its.length uA).length by rw[kG]) rfl ?_;refine St.ee (Ev.build (bH.aX rfl rfl) (λw=>Ge a.2 rfl w)) ?_;refine St.slot 35 (.agg #[(.slice none 0 0),(.slice none 0 0),a.1,(.slice (some ⟨f,0,none⟩) its.length its.length)]) rfl rfl ?_;refine St.dJ (.mk rfl) rfl (λj=> ?_);refine g13 ?_;refine St.dw 3 1 ?_;refine St.aM (.slice none 0 0) (show _=((g.rules.take 0).map ca.weight).length from rfl) (show _=rows aJ ((g.rules.take 0).map ca.weight)from rfl) ?_;refine St.lH (ι:=Nat×aV) (λ⟨k,rv⟩ T=>(40,iv k)::T) (λ⟨k,rv⟩=>[row rv.1 3 1 ((g.rules.take k).map ca.weight).length (rows aJ ((g.rules.take k).map ca.weight)),aW j (.cells [rv.1,(.slice none 0 0),a.1,(.slice (some ⟨f,0,none⟩) its.length its.length)].toArray 127 (0,0)),row (.slice (some ⟨f,0,none⟩) its.length its.length) 194 3 (List.replicate its.length uA).length (rows fL (List.replicate its.length uA)),aB (sl eD a.1 its),aB (aF cj its),aB (sl aJ e.1 (bW (dS (bZ g) words).1.2)),aB (sl cT g.rv.1 g.rules),aB (sl e7 g.xv.1 g.aN),aW D (.cells (jG g).toArray 32 (0,0)),aW p (.cells [iv 0,iv 0].toArray 35 (0,0))]) (λ⟨k,rv⟩=>k≤g.rules.length) (λ⟨k,rv⟩=>g.rules.length-k) ⟨0,bT⟩ (aD.cons 2 rfl (aD.cons 4 rfl (aD.cons 5 rfl (aD.cons 6 rfl (aD.cons 10 rfl (aD.cons 11 rfl (aD.cons 38 rfl (aD.cons 39 rfl aD.nil)))))))) (aP _) ?_;rintro ⟨k,rv⟩ hk
  dsimp only at hk⊢
  have M:((g.rules.take k).map ca.weight).length=k:=by rw[aO,eU];omega
  refine g6 ?_;refine St.cq (λN=> ?_) (λN=> ?_)
  ·obtain⟨x,hx⟩:=aE (show k<g.rules.length by omega)
   refine g7 ?_;refine St.ee (Ev.js (.mk rfl) hx uR trivial kV j7.eq) ?_;refine St.al (λU=> ?_);refine St.sA (.mk rfl) (.mk rfl) kV ?_ (h1:=(eY.2 λu hu=>cT.one x u hu));refine g2 ?_;refine St.dc [aW j (.cells [rv.1,(.slice none 0 0),a.1,(.slice (some ⟨f,0,none⟩) its.length its.length)].toArray 127 (0,0)),row rv.1 3 1 ((g.rules.take k).map ca.weight).length (rows aJ ((g.rules.take k).map ca.weight))] mixed (λG H=> ?_);refine SW.gd 0 ?_;refine SW.gd 1 ?_;refine SW.gd 2 ?_;refine SW.gd 3 ?_;refine SW.gd 5 ?_;refine SW.gd 6 ?_;refine SW.t2 4 7 ?_ ?_
   focus
    refine g3 ?_;refine SW.go ?_;refine SW.t1 7 ?_;refine St.gV rfl (.ar rfl) bJ dK eT rfl rfl (by simp[Value.cells]) rfl rfl (λO=> ?_);refine g2 ?_;refine SW.go ?_;refine SW.t1 8 ?_;refine St.aj (.mk rfl) (.mk rfl) bJ dK eT xT (by simp[Value.oneCell',Value.cells]) (by omega) (by omega) rfl rfl rfl rfl (λb q=> ?_);refine St.aM b (show _=((g.rules.take (k+1)).map ca.weight).length by rw[j3 hx,bR];rfl) (show _=rows aJ ((g.rules.take (k+1)).map ca.weight) by rw[j3 hx,ay];rfl) ?_;refine St.ba b (λo _=> ?_);refine g2 ?_;refine SW.go ?_;refine SW.gd 9 ?_;refine SW.gd 10 ?_;refine SW.t1 11 ?_;refine St.cI (.mk rfl) (.mk rfl) fD o (by rfl) ?_;refine g2 ?_;refine SW.go ?_;refine SW.dn ?_
   rotate_left
   focus
    refine St.gV rfl (.ar rfl) bJ dK eT rfl rfl (by simp[Value.cells]) rfl rfl (λO=> ?_);refine g2 ?_;refine SW.go ?_;refine SW.t1 4 ?_;refine g3 ?_;refine SW.go ?_;refine SW.t1 8 ?_;refine St.aj (.mk rfl) (.mk rfl) bJ dK eT xT (by simp[Value.oneCell',Value.cells]) (by omega) (by omega) rfl rfl rfl rfl (λb q=> ?_);refine St.aM b (show _=((g.rules.take (k+1)).map ca.weight).length by rw[j3 hx,bR];rfl) (show _=rows aJ ((g.rules.take (k+1)).map ca.weight) by rw[j3 hx,ay];rfl) ?_;refine St.ba b (λo _=> ?_);refine g2 ?_;refine SW.go ?_;refine SW.gd 9 ?_;refine SW.gd 10 ?_;refine SW.t1 11 ?_;refine St.cI (.mk rfl) (.mk rfl) fD o (by rfl) ?_;refine g2 ?_;refine SW.go ?_;refine SW.dn ?_
   all_goals
    refine g7 ?_;refine St.aH ⟨k+1,⟨b,o⟩⟩ (by dsimp only;omega)
  ·obtain rfl:k=g.rules.length:=by omega
   rw[jY];refine St.bS rv.1 aJ (g.rules.map ca.weight) rfl rfl (λz hz=>by obtain⟨r,s,rfl⟩:=dC.1 hz;have h:=(n.rule (lK r) (eQ s)).wt;have h:0≤r.weight∧r.weight≤1000000:=h;show aa _;unfold aa;omega) ?_;refine g15 ?_;refine St.dw 3 1 ?_;refine St.aM (.slice none 0 0) (show _=((g.aN.take 0).map eZ.weight).length from rfl) (show _=rows aJ ((g.aN.take 0).map eZ.weight)from rfl) ?_;refine St.lH (ι:=Nat×aV) (λ⟨k,xv⟩ T=>(59,iv k)::T) (λ⟨k,xv⟩=>[row xv.1 3 1 ((g.aN.take k).map eZ.weight).length (rows aJ ((g.aN.take k).map eZ.weight)),aB (sl aJ rv.1 (g.rules.map ca.weight)),aW j (.cells [rv.1,xv.1,a.1,(.slice (some ⟨f,0,none⟩) its.length its.length)].toArray 127 (0,0)),row (.slice (some ⟨f,0,none⟩) its.length its.length) 194 3 (List.replicate its.length uA).length (rows fL (List.replicate its.length uA)),aB (sl eD a.1 its),aB (aF cj its),aB (sl aJ e.1 (bW (dS (bZ g) words).1.2)),aB (sl cT g.rv.1 g.rules),aB (sl e7 g.xv.1 g.aN),aW D (.cells (jG g).toArray 32 (0,0)),aW p (.cells [iv 0,iv 0].toArray 35 (0,0))]) (λ⟨k,xv⟩=>k≤g.aN.length) (λ⟨k,xv⟩=>g.aN.length-k) ⟨0,bT⟩ (aD.cons 4 rfl (aD.cons 5 rfl (aD.cons 6 rfl (aD.cons 10 rfl (aD.cons 11 rfl (aD.cons 57 rfl (aD.cons 58 rfl aD.nil))))))) (aP _) ?_;rintro ⟨k,xv⟩ hk
   dsimp only at hk⊢
   have M:((g.aN.take k).map eZ.weight).length=k:=by rw[aO,eU];omega
   refine g6 ?_;refine St.cq (λt=> ?_) (λt=> ?_)
   ·obtain⟨x,hx⟩:=aE (show k<g.aN.length by omega)
    refine g7 ?_;refine St.ee (Ev.js (.mk rfl) hx zw trivial nT j7.eq) ?_;refine St.al (λV=> ?_);refine St.sA (.mk rfl) (.mk rfl) nT ?_ (h1:=(eY.2 λu hu=>e7.one x u hu));refine g2 ?_;refine St.dc [aW j (.cells [rv.1,xv.1,a.1,(.slice (some ⟨f,0,none⟩) its.length its.length)].toArray 127 (0,0)),row xv.1 3 1 ((g.aN.take k).map eZ.weight).length (rows aJ ((g.aN.take k).map eZ.weight))] mixed (λG H=> ?_);refine SW.gd 0 ?_;refine SW.gd 1 ?_;refine SW.gd 2 ?_;refine SW.gd 3 ?_;refine SW.gd 5 ?_;refine SW.gd 6 ?_;refine SW.t2 4 7 ?_ ?_
    focus
     refine g3 ?_;refine SW.go ?_;refine SW.t1 7 ?_;refine St.gV rfl (.ar rfl) bJ dK eT rfl rfl (by simp[Value.cells]) rfl rfl (λy=> ?_);refine g2 ?_;refine SW.go ?_;refine SW.t1 8 ?_;refine St.aj (.mk rfl) (.mk rfl) bJ dK eT xT (by simp[Value.oneCell',Value.cells]) (by omega) (by omega) rfl rfl rfl rfl (λd A=> ?_);refine St.aM d (show _=((g.aN.take (k+1)).map eZ.weight).length by rw[j3 hx,bR];rfl) (show _=rows aJ ((g.aN.take (k+1)).map eZ.weight) by rw[j3 hx,ay];rfl) ?_;refine St.ba d (λi _=> ?_);refine g2 ?_;refine SW.go ?_;refine SW.gd 9 ?_;refine SW.gd 10 ?_;refine SW.t1 11 ?_;refine St.cI (.mk rfl) (.mk rfl) fD i (by rfl) ?_;refine g2 ?_;refine SW.go ?_;refine SW.dn ?_
    rotate_left
    focus
     refine St.gV rfl (.ar rfl) bJ dK eT rfl rfl (by simp[Value.cells]) rfl rfl (λy=> ?_);refine g2 ?_;refine SW.go ?_;refine SW.t1 4 ?_;refine g3 ?_;refine SW.go ?_;refine SW.t1 8 ?_;refine St.aj (.mk rfl) (.mk rfl) bJ dK eT xT (by simp[Value.oneCell',Value.cells]) (by omega) (by omega) rfl rfl rfl rfl (λd A=> ?_);refine St.aM d (show _=((g.aN.take (k+1)).map eZ.weight).length by rw[j3 hx,bR];rfl) (show _=rows aJ ((g.aN.take (k+1)).map eZ.weight) by rw[j3 hx,ay];rfl) ?_;refine St.ba d (λi _=> ?_);refine g2 ?_;refine SW.go ?_;refine SW.gd 9 ?_;refine SW.gd 10 ?_;refine SW.t1 11 ?_;refine St.cI (.mk rfl) (.mk rfl) fD i (by rfl) ?_;refine g2 ?_;refine SW.go ?_;refine SW.dn ?_
    all_goals
     refine g7 ?_;refine St.aH ⟨k+1,⟨d,i⟩⟩ (by dsimp only;omega)
   ·obtain rfl:k=g.aN.length:=by omega
    rw[jY];refine St.bS xv.1 aJ (g.aN.map eZ.weight) rfl rfl (λz hz=>by obtain⟨r,s,rfl⟩:=dC.1 hz;have h:=(n.lex (oe r) (eQ s)).wt;have h:0≤r.weight∧r.weight≤1000000:=h;show aa _;unfold aa;omega) ?_;refine St.vW j ?_;refine St.J6 71 196 its.length ?_;refine g9 ?_;refine St.ee (Ev.build (bH.nil) (λw=>ja w)) ?_;refine g6 ?_;refine St.rV [_,_,_] (aB (sl aJ e.1 (bW (dS (bZ g) words).1.2))::aB (fM j [rv.1,xv.1,a.1,(.slice (some ⟨f,0,none⟩) its.length its.length)])::aB (sl aJ rv.1 (g.rules.map ca.weight))::aB (sl aJ xv.1 (g.aN.map eZ.weight))::aB (sl eD a.1 its)::aB (aF cj its)::row (.slice (some ⟨f,0,none⟩) its.length its.length) 194 3 (List.replicate its.length uA).length (rows fL (List.replicate its.length uA))::(bF (kK 71 196) (List.replicate its.length uA))) ?_;exact .inr ⟨l,j,f,rv,xv,a,e,its,E,rfl,rfl⟩
theorem PE {α:Type}(l:List α)(a b:α):(l++ [a]).set l.length b=l++ [b]:=by
 rw[lJ _ _ (aR _),fh];rfl
theorem TG {B:cr}{e:Nat}{k:xQ}(h:Ds B e (ma k)):dB.wf k.tree∧AQ (cx k.tree):=by
 have a:Ql (cx k.tree):=h.rt
 rw[lC]at a
 have a: -1≤k.tree.rule∧k.tree.rule≤1000∧0≤k.tree.lex∧k.tree.lex≤1000:=a
 exact⟨⟨by show aa _;unfold aa;omega,by show aa _;unfold aa;omega⟩,h.thin⟩
theorem IK (a d n:Nat)(k:xQ)(b:aV)(outs:List dE)(hw:dB.wf k.tree)(e:AQ (cx k.tree))(m:outs.length≤1000)(o:n≤1000):dz prog 27 ([kU k]++ [Value.pointer (some ⟨a,0,none⟩),Value.pointer (some ⟨d,0,none⟩)]).toArray ([oK k,pe d (iv (n:Nat))].map aB++ [aW a (.cells [b.1].toArray 44 (0,0)),row b.1 69 3 (outs).length (rows dB (outs)),aB (aF bx outs)]) (λv H'=>∃(f:aV) (t:dE),v= .bool (decide (outs.length+1<n))∧cx t=cx k.tree∧H'=[aW a (.cells [f.1].toArray 44 (0,0)),row f.1 69 3 (outs++ [t]).length (rows dB (outs++ [t])),aB (aF bx (outs++ [t]))]):=by
 refine dz.body (args:=[kU k]++ [Value.pointer (some ⟨a,0,none⟩),Value.pointer (some ⟨d,0,none⟩)]) 17 func27 rfl ntmps27 rfl (λc=> ?_);refine go ?_;refine St.cast (H':=[aB (oK k),aB (pe d (iv (n:Nat))),aW a (.cells [b.1].toArray 44 (0,0)),row b.1 69 3 (outs).length (rows dB (outs)),aB (aF bx outs)]) rfl ?_;refine St.ea (bx k.tree) [oK k] (λρ h=>h (oK k) (aQ ..) _ (cO _ (aQ ..))) ?_;refine go ?_;refine St.dJ (.mk rfl) rfl (λp=> ?_);refine g4 ?_;refine St.dc [aW a (.cells [b.1].toArray 44 (0,0)),row b.1 69 3 (outs).length (rows dB (outs))] mixed (λq r=> ?_)
 repeat' first
  |with_reducible refine SW.me ?_
   first
    |refine SW.gd 1 ?_
    |refine SW.dd 2 rfl (λ_=>Ev.iU 3 (.mk rfl) IE trivial pw rfl rfl) ?_
     refine SW.slot 7 (uP k.tree) rfl rfl ?_
    |refine SW.Pj (i:=0) (j:=3) (k:=5) (by decide+kernel) rfl rfl rfl ?_ ?_ ?_
    |refine SW.Pj (i:=3) (j:=4) (k:=5) (by decide+kernel) rfl rfl rfl ?_ ?_ ?_
    |refine SW.t2 4 5 ?_ ?_
    |refine SW.t1 5 ?_
    |refine SW.t1 6 ?_
    |refine SW.t2 7 9 ?_ ?_
    |refine SW.t2 8 9 ?_ ?_
    |refine SW.t1 9 ?_
    |refine SW.t1 8 ?_
    |refine SW.t1 7 ?_
    |refine SW.t1 4 ?_
    |refine SW.t2 3 5 ?_ ?_
    |refine SW.t1 3 ?_
    |refine SW.t2 3 4 ?_ ?_
    |refine SW.t2 0 5 ?_ ?_
    |refine SW.t1 0 ?_
    |refine SW.t2 0 3 ?_ ?_
  |with_reducible refine SW.tg 0 ?_
   refine g3 ?_;refine SW.go ?_
  |with_reducible refine SW.tg 3 ?_
   refine St.ae (Gk k.tree hw e) Zl (.ar rfl) rfl ?_;rintro s _ ⟨t,rfl,ht,rfl⟩;refine St.ao ?_;refine g2 ?_;refine SW.go ?_
  |with_reducible refine SW.tg 4 ?_
   refine g3 ?_;refine SW.go ?_
  |with_reducible refine SW.tg 5 ?_
   refine St.gV rfl (.ar rfl) zy pw Lq rfl rfl (by simp[Value.cells]) rfl rfl (λw=> ?_);refine g2 ?_;refine SW.go ?_
  |with_reducible refine SW.tg 6 ?_
   refine St.aj (.mk rfl) (.mk rfl) zy pw Lq Vk (by intro u hu;exact dB.one (.mk 0 0 bT []:dE) u hu) (by omega) (by omega) rfl rfl rfl rfl (λv11 l=> ?_);refine St.aM v11 (show _=(outs++ [(.mk 0 0 bT []:dE)]).length by rw[bR];rfl) (show _=rows dB (outs++ [(.mk 0 0 bT []:dE)]) by rw[ay];rfl) ?_;refine St.ba v11 (λg _=> ?_);refine g2 ?_;refine SW.go ?_
  |with_reducible refine SW.tg 7 ?_
   refine St.ee (Ev.dZ (k:=outs.length) (.mk rfl) (.mk rfl) zy pw (by omega) (by rw[bR];exact pM _)) ?_;refine g2 ?_;refine SW.go ?_
  |with_reducible refine SW.tg 8 ?_
   refine St.uN (Rr:=dB) (show dB.size=3 from rfl) t (.mk rfl) (.mk rfl) pw (by rw[bR];exact pM _) (by rw[bR];exact pM _) ?_;refine St.aM v11 (show _=(outs++ [t]).length by rw[bR,bR];rfl) (show _=rows dB (outs++ [t]) by rw[PE]) ?_;refine g2 ?_;refine SW.go ?_
  |with_reducible refine SW.tg 9 ?_
   refine St.cI (.mk rfl) (.mk rfl) Xl g (by rfl) ?_;refine g2 ?_;refine SW.go ?_
 all_goals refine SW.dn ?_
 all_goals
  refine g2 ?_;refine St.ea (aF bx (outs++ [t])) [aF bx outs,bx t] (λρ h u hu=>by rcases cG.1 hu with hu|hu;exact h (aF bx outs) (aQ ..) u hu;rw[bP]at hu;subst hu;exact h (bx u) (cO _ (aQ ..))) ?_;refine g9 ?_;refine St.rV [_] [aW a (.cells [v11].toArray 44 (0,0)),row v11 69 3 (outs++ [t]).length (rows dB (outs++ [t])),aB (aF bx (outs++ [t]))] ?_;exact⟨⟨v11,g⟩,t,congrArg Value.bool (by rw[bR];show decide (((outs.length+1:Nat):Int)<n)=_;exact decide_eq_decide.2 (by omega)),ht,rfl⟩
theorem r5 (get:eC→Nat→Nat→eC×Option jr)(ranks:List Nat)(e:Nat)(l:List Nat)(i:Nat)(st:eC)(b:Option (Nat×jr)):pD get ranks (e::l) i st b=match get st e (ranks.getD i 0)with
 |(st,none)=>pD get ranks l (i+1) st b
 |(st,some x)=>pD get ranks l (i+1) st (match b with
  |none=>some (i,x)
  |some y=>if QR x y.2<0 then some (i,x)else some y):=rfl
def KT (bi:Int)(a:xQ):Option (Nat×jr):=if bi<0 then none else some (bi.toNat,ma a)
theorem BB {bi:Int}(a:xQ)(h:bi<0):KT bi a=none:=aC h
theorem uq {bi:Int}(a:xQ)(h:¬bi<0):KT bi a=some (bi.toNat,ma a):=aA h
theorem Ia (i:Nat)(a:xQ):KT (i:Int) a=some (i,ma a):=by unfold KT;rw[aA (by omega)];rfl
theorem XW {get:eC→Nat→Nat→eC×Option jr}{ranks full:List Nat}{i q rr:Nat}{st st2:eC}{b:Option (Nat×jr)}(a:full[i]?=some q)(c:ranks[i]?=some rr)(h:get st q rr=(st2,none)):pD get ranks (full.drop i) i st b=pD get ranks (full.drop (i+1)) (i+1) st2 b:=by
 rw[bO a,r5,show ranks.getD i 0=rr by rw[aw,c];rfl,h]
theorem LK {get:eC→Nat→Nat→eC×Option jr}{ranks full:List Nat}{i q rr:Nat}{st st2:eC}{x:jr}(a:full[i]?=some q)(b:ranks[i]?=some rr)(h:get st q rr=(st2,some x)):pD get ranks (full.drop i) i st none=pD get ranks (full.drop (i+1)) (i+1) st2 (some (i,x)):=by
 rw[bO a,r5,show ranks.getD i 0=rr by rw[aw,b];rfl,h]
theorem Om {get:eC→Nat→Nat→eC×Option jr}{ranks full:List Nat}{i q rr:Nat}{st st2:eC}{x:jr}{y:Nat×jr}(a:full[i]?=some q)(b:ranks[i]?=some rr)(h:get st q rr=(st2,some x))(c:QR x y.2<0):pD get ranks (full.drop i) i st (some y)=pD get ranks (full.drop (i+1)) (i+1) st2 (some (i,x)):=by
 rw[bO a,r5,show ranks.getD i 0=rr by rw[aw,b];rfl,h]
 dsimp only
 rw[aC c]
theorem Oo {get:eC→Nat→Nat→eC×Option jr}{ranks full:List Nat}{i q rr:Nat}{st st2:eC}{x:jr}{y:Nat×jr}(a:full[i]?=some q)(b:ranks[i]?=some rr)(h:get st q rr=(st2,some x))(c:¬QR x y.2<0):pD get ranks (full.drop i) i st (some y)=pD get ranks (full.drop (i+1)) (i+1) st2 (some y):=by
 rw[bO a,r5,show ranks.getD i 0=rr by rw[aw,b];rfl,h]
 dsimp only
 rw[aA c]
theorem EI {get:eC→Nat→Nat→eC×Option jr}{full ranks:List Nat}{m:Nat}{st st2:eC}{out:List jZ}{i:Nat}{x:jr}{a:Nat}(hm:0<m)(h:pD get ranks full 0 st none=(st2,some (i,x)))(b:ranks[i]?=some a):tP get full m st ranks out=tP get full (m-1) st2 (ranks.set i (a+1)) (out++ [x.tree]):=by
 obtain⟨k,rfl⟩:∃k,m=k+1:=⟨m-1,by omega⟩
 rw[tP,h]
 dsimp only
 rw[show ranks.getD i 0=a by rw[aw,b];rfl];rfl
theorem RY {get:eC→Nat→Nat→eC×Option jr}{full ranks:List Nat}{m:Nat}{st st2:eC}{out:List jZ}(hm:0<m)(h:pD get ranks full 0 st none=(st2,none)):tP get full m st ranks out=out:=by
 obtain⟨k,rfl⟩:∃k,m=k+1:=⟨m-1,by omega⟩
 rw[tP,h]
theorem Ka (D l m0 p:Nat)(rv xv eF:aV)(R X:List Int)(its:List dL)(hB:o7 (⟨its.map cH,R,X⟩:cr))(full:List Nat)(J:aV)(NS:∀e∈full,e<its.length)(S7:full.length≤1000)(s y n:Nat)(hn0:0<n)(hn:n≤200)(L:List jK)(J3:jn (⟨its.map cH,R,X⟩:cr) (L.map fm)):
 dz prog 26 #[.pointer (some ⟨D,0,none⟩),J.1,Value.func (.func 27) #[] #[Value.pointer (some ⟨s,0,none⟩),Value.pointer (some ⟨y,0,none⟩)]] ([fM D [rv.1,xv.1,eF.1,(.slice (some ⟨l,0,none⟩) m0 p)],sl aJ rv.1 R,sl aJ xv.1 X,sl eD eF.1 its,aF cj its,sl aJ J.1 (bW full),pe y (iv (n:Nat))].map aB++(aW s (.cells [(.slice none 0 0)].toArray 44 (0,0))::row (.slice none 0 0) 69 3 (([]:List dE)).length (rows dB (([]:List dE)))::aB (aF bx [])::row (.slice (some ⟨l,0,none⟩) m0 p) 194 3 (L).length (rows fL (L))::bF (kK 71 196) L)) (λv H'=>∃(E:aV) (Q:List dE),v= .tuple #[]∧Q.map cx=tP (fk (⟨its.map cH,R,X⟩:cr) 60) full n (L.map fm) (List.replicate full.length 0) []∧(∀t∈Q,dB.wf t)∧H'=[aW s (.cells [E.1].toArray 44 (0,0)),row E.1 69 3 (Q).length (rows dB (Q)),aB (aF bx Q)]):=by
 refine dz.body (args:=[.pointer (some ⟨D,0,none⟩),J.1,Value.func (.func 27) #[] #[Value.pointer (some ⟨s,0,none⟩),Value.pointer (some ⟨y,0,none⟩)]]) 61 func26 rfl ntmps26 rfl (λc=> ?_);refine go ?_;refine St.cast (H':=(aB (fM D [rv.1,xv.1,eF.1,(.slice (some ⟨l,0,none⟩) m0 p)])::aB (sl aJ rv.1 R)::aB (sl aJ xv.1 X)::aB (sl eD eF.1 its)::aB (aF cj its)::aB (sl aJ J.1 (bW full))::aB (pe y (iv (n:Nat)))::aW s (.cells [(.slice none 0 0)].toArray 44 (0,0))::row (.slice none 0 0) 69 3 (([]:List dE)).length (rows dB (([]:List dE)))::aB (aF bx [])::row (.slice (some ⟨l,0,none⟩) m0 p) 194 3 (L).length (rows fL (L))::bF (kK 71 196) L)) rfl ?_
 have Kn:(bW full).length=full.length:=dY _
 have Ud:=Cw hB 60
 refine g3 ?_;refine St.nL (Rr:=aJ) (g:=0) (m:=full.length) (sz:=1) rfl (.mk rfl) (.mk rfl) bJ dK eT xT (congrArg _ Kn) (congrArg _ Kn) (by omega) rfl rfl (λVb=> ?_);refine St.aM (.slice (some ⟨Vb,0,none⟩) full.length full.length) (show _=(List.replicate full.length 0).length by rw[kG]) (show _=rows aJ (bW (List.replicate full.length 0)) by unfold bW;rw[sC];rfl) ?_;refine g4 ?_;refine St.lH (ι:=Nat×List jK×List Nat×aV×List dE) (λ⟨m,w,ranks,f,outs⟩ T=>T) (λ⟨m,w,ranks,f,outs⟩=>(row (.slice (some ⟨l,0,none⟩) m0 p) 194 3 (w).length (rows fL (w))::aB (fM D [rv.1,xv.1,eF.1,(.slice (some ⟨l,0,none⟩) m0 p)])::aB (sl aJ rv.1 R)::aB (sl aJ xv.1 X)::aB (sl eD eF.1 its)::aB (aF cj its)::aB (sl aJ J.1 (bW full))::aB (pe y (iv (n:Nat)))::row (.slice (some ⟨Vb,0,none⟩) full.length full.length) 3 1 ranks.length (rows aJ (bW ranks))::aW s (.cells [f.1].toArray 44 (0,0))::row f.1 69 3 (outs).length (rows dB (outs))::aB (aF bx outs)::(bF (kK 71 196) w))) (λ⟨m,w,ranks,f,outs⟩=>0<m∧outs.length+m=n∧ranks.length=full.length∧(∀r∈ranks,r≤outs.length)∧jn (⟨its.map cH,R,X⟩:cr) (w.map fm)∧tP (fk (⟨its.map cH,R,X⟩:cr) 60) full m (w.map fm) ranks (outs.map cx)=tP (fk (⟨its.map cH,R,X⟩:cr) 60) full n (L.map fm) (List.replicate full.length 0) []∧(∀t∈outs,dB.wf t)) (λ⟨m,w,ranks,f,outs⟩=>m) ⟨n,L,List.replicate full.length 0,bT,[]⟩ (aD.cons 0 rfl (aD.cons 1 rfl (aD.cons 2 rfl (aD.cons 6 rfl aD.nil)))) ⟨hn0,iW _,kG,λr K=>by rw[wg K];exact aP _,J3,rfl,λt ht=>by cases ht⟩ ?_;rintro ⟨m,w,ranks,f,outs⟩ ⟨NZ,hom,Wd,S,U,z,A⟩
 dsimp only at NZ hom Wd S U z A⊢
 have hnr:(bW ranks).length=ranks.length:=dY _
 refine g8 ?_;refine St.al (λb8=> ?_);refine g11 ?_;refine St.fp aJ ?_;refine St.fact (bx (.mk 0 0 bT [])) (λρ _ _=>qc _ _ _) ?_;refine St.ea (oK Jy) [sl aJ (.slice none 0 0) [],bx (.mk 0 0 bT [])] (λρ h=>h) ?_;refine St.mN b8 (L':=[iv Jy.wt,Jy.cv.1,iv Jy.tree.rule,iv Jy.tree.lex,Jy.tree.kv.1]) rfl ?_;refine St.lH (ι:=Nat×List jK×Int×xQ) (λ⟨i,b,bi,a⟩ T=>(18,iv i)::(7,iv bi)::T) (λ⟨i,b,bi,a⟩=>(row (.slice (some ⟨l,0,none⟩) m0 p) 194 3 (b).length (rows fL (b))::aB (fM D [rv.1,xv.1,eF.1,(.slice (some ⟨l,0,none⟩) m0 p)])::aB (sl aJ rv.1 R)::aB (sl aJ xv.1 X)::aB (sl eD eF.1 its)::aB (aF cj its)::aB (sl aJ J.1 (bW full))::aB (pe y (iv (n:Nat)))::row (.slice (some ⟨Vb,0,none⟩) full.length full.length) 3 1 ranks.length (rows aJ (bW ranks))::aW s (.cells [f.1].toArray 44 (0,0))::row f.1 69 3 (outs).length (rows dB (outs))::aB (aF bx outs)::aW b8 (.cells [iv a.wt,a.cv.1,iv a.tree.rule,iv a.tree.lex,a.tree.kv.1].toArray 71 (0,0))::aB (oK a)::(bF (kK 71 196) b))) (λ⟨i,b,bi,a⟩=>i≤full.length∧jn (⟨its.map cH,R,X⟩:cr) (b.map fm)∧(-1≤bi∧bi<full.length)∧(¬bi<0→∃e,Ds (⟨its.map cH,R,X⟩:cr) e (ma a))∧pD (fk (⟨its.map cH,R,X⟩:cr) 60) ranks (full.drop i) i (b.map fm) (KT bi a)=pD (fk (⟨its.map cH,R,X⟩:cr) 60) ranks full 0 (w.map fm) none) (λ⟨i,b,bi,a⟩=>full.length-i) ⟨0,w,(-1:Int),Jy⟩ (aD.cons 0 rfl (aD.cons 1 rfl (aD.cons 2 rfl (aD.cons 6 rfl (aD.cons 8 rfl (aD.cons 16 rfl (aD.cons 17 rfl aD.nil))))))) ⟨aP _,U,⟨by omega,by omega⟩,λh=>absurd (show(-1:Int)<0 by decide) h,rfl⟩ ?_;rintro ⟨i,b,bi,a⟩ ⟨hi,V,QU,B,x⟩
 dsimp only at hi V QU B x⊢
 have hl2:=sb V
 refine g6 ?_;refine St.cq (λh19=> ?_) (λh19=> ?_)
 ·obtain⟨q,M⟩:=aE (show i<full.length by omega)
  obtain⟨rr,N⟩:=aE (show i<ranks.length by omega)
  have Ls:=NS q (aZ M)
  have J0:q<(⟨its.map cH,R,X⟩:cr).its.length:=by show q<(its.map cH).length;rw[aO];exact Ls
  have Wf:=S rr (aZ N)
  have W:=hB.ht q J0
  have H4:=Ud.ok q rr (b.map fm) J0 W (by omega) V
  refine g8 ?_;refine St.ee (Ev.ld1 (.mk rfl) (gQ M) gD trivial rfl) ?_;refine g11 ?_;refine St.ee (Ev.ct (.mk rfl) gD trivial (by omega) (oL (gQ N))) ?_;refine St.pQ (ds:=[fM D [rv.1,xv.1,eF.1,(.slice (some ⟨l,0,none⟩) m0 p)],sl aJ rv.1 R,sl aJ xv.1 X,sl eD eF.1 its,aF cj its]) (L:=[row (.slice (some ⟨l,0,none⟩) m0 p) 194 3 (b).length (rows fL (b))]) (X:=bF (kK 71 196) b) (post:=λv L' X'=>∃(j:List jK) (d:xQ) (o:Bool),fk (⟨its.map cH,R,X⟩:cr) 60 (b.map fm) q rr=(j.map fm,if o then some (ma d)else none)∧v= .tuple #[kU d,.bool o]∧L'=[row (.slice (some ⟨l,0,none⟩) m0 p) 194 3 (j).length (rows fL (j)),aB (oK d)]∧X'=bF (kK 71 196) j) ((ND D l m0 p rv xv eF R X its hB 60 q rr b Ls W (by omega) V).mono (λv H' ⟨j,d,o,a1,a2,a3⟩=>⟨[_,_],_,a3,j,d,o,a1,a2,rfl,rfl⟩)) Zo (.ek rfl rfl rfl) rfl ?_;rintro v30 _ _ ⟨j,d,o,Y,rfl,rfl,rfl⟩;refine St.dQ ?_;rw[Y]at H4;obtain⟨O,_,AZ⟩:=H4
  have O:jn (⟨its.map cH,R,X⟩:cr) (j.map fm):=O
  refine g3 ?_;refine St.al (λYB=> ?_);refine g8 ?_;refine St.split 34 _ rfl (λF=> ?_) (λF=> ?_)
  ·obtain rfl:o=true:=F
   have AZ:=AZ (ma d) rfl
   refine St.cD rfl rfl ?_;refine go ?_;refine St.cD rfl rfl ?_;refine go ?_;refine St.cD rfl rfl ?_;refine go ?_;refine St.split 37 _ rfl (λG=> ?_) (λG=> ?_)
   ·have C:bi<0:=fJ G
    rw[BB a C,LK M N Y]at x;refine St.br rfl rfl rfl ?_;refine St.br rfl rfl rfl ?_;refine St.br rfl rfl rfl ?_;refine St.br rfl rfl rfl ?_;refine St.cD rfl rfl ?_;refine St.ee (Ev.gT (.mk rfl) rfl (.mk rfl)) ?_;refine St.ee (Ev.gT (.mk rfl) rfl (.mk rfl)) ?_;refine g2 ?_;refine St.Ij _ rfl rfl ?_;refine St.dc (aW b8 (.cells [iv a.wt,a.cv.1,iv a.tree.rule,iv a.tree.lex,a.tree.kv.1].toArray 71 (0,0))::(bF (kK 71 196) j)) mixed (λnp ns=> ?_);refine SW.gd 0 ?_;refine SW.gd 1 ?_;refine SW.gd 2 ?_;refine SW.t1 3 ?_;refine g3 ?_;refine SW.go ?_;refine SW.dn ?_;refine g7 ?_;refine St.aH ⟨i+1,j,(i:Int),d⟩ ⟨by omega,O,⟨(by dsimp only;omega),(by dsimp only;omega)⟩,λ_=>⟨q,AZ⟩,by dsimp only;rw[Ia];exact x⟩
   ·have C:¬bi<0:=iX G
    rw[uq a C]at x;refine St.ea (sl aJ d.cv.1 d.code) [oK d] (λρ h=>h (oK d) (aQ ..) _ (aQ ..)) ?_;refine St.ea (sl aJ a.cv.1 a.code) [oK a] (λρ h=>h (oK a) (aQ ..) _ (aQ ..)) ?_;refine St.cD rfl rfl ?_;refine go ?_;refine St.slot 38 (kU d) rfl rfl ?_;refine St.cD rfl rfl ?_;refine go ?_;refine St.slot 39 (kU a) rfl rfl ?_;refine St.cD rfl rfl ?_;refine St.ee (Ev.call (y7 d a) Zp (.aX rfl rfl)) ?_;refine St.cD rfl rfl ?_;refine go ?_;refine St.cD rfl rfl ?_;refine St.ee (Ev.kR (.mk rfl) rfl (.mk rfl)) ?_;refine St.ee (Ev.gT (.mk rfl) rfl (.mk rfl)) ?_;refine g2 ?_;refine St.cond _ rfl (λH=> ?_) (λH=> ?_)
    ·skip
     have NQ:QR (ma d) (ma a)<0:=fJ H
     rw[Om M N Y NQ]at x;refine St.dc (aW b8 (.cells [iv a.wt,a.cv.1,iv a.tree.rule,iv a.tree.lex,a.tree.kv.1].toArray 71 (0,0))::(bF (kK 71 196) j)) mixed (λnp ns=> ?_);refine SW.gd 0 ?_;refine SW.gd 1 ?_;refine SW.gd 2 ?_;refine SW.t1 3 ?_;refine g3 ?_;refine SW.go ?_;refine SW.dn ?_;refine g7 ?_;refine St.aH ⟨i+1,j,(i:Int),d⟩ ⟨by omega,O,⟨(by dsimp only;omega),(by dsimp only;omega)⟩,λ_=>⟨q,AZ⟩,by dsimp only;rw[Ia];exact x⟩
    ·skip
     have NQ:¬QR (ma d) (ma a)<0:=iX H
     rw[Oo M N Y NQ,←uq a C]at x;refine g8 ?_;refine St.aH ⟨i+1,j,bi,a⟩ ⟨by omega,O,QU,B,x⟩
  ·obtain rfl:o=false:=F
   rw[XW M N Y]at x;refine St.br rfl rfl rfl ?_;refine St.br rfl rfl rfl ?_;refine St.br rfl rfl rfl ?_;refine St.JV rfl rfl rfl ?_;refine St.JV rfl rfl rfl ?_;refine St.JV rfl rfl rfl ?_;refine St.JV rfl rfl rfl ?_;refine St.br rfl rfl rfl ?_;refine St.ee (Ev.kR (.mk rfl) rfl (.mk rfl)) ?_;refine g2 ?_;refine St.rm _ rfl rfl ?_;refine g8 ?_;refine St.aH ⟨i+1,j,bi,a⟩ ⟨by omega,O,QU,B,x⟩
 ·obtain rfl:i=full.length:=by omega
  rw[List.drop_length]at x
  have J2:pD (fk (⟨its.map cH,R,X⟩:cr) 60) ranks full 0 (w.map fm) none=(b.map fm,KT bi a):=x.symm
  refine g11 ?_;refine St.split 49 _ rfl (λI=> ?_) (λI=> ?_)
  ·have C:bi<0:=fJ I
   rw[BB a C]at J2;refine St.br rfl rfl rfl ?_;refine St.br rfl rfl rfl ?_;refine St.br rfl rfl rfl ?_;refine St.br rfl rfl rfl ?_;refine St.ee (Ev.gT (.mk rfl) rfl (.mk rfl)) ?_;refine g2 ?_;refine St.Ij _ rfl rfl ?_;refine g5 ?_;refine St.rV [] [aW s (.cells [f.1].toArray 44 (0,0)),row f.1 69 3 (outs).length (rows dB (outs)),aB (aF bx (outs))] ?_;exact⟨f,outs,rfl,(by rw[←z,RY NZ J2]),A,rfl⟩
  ·have C:¬bi<0:=iX I
   rw[uq a C]at J2;obtain⟨eb,hbe⟩:=B C;obtain⟨hw,hth⟩:=TG hbe;obtain⟨P,Z⟩:=aE (show bi.toNat<ranks.length by omega)
   have acU:=J2
   refine St.dup (pe y (iv (n:Nat))) ?_;refine St.cD rfl rfl ?_;refine go ?_;refine St.cD rfl rfl ?_;refine go ?_;refine St.slot 51 (kU a) rfl rfl ?_;refine St.cD rfl rfl ?_;refine St.ei (show dz prog 27 ([kU a]++ [Value.pointer (some ⟨s,0,none⟩),Value.pointer (some ⟨y,0,none⟩)]).toArray [aB (oK a),aB (pe y (iv (n:Nat))),aW s (.cells [f.1].toArray 44 (0,0)),row f.1 69 3 (outs).length (rows dB (outs)),aB (aF bx outs)] _ from IK s y n a f outs hw hth (by omega) (by omega)) ag8 (.mk rfl) (.ar rfl) rfl ?_;rintro v52 _ ⟨E,t,rfl,ht,rfl⟩;refine St.iQ ?_;refine St.cD rfl rfl ?_;refine go ?_;refine St.ee (Ev.kR (.mk rfl) rfl (.mk rfl)) ?_;refine g2 ?_;refine St.cond _ rfl (λh54=> ?_) (λh54=> ?_)
   ·skip
    have YJ:¬outs.length+1<n:=by simpa using h54
    refine g5 ?_;refine St.rV [] [aW s (.cells [E.1].toArray 44 (0,0)),row E.1 69 3 ((outs++ [t])).length (rows dB ((outs++ [t]))),aB (aF bx ((outs++ [t])))] ?_;exact⟨E,(outs++ [t]),rfl,(by rw[←z,EI NZ acU Z,show m-1=0 by omega,cP,show [t].map cx=[cx t]from rfl,ht];rfl),(λu hu=>by rcases cG.1 hu with hu|hu;exact A u hu;rw[bP]at hu;subst hu;obtain⟨e1,e2⟩:=zt ht;exact⟨by rw[e1];exact hw.1,by rw[e2];exact hw.2⟩),rfl⟩
   ·skip
    have YJ:outs.length+1<n:=by simpa using h54
    refine g5 ?_;refine St.ee (Ev.dZ (k:=bi.toNat) (.mk rfl) (.mk rfl) bJ dK (by omega) (by omega)) ?_;refine St.ee (Ev.ct (.mk rfl) gD trivial (by omega) (oL (gQ Z))) ?_;refine St.ee (Ev.add (.mk rfl) (.mk rfl) (by have:=S P (aZ Z);omega)) ?_;refine St.slot 59 (iv ((P+1:Nat):Int)) rfl (congrArg iv (by push_cast;rfl)) ?_;refine St.ee (Ev.dZ (k:=bi.toNat) (.mk rfl) (.mk rfl) bJ dK (by omega) (by omega)) ?_;refine St.cJ (.mk rfl) (.mk rfl) dK rfl (by omega) (by decide) ?_;refine St.aM (.slice (some ⟨Vb,0,none⟩) full.length full.length) (show _=(ranks.set bi.toNat (P+1)).length by rw[cn]) (show _=rows aJ (bW (ranks.set bi.toNat (P+1)))from r7 _ _ _) ?_;refine g3 ?_;refine St.aH ⟨m-1,b,ranks.set bi.toNat (P+1),E,outs++ [t]⟩ ⟨by dsimp only;omega,by dsimp only;rw[bR,pb];omega,by dsimp only;rw[cn];exact Wd,λr K=>by dsimp only at K⊢;rw[bR,pb];rcases lI K with K|rfl;have:=S r K;omega;have:=S P (aZ Z);omega,V,by dsimp only;rw[←z,EI NZ acU Z,cP,show [t].map cx=[cx t]from rfl,ht];rfl,λu hu=>(by rcases cG.1 hu with hu|hu;exact A u hu;rw[bP]at hu;subst hu;obtain⟨e1,e2⟩:=zt ht;exact⟨by rw[e1];exact hw.1,by rw[e2];exact hw.2⟩)⟩
end Go.Proofs.YtblifkgpebebmaaGreatDoor
