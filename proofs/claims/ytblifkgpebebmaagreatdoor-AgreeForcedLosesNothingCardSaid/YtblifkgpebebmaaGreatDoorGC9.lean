/-
  Laws of walks through programs, and facts on grammars, trees and queries.
  Conditions: none.
-/
import Derived.Test.YtblifkgpebebmaaGreatDoorGC8
set_option maxHeartbeats 8000000
set_option maxRecDepth 20000
set_option linter.unusedVariables false
set_option linter.unusedSimpArgs false
namespace Go.Proofs.YtblifkgpebebmaaGreatDoor
open Go Go.J Tryz
section
variable {n:Nat}{F:Fr}{c:Ctx}{H H' R:List ak}{T:Act→World→Prop}{L:List jH}{e:Nat}{x:jH}
theorem St.JM (a b:TypeId)(hx:L[e]?=some x)[t:jB (bE (kK a b) L) (row x.dv.1 a 5 x.done.length (rows LQ x.done)::row x.nv.1 b 7 x.next.length (rows jK x.next)::aB (aF oM x.done)::aB (aF hS x.next)::bE (kK a b) (L.eraseIdx e)) H H'](h:St n F (Mm c H') T):St n F (Mm c H) T:=
 St.tail (t:=t) _ _ (nN (kK a b) hx) h
theorem St.TC (f g:TypeId)(dv:Value)(a:dv.oneCell'=true)(done:List xT)(nv:Value)(d:nv.oneCell'=true)(next:List ku)(b:Bool)(he:e<L.length)
 [tk:eT [row dv f 5 done.length (rows LQ done),row nv g 7 next.length (rows jK next),aB (aF oM done),aB (aF hS next)] H R] [t:jB (bE (kK f g) (L.eraseIdx e)) (bE (kK f g) (L.set e ⟨⟨dv,a⟩,done,⟨nv,d⟩,next,b⟩)) R H'] (h:St n F (Mm c H') T):St n F (Mm c H) T:=
 St.mm (tk:=tk) (t:=t) _ _ _ (sP (kK f g) (⟨⟨dv,a⟩,done,⟨nv,d⟩,next,b⟩:jH) he) h
theorem NQ {α:Type}(f:α→List ak){l:List α}{i:Nat}{a b:α}(h:l[i]?=some a)(c:f b=f a):bE f l=bE f (l.set i b):=by
 induction l generalizing i with
 |nil=>cases h
 |cons u l d=>
  cases i with
  |zero=>obtain rfl:=Option.some.inj h;rw[sF,iu,iu,c]
  |succ i=>rw[wq,iu,iu,←d h]
theorem St.Xv (X X':List ak)(hp:X=X')[t:jB X X' H H'](h:St n F (Mm c H') T):St n F (Mm c H) T:=St.tail X X' (hp▸ .refl _) h
end
theorem LX {α:Type}(R:Rp α){l:List α}{i:Nat}{a b:α}(h:l[i]?=some a)(c:R.cells b=R.cells a):rows R l=rows R (l.set i b):=by
 induction l generalizing i with
 |nil=>cases h
 |cons u l d=>
  cases i with
  |zero=>
   obtain rfl:=Option.some.inj h;rw[sF]
   show R.cells u++rows R l=R.cells b++rows R l
   rw[c]
  |succ i=>
   rw[wq]
   show R.cells u++rows R l=R.cells u++rows R (l.set i b)
   rw[d h]
def jH.wb (x:jH):jH:=⟨x.dv,x.done,x.nv,x.next,true⟩
def jH.wd (x:jH)(u:aV)(l:List xT):jH:=⟨u,l,x.nv,x.next,x.begun⟩
theorem TQ {L:List jH}{e:Nat}{x:jH}(h:L[e]?=some x):(rows fO L).set (e*3+2) (.bool true)=rows fO (L.set e x.wb):=pH fO h (by decide) rfl
theorem Fa {L:List jH}{e:Nat}{x:jH}(h:L[e]?=some x)(u:aV)(l:List xT):(rows fO L).set (e*3+0) u.1=rows fO (L.set e (x.wd u l)):=pH fO h (by decide) rfl
theorem fY {L:List jH}{e:Nat}{x:jH}(h:L[e]?=some x):(L.map fi)[e]?=some (fi x):=by rw[bP,h];rfl
theorem LO {B:ct}{get:eD→Nat→Nat→eD×Option jo}{e d:Nat}{c:jF}{st st2:eD}(h:nA B get st e c.fx (c.ranks.set d (c.ranks.getD d 0+1))=(st2,none)):zS B get e c d st=st2:=by unfold zS;rw[h]
theorem LP {B:ct}{get:eD→Nat→Nat→eD×Option jo}{e d:Nat}{c z:jF}{st st2:eD}{x:wJ}(h:nA B get st e c.fx (c.ranks.set d (c.ranks.getD d 0+1))=(st2,some z))(hx:st2[e]?=some x):zS B get e c d st=st2.set e ⟨x.done,Av x.next z,x.begun⟩:=by unfold zS;rw[h];show DK st2 e _=_;rw[r4 hx,gH hx]
theorem KV {B:ct}{get:eD→Nat→Nat→eD×Option jo}{e w:Nat}{st st2:eD}(h:nA B get st e w (List.replicate (B.fx e w).kids.length 0)=(st2,none)):Aa B get e st w=st2:=by unfold Aa;rw[h]
theorem KX {B:ct}{get:eD→Nat→Nat→eD×Option jo}{e w:Nat}{c:jF}{st st2:eD}{x:wJ}(h:nA B get st e w (List.replicate (B.fx e w).kids.length 0)=(st2,some c))(hx:st2[e]?=some x):Aa B get e st w=st2.set e ⟨x.done,x.next++ [c],x.begun⟩:=by unfold Aa;rw[h];show DK st2 e _=_;rw[r4 hx,gH hx]
theorem T6 {B:ct}{get:eD→Nat→Nat→eD×Option jo}{e r m:Nat}{st:eD}{x:wJ}(hx:st[e]?=some x)(hm:0<m)(h:x.done.length≤r)(a:0<x.next.length):u9 B get e r m st=u9 B get e r (m-1) (Aw B get e (FM st e) (FM st e).ranks.length 0 (LN st e)):=by
 obtain⟨k,rfl⟩:∃k,m=k+1:=⟨m-1,by omega⟩
 rw[u9,aC (by rw[gH hx];exact⟨h,a⟩)];rfl
theorem BZ {B:ct}{get:eD→Nat→Nat→eD×Option jo}{e r m:Nat}{st:eD}{x:wJ}(hx:st[e]?=some x)(h:¬(x.done.length≤r∧0<x.next.length)):u9 B get e r m st=st:=by
 cases m with
 |zero=>rfl
 |succ k=>rw[u9,aA (by rw[gH hx];exact h)]
theorem r8 (l:List Nat)(d z:Nat):(rows aJ (bW l)).set (d*1+0) (iv (z:Int))=rows aJ (bW (l.set d z)):=by rw[j8,FB]
section
variable {n:Nat}{F:Fr}{c:Ctx}{H H' R:List ak}{T:Act→World→Prop}{L:List jH}{e:Nat}{x:jH}
theorem St.DJ (a b:TypeId)(hx:L[e]?=some x)[tk:eT [row x.dv.1 a 5 x.done.length (rows LQ x.done),row x.nv.1 b 7 x.next.length (rows jK x.next),aB (aF oM x.done),aB (aF hS x.next)] H R][t:jB (bE (kK a b) (L.eraseIdx e)) (bE (kK a b) L) R H'](h:St n F (Mm c H') T):St n F (Mm c H) T:=
 St.mm (tk:=tk) (t:=t) _ _ _ (nN (kK a b) hx).symm h
end
theorem BS (B:ct)(f:Nat)(st:eD)(e r:Nat){st2:eD}{x:wJ}(h:u9 B (fh B f) e r (r+1) (yV B (fh B f) e st)=st2)(hx:st2[e]?=some x):fh B (f+1) st e r=(st2,x.done[r]?):=by
 rw[fh];rw[h,gH hx]
theorem FV {B:ct}{get:eD→Nat→Nat→eD×Option jo}{e d rd:Nat}{z:ku}{st:eD}(h:z.ranks[d]?=some rd):Aw B get e (iQ z) (z.ranks.length-d) d st=if 0<rd then zS B get e (iQ z) d st else Aw B get e (iQ z) (z.ranks.length-(d+1)) (d+1) (zS B get e (iQ z) d st):=by
 have b:=(fA.1 h).1
 rw[show z.ranks.length-d=(z.ranks.length-(d+1))+1 by omega,Bf]
 have a:(iQ z).ranks.getD d 0=rd:=by show z.ranks.getD d 0=rd;rw[ar,h];rfl
 rw[a]
theorem oO {l:List Int}{k:Nat}{x:Int}(h:l[k]?=some x):(rows aJ l)[k*1+0]?=some (iv x):=eN aJ l k 0 x h (by decide)
theorem NK (G j m0 k:Nat)(rv xv eF:aV)(R X:List Int)(its:List dL)(H:oA (⟨its.map cF,R,X⟩:ct)):∀f,VR G j m0 k rv xv eF R X its f:=by
 refine Nat.rec (motive:=λf=>VR G j m0 k rv xv eF R X its f) (λe r L _ h=>absurd h (Nat.not_lt_zero _)) (λf SG e r L he SC hr JC=> ?_);refine dz.body (args:=[.pointer (some ⟨G,0,none⟩),iv (e:Nat),iv (r:Nat)]) 167 func52 rfl ntmps52 rfl (λc=> ?_);refine go ?_;refine St.cast (H':=(aB (fP G [rv.1,xv.1,eF.1,(.slice (some ⟨j,0,none⟩) m0 k)])::aB (sl aJ rv.1 R)::aB (sl aJ xv.1 X)::aB (sl eE eF.1 its)::aB (aF cj its)::row (.slice (some ⟨j,0,none⟩) m0 k) 194 3 (L).length (rows fO (L))::bE (kK 71 196) L)) rfl ?_;obtain⟨y,hy⟩:=aE he
 have N:e<(⟨its.map cF,R,X⟩:ct).its.length:=by show e<(its.map cF).length;rw[aO];exact he
 have hLl:=sZ JC
 obtain⟨x0,HM⟩:=aE (show e<L.length by omega)
 have hwb:y.cW.length≤1117240000000:=by rw[←Cm (R:=R) (X:=X) hy];exact H.nw e N
 have hnw:=Cm (R:=R) (X:=X) hy
 have Ul:=D5 H f
 refine St.cK cj its (x:=y) (ae hy) ?_;refine St.eZ (sl mM y.wv.1 y.cW) [cj y] (λρ h=>h (cj y) (aQ ..) _ (cO _ (aQ ..))) ?_;refine go ?_;refine St.al (λb6=> ?_);refine g8 ?_;refine St.ee (Ev.qy (.mk rfl) underlying125 trivial rfl) ?_;refine g5 ?_;refine St.join (ι:=List jH) (λLb T=>T) (λLb=>(row (.slice (some ⟨j,0,none⟩) m0 k) 194 3 (Lb).length (rows fO (Lb))::aB (fP G [rv.1,xv.1,eF.1,(.slice (some ⟨j,0,none⟩) m0 k)])::aB (sl aJ rv.1 R)::aB (sl aJ xv.1 X)::aB (sl eE eF.1 its)::aB (aF cj its)::aB (sl mM y.wv.1 y.cW)::aB (cj y)::aW b6 (.cells [iv 0,(.slice none 0 0),iv 0,iv 0,(.slice none 0 0)].toArray 71 (0,0))::(bE (kK 71 196) Lb))) (λLb=>Lb.map fi=yV (⟨its.map cF,R,X⟩:ct) (fh (⟨its.map cF,R,X⟩:ct) f) e (L.map fi)) (aD.cons 0 rfl (aD.cons 1 rfl (aD.cons 2 rfl (aD.cons 6 rfl (aD.cons 7 rfl (aD.cons 8 rfl aD.nil)))))) ?_ ?_
 ·refine g3 ?_
  refine St.ee (Ev.kg rfl (.mk rfl)) ?_;refine St.ee (Ev.jY rfl (.mk rfl) J3) ?_;refine St.slot 25 (cZ (.slice (some ⟨j,0,none⟩) m0 k) 3 e 2) rfl rfl ?_;refine St.ee (Ev.cu (.mk rfl) IL trivial (by omega) (show(rows fO L)[e*3+2]?=some (.bool x0.begun)from uC HM (by decide))) ?_;refine g3 ?_;refine St.cond _ rfl (λh27=> ?_) (λh27=> ?_)
  ·skip
   have hb0:x0.begun=false:=by simpa using h27
   have J8:((L.map fi).getD e nz).begun=false:=by rw[gH (fY HM)];exact hb0
   refine g3 ?_;refine St.ee (Ev.kg rfl (.mk rfl)) ?_;refine St.ee (Ev.jY rfl (.mk rfl) J3) ?_;refine St.slot 30 (cZ (.slice (some ⟨j,0,none⟩) m0 k) 3 e 2) rfl rfl ?_;refine St.cI (.mk rfl) (.mk rfl) Bt rfl (by omega) (by decide) ?_;refine St.aM (.slice (some ⟨j,0,none⟩) m0 k) (show _=(L.set e x0.wb).length by rw[cn]) (show _=rows fO (L.set e x0.wb)from TQ HM) ?_;refine St.Xv (bE (kK 71 196) L) (bE (kK 71 196) (L.set e x0.wb)) (NQ _ HM rfl) ?_;refine g8 ?_;refine St.ee (Ev.qy (.mk rfl) nY trivial rfl) ?_;refine g9 ?_;refine St.lH (ι:=Nat×List jH) (λ⟨w,b⟩ T=>(40,iv w)::T) (λ⟨w,b⟩=>(row (.slice (some ⟨j,0,none⟩) m0 k) 194 3 (b).length (rows fO (b))::aB (fP G [rv.1,xv.1,eF.1,(.slice (some ⟨j,0,none⟩) m0 k)])::aB (sl aJ rv.1 R)::aB (sl aJ xv.1 X)::aB (sl eE eF.1 its)::aB (aF cj its)::aB (sl mM y.wv.1 y.cW)::aB (cj y)::aW b6 (.cells [iv 0,(.slice none 0 0),iv 0,iv 0,(.slice none 0 0)].toArray 71 (0,0))::(bE (kK 71 196) b))) (λ⟨w,b⟩=>w≤y.cW.length∧b.map fi=EE (⟨its.map cF,R,X⟩:ct) (fh (⟨its.map cF,R,X⟩:ct) f) e (L.map fi) w) (λ⟨w,b⟩=>y.cW.length-w) ⟨0,L.set e x0.wb⟩ (aD.cons 0 rfl (aD.cons 1 rfl (aD.cons 2 rfl (aD.cons 6 rfl (aD.cons 7 rfl (aD.cons 8 rfl (aD.cons 39 rfl aD.nil))))))) ⟨aP _,by show _=(L.map fi).set e _;rw[gH (fY HM),jk];rfl⟩ ?_;rintro ⟨w,b⟩ ⟨hw,Z⟩
   dsimp only at hw Z⊢
   have Qc:=Cg H Ul N SC JC J8 w (by omega)
   rw[←Z]at Qc
   have hl1:=sZ Qc.ok
   obtain⟨a,n⟩:=aE (show e<b.length by omega);refine g6 ?_;refine St.cq (λh41=> ?_) (λh41=> ?_)
   ·have Nr:w<y.cW.length:=by omega
    obtain⟨A,hwy⟩:=aE Nr
    have SY:=UC (R:=R) (X:=X) hy hwy
    have hwn:w<rN (⟨its.map cF,R,X⟩:ct) e:=by rw[hnw];exact Nr
    have hk3:A.kids.length≤3:=by have h:=afL H N hwn;rw[SY]at h;exact h
    have hnk:(bW A.kids).length=A.kids.length:=dY _
    refine St.eZ (sl aJ A.kv.1 (bW A.kids)) [cj y] (λρ h=>h (cj y) (aQ ..) (aF mY y.cW) (cO _ (cO _ (aQ ..))) A (ae hwy)) ?_;refine g2 ?_;refine St.join (ι:=List jH) (λs T=>T) (λs=>(row (.slice (some ⟨j,0,none⟩) m0 k) 194 3 (s).length (rows fO (s))::aB (fP G [rv.1,xv.1,eF.1,(.slice (some ⟨j,0,none⟩) m0 k)])::aB (sl aJ rv.1 R)::aB (sl aJ xv.1 X)::aB (sl eE eF.1 its)::aB (aF cj its)::aB (sl mM y.wv.1 y.cW)::aB (cj y)::aW b6 (.cells [iv 0,(.slice none 0 0),iv 0,iv 0,(.slice none 0 0)].toArray 71 (0,0))::(bE (kK 71 196) s))) (λs=>s.map fi=Aa (⟨its.map cF,R,X⟩:ct) (fh (⟨its.map cF,R,X⟩:ct) f) e (b.map fi) w) (aD.cons 0 rfl (aD.cons 1 rfl (aD.cons 2 rfl (aD.cons 6 rfl (aD.cons 7 rfl (aD.cons 8 rfl (aD.cons 39 rfl (aD.cons 40 rfl aD.nil)))))))) ?_ ?_
    ·refine g15 ?_
     refine St.ee (Ev.qy (.mk rfl) nY trivial rfl) ?_;refine g9 ?_;refine St.nO (Rr:=aJ) (g:=0) (m:=A.kids.length) (sz:=1) rfl (.mk rfl) (.mk rfl) bJ dK eS xW (congrArg _ hnk) (congrArg _ hnk) (by omega) rfl rfl (λb60=> ?_);refine St.aM (.slice (some ⟨b60,0,none⟩) A.kids.length A.kids.length) (show _=(bW (List.replicate A.kids.length 0)).length by rw[dY,kF]) (show _=rows aJ (bW (List.replicate A.kids.length 0)) by unfold bW;rw[sB];rfl) ?_;refine St.bS (.slice (some ⟨b60,0,none⟩) A.kids.length A.kids.length) aJ (bW (List.replicate A.kids.length 0)) rfl rfl (λq hq=>by obtain⟨i,hi,rfl⟩:=cz.1 hq;rw[wm hi];show aZ _;unfold aZ;omega) ?_;refine St.pS (ds:=[fP G [rv.1,xv.1,eF.1,(.slice (some ⟨j,0,none⟩) m0 k)],sl aJ rv.1 R,sl aJ xv.1 X,sl eE eF.1 its,aF cj its,sl aJ (⟨(.slice (some ⟨b60,0,none⟩) A.kids.length A.kids.length),rfl⟩:aV).1 (bW (List.replicate A.kids.length 0))]) (L:=[row (.slice (some ⟨j,0,none⟩) m0 k) 194 3 (b).length (rows fO (b))]) (X:=bE (kK 71 196) b) (post:=λv L' X'=>∃(p:List jH) (cc:ku) (o:Bool),nA (⟨its.map cF,R,X⟩:ct) (fh (⟨its.map cF,R,X⟩:ct) f) (b.map fi) e w (List.replicate A.kids.length 0)=(p.map fi,if o then some (iQ cc)else none)∧v= .tuple #[EK cc,.bool o]∧L'=[row (.slice (some ⟨j,0,none⟩) m0 k) 194 3 (p).length (rows fO (p)),aB (hS cc)]∧X'=bE (kK 71 196) p) ((wN G j m0 k rv xv eF R X its H f SG e w (0) (⟨(.slice (some ⟨b60,0,none⟩) A.kids.length A.kids.length),rfl⟩) (List.replicate A.kids.length 0) b he SC hwn (by rw[SY];exact kF) (λq hq=>by rw[wm hq];exact aR _) (by have:=H.ht e N;omega) Qc.ok).mono (λv H' ⟨p,cc,o,a1,a2,a3⟩=>⟨[_,_],_,a3,p,cc,o,a1,a2,rfl,rfl⟩)) aaB (.gU rfl rfl rfl rfl) rfl ?_;rintro v61 _ _ ⟨p,cc,o,hch,rfl,rfl,rfl⟩;refine St.dQ ?_
     have hco:=Cq (D:=0) (ranks:=List.replicate A.kids.length 0) H Ul N SC hwn (by rw[SY];exact kF) (λq hq=>by rw[wm hq];exact aR _) (by have:=H.ht e N;omega) Qc.ok
     rw[hch]at hco
     have hs2:jl (⟨its.map cF,R,X⟩:ct) (p.map fi):=hco.1
     have hl2:=sZ hs2
     obtain⟨l,SZ⟩:=aE (show e<p.length by omega)
     have NV:nA (⟨its.map cF,R,X⟩:ct) (fh (⟨its.map cF,R,X⟩:ct) f) (b.map fi) e w (List.replicate ((⟨its.map cF,R,X⟩:ct).fx e w).kids.length 0)=(p.map fi,if o then some (iQ cc)else none):=by rw[SY];exact hch
     refine g3 ?_;refine St.al (λb10=> ?_);refine St.sA (.mk rfl) (.mk rfl) ji ?_ (h1:=(eW.2 λu hu=>jK.one cc u hu));refine g8 ?_;refine St.cond _ rfl (λh64=> ?_) (λh64=> ?_)
     ·skip
      obtain rfl:o=true:=h64
      have M:=(hs2.nl e _ (fY SZ)).nl
      have Kt:=(hs2.nl e _ (fY SZ)).dl
      have M:(l.next.map iQ).length≤rN (⟨its.map cF,R,X⟩:ct) e+3*(l.done.map mg).length:=M
      have Kt:(l.done.map mg).length+l7 (⟨its.map cF,R,X⟩:ct) e≤262:=Kt
      rw[aO]at M Kt;rw[aO]at M;refine St.JM (L:=p) (e:=e) 71 196 SZ ?_;refine St.dc (row (.slice (some ⟨j,0,none⟩) m0 k) 194 3 (p).length (rows fO (p))::row l.nv.1 196 7 (l.next).length (rows jK (l.next))::(bE (kK 71 196) (p.eraseIdx e))) mixed (λnp ns=> ?_);refine SW.gd 0 ?_;refine SW.gd 1 ?_;refine SW.dd 2 rfl (λ_=>Ev.kg rfl (.mk rfl)) ?_;refine SW.dd 3 rfl (λ_=>Ev.jY rfl (.mk rfl) oz) ?_;refine SW.slot 68 (cZ (.slice (some ⟨j,0,none⟩) m0 k) 3 e 1) rfl rfl ?_;refine SW.gd 5 ?_;refine SW.slot 70 (EK cc) rfl rfl ?_;refine SW.t2 4 6 ?_ ?_
      focus
       refine St.ee (Ev.cu (.mk rfl) iY trivial (by omega) (nQ SZ)) ?_;refine g2 ?_;refine SW.go ?_;refine SW.t1 6 ?_;refine St.gX rfl (.au rfl) iY ji CJ rfl rfl (by simp[Value.cells]) rfl rfl (λb71=> ?_);refine g2 ?_;refine SW.go ?_;refine SW.t1 7 ?_;refine St.aj (.mk rfl) (.mk rfl) iY ji CJ Mi (by intro u hu;exact jK.one cc u hu) (by omega) (by omega) rfl rfl rfl rfl (λv72 akO=> ?_);refine St.aM v72 (show _=(l.next++ [cc]).length by rw[bQ];rfl) (show _=rows jK (l.next++ [cc]) by rw[bB];rfl) ?_;refine St.bZ v72 (λO _=> ?_);refine g2 ?_;refine SW.go ?_;refine SW.dd 8 rfl (λ_=>Ev.kg rfl (.mk rfl)) ?_;refine SW.dd 9 rfl (λ_=>Ev.jY rfl (.mk rfl) oz) ?_;refine SW.slot 74 (cZ (.slice (some ⟨j,0,none⟩) m0 k) 3 e 1) rfl rfl ?_;refine SW.t1 10 ?_;refine St.cI (.mk rfl) (.mk rfl) Jq O (by omega) (by decide) ?_;refine St.aM (.slice (some ⟨j,0,none⟩) m0 k) (show _=(p.set e ⟨⟨l.dv.1,l.dv.2⟩,l.done,⟨v72,O⟩,l.next++ [cc],l.begun⟩).length by rw[cn]) (show _=rows fO (p.set e ⟨⟨l.dv.1,l.dv.2⟩,l.done,⟨v72,O⟩,l.next++ [cc],l.begun⟩)from oP SZ ⟨v72,O⟩ _) ?_;refine g2 ?_;refine SW.go ?_;refine SW.dn ?_
      rotate_left
      focus
       refine St.gX rfl (.au rfl) iY ji CJ rfl rfl (by simp[Value.cells]) rfl rfl (λb71=> ?_);refine g2 ?_;refine SW.go ?_;refine SW.t1 4 ?_;refine St.ee (Ev.cu (.mk rfl) iY trivial (by omega) (nQ SZ)) ?_;refine g2 ?_;refine SW.go ?_;refine SW.t1 7 ?_;refine St.aj (.mk rfl) (.mk rfl) iY ji CJ Mi (by intro u hu;exact jK.one cc u hu) (by omega) (by omega) rfl rfl rfl rfl (λv72 akO=> ?_);refine St.aM v72 (show _=(l.next++ [cc]).length by rw[bQ];rfl) (show _=rows jK (l.next++ [cc]) by rw[bB];rfl) ?_;refine St.bZ v72 (λO _=> ?_);refine g2 ?_;refine SW.go ?_;refine SW.dd 8 rfl (λ_=>Ev.kg rfl (.mk rfl)) ?_;refine SW.dd 9 rfl (λ_=>Ev.jY rfl (.mk rfl) oz) ?_;refine SW.slot 74 (cZ (.slice (some ⟨j,0,none⟩) m0 k) 3 e 1) rfl rfl ?_;refine SW.t1 10 ?_;refine St.cI (.mk rfl) (.mk rfl) Jq O (by omega) (by decide) ?_;refine St.aM (.slice (some ⟨j,0,none⟩) m0 k) (show _=(p.set e ⟨⟨l.dv.1,l.dv.2⟩,l.done,⟨v72,O⟩,l.next++ [cc],l.begun⟩).length by rw[cn]) (show _=rows fO (p.set e ⟨⟨l.dv.1,l.dv.2⟩,l.done,⟨v72,O⟩,l.next++ [cc],l.begun⟩)from oP SZ ⟨v72,O⟩ _) ?_;refine g2 ?_;refine SW.go ?_;refine SW.dn ?_
      all_goals
       refine g2 ?_;refine St.eZ (aF hS (l.next++ [cc])) [aF hS l.next,hS cc] (λρ h u hu=>by rcases cD.1 hu with hu|hu;exact h (aF hS l.next) (aQ ..) u hu;rw[bO]at hu;subst hu;exact h (hS u) (cO _ (aQ ..))) ?_;refine St.TC (L:=p) (e:=e) 71 196 (l.dv.1) (l.dv.2) (l.done) (v72) (O) (l.next++ [cc]) (l.begun) (by omega) ?_;refine St.mE (p.set e ⟨⟨l.dv.1,l.dv.2⟩,l.done,⟨v72,O⟩,l.next++ [cc],l.begun⟩) (by rw[KX NV (fY SZ),jk];show(p.map fi).set e (⟨_,(l.next++ [cc]).map iQ,_⟩:wJ)=_;rw[cP];rfl)
     ·skip
      obtain rfl:o=false:=h64;refine g3 ?_;refine St.mE p (by rw[KV NV])
    ·intro s hL3
     refine g5 ?_;refine St.aH ⟨w+1,s⟩ ⟨by omega,by rw[BG,←Z];exact hL3⟩
   ·obtain rfl:w=y.cW.length:=by omega
    have M:=(Qc.ok.nl e _ (fY n)).nl
    have Kt:=(Qc.ok.nl e _ (fY n)).dl
    have M:(a.next.map iQ).length≤rN (⟨its.map cF,R,X⟩:ct) e+3*(a.done.map mg).length:=M
    have Kt:(a.done.map mg).length+l7 (⟨its.map cF,R,X⟩:ct) e≤262:=Kt
    rw[aO]at M Kt;rw[aO]at M;refine St.JM (L:=b) (e:=e) 71 196 n ?_;refine g7 ?_;refine St.ee (Ev.kg rfl (.mk rfl)) ?_;refine St.ee (Ev.jY rfl (.mk rfl) oz) ?_;refine St.slot 78 (cZ (.slice (some ⟨j,0,none⟩) m0 k) 3 e 1) rfl rfl ?_;refine St.ee (Ev.iface (.mk rfl) underlying202 trivial) ?_;refine St.call (Kz j m0 k e b a n a.next (by omega)) ah5 (.au rfl) rfl ?_;rintro v80 _ ⟨P,rfl,J9,hm2,rfl⟩;refine St.iP ?_;refine St.aM (.slice (some ⟨j,0,none⟩) m0 k) (show _=(b.set e ⟨⟨a.dv.1,a.dv.2⟩,a.done,⟨a.nv.1,a.nv.2⟩,P,a.begun⟩).length by rw[cn]) (show _=rows fO (b.set e ⟨⟨a.dv.1,a.dv.2⟩,a.done,⟨a.nv.1,a.nv.2⟩,P,a.begun⟩)from LX fO n rfl) ?_;refine St.TC (L:=b) (e:=e) 71 196 (a.dv.1) (a.dv.2) (a.done) (a.nv.1) (a.nv.2) (P) (a.begun) (by omega) ?_;refine g2 ?_;refine St.mE (b.set e ⟨⟨a.dv.1,a.dv.2⟩,a.done,⟨a.nv.1,a.nv.2⟩,P,a.begun⟩) (by rw[EC J8,hnw,←Z,r4 (fY n),gH (fY n),jk];show(b.map fi).set e (⟨_,P.map iQ,_⟩:wJ)=_;rw[J9];show _=(b.map fi).set e (⟨_,tj (a.next.map iQ).length ((a.next.map iQ).length/2) _,_⟩:wJ);rw[aO];rfl)
  ·skip
   have hb0:x0.begun=true:=by simpa using h27
   refine g2 ?_;refine St.mE L (ED (by rw[gH (fY HM)];exact hb0)).symm
 ·intro Lb hLb
  have hmb:=MU H Ul N SC JC
  rw[←hLb]at hmb;refine g2 ?_;refine St.lH (ι:=Nat×List jH) (λ⟨m,b⟩ T=>T) (λ⟨m,b⟩=>(row (.slice (some ⟨j,0,none⟩) m0 k) 194 3 (b).length (rows fO (b))::aB (fP G [rv.1,xv.1,eF.1,(.slice (some ⟨j,0,none⟩) m0 k)])::aB (sl aJ rv.1 R)::aB (sl aJ xv.1 X)::aB (sl eE eF.1 its)::aB (aF cj its)::aB (sl mM y.wv.1 y.cW)::aB (cj y)::aW b6 (.cells [iv 0,(.slice none 0 0),iv 0,iv 0,(.slice none 0 0)].toArray 71 (0,0))::(bE (kK 71 196) b))) (λ⟨m,b⟩=>GW (⟨its.map cF,R,X⟩:ct) e (L.map fi) (b.map fi)∧u9 (⟨its.map cF,R,X⟩:ct) (fh (⟨its.map cF,R,X⟩:ct) f) e r m (b.map fi)=u9 (⟨its.map cF,R,X⟩:ct) (fh (⟨its.map cF,R,X⟩:ct) f) e r (r+1) (yV (⟨its.map cF,R,X⟩:ct) (fh (⟨its.map cF,R,X⟩:ct) f) e (L.map fi))∧(∀x,b[e]?=some x→r+1≤m+x.done.length)) (λ⟨m,b⟩=>m) ⟨r+1,Lb⟩ (aD.cons 0 rfl (aD.cons 1 rfl (aD.cons 2 rfl (aD.cons 6 rfl (aD.cons 7 rfl (aD.cons 8 rfl aD.nil)))))) ⟨hmb,by rw[hLb],λx _=>(by omega)⟩ ?_;rintro ⟨m,b⟩ ⟨hmi,Q,hmf⟩
  dsimp only at hmi Q hmf⊢
  have hl1:=sZ hmi.ok
  obtain⟨a,n⟩:=aE (show e<b.length by omega)
  have hmf:=hmf a n
  have hN1:=hmi.ok.nl e _ (fY n)
  have M:(a.next.map iQ).length≤rN (⟨its.map cF,R,X⟩:ct) e+3*(a.done.map mg).length:=hN1.nl
  have Kt:(a.done.map mg).length+l7 (⟨its.map cF,R,X⟩:ct) e≤262:=hN1.dl
  rw[aO]at M Kt;rw[aO]at M;refine St.JM (L:=b) (e:=e) 71 196 n ?_;refine g4 ?_;refine St.ee (Ev.kg rfl (.mk rfl)) ?_;refine St.ee (Ev.jY rfl (.mk rfl) nM) ?_;refine St.slot 83 (cZ (.slice (some ⟨j,0,none⟩) m0 k) 3 e 0) rfl rfl ?_;refine St.ee (Ev.cu (.mk rfl) oZ trivial (by omega) (show(rows fO b)[e*3+0]?=some a.dv.1 from uC n (by decide))) ?_;refine g4 ?_;refine St.split 88 _ rfl (λWp=> ?_) (λWp=> ?_)
  ·have NX:a.done.length≤r:=by have:=fM Wp;omega
   refine St.cG rfl rfl ?_;refine go ?_;refine St.cG rfl rfl ?_;refine St.ee (Ev.kg rfl (.mk rfl)) ?_;refine St.cG rfl rfl ?_;refine St.ee (Ev.jY rfl (.mk rfl) oz) ?_;refine St.slot 91 (cZ (.slice (some ⟨j,0,none⟩) m0 k) 3 e 1) rfl rfl ?_;refine St.cG rfl rfl ?_;refine St.ee (Ev.cu (.mk rfl) iY trivial (by omega) (nQ n)) ?_;refine St.cG rfl rfl ?_;refine St.ee (Ev.wM (qo a.nv.1 a.next) RI (.au rfl) ((dW.row dW.nil rfl rfl rfl (λ_ _=>trivial)))) ?_;refine St.cG rfl rfl ?_;refine go ?_;refine St.ee (Ev.gZ (.mk rfl) rfl (.mk rfl)) ?_;refine g2 ?_;refine St.cq (λh95=> ?_) (λh95=> ?_)
   ·have I:0<a.next.length:=by omega
    obtain⟨hpi,W⟩:=Om hmi (fY n) hr (by show(a.done.map mg).length≤r;rw[aO];exact NX) (by show 0<(a.next.map iQ).length;rw[aO];exact I)
    have SP:=T6 (B:=(⟨its.map cF,R,X⟩:ct)) (get:=(fh (⟨its.map cF,R,X⟩:ct) f)) (e:=e) (r:=r) (m:=m) (fY n) (by omega) (by show(a.done.map mg).length≤r;rw[aO];exact NX) (by show 0<(a.next.map iQ).length;rw[aO];exact I)
    refine g6 ?_;refine St.ee (Ev.kg rfl (.mk rfl)) ?_;refine St.ee (Ev.jY rfl (.mk rfl) oz) ?_;refine St.slot 98 (cZ (.slice (some ⟨j,0,none⟩) m0 k) 3 e 1) rfl rfl ?_;refine St.ee (Ev.iface (.mk rfl) underlying202 trivial) ?_;refine St.call (Kv j m0 k e b a n a.next (by omega) I) ah6 (.au rfl) rfl ?_;rintro aoD _ ⟨u,E,z,rfl,hq3,hz,hm3,rfl⟩;refine St.iP ?_;refine St.cK hS E (x:=z) (ae hz) ?_;refine St.eZ (aF hS (E.take (a.next.length-1))) [aF hS E] (λρ h u hu=>h (aF hS E) (aQ ..) u (CG hu)) ?_;refine St.eZ (sl aJ z.rv.1 (bW z.ranks)) [hS z] (λρ h=>h (hS z) (aQ ..) _ (cO _ (cO _ (aQ ..)))) ?_;refine St.eZ (aF oM (a.done++ [z.rk])) [aF oM a.done,hS z] (λρ h u hu=>by rcases cD.1 hu with hu|hu;exact h (aF oM a.done) (aQ ..) u hu;rw[bO]at hu;subst hu;have hc:=h (hS z) (cO _ (aQ ..));intro d hd;simp only[List.mem_cons,List.not_mem_nil,or_false]at hd;rcases hd with rfl|rfl;exact hc _ (aQ ..);exact hc _ (cO _ (aQ ..))) ?_
    have Lz:(b.set e (a.wn u (E.take (a.next.length-1))))[e]?=some (a.wn u (E.take (a.next.length-1))):=fV (by omega)
    refine St.ee (Ev.assert (.mk rfl) uU trivial) ?_;refine St.slot 101 (EK z) rfl rfl ?_;refine St.al (λR4=> ?_);refine St.sA (.mk rfl) (.mk rfl) ji ?_ (h1:=(eW.2 λu hu=>jK.one z u hu));refine g3 ?_;refine St.dc (row (.slice (some ⟨j,0,none⟩) m0 k) 194 3 (b.set e (a.wn u (E.take (a.next.length-1)))).length (rows fO (b.set e (a.wn u (E.take (a.next.length-1)))))::row a.dv.1 71 5 a.done.length (rows LQ a.done)::(bE (kK 71 196) (b.eraseIdx e))) mixed (λnp ns=> ?_);refine SW.gd 0 ?_;refine SW.gd 1 ?_;refine SW.dd 2 rfl (λ_=>Ev.kg rfl (.mk rfl)) ?_;refine SW.dd 3 rfl (λ_=>Ev.jY rfl (.mk rfl) nM) ?_;refine SW.slot 105 (cZ (.slice (some ⟨j,0,none⟩) m0 k) 3 e 0) rfl rfl ?_;refine SW.gd 5 ?_;refine SW.dd 6 rfl (λ_=>Ev.iT 5 (.mk rfl) IP trivial vt rfl rfl) ?_;refine SW.slot 108 (kT z.rk) rfl rfl ?_;refine SW.t2 4 7 ?_ ?_
    focus
     refine St.ee (Ev.cu (.mk rfl) oZ trivial (by rw[cn];omega) (show(rows fO _)[e*3+0]?=some a.dv.1 from uC (x:=a.wn u (E.take (a.next.length-1))) Lz (by decide))) ?_;refine g2 ?_;refine SW.go ?_;refine SW.t1 7 ?_;refine St.gX rfl (.au rfl) oZ vt U3 rfl rfl (by simp[Value.cells]) rfl rfl (λafY=> ?_);refine g2 ?_;refine SW.go ?_;refine SW.t1 8 ?_;refine St.aj (.mk rfl) (.mk rfl) oZ vt U3 ZL (by intro u hu;exact LQ.one z.rk u hu) (by omega) (by omega) rfl rfl rfl rfl (λJ adC=> ?_);refine St.aM J (show _=(a.done++ [z.rk]).length by rw[bQ];rfl) (show _=rows LQ (a.done++ [z.rk]) by rw[bB];rfl) ?_;refine St.bZ J (λS _=> ?_);refine g2 ?_;refine SW.go ?_;refine SW.dd 9 rfl (λ_=>Ev.kg rfl (.mk rfl)) ?_;refine SW.dd 10 rfl (λ_=>Ev.jY rfl (.mk rfl) nM) ?_;refine SW.slot 112 (cZ (.slice (some ⟨j,0,none⟩) m0 k) 3 e 0) rfl rfl ?_;refine SW.t1 11 ?_;refine St.cI (.mk rfl) (.mk rfl) VF S (by rw[cn];omega) (by decide) ?_;refine St.aM (.slice (some ⟨j,0,none⟩) m0 k) (show _=(b.set e ⟨⟨J,S⟩,a.done++ [z.rk],⟨u.1,u.2⟩,E.take (a.next.length-1),a.begun⟩).length by rw[cn,cn]) (show _=rows fO (b.set e ⟨⟨J,S⟩,a.done++ [z.rk],⟨u.1,u.2⟩,E.take (a.next.length-1),a.begun⟩) by rw[Fa Lz ⟨J,S⟩ (a.done++ [z.rk]),List.set_set];rfl) ?_;refine g2 ?_;refine SW.go ?_;refine SW.dn ?_
    rotate_left
    focus
     refine St.gX rfl (.au rfl) oZ vt U3 rfl rfl (by simp[Value.cells]) rfl rfl (λafY=> ?_);refine g2 ?_;refine SW.go ?_;refine SW.t1 4 ?_;refine St.ee (Ev.cu (.mk rfl) oZ trivial (by rw[cn];omega) (show(rows fO _)[e*3+0]?=some a.dv.1 from uC (x:=a.wn u (E.take (a.next.length-1))) Lz (by decide))) ?_;refine g2 ?_;refine SW.go ?_;refine SW.t1 8 ?_;refine St.aj (.mk rfl) (.mk rfl) oZ vt U3 ZL (by intro u hu;exact LQ.one z.rk u hu) (by omega) (by omega) rfl rfl rfl rfl (λJ adC=> ?_);refine St.aM J (show _=(a.done++ [z.rk]).length by rw[bQ];rfl) (show _=rows LQ (a.done++ [z.rk]) by rw[bB];rfl) ?_;refine St.bZ J (λS _=> ?_);refine g2 ?_;refine SW.go ?_;refine SW.dd 9 rfl (λ_=>Ev.kg rfl (.mk rfl)) ?_;refine SW.dd 10 rfl (λ_=>Ev.jY rfl (.mk rfl) nM) ?_;refine SW.slot 112 (cZ (.slice (some ⟨j,0,none⟩) m0 k) 3 e 0) rfl rfl ?_;refine SW.t1 11 ?_;refine St.cI (.mk rfl) (.mk rfl) VF S (by rw[cn];omega) (by decide) ?_;refine St.aM (.slice (some ⟨j,0,none⟩) m0 k) (show _=(b.set e ⟨⟨J,S⟩,a.done++ [z.rk],⟨u.1,u.2⟩,E.take (a.next.length-1),a.begun⟩).length by rw[cn,cn]) (show _=rows fO (b.set e ⟨⟨J,S⟩,a.done++ [z.rk],⟨u.1,u.2⟩,E.take (a.next.length-1),a.begun⟩) by rw[Fa Lz ⟨J,S⟩ (a.done++ [z.rk]),List.set_set];rfl) ?_;refine g2 ?_;refine SW.go ?_;refine SW.dn ?_
    all_goals
     refine g2 ?_;refine St.TC (L:=b) (e:=e) 71 196 (J) (S) (a.done++ [z.rk]) (u.1) (u.2) (E.take (a.next.length-1)) (a.begun) (by omega) ?_
     obtain⟨p,aaR⟩:∃p,p=b.set e ⟨⟨J,S⟩,a.done++ [z.rk],⟨u.1,u.2⟩,E.take (a.next.length-1),a.begun⟩:=⟨_,rfl⟩
     have hzK:FM (b.map fi) e=iQ z:=by rw[JU (fY n)];show(pE (a.next.map iQ)).getD ((a.next.map iQ).length-1) Ir=_;rw[←hq3,aO];exact qv hz
     have hL2:p.map fi=LN (b.map fi) e:=by rw[Ol (fY n),aaR,jk];show(b.map fi).set e (⟨(a.done++ [z.rk]).map mg,(E.take (a.next.length-1)).map iQ,_⟩:wJ)=(b.map fi).set e (⟨_++ [((pE (a.next.map iQ)).getD ((a.next.map iQ).length-1) Ir).rk],(pE (a.next.map iQ)).take ((a.next.map iQ).length-1),_⟩:wJ);rw[←hq3,aO,qv hz,cP,List.map_take];rfl
     rw[←hL2]at hpi;rw[hzK]at W;rw[hzK,←hL2]at SP
     have W:ud (⟨its.map cF,R,X⟩:ct) e a.done.length (iQ z):=by have h:ud (⟨its.map cF,R,X⟩:ct) e (a.done.map mg).length (iQ z):=W;rwa[aO]at h
     have hpi:E2 (⟨its.map cF,R,X⟩:ct) e (a.done.length+1) (L.map fi) 0 (p.map fi):=by have h:E2 (⟨its.map cF,R,X⟩:ct) e ((a.done.map mg).length+1) (L.map fi) 0 (p.map fi):=hpi;rwa[aO]at h
     rw[←aaR]
     have hz3:z.ranks.length≤3:=ae4 H N W
     have hnz:(bW z.ranks).length=z.ranks.length:=dY _
     obtain⟨PF,hPF⟩:∃PF,PF=Aw (⟨its.map cF,R,X⟩:ct) (fh (⟨its.map cF,R,X⟩:ct) f) e (iQ z) (iQ z).ranks.length 0 (p.map fi):=⟨_,rfl⟩
     rw[←hPF]at SP;refine g8 ?_;refine St.lH (ι:=Nat×List jH) (λ⟨d,s⟩ T=>(116,iv d)::T) (λ⟨d,s⟩=>(row (.slice (some ⟨j,0,none⟩) m0 k) 194 3 (s).length (rows fO (s))::aB (fP G [rv.1,xv.1,eF.1,(.slice (some ⟨j,0,none⟩) m0 k)])::aB (sl aJ rv.1 R)::aB (sl aJ xv.1 X)::aB (sl eE eF.1 its)::aB (aF cj its)::aB (sl mM y.wv.1 y.cW)::aB (cj y)::aB (sl aJ z.rv.1 (bW z.ranks))::aW b6 (.cells [iv 0,(.slice none 0 0),iv 0,iv 0,(.slice none 0 0)].toArray 71 (0,0))::aW R4 (.cells [iv z.rk.wt,z.rk.cv.1,iv z.rk.tree.rule,iv z.rk.tree.lex,z.rk.tree.kv.1,iv (z.fx:Nat),z.rv.1].toArray 196 (0,0))::(bE (kK 71 196) s))) (λ⟨d,s⟩=>d≤z.ranks.length∧E2 (⟨its.map cF,R,X⟩:ct) e (a.done.length+1) (L.map fi) d (s.map fi)∧Aw (⟨its.map cF,R,X⟩:ct) (fh (⟨its.map cF,R,X⟩:ct) f) e (iQ z) (z.ranks.length-d) d (s.map fi)=PF) (λ⟨d,s⟩=>z.ranks.length-d) ⟨0,p⟩ (aD.cons 0 rfl (aD.cons 1 rfl (aD.cons 2 rfl (aD.cons 6 rfl (aD.cons 7 rfl (aD.cons 8 rfl (aD.cons 12 rfl (aD.cons 115 rfl aD.nil)))))))) ⟨aP _,hpi,hPF.symm⟩ ?_;rintro ⟨d,s⟩ ⟨hd,Uq,Wj⟩
     dsimp only at hd Uq Wj⊢
     have hl3:=sZ Uq.ok
     refine g6 ?_;refine St.cq (λWS=> ?_) (λWS=> ?_)
     ·obtain⟨rd,K⟩:=aE (show d<z.ranks.length by omega)
      have anR:rd≤a.done.length:=W.rks rd (ae K)
      have hgd:(iQ z).ranks.getD d 0=rd:=by show z.ranks.getD d 0=rd;rw[ar,K];rfl
      obtain⟨r1,r2⟩:=JZ (d:=d) W;rw[hgd]at r1 r2
      have hD2:a.done.length+1+l7 (⟨its.map cF,R,X⟩:ct) e≤262:=by omega
      refine g14 ?_;refine St.ag (Du z.rv.1 (bW z.ranks) (by omega)) ah7 (.au rfl) rfl ?_;rintro aoG _ ⟨u1,rfl,rfl⟩;refine St.ao ?_;refine g8 ?_;refine St.ee (Ev.cu (.mk rfl) gV trivial (by omega) (oO (gO K))) ?_;refine go ?_;refine St.slot 126 (iv ((rd+1:Nat):Int)) rfl (congrArg iv (by push_cast;rfl)) ?_;refine go ?_;refine St.cI (.mk rfl) (.mk rfl) dK rfl (by omega) (by decide) ?_;refine St.aM u1.1 (show _=(bW (z.ranks.set d (rd+1))).length by rw[dY,dY,cn]) (show _=rows aJ (bW (z.ranks.set d (rd+1)))from r8 _ _ _) ?_;refine St.bS u1.1 aJ (bW (z.ranks.set d (rd+1))) rfl rfl (λq hq=>by obtain⟨i,hi,rfl⟩:=cz.1 hq;have h2:=r2 i hi;show aZ _;unfold aZ;omega) ?_;refine g2 ?_;refine St.join (ι:=List jH) (λY T=>T) (λY=>(row (.slice (some ⟨j,0,none⟩) m0 k) 194 3 (Y).length (rows fO (Y))::aB (fP G [rv.1,xv.1,eF.1,(.slice (some ⟨j,0,none⟩) m0 k)])::aB (sl aJ rv.1 R)::aB (sl aJ xv.1 X)::aB (sl eE eF.1 its)::aB (aF cj its)::aB (sl mM y.wv.1 y.cW)::aB (cj y)::aB (sl aJ z.rv.1 (bW z.ranks))::aW b6 (.cells [iv 0,(.slice none 0 0),iv 0,iv 0,(.slice none 0 0)].toArray 71 (0,0))::aW R4 (.cells [iv z.rk.wt,z.rk.cv.1,iv z.rk.tree.rule,iv z.rk.tree.lex,z.rk.tree.kv.1,iv (z.fx:Nat),z.rv.1].toArray 196 (0,0))::(bE (kK 71 196) Y))) (λY=>Y.map fi=zS (⟨its.map cF,R,X⟩:ct) (fh (⟨its.map cF,R,X⟩:ct) f) e (iQ z) d (s.map fi)) (aD.cons 0 rfl (aD.cons 1 rfl (aD.cons 2 rfl (aD.cons 6 rfl (aD.cons 7 rfl (aD.cons 8 rfl (aD.cons 12 rfl (aD.cons 13 rfl (aD.cons 115 rfl (aD.cons 116 rfl aD.nil)))))))))) ?_ ?_
      ·refine g7 ?_
       refine St.pS (ds:=[fP G [rv.1,xv.1,eF.1,(.slice (some ⟨j,0,none⟩) m0 k)],sl aJ rv.1 R,sl aJ xv.1 X,sl eE eF.1 its,aF cj its,sl aJ (u1:aV).1 (bW (z.ranks.set d (rd+1)))]) (L:=[row (.slice (some ⟨j,0,none⟩) m0 k) 194 3 (s).length (rows fO (s))]) (X:=bE (kK 71 196) s) (post:=λv L' X'=>∃(C:List jH) (cc:ku) (o:Bool),nA (⟨its.map cF,R,X⟩:ct) (fh (⟨its.map cF,R,X⟩:ct) f) (s.map fi) e z.fx (z.ranks.set d (rd+1))=(C.map fi,if o then some (iQ cc)else none)∧v= .tuple #[EK cc,.bool o]∧L'=[row (.slice (some ⟨j,0,none⟩) m0 k) 194 3 (C).length (rows fO (C)),aB (hS cc)]∧X'=bE (kK 71 196) C) ((wN G j m0 k rv xv eF R X its H f SG e z.fx ((a.done.length+1)) (u1) (z.ranks.set d (rd+1)) s he SC W.fx r1 r2 hD2 Uq.ok).mono (λv H' ⟨C,cc,o,a1,a2,a3⟩=>⟨[_,_],_,a3,C,cc,o,a1,a2,rfl,rfl⟩)) aaB (.gU rfl rfl rfl rfl) rfl ?_;rintro amE _ _ ⟨C,cc,o,hch,rfl,rfl,rfl⟩;refine St.dQ ?_
       have hco:=Cq (D:=a.done.length+1) H Ul N SC W.fx r1 r2 hD2 Uq.ok
       have U:=DP (d:=d) H Ul N SC W (by omega) Uq
       have NV:nA (⟨its.map cF,R,X⟩:ct) (fh (⟨its.map cF,R,X⟩:ct) f) (s.map fi) e (iQ z).fx ((iQ z).ranks.set d ((iQ z).ranks.getD d 0+1))=(C.map fi,if o then some (iQ cc)else none):=by rw[hgd];exact hch
       have hqf:(nA (⟨its.map cF,R,X⟩:ct) (fh (⟨its.map cF,R,X⟩:ct) f) (s.map fi) e (iQ z).fx ((iQ z).ranks.set d (rd+1))).1=C.map fi:=congrArg Prod.fst hch
       have Wa:jl (⟨its.map cF,R,X⟩:ct) (C.map fi):=hqf▸hco.1
       have hl4:=sZ Wa
       obtain⟨t,V⟩:=aE (show e<C.length by omega);refine g3 ?_;refine St.al (λVk=> ?_);refine St.sA (.mk rfl) (.mk rfl) ji ?_ (h1:=(eW.2 λu hu=>jK.one cc u hu));refine g8 ?_;refine St.cond _ rfl (λNS=> ?_) (λNS=> ?_)
       ·skip
        obtain rfl:o=true:=NS
        have acB:(t.next.map iQ).length≤rN (⟨its.map cF,R,X⟩:ct) e+3*(t.done.map mg).length:=(Wa.nl e _ (fY V)).nl
        have aj9:(t.done.map mg).length+l7 (⟨its.map cF,R,X⟩:ct) e≤262:=(Wa.nl e _ (fY V)).dl
        rw[aO]at acB aj9;rw[aO]at acB;refine St.JM (L:=C) (e:=e) 71 196 V ?_;refine St.dc (row (.slice (some ⟨j,0,none⟩) m0 k) 194 3 (C).length (rows fO (C))::row t.nv.1 196 7 (t.next).length (rows jK (t.next))::aB (aF hS t.next)::aB (hS cc)::(bE (kK 71 196) (C.eraseIdx e))) mixed (λnp ns=> ?_);refine SW.gd 0 ?_;refine SW.dd 1 rfl (λ_=>Ev.kg rfl (.mk rfl)) ?_;refine SW.dd 2 rfl (λ_=>Ev.jY rfl (.mk rfl) oz) ?_;refine SW.slot 140 (cZ (.slice (some ⟨j,0,none⟩) m0 k) 3 e 1) rfl rfl ?_;refine SW.dd 3 rfl (λ_=>Ev.iface (.mk rfl) underlying202 trivial) ?_;refine SW.gd 4 ?_;refine SW.slot 142 (EK cc) rfl rfl ?_;refine SW.dd 5 rfl (λ_=>Ev.iface (.mk rfl) uU trivial) ?_;refine SW.t1 6 ?_;refine St.call (HJ j m0 k e C t V t.next (by omega) cc) ah8 (.aX rfl rfl) rfl ?_;rintro aoL _ ⟨u,P,rfl,J9,hm2,rfl⟩;refine St.iP ?_;refine St.aM (.slice (some ⟨j,0,none⟩) m0 k) (show _=(C.set e ⟨⟨t.dv.1,t.dv.2⟩,t.done,⟨u.1,u.2⟩,P,t.begun⟩).length by rw[cn,cn]) (show _=rows fO (C.set e ⟨⟨t.dv.1,t.dv.2⟩,t.done,⟨u.1,u.2⟩,P,t.begun⟩)from rfl) ?_;refine g2 ?_;refine SW.go ?_;refine SW.dn ?_;refine go ?_;refine St.TC (L:=C) (e:=e) 71 196 (t.dv.1) (t.dv.2) (t.done) (u.1) (u.2) (P) (t.begun) (by omega) ?_;refine St.mE (C.set e ⟨⟨t.dv.1,t.dv.2⟩,t.done,⟨u.1,u.2⟩,P,t.begun⟩) (by rw[LP NV (fY V),jk];show(C.map fi).set e (⟨_,P.map iQ,_⟩:wJ)=_;rw[J9];rfl)
       ·skip
        obtain rfl:o=false:=NS;refine g2 ?_;refine St.mE C (by rw[LO NV])
      ·intro Y hL5
       have U:=DP (d:=d) H Ul N SC W (by omega) Uq
       rw[←hL5]at U;refine g6 ?_;refine St.ee (Ev.ld1 (.mk rfl) (gO K) gV trivial rfl) ?_;refine g3 ?_;refine St.cq (λWU=> ?_) (λWU=> ?_)
       ·have akC:Y.map fi=PF:=by rw[←Wj,FV K,aC (by omega)];exact hL5
        refine g7 ?_;refine St.aH ⟨m-1,Y⟩ ⟨uH U,by rw[akC,←SP];exact Q,λx hx=>by obtain⟨x',Wr,Wb,_⟩:=U.at_;rw[fY hx]at Wr;obtain rfl:=Option.some.inj Wr;have Wb:(x.done.map mg).length=a.done.length+1:=Wb;rw[aO]at Wb;dsimp only;omega⟩
       ·refine g8 ?_
        refine St.aH ⟨d+1,Y⟩ ⟨by omega,U,by rw[←Wj,FV K];dsimp only;rw[aA (by omega),←hL5]⟩
     ·obtain rfl:d=z.ranks.length:=by omega
      rw[ff]at Wj
      have Wj:s.map fi=PF:=Wj
      refine g6 ?_;refine St.aH ⟨m-1,s⟩ ⟨uH Uq,by rw[Wj,←SP];exact Q,λx hx=>by obtain⟨x',Wr,Wb,_⟩:=Uq.at_;rw[fY hx]at Wr;obtain rfl:=Option.some.inj Wr;have Wb:(x.done.map mg).length=a.done.length+1:=Wb;rw[aO]at Wb;dsimp only;omega⟩
   ·have I:¬0<a.next.length:=by omega
    refine g7 ?_
    have HL:u9 (⟨its.map cF,R,X⟩:ct) (fh (⟨its.map cF,R,X⟩:ct) f) e r (r+1) (yV (⟨its.map cF,R,X⟩:ct) (fh (⟨its.map cF,R,X⟩:ct) f) e (L.map fi))=b.map fi:=by rw[←Q];exact BZ (fY n) (λh=>by have h1:(a.done.map mg).length≤r:=h.1;have h2:0<(a.next.map iQ).length:=h.2;rw[aO]at h1 h2;first|exact NX h1|exact I h2)
    have SH:=BS (⟨its.map cF,R,X⟩:ct) f (L.map fi) e r HL (fY n)
    refine g3 ?_;refine St.ee (Ev.kg rfl (.mk rfl)) ?_;refine St.ee (Ev.jY rfl (.mk rfl) nM) ?_;refine St.slot 155 (cZ (.slice (some ⟨j,0,none⟩) m0 k) 3 e 0) rfl rfl ?_;refine St.ee (Ev.cu (.mk rfl) oZ trivial (by omega) (show(rows fO b)[e*3+0]?=some a.dv.1 from uC n (by decide))) ?_;refine g4 ?_;refine St.cq (λWW=> ?_) (λWW=> ?_)
    ·have Nh:(fi a).done[r]?=none:=by show(a.done.map mg)[r]?=none;rw[ib];rw[aO];omega
     rw[Nh]at SH;refine g2 ?_;refine St.ee (Ev.build (bF.nil) (λw=>Mc w)) ?_;refine St.slot 159 (.agg #[iv 0,(.slice none 0 0),iv 0,iv 0,(.slice none 0 0)]) rfl rfl ?_;refine go ?_;refine St.fm aJ ?_;refine St.fact (br (.mk 0 0 bR [])) (λρ _ _=>qZ _ _ _) ?_;refine St.eZ (oM K7) [sl aJ (.slice none 0 0) [],br (.mk 0 0 bR [])] (λρ h=>h) ?_;refine St.DJ (L:=b) (e:=e) 71 196 n ?_;refine g5 ?_;refine St.rV [_,_] (row (.slice (some ⟨j,0,none⟩) m0 k) 194 3 (b).length (rows fO (b))::aB (oM K7)::(bE (kK 71 196) b)) ?_;exact⟨b,K7,false,SH,rfl,rfl⟩
    ·obtain⟨F,Wc⟩:=aE (show r<a.done.length by omega)
     have Nn:(fi a).done[r]?=some (mg F):=by show(a.done.map mg)[r]?=_;rw[bP,Wc];rfl
     rw[Nn]at SH;refine St.eZ (oM F) [aF oM a.done] (λρ h=>h (aF oM a.done) (aQ ..) F (ae Wc)) ?_;refine g5 ?_;refine St.ee (Ev.kg rfl (.mk rfl)) ?_;refine St.ee (Ev.jY rfl (.mk rfl) nM) ?_;refine St.slot 162 (cZ (.slice (some ⟨j,0,none⟩) m0 k) 3 e 0) rfl rfl ?_;refine St.ee (Ev.cu (.mk rfl) oZ trivial (by omega) (show(rows fO b)[e*3+0]?=some a.dv.1 from uC n (by decide))) ?_;refine g2 ?_;refine St.ee (Ev.vP (R:=LQ) (.mk rfl) Wc IP trivial vt (by omega)) ?_;refine St.slot 166 (kT F) rfl rfl ?_;refine St.sA (.mk rfl) (.mk rfl) vt ?_ (h1:=(eW.2 λu hu=>LQ.one F u hu));refine St.DJ (L:=b) (e:=e) 71 196 n ?_;refine g4 ?_;refine St.rV [_,_] (row (.slice (some ⟨j,0,none⟩) m0 k) 194 3 (b).length (rows fO (b))::aB (oM F)::(bE (kK 71 196) b)) ?_;exact⟨b,F,true,SH,rfl,rfl⟩
  ·have NX:¬a.done.length≤r:=by have:=iV Wp;omega
   refine St.bq rfl rfl rfl ?_;refine St.bq rfl rfl rfl ?_;refine St.bq rfl rfl rfl ?_;refine St.bq rfl rfl rfl ?_;refine St.bq rfl rfl rfl ?_;refine St.bq rfl rfl rfl ?_;refine St.ee (Ev.kQ (.mk rfl) rfl (.mk rfl)) ?_;refine g2 ?_;refine St.ri _ rfl rfl ?_;refine g7 ?_
   have HL:u9 (⟨its.map cF,R,X⟩:ct) (fh (⟨its.map cF,R,X⟩:ct) f) e r (r+1) (yV (⟨its.map cF,R,X⟩:ct) (fh (⟨its.map cF,R,X⟩:ct) f) e (L.map fi))=b.map fi:=by rw[←Q];exact BZ (fY n) (λh=>by have h1:(a.done.map mg).length≤r:=h.1;have h2:0<(a.next.map iQ).length:=h.2;rw[aO]at h1 h2;first|exact NX h1|exact I h2)
   have SH:=BS (⟨its.map cF,R,X⟩:ct) f (L.map fi) e r HL (fY n)
   refine g3 ?_;refine St.ee (Ev.kg rfl (.mk rfl)) ?_;refine St.ee (Ev.jY rfl (.mk rfl) nM) ?_;refine St.slot 155 (cZ (.slice (some ⟨j,0,none⟩) m0 k) 3 e 0) rfl rfl ?_;refine St.ee (Ev.cu (.mk rfl) oZ trivial (by omega) (show(rows fO b)[e*3+0]?=some a.dv.1 from uC n (by decide))) ?_;refine g4 ?_;refine St.cq (λWW=> ?_) (λWW=> ?_)
   ·have Nh:(fi a).done[r]?=none:=by show(a.done.map mg)[r]?=none;rw[ib];rw[aO];omega
    rw[Nh]at SH;refine g2 ?_;refine St.ee (Ev.build (bF.nil) (λw=>Mc w)) ?_;refine St.slot 159 (.agg #[iv 0,(.slice none 0 0),iv 0,iv 0,(.slice none 0 0)]) rfl rfl ?_;refine go ?_;refine St.fm aJ ?_;refine St.fact (br (.mk 0 0 bR [])) (λρ _ _=>qZ _ _ _) ?_;refine St.eZ (oM K7) [sl aJ (.slice none 0 0) [],br (.mk 0 0 bR [])] (λρ h=>h) ?_;refine St.DJ (L:=b) (e:=e) 71 196 n ?_;refine g5 ?_;refine St.rV [_,_] (row (.slice (some ⟨j,0,none⟩) m0 k) 194 3 (b).length (rows fO (b))::aB (oM K7)::(bE (kK 71 196) b)) ?_;exact⟨b,K7,false,SH,rfl,rfl⟩
   ·obtain⟨F,Wc⟩:=aE (show r<a.done.length by omega)
    have Nn:(fi a).done[r]?=some (mg F):=by show(a.done.map mg)[r]?=_;rw[bP,Wc];rfl
    rw[Nn]at SH;refine St.eZ (oM F) [aF oM a.done] (λρ h=>h (aF oM a.done) (aQ ..) F (ae Wc)) ?_;refine g5 ?_;refine St.ee (Ev.kg rfl (.mk rfl)) ?_;refine St.ee (Ev.jY rfl (.mk rfl) nM) ?_;refine St.slot 162 (cZ (.slice (some ⟨j,0,none⟩) m0 k) 3 e 0) rfl rfl ?_;refine St.ee (Ev.cu (.mk rfl) oZ trivial (by omega) (show(rows fO b)[e*3+0]?=some a.dv.1 from uC n (by decide))) ?_;refine g2 ?_;refine St.ee (Ev.vP (R:=LQ) (.mk rfl) Wc IP trivial vt (by omega)) ?_;refine St.slot 166 (kT F) rfl rfl ?_;refine St.sA (.mk rfl) (.mk rfl) vt ?_ (h1:=(eW.2 λu hu=>LQ.one F u hu));refine St.DJ (L:=b) (e:=e) 71 196 n ?_;refine g4 ?_;refine St.rV [_,_] (row (.slice (some ⟨j,0,none⟩) m0 k) 194 3 (b).length (rows fO (b))::aB (oM F)::(bE (kK 71 196) b)) ?_;exact⟨b,F,true,SH,rfl,rfl⟩
theorem OB {nf nn i:Int}:∀{l:kq} {last:Int},(Am nf nn i last l).1=0→(∀x∈l,last<x.1)∧sG l∧∀x∈l,(0≤x.1∧x.1<nf)∧0≤x.2∧x.2<nn
 | [],_,_=>⟨λ_ h=>(by cases h),.nil,λ_ h=>(by cases h)⟩
 |x::l,last,h=>by
  rw[Am]at h
  by_cases h1:x.1<0∨nf≤x.1∨x.2<0∨nn≤x.2
  ·rw[aC h1]at h;exact absurd h (by simp)
  rw[aA h1]at h
  by_cases d:x.1≤last
  ·rw[aC d]at h;exact absurd h (by simp)
  rw[aA d]at h;obtain⟨a,b,c⟩:=OB h;refine⟨λy hy=> ?_,.cons (λy hy=>a y hy) b,λy hy=> ?_⟩
  ·rcases cJ.1 hy with rfl|hy
   ·omega
   ·have:=a y hy;omega
  ·rcases cJ.1 hy with rfl|hy
   ·omega
   ·exact c y hy
theorem tu {nt nf nn:Int}:∀{l:e8} {i:Nat},(fD nt nf nn i l).1=0→∀n∈l,(0≤n.1∧n.1<nt)∧sG n.2∧∀x∈n.2,(0≤x.1∧x.1<nf)∧0≤x.2∧x.2<nn
 | [],_,_,_,h=>by cases h
 |y::l,i,h,n,d=>by
  rw[fD]at h
  by_cases h1:y.1<0∨nt≤y.1
  ·rw[aC h1]at h;exact absurd h (by simp)
  rw[aA h1]at h
  by_cases a:(Am nf nn i (-1) y.2).1≠0
  ·rw[aC a]at h;exact absurd h a
  rw[aA a]at h
  rcases cJ.1 d with rfl|d
  ·obtain⟨_,b,c⟩:=OB (ez.1 a)
   exact⟨by omega,b,c⟩
  ·exact tu h n d
theorem OE {nt nf:Nat}{g:e8}(h:(fX nt nf g).1=0):e9 nt nf g∧g.length≤60:=by
 unfold fX at h
 by_cases h1:g.length=0∨60<g.length
 ·rw[aC h1]at h;exact absurd h (by simp)
 rw[aA h1]at h;exact⟨⟨by omega,λn a=>tu h n a⟩,by omega⟩
theorem wE {T:List ek}{Fs:List oe}{g:e8}(h:(dP T Fs g).1=0):e9 T.length Fs.length g∧g.length≤60:=by
 unfold dP at h
 by_cases h1:(fX T.length Fs.length g).1≠0
 ·rw[aC h1]at h;exact absurd h h1
 ·exact OE (ez.1 h1)
theorem Hi {g:e8}{kids:Int}(h:nS g kids=true)(a:kids≤3):∀k:Int,0≤k→k≤kids→0≤rS g k:=λk b hk=>by
 unfold nS at h
 have:=eW.1 h k.toNat (dt.2 (by omega))
 rw[show((k.toNat:Nat):Int)=k by omega,eB hk]at this
 simpa using this
structure GY (nt nf:Nat)(r:sq):Prop where
 kids:1≤r.kids∧r.kids≤3
 wt:0≤r.weight∧r.weight≤1000000
 gr:e9 nt nf r.graph
 len:r.graph.length≤60
 rS:∀k:Int,0≤k→k≤r.kids→0≤rS r.graph k
structure MB (nt nf:Nat)(x:Dz):Prop where
 word:isWord x.word=true
 wt:0≤x.weight∧x.weight≤1000000
 gr:e9 nt nf x.graph
 len:x.graph.length≤60
structure M8 (g:fj):Prop where
 ty:im g.types
 ft:g.cB.length≤40
 rn:g.rules.length≤40
 xn:g.aL.length≤100
 rule:∀r∈g.rules,GY g.types.length g.cB.length r
 lex:∀x∈g.aL,MB g.types.length g.cB.length x
 start:e9 g.types.length g.cB.length g.start∧g.start.length≤60
theorem PJ {T:List ek}{Fs:List oe}{r:sq}(h:pW T Fs r=0):GY T.length Fs.length r:=by
 unfold pW at h
 by_cases h1:r.kids<1∨3<r.kids∨r.weight<0∨1000000<r.weight
 ·rw[aC h1]at h;exact absurd h (by decide)
 rw[aA h1]at h
 by_cases c:(dP T Fs r.graph).1≠0
 ·rw[aC c]at h;exact absurd h c
 rw[aA c]at h
 by_cases d:nS r.graph r.kids=false
 ·rw[aC d]at h;exact absurd h (by decide)
 obtain⟨a,b⟩:=wE (ez.1 c);exact⟨by omega,by omega,a,b,Hi (by simpa using d) (by omega)⟩
theorem Su {T:List ek}{Fs:List oe}{x:Dz}(h:xK T Fs x=0):MB T.length Fs.length x:=by
 unfold xK at h
 by_cases c:isWord x.word=false
 ·rw[aC c]at h;exact absurd h (by decide)
 rw[aA c]at h
 by_cases h1:x.weight<0∨1000000<x.weight
 ·rw[aC h1]at h;exact absurd h (by decide)
 rw[aA h1]at h
 by_cases d:(dP T Fs x.graph).1≠0
 ·rw[aC d]at h;exact absurd h d
 obtain⟨a,b⟩:=wE (ez.1 d);exact⟨by simpa using c,by omega,a,b⟩
theorem Bj {T:List ek}{Fs:List oe}:∀{l:List sq} {known:List ax} {i:Nat},(ja T Fs known i l).1=0→∀r∈l,GY T.length Fs.length r
 | [],_,_,_,_,h=>by cases h
 |y::l,known,i,h,r,b=>by
  rw[ja]at h
  by_cases h1:isName y.name=false
  ·rw[aC h1]at h;exact absurd h (by simp)
  rw[aA h1]at h
  by_cases c:y.name∈known
  ·rw[aC c]at h;exact absurd h (by simp)
  rw[aA c]at h
  by_cases a:pW T Fs y≠0
  ·rw[aC a]at h;exact absurd h a
  rw[aA a]at h
  rcases cJ.1 b with rfl|b
  ·exact PJ (ez.1 a)
  ·exact Bj h r b
theorem BX {T:List ek}{Fs:List oe}:∀{l:List Dz} {i:Nat},(jZ T Fs i l).1=0→∀x∈l,MB T.length Fs.length x
 | [],_,_,_,h=>by cases h
 |y::l,i,h,x,hx=>by
  rw[jZ]at h
  by_cases a:xK T Fs y≠0
  ·rw[aC a]at h;exact absurd h a
  rw[aA a]at h
  rcases cJ.1 hx with rfl|hx
  ·exact Su (ez.1 a)
  ·exact BX h x hx
theorem vH {g:fj}(h:(jL g).1=0):M8 g:=by
 unfold jL at h
 by_cases h1:(jM g.types g.cB).1≠0
 ·rw[aC h1]at h;exact absurd h h1
 rw[aA h1]at h
 by_cases f:g.cB.length≤3
 ·rw[aC f]at h;exact absurd h (by simp)
 rw[aA f]at h
 by_cases i:40<g.rules.length∨100<g.aL.length
 ·rw[aC i]at h;exact absurd h (by simp)
 rw[aA i]at h
 by_cases b:(ja g.types g.cB [] 0 g.rules).1≠0
 ·rw[aC b]at h;exact absurd h b
 rw[aA b]at h
 by_cases c:(jZ g.types g.cB 0 g.aL).1≠0
 ·rw[aC c]at h;exact absurd h c
 rw[aA c]at h
 by_cases d:(dP g.types g.cB g.start).1≠0
 ·rw[aC d]at h;exact absurd h d
 have a:=ez.1 h1
 unfold jM at a
 by_cases j:40<g.cB.length
 ·rw[aC j]at a;exact absurd a (by simp)
 rw[aA j]at a
 by_cases e:(B4 g.types).1≠0
 ·rw[aC e]at a;exact absurd a e
 obtain⟨_,_,ht⟩:=IH (ez.1 e);exact⟨ht,by omega,by omega,by omega,Bj (ez.1 b),BX (ez.1 c),wE (ez.1 d)⟩
theorem zk {nt nf n:Nat}:ng nt nf n 1 0 ⟨[],List.replicate (n*(n+1)) []⟩:=by
 have a:∀k,(List.replicate (n*(n+1)) ([]:List Nat)).getD k []=[]:=λk=>by
  rw[ar,s8]
  split<;>rfl
 refine⟨⟨kF ..,λl b e he=> ?_,?_,λi j e _ he=> ?_,λit h=>(by cases h),λit h=>(by cases h),λit h=>(by cases h)⟩,aP _,λit h=>(by cases h),λi h=>(by cases h)⟩
 ·rw[(List.mem_replicate.1 b).2]at he;cases he
 ·show((List.replicate (n*(n+1)) ([]:List Nat)).map List.length).sum=0
  rw[sB];simp
 ·rw[show(⟨[],List.replicate (n*(n+1)) []⟩:Cs).sp=List.replicate (n*(n+1)) []from rfl,a]at he;cases he
theorem Ej {N:Nat}(e:N≤256):∀(l m:kq) (u v:ax),l.length=m.length→(∀x∈l,(0≤x.1∧x.1<N)∧0≤x.2∧x.2<N)→(∀x∈m,(0≤x.1∧x.1<N)∧0≤x.2∧x.2<N)→vL l++u=vL m++v→l=m∧u=v
 | [],[],u,v,_,_,_,h=>⟨rfl,h⟩
 | [],_::_,_,_,h,_,_,_=>by cases h
 |_::_,[],_,_,h,_,_,_=>by cases h
 |a::l,b::m,u,v,f,c,d,h=>by
  have h:ju a.1::ju a.2::(vL l++u)=ju b.1::ju b.2::(vL m++v):=h
  rw[List.cons.injEq,List.cons.injEq]at h;obtain⟨h1,g,i⟩:=h;obtain⟨⟨j,a2⟩,a3,a4⟩:=c a (by simp);obtain⟨⟨k,z⟩,n,A⟩:=d b (by simp);obtain⟨p,q⟩:=a;obtain⟨r,s⟩:=b
  dsimp only at*
  have B:=lq (a:=p.toNat) (b:=r.toNat) (by omega) (by omega) (by rw[ua j,ua k];exact h1)
  have e2:=lq (a:=q.toNat) (b:=s.toNat) (by omega) (by omega) (by rw[ua a3,ua n];exact g)
  obtain⟨o,t⟩:=Ej e l m u v (by simpa using f) (λx hx=>c x (by simp[hx])) (λx hx=>d x (by simp[hx])) i
  have w:p=r:=by omega
  have y:q=s:=by omega
  exact⟨by rw[o,w,y],t⟩
def M6 (g:e8):Prop:=∀n∈g,(0≤n.1∧n.1<(256:Nat))∧n.2.length<256∧∀x∈n.2,(0≤x.1∧x.1<(256:Nat))∧0≤x.2∧x.2<(256:Nat)
theorem Ei:∀(l m:e8),M6 l→M6 m→zA l=zA m→l=m
 | [],[],_,_,_=>rfl
 | [],_::_,_,_,h=>by cases h
 |_::_,[],_,_,h=>by cases h
 |a::l,b::m,c,d,h=>by
  have h:ju a.1::ju (a.2.length:Nat)::(vL a.2++zA l)=ju b.1::ju (b.2.length:Nat)::(vL b.2++zA m):=h
  rw[List.cons.injEq,List.cons.injEq]at h;obtain⟨h1,e,f⟩:=h;obtain⟨⟨g,a2⟩,a3,a4⟩:=c a (by simp);obtain⟨⟨i,u⟩,j,k⟩:=d b (by simp);obtain⟨p,q⟩:=a;obtain⟨r,s⟩:=b
  dsimp only at*
  have v:=lq (a:=p.toNat) (b:=r.toNat) (by omega) (by omega) (by rw[ua g,ua i];exact h1)
  have e2:=lq a3 j e
  obtain⟨n,o⟩:=Ej (aR 256) q s (zA l) (zA m) e2 a4 k f
  have t:p=r:=by omega
  rw[t,n,Ei l m (λx hx=>c x (by simp[hx])) (λx hx=>d x (by simp[hx])) o]
theorem e9.ya {nt nf:Nat}{g:e8}(h:e9 nt nf g)(k:nt≤250)(l:nf≤250)(m:g.length≤60):M6 g:=λn d=>by
 obtain⟨h1,e,c⟩:=h.nd n d;refine⟨by omega,?_,λx hx=> ?_⟩
 ·have f:(n.2.map λz=>z.1.toNat).Nodup:=by
   unfold List.Nodup;rw[sD];exact wi (λ{a b} p q r=>by have:=(c a p).1;have:=(c b q).1;omega) e
  have:=kh f (n:=nf) (λj i=>by obtain⟨z,hz,rfl⟩:=cz.1 i;have:=(c z hz).1;omega)
  rw[aO]at this;omega
 ·have:=c x hx;omega
theorem key_inj {e d:om}(he:e.frm<256∧e.tqo<256∧e.cx<256∧M6 e.gr)(hd:d.frm<256∧d.tqo<256∧d.cx<256∧M6 d.gr)(h:fZ e=fZ d):e=d:=by
 unfold fZ at h;rw[List.cons.injEq,List.cons.injEq,List.cons.injEq]at h;obtain⟨h1,a,b,c⟩:=h
 have f:=lq he.1 hd.1 h1
 have e2:=lq he.2.1 hd.2.1 a
 have g:=lq he.2.2.1 hd.2.2.1 b
 have i:=Ei _ _ he.2.2.2 hd.2.2.2 c
 cases e;cases d;simp_all
def kM (cs:Cs)(tqo:Nat):Nat→List Nat→Prop
 |a,[]=>a=tqo
 |a,k::l=>k<cs.its.length∧(cs.ed k).frm=a∧kM cs tqo (cs.ed k).tqo l
def ru (mt:Nat→Nat→Option Nat):e8→Nat→List e8→Option e8
 |x,_,[]=>some x
 |x,k,y::l=>match nE mt x ((k:Nat):Int) y with
  |none=>none
  |some z=>ru mt z (k+1) l
theorem Bm {mt:Nat→Nat→Option Nat}:∀{l:List e8} {x z:e8} {k:Nat} (y:e8),ru mt x k l=some z→ru mt x k (l++ [y])=nE mt z ((k+l.length:Nat):Int) y
 | [],x,z,k,y,h=>by
  obtain rfl:=Option.some.inj h
  show(match nE mt x ((k:Nat):Int) y with|none=>none|some z=>ru mt z (k+1) [])=nE mt x ((k+0:Nat):Int) y
  rw[j3]
  cases nE mt x ((k:Nat):Int) y<;>rfl
 |a::l,x,z,k,y,h=>by
  rw[wj,ru];rw[ru]at h
  cases b:nE mt x ((k:Nat):Int) a with
  |none=>rw[b]at h;cases h
  |some w=>
   rw[b]at h
   dsimp only at h⊢
   rw[Bm y h,fB,show k+1+l.length=k+(l.length+1) by omega]
def aaC (cs:Cs):List Nat→Nat
 | [k]=>(cs.ed k).cx+1
 |_=>0
def yO (Q:Qr)(words:List ax)(cs:Cs)(e:om)(w:uj):Prop:=
 (w.rule= -1∧w.kids=[]∧e.tqo=e.frm+1∧e.cx=0∧∃i:Nat,i<Q.aL.length∧w.lex=i∧(Q.aL.getD i Qh).word=words.getD e.frm []∧e.gr=gj (Q.aL.getD i Qh).graph 0)∨
 (∃i:Nat,i<Q.rules.length∧w.rule=i∧w.lex=0∧((w.kids.length:Nat):Int)=(Q.rules.getD i oS).kids∧kM cs e.tqo e.frm w.kids∧e.cx=aaC cs w.kids∧∃y,ru Q.mt (Q.rules.getD i oS).graph 1 (w.kids.map λk=>(cs.ed k).gr)=some y∧e.gr=mC y)
def gD (Q:Qr)(words:List ax)(cs:Cs):Prop:=∀it∈cs.its,∀w∈it.cW,yO Q words cs it.ed w
structure rH (cs fg:Cs):Prop where
 more:cs.its.length≤fg.its.length
 ed:∀i,i<cs.its.length→fg.ed i=cs.ed i
theorem Grow.stay {n frm tqo a:Nat}{cs fg:Cs}(h:Grow n frm tqo cs fg a):rH cs fg:=⟨h.more,h.ed⟩
theorem rH.refl (cs:Cs):rH cs cs:=⟨aR _,λ_ _=>rfl⟩
theorem rH.trans {x y z:Cs}(h:rH x y)(k:rH y z):rH x z:=⟨dS h.more k.more,λi a=>by rw[k.ed i (fR a h.more),h.ed i a]⟩
theorem kM.stay {cs fg:Cs}(h:rH cs fg){tqo:Nat}:∀{l:List Nat} {a:Nat},kM cs tqo a l→kM fg tqo a l
 | [],_,k=>k
 |i::l,a,⟨b,c,k3⟩=>⟨fR b h.more,by rw[h.ed i b];exact c,by rw[h.ed i b];exact kM.stay h k3⟩
theorem kM.lt {cs:Cs}{tqo:Nat}:∀{l:List Nat} {a:Nat},kM cs tqo a l→∀k∈l,k<cs.its.length
 | [],_,_,_,h=>by cases h
 |i::l,a,⟨b,_,k3⟩,k,h=>by
  rcases cJ.1 h with rfl|h
  ·exact b
  ·exact kM.lt k3 k h
theorem kM.snoc {cs:Cs}{b tqo e:Nat}(he:e<cs.its.length)(h1:(cs.ed e).frm=b)(c:(cs.ed e).tqo=tqo):∀{l:List Nat} {a:Nat},kM cs b a l→kM cs tqo a (l++ [e])
 | [],a,k=>⟨he,by rw[h1];exact k.symm,c⟩
 |i::l,a,⟨d,f,k3⟩=>⟨d,f,kM.snoc he h1 c k3⟩
theorem OI {cs fg:Cs}(h:rH cs fg){l:List Nat}(a:∀k∈l,k<cs.its.length):(l.map λk=>(fg.ed k).gr)=l.map λk=>(cs.ed k).gr:=CF λk hk=>by rw[h.ed k (a k hk)]
theorem yO.stay {Q:Qr}{words:List ax}{cs fg:Cs}(h:rH cs fg){e:om}{w:uj}(k:yO Q words cs e w):yO Q words fg e w:=by
 rcases k with k|⟨i,c,d,k3,f,a,g,y,j,l⟩
 ·exact .inl k
 ·have b:=a.lt
  refine .inr ⟨i,c,d,k3,f,a.stay h,?_,y,by rw[OI h b];exact j,l⟩;rw[g]
  match hk:w.kids with
  | []=>rfl
  | [q]=>show _=(fg.ed q).cx+1;rw[h.ed q (b q (by rw[hk];simp))];rfl
  |_::_::_=>rfl
theorem CV {nt nf n:Nat}(r:n≤12)(p:nt≤250)(q:nf≤250){Q:Qr}{words:List ax}{cs:Cs}(h:gh nt nf n cs)(g:gD Q words cs){e:om}{w:uj}(he:e.frm<e.tqo∧e.tqo≤n∧e.cx≤3∧e9 nt nf e.gr∧e.gr.length≤60)(hk:∀k∈w.kids,k<cs.its.length)(hw:yO Q words cs e w):gD Q words (kY n cs e w):=by
 have b:=(yQ r h he hk).2.stay
 have AJ:∀it∈cs.its,∀w∈it.cW,yO Q words (kY n cs e w) it.ed w→True:=λ_ _ _ _ _=>trivial
 intro it hit v a
 have l:(∃i,xx cs.its (fZ e)=some i)∨xx cs.its (fZ e)=none:=by
  cases xx cs.its (fZ e)with
  |none=>exact .inr rfl
  |some i=>exact .inl ⟨i,rfl⟩
 rcases l with⟨i,f⟩|f
 ·have m:(kY n cs e w).its=cs.its.modify i λit=>it.put w:=by unfold kY;rw[f]
  rw[m]at hit;obtain⟨j,d,rfl⟩:=GI.1 hit;rw[pb]at d;rw[List.getElem_modify]at a⊢;obtain⟨x,hx,o⟩:=zB f
  by_cases c:i=j
  ·subst c
   rw[aC rfl]at a⊢
   have s:cs.its[i]=x:=by rw[bU d]at hx;exact Option.some.inj hx
   rcases cD.1 a with a|a
   ·exact(g _ (gy d) v a).stay b
   ·rw[bO.1 a]
    obtain⟨g1,g2,g3,g4,g5⟩:=h.gr cs.its[i] (gy d)
    have t:cs.its[i].ed=e:=key_inj ⟨by omega,by omega,by omega,g4.ya p q g5⟩ ⟨by omega,by omega,by omega,he.2.2.2.1.ya p q he.2.2.2.2⟩ (by rw[s];exact o)
    show yO Q words _ cs.its[i].ed w
    rw[t];exact hw.stay b
  ·rw[aA c]at a⊢
   exact(g _ (gy d) v a).stay b
 ·have m:(kY n cs e w).its=cs.its++ [(⟨e,[],[]⟩:lM).put w]:=by unfold kY;rw[f]
  rw[m]at hit
  rcases cD.1 hit with hit|hit
  ·exact(g it hit v a).stay b
  ·rw[bO.1 hit]at a⊢
   have a:v∈([]:List uj)++ [w]:=a
   rw[AF]at a;rw[bO.1 a];exact hw.stay b
theorem vG {β:Type}(f:Cs→β→Cs)(I:Cs→Prop):∀(l:List β) (cs:Cs),I cs→(∀cs x,x∈l→I cs→I (f cs x))→I (l.foldl f cs)
 | [],_,h,_=>h
 |x::l,cs,h,a=>vG f I l (f cs x) (a cs x (by simp) h) λcs y hy=>a cs y (by simp[hy])
theorem G3 {Q:Qr}{cs:Cs}{rule a e:Nat}{x y:e8}(h:lU Q cs rule x a e=some y):nE Q.mt x a (cs.ed e).gr=some y:=by
 unfold lU at h
 split at h
 ·exact h
 ·cases h
theorem Rn {nt nf:Nat}{Q:Qr}(A:Q.n≤12)(I:nt≤250)(J:nf≤250)(B:yJ nt Q.mt){words:List ax}{rule frm tqo:Nat}(K:rule<Q.rules.length)(C:frm<tqo)(ht:tqo≤Q.n)(c:Nat→Nat→Nat):∀(l:Nat) (cs:Cs) (x:e8) (kids:List Nat) (a:Nat),
 ij nt nf Q.n frm tqo c 0 cs→e9 nt nf x→(frm<a∨(a=frm∧1≤l))→a<tqo→gD Q words cs→kM cs a frm kids→((kids.length+l+1:Nat):Int)=(Q.rules.getD rule oS).kids→ru Q.mt (Q.rules.getD rule oS).graph 1 (kids.map λk=>(cs.ed k).gr)=some x→
 gD Q words (vC Q rule frm tqo l cs x kids a):=by
 intro l
 induction l using Nat.strongRecOn with|_ l L=> ?_
 intro cs x kids a M hx X N s b D O;rw[Iz]
 have t:∀z∈List.range' (ny l a tqo) (rL l a tqo),a<z∧z≤tqo∧(1≤l→z<tqo)∧(l=0→z=tqo):=λz hz=>by
  obtain⟨j,P,rfl⟩:=List.mem_range'.1 hz
  have:=Cx N P
  rw[Nat.one_mul];exact⟨this.1,this.2.1,this.2.2.2,this.2.2.1⟩
 refine(vG (Ki Q rule frm tqo l x kids a) (λfg=>ij nt nf Q.n frm tqo c 0 fg∧gD Q words fg∧rH cs fg) _ cs ⟨M,s,rH.refl _⟩ (λd en R ⟨s1,S,E⟩=> ?_)).2.1;obtain⟨Y,e2,F,T⟩:=t en R
 have g:∀e∈d.at_ Q.n a en,e<d.its.length:=λe he=>s1.ok.q9 he
 have h:∀e∈d.at_ Q.n a en,(d.ed e).frm=a∧(d.ed e).tqo=en:=λe he=>s1.ok.prt a en e (by omega) he
 have inner:=vG (tS Q rule frm tqo l x kids en) (λfg=>ij nt nf Q.n frm tqo c 0 fg∧gD Q words fg∧rH d fg) (d.at_ Q.n a en) d ⟨s1,S,rH.refl _⟩ (λf e he ⟨s2,u,p⟩=> ?_)
 ·exact⟨inner.1,inner.2.1,E.trans inner.2.2⟩
 have r:e<f.its.length:=fR (g e he) p.more
 have G:=p.ed e (g e he)
 have v:=E.trans p
 have i:∀k∈kids,k<f.its.length:=λk hk=>fR (b.lt k hk) v.more
 obtain⟨g1,g2⟩:=EV A B C ht c (l:=l) (rule:=rule) s2 hx (en:=en) ⟨by omega,F⟩ i r;refine⟨g1,?_,p.trans g2.stay⟩;unfold tS
 cases hy:lU Q f rule x (kids.length+1) e with
 |none=>exact u
 |some y=>
  dsimp only
  obtain⟨H,U,_⟩:=vx B s2.ok hx r hy
  have V:=G3 hy
  have m:kM f en frm (kids++ [e]):=kM.snoc r (by rw[G];exact(h e he).1) (by rw[G];exact(h e he).2) (b.stay v)
  have w:((kids++ [e]).map λk=>(f.ed k).gr)=(kids.map λk=>(cs.ed k).gr)++ [(f.ed e).gr]:=by rw[cP,OI v b.lt];rfl
  have o:ru Q.mt (Q.rules.getD rule oS).graph 1 ((kids++ [e]).map λk=>(f.ed k).gr)=some y:=by
   rw[w,Bm _ O,aO,Nat.add_comm 1];exact V
  cases l with
  |zero=>
   dsimp only
   obtain⟨m1,m2⟩:=qP H U
   have W:=T rfl
   subst W;refine CV A I J s2.ok u ⟨C,ht,aP _,m1,m2⟩ (λk hk=> ?_) (.inr ⟨rule,K,rfl,rfl,by rw[←D,bQ];simp,m,?_,y,o,rfl⟩)
   ·rcases cD.1 hk with hk|hk
    ·exact i k hk
    ·rw[bO.1 hk];exact r
   ·cases kids with
    |nil=>
     have:frm=a:=b
     omega
    |cons q kids=>
     cases kids with
     |nil=>rfl
     |cons _ _=>rfl
  |succ l=>
   dsimp only
   exact L l (by omega) f y (kids++ [e]) en s2 H (.inl (by omega)) (F (by omega)) u m (by rw[←D,bQ];simp;omega) o
theorem Sw {nt nf:Nat}{Q:Qr}(a:qp nt nf Q)(e:nt≤250)(f:nf≤250){words:List ax}{w:ax}{frm tqo i:Nat}(hw:w=words.getD frm [])(g:tqo=frm+1)(ht:tqo≤Q.n){cs:Cs}(h:gh nt nf Q.n cs)(b:gD Q words cs)(c:i<Q.aL.length):gD Q words (rM Q w frm tqo cs i):=by
 obtain⟨d,j⟩:=a.Uu c;unfold rM
 split
 ·rename_i l
  obtain⟨f1,f2,_⟩:=te d d.pos;exact CV a.n e f h b ⟨by dsimp only;omega,ht,aP _,f1,dS f2 j⟩ (λk hk=>by cases hk) (.inl ⟨rfl,rfl,g,rfl,i,c,rfl,by rw[l,hw],rfl⟩)
 ·exact b
theorem TR {nt nf:Nat}{Q:Qr}(a:qp nt nf Q)(f:nt≤250)(g:nf≤250){words:List ax}{frm tqo i:Nat}{c:Nat→Nat→Nat}(b:frm<tqo)(ht:tqo≤Q.n){cs:Cs}(h:ij nt nf Q.n frm tqo c 0 cs)(d:gD Q words cs)(e:i<Q.rules.length):gD Q words (rQ Q frm tqo cs i):=by
 obtain⟨⟨k,k3⟩,j,_⟩:=a.vg e;unfold rQ
 split
 ·rename_i l
  exact Rn a.n f g a.mt e b ht c _ cs _ [] frm h j (.inr ⟨rfl,by omega⟩) b d rfl (by show((0+((Q.rules.getD i oS).kids.toNat-1)+1:Nat):Int)=_;omega) rfl
 ·exact d
theorem Tn {nt nf:Nat}{Q:Qr}(a:qp nt nf Q)(f:nt≤250)(g:nf≤250){words:List ax}{frm tqo e i:Nat}(j:frm<tqo)(ht:tqo≤Q.n){cs:Cs}(h:gh nt nf Q.n cs)(b:gD Q words cs)(he:e<cs.its.length)(c:(cs.ed e).frm=frm∧(cs.ed e).tqo=tqo)(q:(cs.ed e).cx<3)(d:i<Q.rules.length):gD Q words (qc Q frm tqo e cs i):=by
 obtain⟨_,l,_⟩:=a.vg d;unfold qc
 split
 ·exact b
 ·rename_i hk
  cases hy:lU Q cs i (Q.rules.getD i oS).graph 1 e with
  |none=>exact b
  |some x=>
   dsimp only
   obtain⟨m,o,_⟩:=vx a.mt h l he hy;obtain⟨m1,m2⟩:=qP m o
   have p:=G3 hy
   refine CV a.n f g h b ⟨j,ht,by dsimp only;omega,m1,m2⟩ (λk hk=>by rw[bO.1 hk];exact he) (.inr ⟨i,d,rfl,rfl,?_,⟨he,c.1,c.2⟩,rfl,x,?_,rfl⟩)
   ·show((1:Nat):Int)=_
    omega
   ·show(match nE Q.mt _ ((1:Nat):Int) (cs.ed e).gr with|none=>none|some z=>ru Q.mt z (1+1) [])=some x
    rw[p];rfl
theorem R7 {nt nf:Nat}{Q:Qr}(d:qp nt nf Q)(f:nt≤250)(g:nf≤250){words:List ax}{frm tqo:Nat}(e:frm<tqo)(ht:tqo≤Q.n){cs:Cs}(h:gh nt nf Q.n cs)(m:cs.its.length≤300)(k:gD Q words cs):gD Q words (n9 Q words frm tqo cs):=by
 have l:ij nt nf Q.n frm tqo (λi j=>(cs.at_ Q.n i j).length) 0 cs:=⟨h,λ_ _ _ _=>rfl,aP _⟩
 unfold n9
 split
 ·rename_i o
  exact(vG (rM Q (words.getD frm []) frm tqo) (λfg=>ij nt nf Q.n frm tqo (λi j=>(cs.at_ Q.n i j).length) 0 fg∧gD Q words fg) _ cs ⟨l,k⟩ (λp i c ⟨a,b⟩=>⟨(zD d e ht a (dt.1 c)).1,Sw d f g rfl o ht a.ok b (dt.1 c)⟩)).2
 ·exact(vG (rQ Q frm tqo) (λfg=>ij nt nf Q.n frm tqo (λi j=>(cs.at_ Q.n i j).length) 0 fg∧gD Q words fg) _ cs ⟨l,k⟩ (λp i c ⟨a,b⟩=>⟨(zb d e ht h m a (dt.1 c)).1,TR d f g e ht a b (dt.1 c)⟩)).2
theorem A6 {nt nf:Nat}{Q:Qr}(g:qp nt nf Q)(p:nt≤250)(q:nf≤250){words:List ax}{frm tqo:Nat}(j:frm<tqo)(ht:tqo≤Q.n):∀(f k:Nat) (cs:Cs),gh nt nf Q.n cs→gD Q words cs→gD Q words (qd Q frm tqo f k cs)
 |0,_,_,_,h=>h
 |f+1,k,cs,c,h=>by
  rw[qd]
  split
  ·rename_i hk
   have r:(cs.at_ Q.n frm tqo)[k]?=some ((cs.at_ Q.n frm tqo).getD k 0):=by rw[ar,bU hk];rfl
   have m:=ae r
   have d:=c.q9 m
   have s:=c.prt frm tqo _ (by omega) m
   split
   ·exact A6 g p q j ht f (k+1) cs c h
   ·rename_i x
    have w:(cs.ed ((cs.at_ Q.n frm tqo).getD k 0)).cx≤3:=by
     have:cs.ed ((cs.at_ Q.n frm tqo).getD k 0)=(cs.its[(cs.at_ Q.n frm tqo).getD k 0]'d).ed:=by unfold Cs.ed;rw[ar (l:=cs.its),bU d];rfl
     rw[this];exact(c.gr _ (gy d)).2.2.1
    have t:(cs.ed ((cs.at_ Q.n frm tqo).getD k 0)).cx<3:=by omega
    have hu:=C1 g j ht (e:=(cs.at_ Q.n frm tqo).getD k 0) (ch:=(cs.ed ((cs.at_ Q.n frm tqo).getD k 0)).cx) t c d rfl
    refine A6 g p q j ht f (k+1) _ hu.ok ?_;refine(vG (qc Q frm tqo ((cs.at_ Q.n frm tqo).getD k 0)) (λfg=>gh nt nf Q.n fg∧gD Q words fg∧rH cs fg) _ cs ⟨c,h,rH.refl _⟩ (λz i v ⟨a,b,y⟩=> ?_)).2.1
    have o:=fR d y.more
    have u:=y.ed _ d
    have h1:=Jx g j ht a o (by rw[u]) t (dt.1 v)
    exact⟨h1.ok,Tn g p q j ht a b o (by rw[u];exact s) (by rw[u];exact t) (dt.1 v),y.trans h1.gr.stay⟩
  ·exact h
theorem Ji {nt nf len:Nat}{Q:Qr}(a:qp nt nf Q)(b:nt≤250)(c:nf≤250){words:List ax}{frm:Nat}(d:1≤len)(ht:frm+len≤Q.n){cs:Cs}(h:ng nt nf Q.n len frm cs)(e:gD Q words cs):gD Q words (pL Q words frm (frm+len) cs):=by
 obtain⟨f,_,_⟩:=Db a (words:=words) d ht h;exact A6 a b c (by omega) ht _ _ _ f (R7 a b c (by omega) ht h.ok h.xY e)
theorem QG {words:List ax}{k:Nat}{w:ax}(h:words[k]?=some w):xR k (words.drop k)=if isWord w=false then(10,(k:Int))else xR (k+1) (words.drop (k+1)):=by rw[bN h,xR]
theorem Ty {words:List ax}{k:Nat}(h:words.length≤k):xR k (words.drop k)=(0,0):=by rw[j4 h,xR]
theorem NH {L:List Dz}{words:List ax}{k:Nat}{w:ax}(h:words[k]?=some w):Ad L k (words.drop k)=if w∈L.map (·.word)then Ad L (k+1) (words.drop (k+1))else(6,(k:Int)):=by rw[bN h,Ad]
theorem Rx {L:List Dz}{words:List ax}{k:Nat}(h:words.length≤k):Ad L k (words.drop k)=(0,0):=by rw[j4 h,Ad]
theorem vO {g:fj}{words:List ax}(h:(pj g words).1=0):0<words.length∧words.length≤12:=by
 unfold pj at h
 by_cases c:words.length=0∨12<words.length
 ·rw[aC c]at h;exact absurd h (by decide)
 ·omega
theorem Mm.DE {c:Ctx}(a:TypeId){w:World}:∀(m:Nat) (H:List ak),Mm c H w→Mm c (bE (fq a) (List.replicate m (bR,[]))++H) w
 |0,_,h=>h
 |m+1,H,h=>by
  obtain⟨ρ,hm⟩:=(Mm.DE a m H h).out;exact Mm.mk (hm.Aq rfl ⟨rfl,aR _⟩ rfl (aR _) (λ_ _=>rfl) (eM.2 (World.ownsRow_nil _ _ _ _)) (λb d=>by rw[eI]at d;simp[Value.ownBlock]at d))
theorem St.DE {n:Nat}{F:Fr}{c:Ctx}{H H':List ak}{T:Act→World→Prop}(e d:TypeId)(m:Nat)[t:jB [] (bE (eo e d) []++bE (fq d) (List.replicate m (bR,[]))) H H'](h:St n F (Mm c H') T):St n F (Mm c H) T:=by
 obtain⟨L,a,b⟩:=t.eq
 refine h.o9 λw hw=> ?_
 rw[a,gx]at hw;obtain⟨ρ,k⟩:=(Mm.DE d m L hw).out;rw[b];exact Mm.mk (k.perm jV)
theorem St.afG {n:Nat}{F:Fr}{c:Ctx}{H H':List ak}{T:Act→World→Prop}(X Y:List ak)[t:jB (X++Y) X H H'](h:St n F (Mm c H') T):St n F (Mm c H) T:=by
 obtain⟨L,a,b⟩:=t.eq
 refine h.o9 λw hw=> ?_
 rw[a,←dq]at hw;obtain⟨ρ,k⟩:=hw.out;rw[b];exact Mm.mk k.left
theorem TK {f:kz}{g:gQ}{words:List ax}(h:wI f (cE g) (gz (g.types.map dG)))(hk:∀r∈(cE g).rules,r.kids≤3):kS f (g.types.map dG) words.length g=qrG (cE g) words:=by
 unfold qrG kS
 rw[MM h hk];rfl
theorem Xc {g:gQ}(h:M8 (cE g)){f:kz}{n:Nat}(b:n≤12):qp (g.types.map dG).length (g.cB.map gw).length (kS f (g.types.map dG) n g):=
 ⟨b,zJ _,h.rn,h.xn,λr a=>⟨(h.rule r a).kids,(h.rule r a).gr,(h.rule r a).len⟩,λx hx=>⟨(h.lex x hx).gr,(h.lex x hx).len⟩⟩
theorem Tx {nt nf n len frm:Nat}{Q:Qr}{words:List ax}(a:qp nt nf Q){d:nG}(c:ng nt nf n len frm d.cs)(hd:gD Q words d.cs):∀x∈d.its,x.cW.length≤3000000000000∧∀w∈x.cW,mM.wf w∧w.kids.length≤1000∧∀k∈w.kids,k<d.its.length:=λx hx=>by
 have hm:cF x∈d.cs.its:=eP hx
 have h1:=c.cW _ hm
 have g:(cF x).cW.length=x.cW.length:=aO _
 unfold vm at h1;refine⟨by omega,λw hw=> ?_⟩
 have e:wyE w∈(cF x).cW:=eP hw
 have hk:∀k∈w.kids,k<d.its.length:=λk hk=>by rw[←iR];exact c.ok.kids _ hm _ e k hk
 rcases hd _ hm _ e with⟨b,a2,_,_,i,f,a5,_⟩|⟨i,f,a2,a3,a4,_⟩
 ·have b:w.rule= -1:=b
  have a2:w.kids=[]:=a2
  have a5:w.lex=i:=a5
  have:=a.xn
  exact⟨⟨by rw[b];unfold aZ;omega,by rw[a5];unfold aZ;omega⟩,by rw[a2];exact aP _,hk⟩
 ·have a2:w.rule=i:=a2
  have a3:w.lex=0:=a3
  have a4:((w.kids.length:Nat):Int)=_:=a4
  have:=a.rn
  have h:=(a.vg f).1.2
  exact⟨⟨by rw[a2];unfold aZ;omega,by rw[a3];unfold aZ;omega⟩,by omega,hk⟩
theorem PU {nt nf n:Nat}{cs:Cs}(h:gh nt nf n cs){it:lM}(hit:it∈gm cs.its):it.ed.frm<it.ed.tqo∧it.ed.tqo≤n∧it.ed.cx≤3∧e9 nt nf it.ed.gr∧it.ed.gr.length≤60:=by
 unfold gm at hit;obtain⟨i,b,rfl⟩:=cz.1 hit
 have a:i<cs.its.length:=dt.1 ((jg _ _).mem_iff.1 b)
 have e:cs.its.getD i gg=cs.its[i]:=by rw[ar,bU a];rfl
 dsimp only
 rw[e];exact h.gr _ (gy a)
theorem Eo {Q:Qr}{words:List ax}{len m frm:Nat}{cs:Cs}(hm:0<m):Al Q words len m frm cs=if 300<(pL Q words frm (frm+len) cs).its.length then none else Al Q words len (m-1) (frm+1) (pL Q words frm (frm+len) cs):=by
 obtain⟨k,rfl⟩:∃k,m=k+1:=⟨m-1,by omega⟩
 rfl
theorem E9 {Q:Qr}{words:List ax}{len m:Nat}{cs:Cs}(hm:0<m):yR Q words m len cs=(Al Q words len (Q.n+1-len) 0 cs).bind λcs=>yR Q words (m-1) (len+1) cs:=by
 obtain⟨k,rfl⟩:∃k,m=k+1:=⟨m-1,by omega⟩
 rfl
theorem yw {mt:Nat→Nat→Option Nat}{n:Nat}{start:e8}{its:List lM}{k:Nat}:((List.range (k+1)).filter λi=>decide ((its.getD i gg).ed.frm=0)&&decide ((its.getD i gg).ed.tqo=n)&&(dU mt (its.getD i gg).ed.gr 0 start).isSome)=
 ((List.range k).filter λi=>decide ((its.getD i gg).ed.frm=0)&&decide ((its.getD i gg).ed.tqo=n)&&(dU mt (its.getD i gg).ed.gr 0 start).isSome)++if(decide ((its.getD k gg).ed.frm=0)&&decide ((its.getD k gg).ed.tqo=n)&&(dU mt (its.getD k gg).ed.gr 0 start).isSome)=true then [k]else []:=by
 rw[ub,List.filter_append,List.filter_cons,List.filter_nil]
theorem O3 (g:gQ)(wv:Value)(words:List ax):kW prog 87 #[fG g,wv] [sl e7 g.xv.1 g.aL,aF eQ g.aL,sl bI wv words,u8] (fv (pj (cE g) words)):=by
 refine kW.body (args:=[fG g,wv]) (ds:=[sl e7 g.xv.1 g.aL,aF eQ g.aL,sl bI wv words,u8]) 69 func87 rfl ntmps87 rfl (λc s=> ?_);refine St.cast (H':=[aB (sl e7 g.xv.1 g.aL),aB (aF eQ g.aL),aB (sl bI wv words),aB (u8)]) rfl ?_;refine go ?_;refine St.wf wv (λi B=> ?_);refine St.wf g.xv.1 (λC D=> ?_);refine go ?_;refine St.dJ (.mk rfl) rfl (λj=> ?_);refine St.al (λl=> ?_);refine g9 ?_;refine St.gf _ rfl rfl (λd=>Ev.move (.mk rfl)) rfl ?_;refine St.gf _ rfl rfl (λd=>Ev.fk (ai.gv rfl d) pM) rfl ?_;refine St.gf _ rfl rfl (λd=>Ev.gtr (ai.gv rfl d) (.mk rfl)) rfl ?_;refine g3 ?_;refine St.cq (λt=> ?_) (λt=> ?_)
 ·have hk:(pj (cE g) words)=(9,-2):=by unfold pj;rw[aC (by omega)]
  refine g2 ?_;refine St.ee (Ev.build (bF.aX rfl rfl) (λw=>gi rfl rfl w)) ?_;refine g5 ?_;refine St.rV [_] [] ?_
  rw[hk];rfl
 ·have hk:(pj (cE g) words)=if(xR 0 words).1≠0 then xR 0 words else Ad (g.aL.map oh) 0 words:=by unfold pj;rw[aA (by omega)];rfl
  refine g11 ?_;refine St.lH (ι:=Nat) (λk T=>(25,iv k)::T) (λk=>[aW j (.cells (jD g).toArray 32 (0,0)),aW l (.cells [iv 0,iv 0].toArray 35 (0,0)),aB (sl e7 g.xv.1 g.aL),aB (aF eQ g.aL),aB (sl bI wv words),aB (u8)]) (λk=>k≤words.length∧xR 0 words=xR k (words.drop k)) (λk=>words.length-k) 0 (aD.cons 1 rfl (aD.cons 2 rfl (aD.cons 4 rfl (aD.cons 23 rfl (aD.cons 24 rfl aD.nil))))) ⟨aP _,rfl⟩ ?_;rintro k ⟨v,e⟩;refine g6 ?_;refine St.cq (λy=> ?_) (λy=> ?_)
  ·obtain⟨w,hw⟩:=aE (show k<words.length by omega)
   have z:w.length≤140737488351232:=i w (ae hw)
   have f:=QG hw
   refine g16 ?_;refine St.ee (Ev.mQ s (ui w (by omega)) W5 (.au rfl)) ?_;refine g3 ?_;refine St.cond _ rfl (λa=> ?_) (λa=> ?_)
   ·skip
    rw[aC (show isWord w=false by simpa using a)]at f;rw[e.trans f,aC (show(10:Int)≠0 by decide)]at hk;refine g3 ?_;refine St.ee (Ev.build (bF.aX rfl rfl) (λw=>gi rfl rfl w)) ?_;refine g9 ?_;refine St.rV [_] [] ?_
    rw[hk];rfl
   ·skip
    rw[aA (show ¬isWord w=false by simpa using a)]at f;refine g8 ?_;refine St.aH (k+1) ⟨by omega,e.trans f⟩
  ·rw[Ty (by omega)]at e
   rw[e,aA (by decide)]at hk;refine g7 ?_;refine St.makeMap mkStr rfl (λr=> ?_);refine g13 ?_;refine St.tn (ι:=Nat) (κ:=List (ax×Value)) (λq m T=>(40,iv q)::T) (λq m=>[aW r (eU mkStr m),aW j (.cells (jD g).toArray 32 (0,0)),aW l (.cells [iv 0,iv 0].toArray 35 (0,0)),aB (sl e7 g.xv.1 g.aL),aB (aF eQ g.aL),aB (sl bI wv words),aB (u8)]) (λq m=>q≤g.aL.length∧KJ m ((g.aL.take q).map eY.word)) (λq m=>g.aL.length-q) 0 [] (aD.cons 1 rfl (aD.cons 4 rfl (aD.cons 7 rfl (aD.cons 38 rfl (aD.cons 39 rfl aD.nil))))) ⟨aP _,KJ.nil⟩ ?_;rintro q m ⟨E,n⟩;refine g6 ?_;refine St.cq (λA=> ?_) (λA=> ?_)
   ·obtain⟨x,hx⟩:=aE (show q<g.aL.length by omega)
    refine g8 ?_;refine St.ee (Ev.jq (.mk rfl) hx A2 trivial nW j5.eq) ?_;refine St.al (λF=> ?_);refine go ?_;refine St.sA (.mk rfl) (.mk rfl) nW ?_ (h1:=(eW.2 λu hu=>e7.one x u hu));refine g7 ?_;refine St.mapUpdate mkStr (k:=x.word) (.mk rfl) (.mk rfl) (.mk rfl) pZ (by exact xQ) ?_;refine g8 ?_;refine St.uk (q+1) (l9 m x.word (iv q)) ⟨by omega,by rw[gT eY.word hx];exact n.snoc _ _⟩
   ·obtain rfl:q=g.aL.length:=by omega
    rw[kH]at n;refine g14 ?_;refine St.lH (ι:=Nat) (λk T=>(52,iv k)::T) (λk=>[aW r (eU mkStr m),aW j (.cells (jD g).toArray 32 (0,0)),aW l (.cells [iv 0,iv 0].toArray 35 (0,0)),aB (sl e7 g.xv.1 g.aL),aB (aF eQ g.aL),aB (sl bI wv words),aB (u8)]) (λk=>k≤words.length∧Ad (g.aL.map oh) 0 words=Ad (g.aL.map oh) k (words.drop k)) (λk=>words.length-k) 0 (aD.cons 4 rfl (aD.cons 7 rfl (aD.cons 50 rfl (aD.cons 51 rfl aD.nil)))) ⟨aP _,rfl⟩ ?_;rintro k ⟨v,h⟩;refine g6 ?_;refine St.cq (λo=> ?_) (λo=> ?_)
    ·obtain⟨w,hw⟩:=aE (show k<words.length by omega)
     have b:=NH (L:=g.aL.map oh) hw
     rw[kG]at b;refine g17 ?_;refine St.ee (Ev.tq mkStr (k:=w) (.mk rfl) (.mk rfl) pZ (by exact xQ) eS) ?_;refine g3 ?_;refine St.slot 62 (.bool (decide (w∈g.aL.map eY.word))) rfl (congrArg Value.bool (n w)) ?_;refine g10 ?_;refine St.cond _ rfl (λp=> ?_) (λp=> ?_)
     ·skip
      rw[aA (show ¬w∈g.aL.map ((·.word)∘oh)from(by simpa using p:¬w∈g.aL.map eY.word))]at b;rw[h.trans b]at hk;refine g3 ?_;refine St.ee (Ev.build (bF.aX rfl rfl) (λw=>gi rfl rfl w)) ?_;refine g9 ?_;refine St.rV [_] [] ?_
      rw[hk];rfl
     ·skip
      rw[aC (show w∈g.aL.map ((·.word)∘oh)from(by simpa using p:w∈g.aL.map eY.word))]at b;refine g8 ?_;refine St.aH (k+1) ⟨by omega,h.trans b⟩
    ·rw[Rx (by omega)]at h
     rw[h]at hk;refine g7 ?_;refine St.ee (Ev.build (bF.nil) (λw=>jX w)) ?_;refine g4 ?_;refine St.rV [_] [] ?_
     rw[hk];rfl
theorem FR (g:gQ)(wv:Value)(words:List ax):sm prog 50 #[fG g,wv] ([er g,sl bI wv words,tz,u8].map aB) (λv H'=>∃(p u3:aV) (m:Nat) (d:List dL),v= .tuple #[.agg #[p.1,iv (m:Nat),u3.1],fv (dT (cE g) words).2]∧d.map cF=(dT (cE g) words).1.1∧H'=[aB (sl eE p.1 d),aB (aF cj d),aB (sl aJ u3.1 (bW (dT (cE g) words).1.2))]):=by
 refine sm.body (args:=[fG g,wv]) 124 func50 rfl ntmps50 rfl (λc hdr=> ?_);refine St.cast (H':=[aB (er g),aB (sl bI wv words),aB (tz),aB (u8)]) rfl ?_
 refine St.jN (er g) (λ_:Unit=>H8 g) (λρ h=>⟨(),h⟩) λ_=> ?_
 refine St.cast (H':=[aB (sl n5 g.tv.1 g.types),aB (aF ry g.types),aB (sl gY g.fv.1 g.cB),aB (sl cT g.rv.1 g.rules),aB (aF bx g.rules),aB (sl e7 g.xv.1 g.aL),aB (aF eQ g.aL),aB (aG g.start),aB (er g),aB (sl bI wv words),aB (tz),aB (u8)]) rfl ?_;refine g2 ?_;refine St.dJ (.mk rfl) rfl (λQ=> ?_);refine St.al (λF=> ?_);refine St.al (λG=> ?_);refine g6 ?_;refine St.slot 17 (fG g) rfl rfl ?_;refine St.ee (Ev.mQ hdr (qJ g) Vx (.au rfl)) ?_;refine St.slot 18 (.agg #[iv (jL (cE g)).1,iv (jL (cE g)).2]) rfl rfl ?_;refine St.al (λb6=> ?_);refine g10 ?_;refine St.cq (λh21=> ?_) (λh21=> ?_)
 ·have l:(dT (cE g) words)=(([],[]),jL (cE g)):=by unfold dT;rw[aC h21]
  refine go ?_;refine St.pC [F,G] mixed (λnp ns=> ?_);refine SW.dd 0 rfl (λ_=>Ev.build (ps:=[]) (bF.nil) (λw=>Cj w)) ?_;refine SW.gd 1 ?_;refine SW.t1 2 ?_;refine g3 ?_;refine SW.go ?_;refine SW.t1 3 ?_;refine g3 ?_;refine SW.go ?_;refine SW.dn ?_;refine g3 ?_;refine St.fm eE ?_;refine St.dN cj ?_;refine St.fm aJ ?_;refine St.rV [_,_] [aB (sl eE (.slice none 0 0) []),aB (aF cj []),aB (sl aJ (.slice none 0 0) [])] ?_;exact⟨bR,bR,0,[],by rw[l];rfl,by rw[l];rfl,by rw[l];rfl⟩
 ·have hg0:(jL (cE g)).1=0:=by omega
  have s:=vH hg0
  have S:im (g.types.map dG):=s.ty
  have hTl:=S.len
  have hFl:(g.cB.map gw).length≤40:=s.ft
  refine g6 ?_;refine St.slot 24 (fG g) rfl rfl ?_;refine go ?_;refine St.ee (Ev.mQ hdr (O3 g wv words) ah0 (.aX rfl rfl)) ?_;refine St.slot 26 (.agg #[iv (pj (cE g) words).1,iv (pj (cE g) words).2]) rfl rfl ?_;refine St.al (λb7=> ?_);refine g10 ?_;refine St.cq (λU=> ?_) (λU=> ?_)
  ·have l:(dT (cE g) words)=(([],[]),(pj (cE g) words)):=by unfold dT;rw[aA (λh=>h hg0),aC U]
   refine go ?_;refine St.pC [F,G] mixed (λnp ns=> ?_);refine SW.dd 0 rfl (λ_=>Ev.build (ps:=[]) (bF.nil) (λw=>Cj w)) ?_;refine SW.gd 1 ?_;refine SW.t1 2 ?_;refine g3 ?_;refine SW.go ?_;refine SW.t1 3 ?_;refine g3 ?_;refine SW.go ?_;refine SW.dn ?_;refine g3 ?_;refine St.fm eE ?_;refine St.dN cj ?_;refine St.fm aJ ?_;refine St.rV [_,_] [aB (sl eE (.slice none 0 0) []),aB (aF cj []),aB (sl aJ (.slice none 0 0) [])] ?_;exact⟨bR,bR,0,[],by rw[l];rfl,by rw[l];rfl,by rw[l];rfl⟩
  ·have V:(pj (cE g) words).1=0:=by omega
   obtain⟨hw0,I⟩:=vO V
   have hru:∀r∈g.rules,(1≤r.kids∧r.kids≤3)∧e9 (g.types.map dG).length (g.cB.map gw).length (ay r.graph)∧r.graph.nodes.length≤60:=λr J=>by have h:=s.rule (lL r) (eP J);exact⟨h.kids,h.gr,by rw[←dA];exact h.len⟩
   have We:∀x∈g.aL,e9 (g.types.map dG).length (g.cB.map gw).length (ay x.graph)∧x.graph.nodes.length≤60:=λx hx=>by have h:=s.lex (oh x) (eP hx);exact⟨h.gr,by rw[←dA];exact h.len⟩
   have SR:e9 (g.types.map dG).length (g.cB.map gw).length (ay g.start)∧g.start.nodes.length≤60:=⟨s.start.1,by rw[←dA];exact s.start.2⟩
   have GN:∀r∈g.rules,∀k:Int,0≤k→k≤r.kids→0≤rS (ay r.graph) k:=λr J=>(s.rule (lL r) (eP J)).rS
   have hrn:g.rules.length≤40:=by have h:(g.rules.map lL).length≤40:=s.rn;rwa[aO]at h
   have hxn:g.aL.length≤100:=by have h:(g.aL.map oh).length≤100:=s.xn;rwa[aO]at h
   refine g7 ?_;refine St.ag (pz g.tv.1 g.types S) W1 (.au rfl) rfl ?_;rintro v35 _ ⟨a,b,rfl,rfl⟩;refine St.dQ ?_;refine St.al (λR=> ?_);refine g3 ?_;refine St.join (ι:=kz×aV×Nat×Nat×nG) (λ⟨f,sv,e,y,d0⟩ T=>(9,.pointer (some ⟨y,0,none⟩))::T) (λ⟨f,sv,e,y,d0⟩=>(aB (aF (λx:dL=>aG x.gr) d0.its)::aW y (.cells (nC g a b f words.length d0.eF.1 sv.1 e).toArray 180 (0,0))::aW e (eU mkStr d0.m)::row d0.eF.1 186 6 d0.its.length (rows eE d0.its)::row sv.1 58 1 d0.bz.length (rows bT (d0.bz.map Prod.fst))::aB (iK [hY f,sl cT g.rv.1 g.rules,aF bx g.rules,sl e7 g.xv.1 g.aL,aF eQ g.aL])::aB (iK [sl bH a.1 (dg (g.types.map dG)),sl bH b.1 (de (g.types.map dG)),tz,sl bI wv words,aG g.start])::aW Q (.cells (jD g).toArray 32 (0,0))::aW F (.cells [(.slice none 0 0),iv 0,(.slice none 0 0)].toArray 120 (0,0))::aW G (.cells [iv 0,iv 0].toArray 35 (0,0))::aW R (.cells [a.1,b.1].toArray 100 (0,0))::(bE (eo 200 3) d0.its++bE (fq 3) d0.bz))) (λ⟨f,sv,e,y,d0⟩=>wI f (cE g) (gz (g.types.map dG))∧d0.nV=sv∧lN d0∧d0.cs=(⟨[],List.replicate (words.length*(words.length+1)) []⟩:Cs)) (aD.cons 1 rfl (aD.cons 2 rfl (aD.cons 4 rfl (aD.cons 5 rfl (aD.cons 8 rfl aD.nil))))) ?_ ?_
   ·refine St.dc [aB (sl cT g.rv.1 g.rules),aB (aF bx g.rules),aB (sl e7 g.xv.1 g.aL),aB (aF eQ g.aL),aB (aG g.start),aB (sl bH a.1 (dg (g.types.map dG))),aB (sl bH b.1 (de (g.types.map dG))),aB (tz)] mixed (λnp ns=> ?_)
    repeat' first
     |with_reducible refine SW.me ?_
      first
       |refine SW.gd 0 ?_
        refine SW.slot 36 (fG g) rfl rfl ?_
       |refine SW.gd 1 ?_
        refine SW.slot 37 (kB a b) rfl rfl ?_
       |refine SW.gd 2 ?_
        refine SW.slot 38 (fG g) rfl rfl ?_
       |refine SW.gd 3 ?_
        refine SW.slot 39 (kB a b) rfl rfl ?_
       |refine SW.gd 5 ?_
       |refine SW.gd 6 ?_
       |refine SW.dd 9 rfl (λ_=>Ev.build (ps:=[(0,(.tmp 36)),(1,(.tmp 37)),(2,(.tmp 40)),(4,(.tmp 43)),(5,(.tmp 44))]) (bF.Au rfl rfl rfl rfl rfl) (λw=>ur rfl w)) ?_
        refine SW.slot 45 (.agg (nC g a b f words.length bR.1 sv.1 e).toArray) rfl rfl ?_
       |refine SW.gd 11 ?_
       |refine SW.t2 4 8 ?_ ?_
       |refine SW.t2 7 8 ?_ ?_
       |refine SW.t1 8 ?_
       |refine SW.t1 10 ?_
       |refine SW.t1 7 ?_
       |refine SW.t1 4 ?_
     |with_reducible refine SW.tg 4 ?_
      refine St.ag (Qp g a b (g.types.map dG) S (g.cB.map gw).length (by omega) hrn hxn hru We SR GN) ah1 (.aX rfl rfl) rfl ?_;rintro v40 _ ⟨f,rfl,A,rfl⟩;refine St.ao ?_;refine g2 ?_;refine SW.go ?_
     |with_reducible refine SW.tg 7 ?_
      refine St.call (Ar words.length I (words.length*(words.length+1)) rfl) ah2 (.au rfl) rfl ?_;rintro v43 _ ⟨sv,rfl,rfl⟩;refine St.ao ?_;refine g2 ?_;refine SW.go ?_
     |with_reducible refine SW.tg 8 ?_
      refine St.makeMap mkStr rfl (λe=> ?_);refine g2 ?_;refine SW.go ?_
     |with_reducible refine SW.tg 10 ?_
      refine St.dJ (.mk rfl) rfl (λy=> ?_);refine g2 ?_;refine SW.go ?_
    all_goals refine SW.dn ?_
    all_goals
     refine go ?_;refine St.aM sv.1 (show _=(List.replicate (words.length*(words.length+1)) ((bR,[]):aV×List Nat)).length by rw[kF,kF]) (show _=rows bT ((List.replicate (words.length*(words.length+1)) ((bR,[]):aV×List Nat)).map Prod.fst) by rw[sB]) ?_;refine St.dw 186 6 ?_;refine St.aM (.slice none 0 0) (show _=([]:List dL).length from rfl) (show _=rows eE []from rfl) ?_;refine St.dN (λx:dL=>aG x.gr) ?_;refine St.DE 200 3 (words.length*(words.length+1)) ?_;refine St.eZ (iK [hY f,sl cT g.rv.1 g.rules,aF bx g.rules,sl e7 g.xv.1 g.aL,aF eQ g.aL]) [hY f,sl cT g.rv.1 g.rules,aF bx g.rules,sl e7 g.xv.1 g.aL,aF eQ g.aL] (λρ h=>h) ?_;refine St.eZ (iK [sl bH a.1 (dg (g.types.map dG)),sl bH b.1 (de (g.types.map dG)),tz,sl bI wv words,aG g.start]) [sl bH a.1 (dg (g.types.map dG)),sl bH b.1 (de (g.types.map dG)),tz,sl bI wv words,aG g.start] (λρ h=>h) ?_;refine St.mE ⟨f,sv,e,y,(⟨bR,[],sv,List.replicate (words.length*(words.length+1)) (bR,[]),[]⟩:nG)⟩ ⟨A,rfl,⟨λ_ h=>(by cases h),xC.nil,.nil⟩,(by show(⟨_,_⟩:Cs)=_;rw[sB];rfl)⟩
   ·rintro ⟨f,sv,e,y,d0⟩ ⟨A,Y,hp0,hc0⟩
    dsimp only at A Y hp0 hc0⊢
    refine St.JO [sl bH a.1 (dg (g.types.map dG)),sl bH b.1 (de (g.types.map dG)),tz,sl bI wv words,aG g.start] ?_;refine St.cast (H':=(aB (sl bH a.1 (dg (g.types.map dG)))::aB (sl bH b.1 (de (g.types.map dG)))::aB (tz)::aB (sl bI wv words)::aB (aG g.start)::(aB (aF (λx:dL=>aG x.gr) d0.its)::aW y (.cells (nC g a b f words.length d0.eF.1 sv.1 e).toArray 180 (0,0))::aW e (eU mkStr d0.m)::row d0.eF.1 186 6 d0.its.length (rows eE d0.its)::row sv.1 58 1 d0.bz.length (rows bT (d0.bz.map Prod.fst))::aB (iK [hY f,sl cT g.rv.1 g.rules,aF bx g.rules,sl e7 g.xv.1 g.aL,aF eQ g.aL])::aB (iK [sl bH a.1 (dg (g.types.map dG)),sl bH b.1 (de (g.types.map dG)),tz,sl bI wv words,aG g.start])::aW Q (.cells (jD g).toArray 32 (0,0))::aW F (.cells [(.slice none 0 0),iv 0,(.slice none 0 0)].toArray 120 (0,0))::aW G (.cells [iv 0,iv 0].toArray 35 (0,0))::aW R (.cells [a.1,b.1].toArray 100 (0,0))::(bE (eo 200 3) d0.its++bE (fq 3) d0.bz)))) rfl ?_;refine St.JO [hY f,sl cT g.rv.1 g.rules,aF bx g.rules,sl e7 g.xv.1 g.aL,aF eQ g.aL] ?_;refine St.cast (H':=(aB (hY f)::aB (sl cT g.rv.1 g.rules)::aB (aF bx g.rules)::aB (sl e7 g.xv.1 g.aL)::aB (aF eQ g.aL)::aB (sl bH a.1 (dg (g.types.map dG)))::aB (sl bH b.1 (de (g.types.map dG)))::aB (tz)::aB (sl bI wv words)::aB (aG g.start)::aB (aF (λx:dL=>aG x.gr) d0.its)::aW y (.cells (nC g a b f words.length d0.eF.1 sv.1 e).toArray 180 (0,0))::aW e (eU mkStr d0.m)::row d0.eF.1 186 6 d0.its.length (rows eE d0.its)::row sv.1 58 1 d0.bz.length (rows bT (d0.bz.map Prod.fst))::aB (iK [hY f,sl cT g.rv.1 g.rules,aF bx g.rules,sl e7 g.xv.1 g.aL,aF eQ g.aL])::aB (iK [sl bH a.1 (dg (g.types.map dG)),sl bH b.1 (de (g.types.map dG)),tz,sl bI wv words,aG g.start])::aW Q (.cells (jD g).toArray 32 (0,0))::aW F (.cells [(.slice none 0 0),iv 0,(.slice none 0 0)].toArray 120 (0,0))::aW G (.cells [iv 0,iv 0].toArray 35 (0,0))::aW R (.cells [a.1,b.1].toArray 100 (0,0))::(bE (eo 200 3) d0.its++bE (fq 3) d0.bz))) rfl ?_
    have hFn:=A.ln (by have:=s.rn;omega) (by have:=s.xn;omega) (λr J=>(s.rule r J).kids.2)
    have hQ:=Xc s (f:=f) I
    have hQs:=TK (words:=words) A (λr J=>(s.rule r J).kids.2)
    have aj0:f.nr=g.rules.length:=by rw[A.nr];exact aO _
    obtain⟨W,hW⟩:∃W,W=yR (kS f (g.types.map dG) words.length g) words words.length 1 (⟨[],List.replicate (words.length*(words.length+1)) []⟩:Cs):=⟨_,rfl⟩
    have ajV:xD (cE g) words=W.map λcs=>gm cs.its:=by unfold xD;rw[←hQs,hW]
    have l:(dT (cE g) words)=match xD (cE g) words with|none=>(([],[]),(17,-2))|some its=>((its,H5 (gz (g.types.map dG)) words.length (ay g.start) its),(0,0)):=by unfold dT;rw[aA (λh=>h hg0),aA (λh=>h V)];rfl
    rw[ajV]at l;refine g7 ?_;refine St.lH (ι:=Nat×nG) (λ⟨i,d1⟩ T=>(10,iv ((i+1:Nat):Int))::T) (λ⟨i,d1⟩=>(aB (aF (λx:dL=>aG x.gr) d1.its)::aW y (.cells (nC g a b f words.length d1.eF.1 sv.1 e).toArray 180 (0,0))::aW e (eU mkStr d1.m)::row d1.eF.1 186 6 d1.its.length (rows eE d1.its)::row sv.1 58 1 d1.bz.length (rows bT (d1.bz.map Prod.fst))::aB (hY f)::aB (sl cT g.rv.1 g.rules)::aB (aF bx g.rules)::aB (sl e7 g.xv.1 g.aL)::aB (aF eQ g.aL)::aB (sl bH a.1 (dg (g.types.map dG)))::aB (sl bH b.1 (de (g.types.map dG)))::aB (tz)::aB (sl bI wv words)::aB (aG g.start)::aW Q (.cells (jD g).toArray 32 (0,0))::aW F (.cells [(.slice none 0 0),iv 0,(.slice none 0 0)].toArray 120 (0,0))::aW G (.cells [iv 0,iv 0].toArray 35 (0,0))::aW R (.cells [a.1,b.1].toArray 100 (0,0))::(bE (eo 200 3) d1.its++bE (fq 3) d1.bz))) (λ⟨i,d1⟩=>i≤words.length∧d1.nV=sv∧lN d1∧ng (g.types.map dG).length (g.cB.map gw).length words.length (i+1) 0 d1.cs∧gD (kS f (g.types.map dG) words.length g) words d1.cs∧yR (kS f (g.types.map dG) words.length g) words (words.length-i) (i+1) d1.cs=W) (λ⟨i,d1⟩=>words.length-i) ⟨0,d0⟩ (aD.cons 1 rfl (aD.cons 2 rfl (aD.cons 4 rfl (aD.cons 5 rfl (aD.cons 8 rfl (aD.cons 9 rfl aD.nil)))))) ⟨aP _,Y,hp0,by rw[hc0];exact zk,by rw[hc0];exact λit h=>(by cases h),by rw[hc0,hW];rfl⟩ ?_;rintro ⟨i,d1⟩ ⟨hi,Kx,Wi,B,K,Z⟩
    dsimp only at hi Kx Wi B K Z⊢
    refine g9 ?_;refine St.cq (λh50=> ?_) (λh50=> ?_)
    ·have SJ:i<words.length:=by omega
     rw[E9 (by omega),show((kS f (g.types.map dG) words.length g)).n+1-(i+1)=words.length-i from(by show words.length+1-(i+1)=_;omega)]at Z;refine g10 ?_;refine St.lH (ι:=Nat×nG) (λ⟨fr,d2⟩ T=>(11,iv fr)::T) (λ⟨fr,d2⟩=>(aB (aF (λx:dL=>aG x.gr) d2.its)::aW y (.cells (nC g a b f words.length d2.eF.1 sv.1 e).toArray 180 (0,0))::aW e (eU mkStr d2.m)::row d2.eF.1 186 6 d2.its.length (rows eE d2.its)::row sv.1 58 1 d2.bz.length (rows bT (d2.bz.map Prod.fst))::aB (hY f)::aB (sl cT g.rv.1 g.rules)::aB (aF bx g.rules)::aB (sl e7 g.xv.1 g.aL)::aB (aF eQ g.aL)::aB (sl bH a.1 (dg (g.types.map dG)))::aB (sl bH b.1 (de (g.types.map dG)))::aB (tz)::aB (sl bI wv words)::aB (aG g.start)::aW Q (.cells (jD g).toArray 32 (0,0))::aW F (.cells [(.slice none 0 0),iv 0,(.slice none 0 0)].toArray 120 (0,0))::aW G (.cells [iv 0,iv 0].toArray 35 (0,0))::aW R (.cells [a.1,b.1].toArray 100 (0,0))::(bE (eo 200 3) d2.its++bE (fq 3) d2.bz))) (λ⟨fr,d2⟩=>fr+i≤words.length∧d2.nV=sv∧lN d2∧ng (g.types.map dG).length (g.cB.map gw).length words.length (i+1) fr d2.cs∧gD (kS f (g.types.map dG) words.length g) words d2.cs∧(Al (kS f (g.types.map dG) words.length g) words (i+1) (words.length-i-fr) fr d2.cs).bind (λcs=>yR (kS f (g.types.map dG) words.length g) words (words.length-i-1) (i+1+1) cs)=W) (λ⟨fr,d2⟩=>words.length-fr) ⟨0,d1⟩ (aD.cons 1 rfl (aD.cons 2 rfl (aD.cons 4 rfl (aD.cons 5 rfl (aD.cons 8 rfl (aD.cons 9 rfl (aD.cons 10 rfl aD.nil))))))) ⟨by omega,Kx,Wi,B,K,Z⟩ ?_;rintro ⟨fr,d2⟩ ⟨hfr,Ag,Ni,E,hn2,hlen⟩
     dsimp only at hfr Ag Ni E hn2 hlen⊢
     refine g6 ?_;refine St.slot 55 (iv ((fr+(i+1):Nat):Int)) rfl (congrArg iv (by push_cast;omega)) ?_;refine g5 ?_;refine St.cq (λh58=> ?_) (λh58=> ?_)
     ·have SE:fr+(i+1)≤words.length:=by omega
      rw[Eo (by omega)]at hlen;refine g12 ?_;refine St.slot 66 (iv ((fr+(i+1):Nat):Int)) rfl (congrArg iv (by push_cast;omega)) ?_;refine St.pS (ds:=[hY f,sl cT g.rv.1 g.rules,aF bx g.rules,sl e7 g.xv.1 g.aL,aF eQ g.aL,sl bH a.1 (dg (g.types.map dG)),sl bH b.1 (de (g.types.map dG)),tz,sl bI wv words,aF (λx:dL=>aG x.gr) d2.its]) (L:=[aW y (.cells (nC g a b f words.length d2.eF.1 sv.1 e).toArray 180 (0,0)),aW e (eU mkStr d2.m),row d2.eF.1 186 6 d2.its.length (rows eE d2.its),row sv.1 58 1 d2.bz.length (rows bT (d2.bz.map Prod.fst))]) (X:=(bE (eo 200 3) d2.its++bE (fq 3) d2.bz)) (post:=λv L' X'=>∃d3:nG,d3.cs=pL (kS f (g.types.map dG) words.length g) words fr (fr+(i+1)) d2.cs∧d3.nV=sv∧lN d3∧L'=[aB (aF (λx:dL=>aG x.gr) d3.its),aW y (.cells (nC g a b f words.length d3.eF.1 sv.1 e).toArray 180 (0,0)),aW e (eU mkStr d3.m),row d3.eF.1 186 6 d3.its.length (rows eE d3.its),row sv.1 58 1 d3.bz.length (rows bT (d3.bz.map Prod.fst))]∧X'=(bE (eo 200 3) d3.its++bE (fq 3) d3.bz)) ((Lh g a b (g.types.map dG) S (g.cB.map gw).length (by omega) f hFn words.length I y e sv wv words rfl aj0 hQ GN fr (fr+(i+1)) (i+1) (by omega) rfl SE d2 Ag Ni E).mono (λv H' ⟨d3,H,a2,a3,a4⟩=>⟨_,_,a4,d3,H,a2,a3,rfl,rfl⟩)) ah3 (.gU rfl rfl rfl rfl) rfl ?_;rintro v67 _ _ ⟨d3,H,a2,a3,rfl,rfl⟩;refine St.Ca ?_;refine g12 ?_;refine St.cq (λh73=> ?_) (λh73=> ?_)
      ·rw[aC (by rw[←H,iR];omega)]at hlen
       have hWn:W=none:=hlen.symm
       rw[hWn]at l;refine g2 ?_;refine St.ee (Ev.build (bF.nil) (λw=>Cj w)) ?_;refine St.ee (Ev.build (bF.aX rfl rfl) (λw=>gi rfl rfl w)) ?_;refine g14 ?_;refine St.fm eE ?_;refine St.dN cj ?_;refine St.fm aJ ?_;refine St.rV [_,_] [aB (sl eE (.slice none 0 0) []),aB (aF cj []),aB (sl aJ (.slice none 0 0) [])] ?_;exact⟨bR,bR,0,[],by rw[l];rfl,by rw[l];rfl,by rw[l];rfl⟩
      ·have hle:¬300<(pL (kS f (g.types.map dG) words.length g) words fr (fr+(i+1)) d2.cs).its.length:=by rw[←H,iR];omega
       rw[aA hle,←H]at hlen
       have hs3:=Fq hQ (words:=words) (show 1≤i+1 by omega) SE E hle
       have hn3:=Ji hQ (by omega) (by omega) (show 1≤i+1 by omega) SE E hn2
       rw[←H]at hs3 hn3;refine g9 ?_;refine St.aH ⟨fr+1,d3⟩ ⟨by omega,a2,a3,hs3,hn3,by dsimp only;rw[show words.length-i-(fr+1)=words.length-i-fr-1 by omega];exact hlen⟩
     ·rw[show words.length-i-fr=0 by omega]at hlen
      have ab9:yR (kS f (g.types.map dG) words.length g) words (words.length-i-1) (i+1+1) d2.cs=W:=hlen
      refine g12 ?_;refine St.aH ⟨i+1,d2⟩ ⟨by omega,Ag,Ni,Jh E,hn2,by dsimp only;rw[show words.length-(i+1)=words.length-i-1 by omega];exact ab9⟩
    ·obtain rfl:i=words.length:=by omega
     rw[ff]at Z
     have hWs:W=some d1.cs:=Z.symm
     rw[hWs]at l;refine g13 ?_;refine St.ee (Ev.build (bF.aX rfl rfl) (λw=>Gk d1.eF.2 rfl w)) ?_;refine St.slot 82 (.agg #[d1.eF.1,iv (words.length:Nat),(.slice none 0 0)]) rfl rfl ?_;refine St.al (λR4=> ?_);refine g5 ?_
     have ajX:=B.xY
     rw[iR]at ajX;refine St.afG (bE (eo 200 3) (d1.its)) (bE (fq 3) d1.bz) ?_;refine St.pS (ds:=[aF (λx:dL=>aG x.gr) d1.its]) (L:=[aW R4 (.cells [d1.eF.1,iv (words.length:Nat),(.slice none 0 0)].toArray 120 (0,0)),row d1.eF.1 186 6 d1.its.length (rows eE d1.its)]) (X:=bE (eo 200 3) (d1.its)) (post:=λv L' X'=>∃(p:aV) (d:List dL),d.map cF=gm (d1.its.map cF)∧L'=[aW R4 (.cells [p.1,iv (words.length:Nat),(.slice none 0 0)].toArray 120 (0,0)),aB (sl eE p.1 d),aB (aF cj d)]∧X'=[]) ((Lg R4 words.length d1.eF d1.its Wi.nd (by omega) (Tx hQ B K)).mono (λv H' ⟨p,d,H,a2⟩=>⟨[_,_,_],[],a2,p,d,H,rfl,rfl⟩)) ah4 (.au rfl) rfl ?_;rintro v83 _ _ ⟨p,d,E,rfl,rfl⟩;refine St.iP ?_;refine St.wf p.1 (λ_ hl2=> ?_);refine g12 ?_;refine St.dw 3 1 ?_;refine St.aM (.slice none 0 0) (show _=([]:List Nat).length from rfl) (show _=rows aJ (bW [])from rfl) ?_
     have hl3:d.length≤300:=by have h:=congrArg List.length E;rw[aO]at h;unfold gm at h;rw[aO]at h;have h2:(lA (d1.its.map cF)).length=_:=(jg _ _).length_eq;rw[jT,aO]at h2;omega
     refine St.lH (ι:=Nat×aV×List Nat) (λ⟨k,C,j⟩ T=>(87,iv k)::T) (λ⟨k,C,j⟩=>(row C.1 3 1 (j).length (rows aJ (bW (j)))::aW R4 (.cells [p.1,iv (words.length:Nat),C.1].toArray 120 (0,0))::aB (sl eE p.1 d)::aB (aF cj d)::aB (hY f)::aB (sl cT g.rv.1 g.rules)::aB (aF bx g.rules)::aB (sl e7 g.xv.1 g.aL)::aB (aF eQ g.aL)::aB (sl bH a.1 (dg (g.types.map dG)))::aB (sl bH b.1 (de (g.types.map dG)))::aB (tz)::aB (sl bI wv words)::aB (aG g.start)::aW Q (.cells (jD g).toArray 32 (0,0))::aW F (.cells [(.slice none 0 0),iv 0,(.slice none 0 0)].toArray 120 (0,0))::aW G (.cells [iv 0,iv 0].toArray 35 (0,0))::aW R (.cells [a.1,b.1].toArray 100 (0,0))::[])) (λ⟨k,C,j⟩=>k≤d.length∧j=((List.range (k)).filter λi=>decide ((((d.map cF)).getD i gg).ed.frm=0)&&decide ((((d.map cF)).getD i gg).ed.tqo=words.length)&&(dU (gz (g.types.map dG)) (((d.map cF)).getD i gg).ed.gr 0 (ay g.start)).isSome)) (λ⟨k,C,j⟩=>d.length-k) ⟨0,bR,[]⟩ (aD.cons 2 rfl (aD.cons 4 rfl (aD.cons 5 rfl (aD.cons 8 rfl (aD.cons 12 rfl (aD.cons 85 rfl (aD.cons 86 rfl aD.nil))))))) ⟨aP _,rfl⟩ ?_;rintro ⟨k,C,j⟩ ⟨hk,o⟩
     dsimp only at hk o⊢
     have anF:j.length≤k:=by rw[o];exact dS (CD _ _) (Nat.le_of_eq jT)
     refine g6 ?_;refine St.cq (λh88=> ?_) (λh88=> ?_)
     ·obtain⟨x,hx⟩:=aE (show k<d.length by omega)
      have M:(d.map cF).getD k gg=cF x:=by rw[ar,bP,hx];rfl
      obtain⟨_,_,_,HF,AG⟩:=PU B.ok (it:=cF x) (by show _∈gm (d1.its.map cF);rw[←E];exact eP (ae hx))
      have AG:x.gr.nodes.length≤60:=by rw[←dA];exact AG
      have hsx:=gK (g:=x.gr) HF (by omega)
      have hss:=gK SR.1 (by omega)
      refine St.cK cj d (x:=x) (ae hx) ?_;refine St.eZ (aG x.gr) [cj x] (λρ h=>h (cj x) (aQ ..) (aG x.gr) (aQ ..)) ?_;refine g8 ?_;refine St.ee (Ev.El (Rr:=eE) (sz:=6) (.mk rfl) hx underlying186 trivial oY (by decide) (by decide)) ?_;refine St.slot 91 (.agg #[iv (x.frm:Nat),iv (x.tqo:Nat),iv (x.cx:Nat),x.gr.nv.1,x.wv.1,x.tv.1]) rfl rfl ?_;refine St.al (λQY=> ?_);refine g11 ?_;refine St.gt _ rfl rfl (λD=>Ev.da (.mk rfl) tY) rfl ?_;refine St.gt _ rfl rfl (λD=>Ev.WI (ai.gv rfl D) D3) rfl ?_;refine St.gt _ rfl rfl (λD=>Ev.ke (ai.gv rfl D) gV trivial (by rfl)) rfl ?_;refine St.gt _ rfl rfl (λD=>Ev.da (.mk rfl) Ry) rfl ?_;refine St.gt _ rfl rfl (λD=>Ev.ke (ai.gv rfl D) gV trivial (by rfl)) rfl ?_;refine St.gt _ rfl rfl (λD=>Ev.eql (ai.gv rfl D) (ai.gv rfl D)) rfl ?_;refine g3 ?_;refine St.cq (λNR=> ?_) (λNR=> ?_)
      ·have e1:(cF x).ed.frm=0:=(show x.frm=0 by omega)
       have e2:(cF x).ed.tqo=words.length:=(show x.tqo=words.length by omega)
       refine g3 ?_;refine St.slot 105 (kB a b) rfl rfl ?_;refine g2 ?_;refine St.ee (Ev.iT 1 (.mk rfl) mo trivial jR rfl rfl) ?_;refine St.slot 108 (bA x.gr) rfl rfl ?_;refine go ?_;refine St.ee (Ev.iT 1 (.mk rfl) mo trivial jR rfl rfl) ?_;refine St.slot 110 (bA g.start) rfl rfl ?_;refine St.ag (qm a b (g.types.map dG) S (g.cB.map gw).length (by omega) x.gr g.start HF SR.1 AG SR.2 (λt ht=>by have:=(hsx t ht).2;omega) (λt ht=>by have:=(hss t ht).2;omega) 0 (by have:=HF.pos;rw[show(cF x).ed.gr=ay x.gr from rfl,dA]at this;exact this)) RH (.gU rfl rfl rfl rfl) rfl ?_;rintro Ts _ ⟨u,rfl,rfl⟩;refine St.ao ?_;refine St.bL ((dU (gz (g.types.map dG)) (ay x.gr) 0 (ay g.start)).getD []) u (λz hz=> ?_);obtain⟨rfl,hzE⟩:=hz;refine g3 ?_;refine St.al (λVk=> ?_);refine g9 ?_;refine St.cond _ rfl (λN=> ?_) (λN=> ?_)
       ·skip
        have SK:(dU (gz (g.types.map dG)) (cF x).ed.gr 0 (ay g.start)).isSome=true:=N
        refine g4 ?_;refine St.gX rfl (.au rfl) bJ dK eS rfl rfl (by simp[Value.cells]) rfl rfl (λZ0=> ?_);refine St.aj (.mk rfl) (.mk rfl) bJ dK eS xW (by simp[Value.oneCell',Value.cells]) (by omega) (by omega) rfl rfl rfl rfl (λTt amV=> ?_);refine St.aM Tt (show _=(j++ [k]).length by rw[bQ];rfl) (show _=rows aJ (bW (j++ [k])) by rw[kf,bB];rfl) ?_;refine St.bZ Tt (λaaL _=> ?_);refine go ?_;refine St.cH (.mk rfl) (.mk rfl) fE aaL (by rfl) ?_;refine g8 ?_;refine St.aH ⟨k+1,⟨Tt,aaL⟩,j++ [k]⟩ ⟨by omega,by rw[yw,←o,M,eB e1,eB e2,SK,aC (by decide)]⟩
       ·skip
        have SK:(dU (gz (g.types.map dG)) (cF x).ed.gr 0 (ay g.start)).isSome=false:=N
        refine g8 ?_;refine St.aH ⟨k+1,C,j⟩ ⟨by omega,by rw[yw,←o,M,SK,Bool.and_false,aA (by decide)];exact(gx _).symm⟩
      ·have Qf:(decide ((cF x).ed.frm=0)&&decide ((cF x).ed.tqo=words.length))=false:=by by_cases e1:x.frm=0;rw[fL (show ¬(cF x).ed.tqo=words.length from(show ¬x.tqo=words.length by omega)),Bool.and_false];rw[fL (show ¬(cF x).ed.frm=0 from e1),Bool.false_and]
       refine g8 ?_;refine St.aH ⟨k+1,C,j⟩ ⟨by omega,by rw[yw,←o,M,Qf,Bool.false_and,aA (by decide)];exact(gx _).symm⟩
     ·obtain rfl:k=d.length:=by omega
      obtain⟨⟨O,hfv⟩,Wq⟩:∃z,z=C:=⟨C,rfl⟩
      subst Wq;refine St.bS O aJ (bW j) rfl (dY _).symm (λz hz=>by obtain⟨q,hq,rfl⟩:=cz.1 hz;rw[o]at hq;have:=dt.1 (qh.1 hq).1;show aZ (q:Int);unfold aZ;omega) ?_
      have P:(dT (cE g) words)=((d.map cF,j),(0,0)):=by rw[l];show((gm d1.cs.its,H5 (gz (g.types.map dG)) words.length (ay g.start) (gm d1.cs.its)),((0:Int),(0:Int)))=_;rw[show gm d1.cs.its=d.map cF from E.symm,o];unfold H5;rw[aO]
      refine g8 ?_;refine St.ee (Ev.build (bF.nil) (λw=>jX w)) ?_;refine St.sA (.mk rfl) (.mk rfl) Pc ?_ (h1:=(by simp only[List.all_cons,List.all_nil,Bool.and_true,Bool.and_eq_true];exact⟨p.2,rfl,hfv⟩));refine g4 ?_;refine St.rV [_,_] [aB (sl eE p.1 d),aB (aF cj d),aB (sl aJ O (bW j))] ?_;exact⟨p,⟨O,hfv⟩,words.length,d,by rw[P];rfl,by rw[P],by rw[P]⟩
theorem afT:(prog.info? 194).bind (·.zero)=some (Value.agg #[.slice none 0 0,.slice none 0 0,.bool false]):=by kernel_rfl
theorem ZG:(prog.info? 194).map (·.bytes)=some 56:=by kernel_rfl
theorem Zv:aI prog 50:=⟨_,func50,rfl,by kernel_rfl⟩
theorem ahO:aI prog 51:=⟨_,func51,rfl,by kernel_rfl⟩
theorem aeP (w:World):cw prog 127 w= .ok #[(0,1),(1,1),(2,1),(3,1)] w:=by kernel_rfl
theorem afN:(prog.info? 127).bind (λi=>i.zero.map Value.cells)=some #[.slice none 0 0,.slice none 0 0,.slice none 0 0,.slice none 0 0]:=by kernel_rfl
theorem ahG:aI prog 27:=⟨_,func27,rfl,by kernel_rfl⟩
theorem ahE:aI prog 25:=⟨_,func25,rfl,by kernel_rfl⟩
theorem ahF:aI prog 26:=⟨_,func26,rfl,by kernel_rfl⟩
instance:rI prog 44 #[.slice none 0 0]:=⟨by kernel_rfl⟩
theorem Gl {a b:Value}(c:a.oneCell'=true)(d:b.oneCell'=true)(w:World):(Instr.build 127 #[(2,a),(3,b)]).run prog w= .ok (.agg #[.slice none 0 0,.slice none 0 0,a,b]) w:=
 bM afN (aeP w) (by simp[Instr.fill,J.bK,J.cells_one c,J.cells_one d])
def uB:jH:=⟨bR,[],bR,[],false⟩
theorem j0 {α β:Type}{f:α→β}{l:List α}{k:Nat}{a:α}(h:l[k]?=some a):(l.take (k+1)).map f=(l.take k).map f++ [f a]:=Bu h
theorem D6 {g:fj}{words:List ax}(h:(dT g words).2.1=0):(jL g).1=0:=by
 by_cases h1:(jL g).1=0
 ·exact h1
 ·unfold dT at h;rw[aC h1]at h;exact absurd h h1
theorem FT {g:fj}{words:List ax}(h:(dT g words).2.1=0):(dT g words).2=(0,0):=by
 unfold dT at h⊢
 by_cases h1:(jL g).1≠0
 ·rw[aC h1]at h;exact absurd h h1
 ·rw[aA h1]at h⊢
  by_cases a:(pj g words).1≠0
  ·rw[aC a]at h;exact absurd h a
  ·rw[aA a]at h⊢
   cases b:xD g words with
   |none=>rw[b]at h;have h:(17:Int)=0:=h;omega
   |some its=>rfl
theorem Em {Q:Qr}{words:List ax}{len:Nat}:∀(m frm:Nat) (cs a:Cs),cs.its.length≤300→Al Q words len m frm cs=some a→a.its.length≤300
 |0,frm,cs,a,h,e=>by obtain rfl:=Option.some.inj e;exact h
 |m+1,frm,cs,a,h,e=>by
  rw[Eo (by omega)]at e
  split at e
  ·cases e
  ·rename_i b;exact Em m _ _ a (by omega) e
theorem E8 {Q:Qr}{words:List ax}:∀(m len:Nat) (cs a:Cs),cs.its.length≤300→yR Q words m len cs=some a→a.its.length≤300
 |0,len,cs,a,h,e=>by obtain rfl:=Option.some.inj e;exact h
 |m+1,len,cs,a,h,e=>by
  rw[E9 (by omega)]at e;obtain⟨c,h1,b⟩:=pQ.1 e;exact E8 m _ _ a (Em _ _ _ _ h h1) b
theorem PT (its:List lM):(gm its).length=its.length:=by
 unfold gm;rw[aO]
 have h:(lA its).length=_:=(jg _ _).length_eq
 rw[h,jT]
theorem JV (g:fj)(words:List ax):(dT g words).1.1.length≤300:=by
 unfold dT
 split
 ·exact aP _
 ·split
  ·exact aP _
  ·cases a:xD g words with
   |none=>exact aP _
   |some its=>
    unfold xD at a;obtain⟨cs,h1,rfl⟩:=dp.1 a
    show(gm cs.its).length≤300
    rw[PT];exact E8 _ _ _ _ (aP _) h1
theorem TI {g:fj}{words:List ax}{its:List dL}(h:its.map cF=(dT g words).1.1):its.length≤300:=by
 have a:=JV g words
 rw[←h,aO]at a;exact a
theorem Mm.JF {c:Ctx}(d a:TypeId){w:World}:∀(m:Nat) (H:List ak),Mm c H w→Mm c (bE (kK d a) (List.replicate m uB)++H) w
 |0,_,h=>h
 |m+1,H,h=>by
  obtain⟨ρ,hm⟩:=(Mm.JF d a m H h).out
  have h1:Mm c (row bR.1 a 7 0 []::(bE (kK d a) (List.replicate m uB)++H)) w:=Mm.mk (hm.Aq rfl ⟨rfl,aR _⟩ rfl (aR _) (λ_ _=>rfl) (eM.2 (World.ownsRow_nil _ _ _ _)) (λb e=>by rw[eI]at e;simp[Value.ownBlock]at e))
  obtain⟨j,f⟩:=h1.out
  have g:Mm c (row bR.1 d 5 0 []::row bR.1 a 7 0 []::(bE (kK d a) (List.replicate m uB)++H)) w:=Mm.mk (f.Aq rfl ⟨rfl,aR _⟩ rfl (aR _) (λ_ _=>rfl) (eM.2 (World.ownsRow_nil _ _ _ _)) (λb e=>by rw[eI]at e;simp[Value.ownBlock]at e))
  have i:=(g.fact (aF oM []) (λρ _ x hx=>by cases hx)).fact (aF hS []) (λρ _ x hx=>by cases hx)
  obtain⟨k,k3⟩:=i.out
  exact Mm.mk (k3.perm (jV (l₁:=[aB (aF hS []),aB (aF oM [])]) (l₂:=[row bR.1 d 5 0 [],row bR.1 a 7 0 []])|>.append_right _|>.trans (by
   show([row bR.1 d 5 0 [],row bR.1 a 7 0 [],aB (aF hS []),aB (aF oM [])]++_).Perm ([row bR.1 d 5 0 [],row bR.1 a 7 0 [],aB (aF oM []),aB (aF hS [])]++_)
   exact List.Perm.append_right _ (((List.Perm.swap _ _ _).cons _).cons _))))
theorem St.JF {n:Nat}{F:Fr}{c:Ctx}{H H':List ak}{T:Act→World→Prop}(d e:TypeId)(m:Nat)[t:jB [] (bE (kK d e) (List.replicate m uB)) H H'](h:St n F (Mm c H') T):St n F (Mm c H) T:=by
 obtain⟨L,a,b⟩:=t.eq
 refine h.o9 λw hw=> ?_
 rw[a,gx]at hw;obtain⟨ρ,k⟩:=(Mm.JF d e m L hw).out;rw[b];exact Mm.mk (k.perm jV)
theorem GU (a b:aV)(m:Int):eC prog 51 #[.agg #[a.1,iv m,b.1]] [] (.tuple #[a.1,b.1]):=by
 refine eC.qC (args:=[.agg #[a.1,iv m,b.1]]) 8 func51 rfl ntmps51 rfl (λc=> ?_);refine g2 ?_;refine St.dJ (.mk rfl) rfl (λd=> ?_);refine g5 ?_;refine St.pC [] mixed (λe f=> ?_);refine SW.gd 0 ?_;refine SW.gd 1 ?_;refine SW.gd 2 ?_;refine SW.gd 3 ?_;refine SW.gd 4 ?_;refine SW.gd 5 ?_;refine SW.dn ?_;refine g2 ?_;refine St.rV [_,_] [] ?_;rfl
theorem I8 (g:gQ)(wv:Value)(words:List ax):sm prog 25 #[fG g,wv] ([er g,sl bI wv words,tz,u8].map aB) (λv H'=>((dT (cE g) words).2.1≠0∧v= .tuple #[.pointer none,(.slice none 0 0),fv (dT (cE g) words).2]∧H'=[])∨((dT (cE g) words).2.1=0∧∃(B C:Nat) (rv xv a e:aV) (its:List dL),its.map cF=(dT (cE g) words).1.1∧v= .tuple #[.pointer (some ⟨B,0,none⟩),e.1,fv (0,0)]∧H'=aB (sl aJ e.1 (bW (dT (cE g) words).1.2))::aB (fP B [rv.1,xv.1,a.1,.slice (some ⟨C,0,none⟩) its.length its.length])::aB (sl aJ rv.1 (g.rules.map ca.weight))::aB (sl aJ xv.1 (g.aL.map eY.weight))::aB (sl eE a.1 its)::aB (aF cj its)::row (.slice (some ⟨C,0,none⟩) its.length its.length) 194 3 (List.replicate its.length uB).length (rows fO (List.replicate its.length uB))::bE (kK 71 196) (List.replicate its.length uB))):=by
 refine sm.body (args:=[fG g,wv]) 78 func25 rfl ntmps25 rfl (λc I=> ?_);refine St.cast (H':=[aB (er g),aB (sl bI wv words),aB (tz),aB (u8)]) rfl ?_;refine g2 ?_;refine St.dJ (.mk rfl) rfl (λD=> ?_);refine g2 ?_;refine St.al (λp=> ?_);refine g5 ?_;refine St.slot 17 (fG g) rfl rfl ?_;refine go ?_;refine St.lP I (FR g wv words) Zv (.aX rfl rfl) rfl ?_;rintro J _ ⟨a,e,m,its,rfl,E,rfl⟩;refine St.iP ?_;refine g2 ?_;refine St.slot 20 (.agg #[a.1,iv (m:Nat),e.1]) rfl rfl ?_;refine go ?_;refine St.slot 21 (fv (dT (cE g) words).2) rfl rfl ?_;refine St.al (λP=> ?_);refine St.al (λQ=> ?_);refine g12 ?_;refine St.cq (λF=> ?_) (λF=> ?_)
 ·have l:(dT (cE g) words).2.1≠0:=F
  refine go ?_;refine St.pC [p] mixed (λG H=> ?_);refine SW.gd 0 ?_;refine SW.gd 1 ?_;refine SW.gd 2 ?_;refine SW.t1 3 ?_;refine g3 ?_;refine SW.go ?_;refine SW.dn ?_;refine g3 ?_;refine St.rV [_,_,_] [] ?_;exact .inl ⟨l,rfl,rfl⟩
 ·have l:(dT (cE g) words).2.1=0:=by omega
  have n:=vH (D6 l)
  have R:g.rules.length≤40:=by have h:(g.rules.map lL).length≤40:=n.rn;rwa[aO]at h
  have K:g.aL.length≤100:=by have h:(g.aL.map oh).length≤100:=n.xn;rwa[aO]at h
  have S:its.length≤300:=TI E
  have L:(dT (cE g) words).2=(0,0):=FT l
  refine St.eZ (sl cT g.rv.1 g.rules) [er g] (λρ h=>h (er g) (aQ ..) _ (by simp[H8])) ?_;refine St.eZ (sl e7 g.xv.1 g.aL) [er g] (λρ h=>h (er g) (aQ ..) _ (by simp[H8])) ?_;refine g5 ?_;refine St.slot 27 (.agg #[a.1,iv (m:Nat),e.1]) rfl rfl ?_;refine St.ee (Ev.call (GU a e m) ahO (.au rfl)) ?_;refine g2 ?_;refine St.slot 29 a.1 rfl rfl ?_;refine go ?_;refine St.slot 30 e.1 rfl rfl ?_;refine g9 ?_;refine St.nO (Rr:=fO) (g:=uB) (m:=its.length) (sz:=3) rfl (.mk rfl) (.mk rfl) underlying125 Pd afT ZG rfl rfl (by omega) rfl rfl (λf=> ?_);refine St.aM (.slice (some ⟨f,0,none⟩) its.length its.length) (show _=(List.replicate its.length uB).length by rw[kF]) rfl ?_;refine St.ee (Ev.build (bF.aX rfl rfl) (λw=>Gl a.2 rfl w)) ?_;refine St.slot 35 (.agg #[(.slice none 0 0),(.slice none 0 0),a.1,(.slice (some ⟨f,0,none⟩) its.length its.length)]) rfl rfl ?_;refine St.dJ (.mk rfl) rfl (λj=> ?_);refine g13 ?_;refine St.dw 3 1 ?_;refine St.aM (.slice none 0 0) (show _=((g.rules.take 0).map ca.weight).length from rfl) (show _=rows aJ ((g.rules.take 0).map ca.weight)from rfl) ?_;refine St.lH (ι:=Nat×aV) (λ⟨k,rv⟩ T=>(40,iv k)::T) (λ⟨k,rv⟩=>[row rv.1 3 1 ((g.rules.take k).map ca.weight).length (rows aJ ((g.rules.take k).map ca.weight)),aW j (.cells [rv.1,(.slice none 0 0),a.1,(.slice (some ⟨f,0,none⟩) its.length its.length)].toArray 127 (0,0)),row (.slice (some ⟨f,0,none⟩) its.length its.length) 194 3 (List.replicate its.length uB).length (rows fO (List.replicate its.length uB)),aB (sl eE a.1 its),aB (aF cj its),aB (sl aJ e.1 (bW (dT (cE g) words).1.2)),aB (sl cT g.rv.1 g.rules),aB (sl e7 g.xv.1 g.aL),aW D (.cells (jD g).toArray 32 (0,0)),aW p (.cells [iv 0,iv 0].toArray 35 (0,0))]) (λ⟨k,rv⟩=>k≤g.rules.length) (λ⟨k,rv⟩=>g.rules.length-k) ⟨0,bR⟩ (aD.cons 2 rfl (aD.cons 4 rfl (aD.cons 5 rfl (aD.cons 6 rfl (aD.cons 10 rfl (aD.cons 11 rfl (aD.cons 38 rfl (aD.cons 39 rfl aD.nil)))))))) (aP _) ?_;rintro ⟨k,rv⟩ hk
  dsimp only at hk⊢
  have M:((g.rules.take k).map ca.weight).length=k:=by rw[aO,eX];omega
  refine g6 ?_;refine St.cq (λN=> ?_) (λN=> ?_)
  ·obtain⟨x,hx⟩:=aE (show k<g.rules.length by omega)
   refine g7 ?_;refine St.ee (Ev.jq (.mk rfl) hx uS trivial kU j5.eq) ?_;refine St.al (λU=> ?_);refine St.sA (.mk rfl) (.mk rfl) kU ?_ (h1:=(eW.2 λu hu=>cT.one x u hu));refine g2 ?_;refine St.dc [aW j (.cells [rv.1,(.slice none 0 0),a.1,(.slice (some ⟨f,0,none⟩) its.length its.length)].toArray 127 (0,0)),row rv.1 3 1 ((g.rules.take k).map ca.weight).length (rows aJ ((g.rules.take k).map ca.weight))] mixed (λG H=> ?_);refine SW.gd 0 ?_;refine SW.gd 1 ?_;refine SW.gd 2 ?_;refine SW.gd 3 ?_;refine SW.gd 5 ?_;refine SW.gd 6 ?_;refine SW.t2 4 7 ?_ ?_
   focus
    refine g3 ?_;refine SW.go ?_;refine SW.t1 7 ?_;refine St.gX rfl (.au rfl) bJ dK eS rfl rfl (by simp[Value.cells]) rfl rfl (λO=> ?_);refine g2 ?_;refine SW.go ?_;refine SW.t1 8 ?_;refine St.aj (.mk rfl) (.mk rfl) bJ dK eS xW (by simp[Value.oneCell',Value.cells]) (by omega) (by omega) rfl rfl rfl rfl (λb q=> ?_);refine St.aM b (show _=((g.rules.take (k+1)).map ca.weight).length by rw[j0 hx,bQ];rfl) (show _=rows aJ ((g.rules.take (k+1)).map ca.weight) by rw[j0 hx,bB];rfl) ?_;refine St.bZ b (λo _=> ?_);refine g2 ?_;refine SW.go ?_;refine SW.gd 9 ?_;refine SW.gd 10 ?_;refine SW.t1 11 ?_;refine St.cH (.mk rfl) (.mk rfl) fE o (by rfl) ?_;refine g2 ?_;refine SW.go ?_;refine SW.dn ?_
   rotate_left
   focus
    refine St.gX rfl (.au rfl) bJ dK eS rfl rfl (by simp[Value.cells]) rfl rfl (λO=> ?_);refine g2 ?_;refine SW.go ?_;refine SW.t1 4 ?_;refine g3 ?_;refine SW.go ?_;refine SW.t1 8 ?_;refine St.aj (.mk rfl) (.mk rfl) bJ dK eS xW (by simp[Value.oneCell',Value.cells]) (by omega) (by omega) rfl rfl rfl rfl (λb q=> ?_);refine St.aM b (show _=((g.rules.take (k+1)).map ca.weight).length by rw[j0 hx,bQ];rfl) (show _=rows aJ ((g.rules.take (k+1)).map ca.weight) by rw[j0 hx,bB];rfl) ?_;refine St.bZ b (λo _=> ?_);refine g2 ?_;refine SW.go ?_;refine SW.gd 9 ?_;refine SW.gd 10 ?_;refine SW.t1 11 ?_;refine St.cH (.mk rfl) (.mk rfl) fE o (by rfl) ?_;refine g2 ?_;refine SW.go ?_;refine SW.dn ?_
   all_goals
    refine g7 ?_;refine St.aH ⟨k+1,⟨b,o⟩⟩ (by dsimp only;omega)
  ·obtain rfl:k=g.rules.length:=by omega
   rw[kH];refine St.bS rv.1 aJ (g.rules.map ca.weight) rfl rfl (λz hz=>by obtain⟨r,s,rfl⟩:=cz.1 hz;have h:=(n.rule (lL r) (eP s)).wt;have h:0≤r.weight∧r.weight≤1000000:=h;show aZ _;unfold aZ;omega) ?_;refine g15 ?_;refine St.dw 3 1 ?_;refine St.aM (.slice none 0 0) (show _=((g.aL.take 0).map eY.weight).length from rfl) (show _=rows aJ ((g.aL.take 0).map eY.weight)from rfl) ?_;refine St.lH (ι:=Nat×aV) (λ⟨k,xv⟩ T=>(59,iv k)::T) (λ⟨k,xv⟩=>[row xv.1 3 1 ((g.aL.take k).map eY.weight).length (rows aJ ((g.aL.take k).map eY.weight)),aB (sl aJ rv.1 (g.rules.map ca.weight)),aW j (.cells [rv.1,xv.1,a.1,(.slice (some ⟨f,0,none⟩) its.length its.length)].toArray 127 (0,0)),row (.slice (some ⟨f,0,none⟩) its.length its.length) 194 3 (List.replicate its.length uB).length (rows fO (List.replicate its.length uB)),aB (sl eE a.1 its),aB (aF cj its),aB (sl aJ e.1 (bW (dT (cE g) words).1.2)),aB (sl cT g.rv.1 g.rules),aB (sl e7 g.xv.1 g.aL),aW D (.cells (jD g).toArray 32 (0,0)),aW p (.cells [iv 0,iv 0].toArray 35 (0,0))]) (λ⟨k,xv⟩=>k≤g.aL.length) (λ⟨k,xv⟩=>g.aL.length-k) ⟨0,bR⟩ (aD.cons 4 rfl (aD.cons 5 rfl (aD.cons 6 rfl (aD.cons 10 rfl (aD.cons 11 rfl (aD.cons 57 rfl (aD.cons 58 rfl aD.nil))))))) (aP _) ?_;rintro ⟨k,xv⟩ hk
   dsimp only at hk⊢
   have M:((g.aL.take k).map eY.weight).length=k:=by rw[aO,eX];omega
   refine g6 ?_;refine St.cq (λt=> ?_) (λt=> ?_)
   ·obtain⟨x,hx⟩:=aE (show k<g.aL.length by omega)
    refine g7 ?_;refine St.ee (Ev.jq (.mk rfl) hx A2 trivial nW j5.eq) ?_;refine St.al (λV=> ?_);refine St.sA (.mk rfl) (.mk rfl) nW ?_ (h1:=(eW.2 λu hu=>e7.one x u hu));refine g2 ?_;refine St.dc [aW j (.cells [rv.1,xv.1,a.1,(.slice (some ⟨f,0,none⟩) its.length its.length)].toArray 127 (0,0)),row xv.1 3 1 ((g.aL.take k).map eY.weight).length (rows aJ ((g.aL.take k).map eY.weight))] mixed (λG H=> ?_);refine SW.gd 0 ?_;refine SW.gd 1 ?_;refine SW.gd 2 ?_;refine SW.gd 3 ?_;refine SW.gd 5 ?_;refine SW.gd 6 ?_;refine SW.t2 4 7 ?_ ?_
    focus
     refine g3 ?_;refine SW.go ?_;refine SW.t1 7 ?_;refine St.gX rfl (.au rfl) bJ dK eS rfl rfl (by simp[Value.cells]) rfl rfl (λy=> ?_);refine g2 ?_;refine SW.go ?_;refine SW.t1 8 ?_;refine St.aj (.mk rfl) (.mk rfl) bJ dK eS xW (by simp[Value.oneCell',Value.cells]) (by omega) (by omega) rfl rfl rfl rfl (λd A=> ?_);refine St.aM d (show _=((g.aL.take (k+1)).map eY.weight).length by rw[j0 hx,bQ];rfl) (show _=rows aJ ((g.aL.take (k+1)).map eY.weight) by rw[j0 hx,bB];rfl) ?_;refine St.bZ d (λi _=> ?_);refine g2 ?_;refine SW.go ?_;refine SW.gd 9 ?_;refine SW.gd 10 ?_;refine SW.t1 11 ?_;refine St.cH (.mk rfl) (.mk rfl) fE i (by rfl) ?_;refine g2 ?_;refine SW.go ?_;refine SW.dn ?_
    rotate_left
    focus
     refine St.gX rfl (.au rfl) bJ dK eS rfl rfl (by simp[Value.cells]) rfl rfl (λy=> ?_);refine g2 ?_;refine SW.go ?_;refine SW.t1 4 ?_;refine g3 ?_;refine SW.go ?_;refine SW.t1 8 ?_;refine St.aj (.mk rfl) (.mk rfl) bJ dK eS xW (by simp[Value.oneCell',Value.cells]) (by omega) (by omega) rfl rfl rfl rfl (λd A=> ?_);refine St.aM d (show _=((g.aL.take (k+1)).map eY.weight).length by rw[j0 hx,bQ];rfl) (show _=rows aJ ((g.aL.take (k+1)).map eY.weight) by rw[j0 hx,bB];rfl) ?_;refine St.bZ d (λi _=> ?_);refine g2 ?_;refine SW.go ?_;refine SW.gd 9 ?_;refine SW.gd 10 ?_;refine SW.t1 11 ?_;refine St.cH (.mk rfl) (.mk rfl) fE i (by rfl) ?_;refine g2 ?_;refine SW.go ?_;refine SW.dn ?_
    all_goals
     refine g7 ?_;refine St.aH ⟨k+1,⟨d,i⟩⟩ (by dsimp only;omega)
   ·obtain rfl:k=g.aL.length:=by omega
    rw[kH];refine St.bS xv.1 aJ (g.aL.map eY.weight) rfl rfl (λz hz=>by obtain⟨r,s,rfl⟩:=cz.1 hz;have h:=(n.lex (oh r) (eP s)).wt;have h:0≤r.weight∧r.weight≤1000000:=h;show aZ _;unfold aZ;omega) ?_;refine St.vZ j ?_;refine St.JF 71 196 its.length ?_;refine g9 ?_;refine St.ee (Ev.build (bF.nil) (λw=>jX w)) ?_;refine g6 ?_;refine St.rV [_,_,_] (aB (sl aJ e.1 (bW (dT (cE g) words).1.2))::aB (fP j [rv.1,xv.1,a.1,(.slice (some ⟨f,0,none⟩) its.length its.length)])::aB (sl aJ rv.1 (g.rules.map ca.weight))::aB (sl aJ xv.1 (g.aL.map eY.weight))::aB (sl eE a.1 its)::aB (aF cj its)::row (.slice (some ⟨f,0,none⟩) its.length its.length) 194 3 (List.replicate its.length uB).length (rows fO (List.replicate its.length uB))::(bE (kK 71 196) (List.replicate its.length uB))) ?_;exact .inr ⟨l,j,f,rv,xv,a,e,its,E,rfl,rfl⟩
theorem PN {α:Type}(l:List α)(a b:α):(l++ [a]).set l.length b=l++ [b]:=by
 rw[lK _ _ (aR _),ff];rfl
theorem TP {B:ct}{e:Nat}{k:xT}(h:E3 B e (mg k)):dC.wf k.tree∧AX (cy k.tree):=by
 have a:Qu (cy k.tree):=h.rt
 rw[lD]at a
 have a: -1≤k.tree.rule∧k.tree.rule≤1000∧0≤k.tree.lex∧k.tree.lex≤1000:=a
 exact⟨⟨by show aZ _;unfold aZ;omega,by show aZ _;unfold aZ;omega⟩,h.thin⟩
theorem IW (a d n:Nat)(k:xT)(b:aV)(outs:List dE)(hw:dC.wf k.tree)(e:AX (cy k.tree))(m:outs.length≤1000)(o:n≤1000):dz prog 27 ([kT k]++ [Value.pointer (some ⟨a,0,none⟩),Value.pointer (some ⟨d,0,none⟩)]).toArray ([oM k,pf d (iv (n:Nat))].map aB++ [aW a (.cells [b.1].toArray 44 (0,0)),row b.1 69 3 (outs).length (rows dC (outs)),aB (aF br outs)]) (λv H'=>∃(f:aV) (t:dE),v= .bool (decide (outs.length+1<n))∧cy t=cy k.tree∧H'=[aW a (.cells [f.1].toArray 44 (0,0)),row f.1 69 3 (outs++ [t]).length (rows dC (outs++ [t])),aB (aF br (outs++ [t]))]):=by
 refine dz.body (args:=[kT k]++ [Value.pointer (some ⟨a,0,none⟩),Value.pointer (some ⟨d,0,none⟩)]) 17 func27 rfl ntmps27 rfl (λc=> ?_);refine go ?_;refine St.cast (H':=[aB (oM k),aB (pf d (iv (n:Nat))),aW a (.cells [b.1].toArray 44 (0,0)),row b.1 69 3 (outs).length (rows dC (outs)),aB (aF br outs)]) rfl ?_;refine St.eZ (br k.tree) [oM k] (λρ h=>h (oM k) (aQ ..) _ (cO _ (aQ ..))) ?_;refine go ?_;refine St.dJ (.mk rfl) rfl (λp=> ?_);refine g4 ?_;refine St.dc [aW a (.cells [b.1].toArray 44 (0,0)),row b.1 69 3 (outs).length (rows dC (outs))] mixed (λq r=> ?_)
 repeat' first
  |with_reducible refine SW.me ?_
   first
    |refine SW.gd 1 ?_
    |refine SW.dd 2 rfl (λ_=>Ev.iT 3 (.mk rfl) IM trivial pw rfl rfl) ?_
     refine SW.slot 7 (uQ k.tree) rfl rfl ?_
    |refine SW.Pt (i:=0) (j:=3) (k:=5) (by decide+kernel) rfl rfl rfl ?_ ?_ ?_
    |refine SW.Pt (i:=3) (j:=4) (k:=5) (by decide+kernel) rfl rfl rfl ?_ ?_ ?_
    |refine SW.t2 4 5 ?_ ?_
    |refine SW.t1 5 ?_
    |refine SW.t1 6 ?_
    |refine SW.t2 7 9 ?_ ?_
    |refine SW.t2 8 9 ?_ ?_
    |refine SW.t1 9 ?_
    |refine SW.t1 8 ?_
    |refine SW.t1 7 ?_
    |refine SW.t1 4 ?_
    |refine SW.t2 3 5 ?_ ?_
    |refine SW.t1 3 ?_
    |refine SW.t2 3 4 ?_ ?_
    |refine SW.t2 0 5 ?_ ?_
    |refine SW.t1 0 ?_
    |refine SW.t2 0 3 ?_ ?_
  |with_reducible refine SW.tg 0 ?_
   refine g3 ?_;refine SW.go ?_
  |with_reducible refine SW.tg 3 ?_
   refine St.ag (Gt k.tree hw e) Zt (.au rfl) rfl ?_;rintro s _ ⟨t,rfl,ht,rfl⟩;refine St.ao ?_;refine g2 ?_;refine SW.go ?_
  |with_reducible refine SW.tg 4 ?_
   refine g3 ?_;refine SW.go ?_
  |with_reducible refine SW.tg 5 ?_
   refine St.gX rfl (.au rfl) A4 pw Ly rfl rfl (by simp[Value.cells]) rfl rfl (λw=> ?_);refine g2 ?_;refine SW.go ?_
  |with_reducible refine SW.tg 6 ?_
   refine St.aj (.mk rfl) (.mk rfl) A4 pw Ly Vt (by intro u hu;exact dC.one (.mk 0 0 bR []:dE) u hu) (by omega) (by omega) rfl rfl rfl rfl (λv11 l=> ?_);refine St.aM v11 (show _=(outs++ [(.mk 0 0 bR []:dE)]).length by rw[bQ];rfl) (show _=rows dC (outs++ [(.mk 0 0 bR []:dE)]) by rw[bB];rfl) ?_;refine St.bZ v11 (λg _=> ?_);refine g2 ?_;refine SW.go ?_
  |with_reducible refine SW.tg 7 ?_
   refine St.ee (Ev.dZ (k:=outs.length) (.mk rfl) (.mk rfl) A4 pw (by omega) (by rw[bQ];exact pP _)) ?_;refine g2 ?_;refine SW.go ?_
  |with_reducible refine SW.tg 8 ?_
   refine St.uO (Rr:=dC) (show dC.size=3 from rfl) t (.mk rfl) (.mk rfl) pw (by rw[bQ];exact pP _) (by rw[bQ];exact pP _) ?_;refine St.aM v11 (show _=(outs++ [t]).length by rw[bQ,bQ];rfl) (show _=rows dC (outs++ [t]) by rw[PN]) ?_;refine g2 ?_;refine SW.go ?_
  |with_reducible refine SW.tg 9 ?_
   refine St.cH (.mk rfl) (.mk rfl) Xt g (by rfl) ?_;refine g2 ?_;refine SW.go ?_
 all_goals refine SW.dn ?_
 all_goals
  refine g2 ?_;refine St.eZ (aF br (outs++ [t])) [aF br outs,br t] (λρ h u hu=>by rcases cD.1 hu with hu|hu;exact h (aF br outs) (aQ ..) u hu;rw[bO]at hu;subst hu;exact h (br u) (cO _ (aQ ..))) ?_;refine g9 ?_;refine St.rV [_] [aW a (.cells [v11].toArray 44 (0,0)),row v11 69 3 (outs++ [t]).length (rows dC (outs++ [t])),aB (aF br (outs++ [t]))] ?_;exact⟨⟨v11,g⟩,t,congrArg Value.bool (by rw[bQ];show decide (((outs.length+1:Nat):Int)<n)=_;exact decide_eq_decide.2 (by omega)),ht,rfl⟩
theorem r6 (get:eD→Nat→Nat→eD×Option jo)(ranks:List Nat)(e:Nat)(l:List Nat)(i:Nat)(st:eD)(b:Option (Nat×jo)):pF get ranks (e::l) i st b=match get st e (ranks.getD i 0)with
 |(st,none)=>pF get ranks l (i+1) st b
 |(st,some x)=>pF get ranks l (i+1) st (match b with
  |none=>some (i,x)
  |some y=>if QZ x y.2<0 then some (i,x)else some y):=rfl
def Kb (bi:Int)(a:xT):Option (Nat×jo):=if bi<0 then none else some (bi.toNat,mg a)
theorem BJ {bi:Int}(a:xT)(h:bi<0):Kb bi a=none:=aC h
theorem uu {bi:Int}(a:xT)(h:¬bi<0):Kb bi a=some (bi.toNat,mg a):=aA h
theorem Ik (i:Nat)(a:xT):Kb (i:Int) a=some (i,mg a):=by unfold Kb;rw[aA (by omega)];rfl
theorem Xe {get:eD→Nat→Nat→eD×Option jo}{ranks full:List Nat}{i q rr:Nat}{st st2:eD}{b:Option (Nat×jo)}(a:full[i]?=some q)(c:ranks[i]?=some rr)(h:get st q rr=(st2,none)):pF get ranks (full.drop i) i st b=pF get ranks (full.drop (i+1)) (i+1) st2 b:=by
 rw[bN a,r6,show ranks.getD i 0=rr by rw[ar,c];rfl,h]
theorem LR {get:eD→Nat→Nat→eD×Option jo}{ranks full:List Nat}{i q rr:Nat}{st st2:eD}{x:jo}(a:full[i]?=some q)(b:ranks[i]?=some rr)(h:get st q rr=(st2,some x)):pF get ranks (full.drop i) i st none=pF get ranks (full.drop (i+1)) (i+1) st2 (some (i,x)):=by
 rw[bN a,r6,show ranks.getD i 0=rr by rw[ar,b];rfl,h]
theorem Oy {get:eD→Nat→Nat→eD×Option jo}{ranks full:List Nat}{i q rr:Nat}{st st2:eD}{x:jo}{y:Nat×jo}(a:full[i]?=some q)(b:ranks[i]?=some rr)(h:get st q rr=(st2,some x))(c:QZ x y.2<0):pF get ranks (full.drop i) i st (some y)=pF get ranks (full.drop (i+1)) (i+1) st2 (some (i,x)):=by
 rw[bN a,r6,show ranks.getD i 0=rr by rw[ar,b];rfl,h]
 dsimp only
 rw[aC c]
theorem Oz {get:eD→Nat→Nat→eD×Option jo}{ranks full:List Nat}{i q rr:Nat}{st st2:eD}{x:jo}{y:Nat×jo}(a:full[i]?=some q)(b:ranks[i]?=some rr)(h:get st q rr=(st2,some x))(c:¬QZ x y.2<0):pF get ranks (full.drop i) i st (some y)=pF get ranks (full.drop (i+1)) (i+1) st2 (some y):=by
 rw[bN a,r6,show ranks.getD i 0=rr by rw[ar,b];rfl,h]
 dsimp only
 rw[aA c]
theorem EU {get:eD→Nat→Nat→eD×Option jo}{full ranks:List Nat}{m:Nat}{st st2:eD}{out:List jW}{i:Nat}{x:jo}{a:Nat}(hm:0<m)(h:pF get ranks full 0 st none=(st2,some (i,x)))(b:ranks[i]?=some a):tQ get full m st ranks out=tQ get full (m-1) st2 (ranks.set i (a+1)) (out++ [x.tree]):=by
 obtain⟨k,rfl⟩:∃k,m=k+1:=⟨m-1,by omega⟩
 rw[tQ,h]
 dsimp only
 rw[show ranks.getD i 0=a by rw[ar,b];rfl];rfl
theorem Rh {get:eD→Nat→Nat→eD×Option jo}{full ranks:List Nat}{m:Nat}{st st2:eD}{out:List jW}(hm:0<m)(h:pF get ranks full 0 st none=(st2,none)):tQ get full m st ranks out=out:=by
 obtain⟨k,rfl⟩:∃k,m=k+1:=⟨m-1,by omega⟩
 rw[tQ,h]
theorem Kh (D l m0 p:Nat)(rv xv eF:aV)(R X:List Int)(its:List dL)(hB:oA (⟨its.map cF,R,X⟩:ct))(full:List Nat)(J:aV)(NY:∀e∈full,e<its.length)(SE:full.length≤1000)(s y n:Nat)(hn0:0<n)(hn:n≤200)(L:List jH)(JC:jl (⟨its.map cF,R,X⟩:ct) (L.map fi)):
 dz prog 26 #[.pointer (some ⟨D,0,none⟩),J.1,Value.func (.func 27) #[] #[Value.pointer (some ⟨s,0,none⟩),Value.pointer (some ⟨y,0,none⟩)]] ([fP D [rv.1,xv.1,eF.1,(.slice (some ⟨l,0,none⟩) m0 p)],sl aJ rv.1 R,sl aJ xv.1 X,sl eE eF.1 its,aF cj its,sl aJ J.1 (bW full),pf y (iv (n:Nat))].map aB++(aW s (.cells [(.slice none 0 0)].toArray 44 (0,0))::row (.slice none 0 0) 69 3 (([]:List dE)).length (rows dC (([]:List dE)))::aB (aF br [])::row (.slice (some ⟨l,0,none⟩) m0 p) 194 3 (L).length (rows fO (L))::bE (kK 71 196) L)) (λv H'=>∃(E:aV) (Q:List dE),v= .tuple #[]∧Q.map cy=tQ (fh (⟨its.map cF,R,X⟩:ct) 60) full n (L.map fi) (List.replicate full.length 0) []∧(∀t∈Q,dC.wf t)∧H'=[aW s (.cells [E.1].toArray 44 (0,0)),row E.1 69 3 (Q).length (rows dC (Q)),aB (aF br Q)]):=by
 refine dz.body (args:=[.pointer (some ⟨D,0,none⟩),J.1,Value.func (.func 27) #[] #[Value.pointer (some ⟨s,0,none⟩),Value.pointer (some ⟨y,0,none⟩)]]) 61 func26 rfl ntmps26 rfl (λc=> ?_);refine go ?_;refine St.cast (H':=(aB (fP D [rv.1,xv.1,eF.1,(.slice (some ⟨l,0,none⟩) m0 p)])::aB (sl aJ rv.1 R)::aB (sl aJ xv.1 X)::aB (sl eE eF.1 its)::aB (aF cj its)::aB (sl aJ J.1 (bW full))::aB (pf y (iv (n:Nat)))::aW s (.cells [(.slice none 0 0)].toArray 44 (0,0))::row (.slice none 0 0) 69 3 (([]:List dE)).length (rows dC (([]:List dE)))::aB (aF br [])::row (.slice (some ⟨l,0,none⟩) m0 p) 194 3 (L).length (rows fO (L))::bE (kK 71 196) L)) rfl ?_
 have Ku:(bW full).length=full.length:=dY _
 have Ul:=D5 hB 60
 refine g3 ?_;refine St.nO (Rr:=aJ) (g:=0) (m:=full.length) (sz:=1) rfl (.mk rfl) (.mk rfl) bJ dK eS xW (congrArg _ Ku) (congrArg _ Ku) (by omega) rfl rfl (λVk=> ?_);refine St.aM (.slice (some ⟨Vk,0,none⟩) full.length full.length) (show _=(List.replicate full.length 0).length by rw[kF]) (show _=rows aJ (bW (List.replicate full.length 0)) by unfold bW;rw[sB];rfl) ?_;refine g4 ?_;refine St.lH (ι:=Nat×List jH×List Nat×aV×List dE) (λ⟨m,w,ranks,f,outs⟩ T=>T) (λ⟨m,w,ranks,f,outs⟩=>(row (.slice (some ⟨l,0,none⟩) m0 p) 194 3 (w).length (rows fO (w))::aB (fP D [rv.1,xv.1,eF.1,(.slice (some ⟨l,0,none⟩) m0 p)])::aB (sl aJ rv.1 R)::aB (sl aJ xv.1 X)::aB (sl eE eF.1 its)::aB (aF cj its)::aB (sl aJ J.1 (bW full))::aB (pf y (iv (n:Nat)))::row (.slice (some ⟨Vk,0,none⟩) full.length full.length) 3 1 ranks.length (rows aJ (bW ranks))::aW s (.cells [f.1].toArray 44 (0,0))::row f.1 69 3 (outs).length (rows dC (outs))::aB (aF br outs)::(bE (kK 71 196) w))) (λ⟨m,w,ranks,f,outs⟩=>0<m∧outs.length+m=n∧ranks.length=full.length∧(∀r∈ranks,r≤outs.length)∧jl (⟨its.map cF,R,X⟩:ct) (w.map fi)∧tQ (fh (⟨its.map cF,R,X⟩:ct) 60) full m (w.map fi) ranks (outs.map cy)=tQ (fh (⟨its.map cF,R,X⟩:ct) 60) full n (L.map fi) (List.replicate full.length 0) []∧(∀t∈outs,dC.wf t)) (λ⟨m,w,ranks,f,outs⟩=>m) ⟨n,L,List.replicate full.length 0,bR,[]⟩ (aD.cons 0 rfl (aD.cons 1 rfl (aD.cons 2 rfl (aD.cons 6 rfl aD.nil)))) ⟨hn0,hP _,kF,λr K=>by rw[wm K];exact aP _,JC,rfl,λt ht=>by cases ht⟩ ?_;rintro ⟨m,w,ranks,f,outs⟩ ⟨Ng,hom,Wl,S,U,z,A⟩
 dsimp only at Ng hom Wl S U z A⊢
 have hnr:(bW ranks).length=ranks.length:=dY _
 refine g8 ?_;refine St.al (λb8=> ?_);refine g11 ?_;refine St.fm aJ ?_;refine St.fact (br (.mk 0 0 bR [])) (λρ _ _=>qZ _ _ _) ?_;refine St.eZ (oM K7) [sl aJ (.slice none 0 0) [],br (.mk 0 0 bR [])] (λρ h=>h) ?_;refine St.mP b8 (L':=[iv K7.wt,K7.cv.1,iv K7.tree.rule,iv K7.tree.lex,K7.tree.kv.1]) rfl ?_;refine St.lH (ι:=Nat×List jH×Int×xT) (λ⟨i,b,bi,a⟩ T=>(18,iv i)::(7,iv bi)::T) (λ⟨i,b,bi,a⟩=>(row (.slice (some ⟨l,0,none⟩) m0 p) 194 3 (b).length (rows fO (b))::aB (fP D [rv.1,xv.1,eF.1,(.slice (some ⟨l,0,none⟩) m0 p)])::aB (sl aJ rv.1 R)::aB (sl aJ xv.1 X)::aB (sl eE eF.1 its)::aB (aF cj its)::aB (sl aJ J.1 (bW full))::aB (pf y (iv (n:Nat)))::row (.slice (some ⟨Vk,0,none⟩) full.length full.length) 3 1 ranks.length (rows aJ (bW ranks))::aW s (.cells [f.1].toArray 44 (0,0))::row f.1 69 3 (outs).length (rows dC (outs))::aB (aF br outs)::aW b8 (.cells [iv a.wt,a.cv.1,iv a.tree.rule,iv a.tree.lex,a.tree.kv.1].toArray 71 (0,0))::aB (oM a)::(bE (kK 71 196) b))) (λ⟨i,b,bi,a⟩=>i≤full.length∧jl (⟨its.map cF,R,X⟩:ct) (b.map fi)∧(-1≤bi∧bi<full.length)∧(¬bi<0→∃e,E3 (⟨its.map cF,R,X⟩:ct) e (mg a))∧pF (fh (⟨its.map cF,R,X⟩:ct) 60) ranks (full.drop i) i (b.map fi) (Kb bi a)=pF (fh (⟨its.map cF,R,X⟩:ct) 60) ranks full 0 (w.map fi) none) (λ⟨i,b,bi,a⟩=>full.length-i) ⟨0,w,(-1:Int),K7⟩ (aD.cons 0 rfl (aD.cons 1 rfl (aD.cons 2 rfl (aD.cons 6 rfl (aD.cons 8 rfl (aD.cons 16 rfl (aD.cons 17 rfl aD.nil))))))) ⟨aP _,U,⟨by omega,by omega⟩,λh=>absurd (show(-1:Int)<0 by decide) h,rfl⟩ ?_;rintro ⟨i,b,bi,a⟩ ⟨hi,V,Qc,B,x⟩
 dsimp only at hi V Qc B x⊢
 have hl2:=sZ V
 refine g6 ?_;refine St.cq (λh19=> ?_) (λh19=> ?_)
 ·obtain⟨q,M⟩:=aE (show i<full.length by omega)
  obtain⟨rr,N⟩:=aE (show i<ranks.length by omega)
  have M0:=NY q (ae M)
  have J9:q<(⟨its.map cF,R,X⟩:ct).its.length:=by show q<(its.map cF).length;rw[aO];exact M0
  have Wn:=S rr (ae N)
  have W:=hB.ht q J9
  have HE:=Ul.ok q rr (b.map fi) J9 W (by omega) V
  refine g8 ?_;refine St.ee (Ev.ld1 (.mk rfl) (gO M) gV trivial rfl) ?_;refine g11 ?_;refine St.ee (Ev.cu (.mk rfl) gV trivial (by omega) (oO (gO N))) ?_;refine St.pS (ds:=[fP D [rv.1,xv.1,eF.1,(.slice (some ⟨l,0,none⟩) m0 p)],sl aJ rv.1 R,sl aJ xv.1 X,sl eE eF.1 its,aF cj its]) (L:=[row (.slice (some ⟨l,0,none⟩) m0 p) 194 3 (b).length (rows fO (b))]) (X:=bE (kK 71 196) b) (post:=λv L' X'=>∃(j:List jH) (d:xT) (o:Bool),fh (⟨its.map cF,R,X⟩:ct) 60 (b.map fi) q rr=(j.map fi,if o then some (mg d)else none)∧v= .tuple #[kT d,.bool o]∧L'=[row (.slice (some ⟨l,0,none⟩) m0 p) 194 3 (j).length (rows fO (j)),aB (oM d)]∧X'=bE (kK 71 196) j) ((NK D l m0 p rv xv eF R X its hB 60 q rr b M0 W (by omega) V).mono (λv H' ⟨j,d,o,a1,a2,a3⟩=>⟨[_,_],_,a3,j,d,o,a1,a2,rfl,rfl⟩)) Zw (.ej rfl rfl rfl) rfl ?_;rintro v30 _ _ ⟨j,d,o,Y,rfl,rfl,rfl⟩;refine St.dQ ?_;rw[Y]at HE;obtain⟨O,_,Af⟩:=HE
  have O:jl (⟨its.map cF,R,X⟩:ct) (j.map fi):=O
  refine g3 ?_;refine St.al (λYJ=> ?_);refine g8 ?_;refine St.split 34 _ rfl (λF=> ?_) (λF=> ?_)
  ·obtain rfl:o=true:=F
   have Af:=Af (mg d) rfl
   refine St.cG rfl rfl ?_;refine go ?_;refine St.cG rfl rfl ?_;refine go ?_;refine St.cG rfl rfl ?_;refine go ?_;refine St.split 37 _ rfl (λG=> ?_) (λG=> ?_)
   ·have C:bi<0:=fM G
    rw[BJ a C,LR M N Y]at x;refine St.bq rfl rfl rfl ?_;refine St.bq rfl rfl rfl ?_;refine St.bq rfl rfl rfl ?_;refine St.bq rfl rfl rfl ?_;refine St.cG rfl rfl ?_;refine St.ee (Ev.gZ (.mk rfl) rfl (.mk rfl)) ?_;refine St.ee (Ev.gZ (.mk rfl) rfl (.mk rfl)) ?_;refine g2 ?_;refine St.Iu _ rfl rfl ?_;refine St.dc (aW b8 (.cells [iv a.wt,a.cv.1,iv a.tree.rule,iv a.tree.lex,a.tree.kv.1].toArray 71 (0,0))::(bE (kK 71 196) j)) mixed (λnp ns=> ?_);refine SW.gd 0 ?_;refine SW.gd 1 ?_;refine SW.gd 2 ?_;refine SW.t1 3 ?_;refine g3 ?_;refine SW.go ?_;refine SW.dn ?_;refine g7 ?_;refine St.aH ⟨i+1,j,(i:Int),d⟩ ⟨by omega,O,⟨(by dsimp only;omega),(by dsimp only;omega)⟩,λ_=>⟨q,Af⟩,by dsimp only;rw[Ik];exact x⟩
   ·have C:¬bi<0:=iV G
    rw[uu a C]at x;refine St.eZ (sl aJ d.cv.1 d.code) [oM d] (λρ h=>h (oM d) (aQ ..) _ (aQ ..)) ?_;refine St.eZ (sl aJ a.cv.1 a.code) [oM a] (λρ h=>h (oM a) (aQ ..) _ (aQ ..)) ?_;refine St.cG rfl rfl ?_;refine go ?_;refine St.slot 38 (kT d) rfl rfl ?_;refine St.cG rfl rfl ?_;refine go ?_;refine St.slot 39 (kT a) rfl rfl ?_;refine St.cG rfl rfl ?_;refine St.ee (Ev.call (yB d a) Zx (.aX rfl rfl)) ?_;refine St.cG rfl rfl ?_;refine go ?_;refine St.cG rfl rfl ?_;refine St.ee (Ev.kQ (.mk rfl) rfl (.mk rfl)) ?_;refine St.ee (Ev.gZ (.mk rfl) rfl (.mk rfl)) ?_;refine g2 ?_;refine St.cond _ rfl (λH=> ?_) (λH=> ?_)
    ·skip
     have NW:QZ (mg d) (mg a)<0:=fM H
     rw[Oy M N Y NW]at x;refine St.dc (aW b8 (.cells [iv a.wt,a.cv.1,iv a.tree.rule,iv a.tree.lex,a.tree.kv.1].toArray 71 (0,0))::(bE (kK 71 196) j)) mixed (λnp ns=> ?_);refine SW.gd 0 ?_;refine SW.gd 1 ?_;refine SW.gd 2 ?_;refine SW.t1 3 ?_;refine g3 ?_;refine SW.go ?_;refine SW.dn ?_;refine g7 ?_;refine St.aH ⟨i+1,j,(i:Int),d⟩ ⟨by omega,O,⟨(by dsimp only;omega),(by dsimp only;omega)⟩,λ_=>⟨q,Af⟩,by dsimp only;rw[Ik];exact x⟩
    ·skip
     have NW:¬QZ (mg d) (mg a)<0:=iV H
     rw[Oz M N Y NW,←uu a C]at x;refine g8 ?_;refine St.aH ⟨i+1,j,bi,a⟩ ⟨by omega,O,Qc,B,x⟩
  ·obtain rfl:o=false:=F
   rw[Xe M N Y]at x;refine St.bq rfl rfl rfl ?_;refine St.bq rfl rfl rfl ?_;refine St.bq rfl rfl rfl ?_;refine St.Je rfl rfl rfl ?_;refine St.Je rfl rfl rfl ?_;refine St.Je rfl rfl rfl ?_;refine St.Je rfl rfl rfl ?_;refine St.bq rfl rfl rfl ?_;refine St.ee (Ev.kQ (.mk rfl) rfl (.mk rfl)) ?_;refine g2 ?_;refine St.ri _ rfl rfl ?_;refine g8 ?_;refine St.aH ⟨i+1,j,bi,a⟩ ⟨by omega,O,Qc,B,x⟩
 ·obtain rfl:i=full.length:=by omega
  rw[List.drop_length]at x
  have JB:pF (fh (⟨its.map cF,R,X⟩:ct) 60) ranks full 0 (w.map fi) none=(b.map fi,Kb bi a):=x.symm
  refine g11 ?_;refine St.split 49 _ rfl (λI=> ?_) (λI=> ?_)
  ·have C:bi<0:=fM I
   rw[BJ a C]at JB;refine St.bq rfl rfl rfl ?_;refine St.bq rfl rfl rfl ?_;refine St.bq rfl rfl rfl ?_;refine St.bq rfl rfl rfl ?_;refine St.ee (Ev.gZ (.mk rfl) rfl (.mk rfl)) ?_;refine g2 ?_;refine St.Iu _ rfl rfl ?_;refine g5 ?_;refine St.rV [] [aW s (.cells [f.1].toArray 44 (0,0)),row f.1 69 3 (outs).length (rows dC (outs)),aB (aF br (outs))] ?_;exact⟨f,outs,rfl,(by rw[←z,Rh Ng JB]),A,rfl⟩
  ·have C:¬bi<0:=iV I
   rw[uu a C]at JB;obtain⟨eb,hbe⟩:=B C;obtain⟨hw,hth⟩:=TP hbe;obtain⟨P,Z⟩:=aE (show bi.toNat<ranks.length by omega)
   have ac1:=JB
   refine St.dup (pf y (iv (n:Nat))) ?_;refine St.cG rfl rfl ?_;refine go ?_;refine St.cG rfl rfl ?_;refine go ?_;refine St.slot 51 (kT a) rfl rfl ?_;refine St.cG rfl rfl ?_;refine St.eh (show dz prog 27 ([kT a]++ [Value.pointer (some ⟨s,0,none⟩),Value.pointer (some ⟨y,0,none⟩)]).toArray [aB (oM a),aB (pf y (iv (n:Nat))),aW s (.cells [f.1].toArray 44 (0,0)),row f.1 69 3 (outs).length (rows dC (outs)),aB (aF br outs)] _ from IW s y n a f outs hw hth (by omega) (by omega)) ahG (.mk rfl) (.au rfl) rfl ?_;rintro v52 _ ⟨E,t,rfl,ht,rfl⟩;refine St.iP ?_;refine St.cG rfl rfl ?_;refine go ?_;refine St.ee (Ev.kQ (.mk rfl) rfl (.mk rfl)) ?_;refine g2 ?_;refine St.cond _ rfl (λh54=> ?_) (λh54=> ?_)
   ·skip
    have YR:¬outs.length+1<n:=by simpa using h54
    refine g5 ?_;refine St.rV [] [aW s (.cells [E.1].toArray 44 (0,0)),row E.1 69 3 ((outs++ [t])).length (rows dC ((outs++ [t]))),aB (aF br ((outs++ [t])))] ?_;exact⟨E,(outs++ [t]),rfl,(by rw[←z,EU Ng ac1 Z,show m-1=0 by omega,cP,show [t].map cy=[cy t]from rfl,ht];rfl),(λu hu=>by rcases cD.1 hu with hu|hu;exact A u hu;rw[bO]at hu;subst hu;obtain⟨e1,e2⟩:=A0 ht;exact⟨by rw[e1];exact hw.1,by rw[e2];exact hw.2⟩),rfl⟩
   ·skip
    have YR:outs.length+1<n:=by simpa using h54
    refine g5 ?_;refine St.ee (Ev.dZ (k:=bi.toNat) (.mk rfl) (.mk rfl) bJ dK (by omega) (by omega)) ?_;refine St.ee (Ev.cu (.mk rfl) gV trivial (by omega) (oO (gO Z))) ?_;refine St.ee (Ev.add (.mk rfl) (.mk rfl) (by have:=S P (ae Z);omega)) ?_;refine St.slot 59 (iv ((P+1:Nat):Int)) rfl (congrArg iv (by push_cast;rfl)) ?_;refine St.ee (Ev.dZ (k:=bi.toNat) (.mk rfl) (.mk rfl) bJ dK (by omega) (by omega)) ?_;refine St.cI (.mk rfl) (.mk rfl) dK rfl (by omega) (by decide) ?_;refine St.aM (.slice (some ⟨Vk,0,none⟩) full.length full.length) (show _=(ranks.set bi.toNat (P+1)).length by rw[cn]) (show _=rows aJ (bW (ranks.set bi.toNat (P+1)))from r8 _ _ _) ?_;refine g3 ?_;refine St.aH ⟨m-1,b,ranks.set bi.toNat (P+1),E,outs++ [t]⟩ ⟨by dsimp only;omega,by dsimp only;rw[bQ,pc];omega,by dsimp only;rw[cn];exact Wl,λr K=>by dsimp only at K⊢;rw[bQ,pc];rcases lJ K with K|rfl;have:=S r K;omega;have:=S P (ae Z);omega,V,by dsimp only;rw[←z,EU Ng ac1 Z,cP,show [t].map cy=[cy t]from rfl,ht];rfl,λu hu=>(by rcases cD.1 hu with hu|hu;exact A u hu;rw[bO]at hu;subst hu;obtain⟨e1,e2⟩:=A0 ht;exact⟨by rw[e1];exact hw.1,by rw[e2];exact hw.2⟩)⟩
end Go.Proofs.YtblifkgpebebmaaGreatDoor
