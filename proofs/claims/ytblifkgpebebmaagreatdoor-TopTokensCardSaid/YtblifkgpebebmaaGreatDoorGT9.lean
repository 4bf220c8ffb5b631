/-
  Laws of walks through programs, and facts on grammars, trees and queries.
  Conditions: none.
-/
import Derived.Test.YtblifkgpebebmaaGreatDoorGT8
set_option maxHeartbeats 8000000
set_option maxRecDepth 20000
set_option linter.unusedVariables false
set_option linter.unusedSimpArgs false
namespace Go.Proofs.YtblifkgpebebmaaGreatDoor
open Go Go.J Tryz
section
variable {n:Nat}{F:Fr}{c:Ctx}{H H' R:List ao}{T:Act→World→Prop}{L:List ir}{e:Nat}{x:ir}
theorem St.Kw (tR tC:TypeId)(hx:L[e]?=some x)[t:iU (ax (jY tR tC) L) (row x.dv.1 tR 5 x.done.length (rows MX x.done)::row x.nv.1 tC 7 x.next.length (rows iu x.next)::aF (aI oE x.done)::aF (aI gB x.next)::ax (jY tR tC) (L.eraseIdx e)) H H'](h:St n F (Mm c H') T):St n F (Mm c H) T:=
 St.tail (t:=t) _ _ (mq (jY tR tC) hx) h
theorem St.VS (tR tC:TypeId)(dv:Value)(hdv:dv.oneCell'=true)(done:List xK)(nv:Value)(hnv:nv.oneCell'=true)(next:List kP)(b:Bool)(he:e<L.length)
 [tk:eE [row dv tR 5 done.length (rows MX done),row nv tC 7 next.length (rows iu next),aF (aI oE done),aF (aI gB next)] H R] [t:iU (ax (jY tR tC) (L.eraseIdx e)) (ax (jY tR tC) (L.set e ⟨⟨dv,hdv⟩,done,⟨nv,hnv⟩,next,b⟩)) R H'] (h:St n F (Mm c H') T):St n F (Mm c H) T:=
 St.mB (tk:=tk) (t:=t) _ _ _ (rp (jY tR tC) (⟨⟨dv,hdv⟩,done,⟨nv,hnv⟩,next,b⟩:ir) he) h
theorem RY {α:Type}(f:α→List ao){l:List α}{i:Nat}{a b:α}(h:l[i]?=some a)(hf:f b=f a):ax f l=ax f (l.set i b):=by
 induction l generalizing i with
 |nil=>cases h
 |cons u l ih=>
  cases i with
  |zero=>obtain rfl:=Option.some.inj h;rw[rE,gx,gx,hf]
  |succ i=>rw[vd,gx,gx,←ih h]
theorem St.aaM (X X':List ao)(hp:X=X')[t:iU X X' H H'](h:St n F (Mm c H') T):St n F (Mm c H) T:=St.tail X X' (hp▸ .refl _) h
end
theorem Mk {α:Type}(R:Rp α){l:List α}{i:Nat}{a b:α}(h:l[i]?=some a)(hf:R.cells b=R.cells a):rows R l=rows R (l.set i b):=by
 induction l generalizing i with
 |nil=>cases h
 |cons u l ih=>
  cases i with
  |zero=>
   obtain rfl:=Option.some.inj h;rw[rE]
   show R.cells u++rows R l=R.cells b++rows R l
   rw[hf]
  |succ i=>
   rw[vd]
   show R.cells u++rows R l=R.cells u++rows R (l.set i b)
   rw[ih h]
def ir.wb (x:ir):ir:=⟨x.dv,x.done,x.nv,x.next,true⟩
def ir.wd (x:ir)(u:aY)(l:List xK):ir:=⟨u,l,x.nv,x.next,x.begun⟩
theorem VT {L:List ir}{e:Nat}{x:ir}(h:L[e]?=some x):(rows eG L).set (e*3+2) (.bool true)=rows eG (L.set e x.wb):=pD eG h (by decide) rfl
theorem GM {L:List ir}{e:Nat}{x:ir}(h:L[e]?=some x)(u:aY)(l:List xK):(rows eG L).set (e*3+0) u.1=rows eG (L.set e (x.wd u l)):=pD eG h (by decide) rfl
theorem eV {L:List ir}{e:Nat}{x:ir}(h:L[e]?=some x):(L.map ek)[e]?=some (ek x):=by rw[bE,h];rfl
theorem Ml {B:cH}{get:dJ→Nat→Nat→dJ×Option jH}{e d:Nat}{c:iq}{st st2:dJ}(h:mU B get st e c.fA (c.ranks.set d (c.ranks.getD d 0+1))=(st2,none)):ze B get e c d st=st2:=by unfold ze;rw[h]
theorem Mn {B:cH}{get:dJ→Nat→Nat→dJ×Option jH}{e d:Nat}{c z:iq}{st st2:dJ}{x:wB}(h:mU B get st e c.fA (c.ranks.set d (c.ranks.getD d 0+1))=(st2,some z))(hx:st2[e]?=some x):ze B get e c d st=st2.set e ⟨x.done,Ac x.next z,x.begun⟩:=by unfold ze;rw[h];show DR st2 e _=_;rw[ql hx,fH hx]
theorem Mo {B:cH}{get:dJ→Nat→Nat→dJ×Option jH}{e w:Nat}{st st2:dJ}(h:mU B get st e w (List.replicate (B.fA e w).kids.length 0)=(st2,none)):Ad B get e st w=st2:=by unfold Ad;rw[h]
theorem Mp {B:cH}{get:dJ→Nat→Nat→dJ×Option jH}{e w:Nat}{c:iq}{st st2:dJ}{x:wB}(h:mU B get st e w (List.replicate (B.fA e w).kids.length 0)=(st2,some c))(hx:st2[e]?=some x):Ad B get e st w=st2.set e ⟨x.done,x.next++ [c],x.begun⟩:=by unfold Ad;rw[h];show DR st2 e _=_;rw[ql hx,fH hx]
theorem VU {B:cH}{get:dJ→Nat→Nat→dJ×Option jH}{e r m:Nat}{st:dJ}{x:wB}(hx:st[e]?=some x)(hm:0<m)(h:x.done.length≤r)(h2:0<x.next.length):tj B get e r m st=tj B get e r (m-1) (Ae B get e (Ft st e) (Ft st e).ranks.length 0 (MW st e)):=by
 obtain⟨k,rfl⟩:∃k,m=k+1:=⟨m-1,by omega⟩
 rw[tj,aB (by rw[fH hx];exact⟨h,h2⟩)];rfl
theorem C1 {B:cH}{get:dJ→Nat→Nat→dJ×Option jH}{e r m:Nat}{st:dJ}{x:wB}(hx:st[e]?=some x)(h:¬(x.done.length≤r∧0<x.next.length)):tj B get e r m st=st:=by
 cases m with
 |zero=>rfl
 |succ k=>rw[tj,aA (by rw[fH hx];exact h)]
theorem C5 (l:List Nat)(d z:Nat):(rows aL (bC l)).set (d*1+0) (iv (z:Int))=rows aL (bC (l.set d z)):=by rw[gN,G9]
section
variable {n:Nat}{F:Fr}{c:Ctx}{H H' R:List ao}{T:Act→World→Prop}{L:List ir}{e:Nat}{x:ir}
theorem St.Dg (tR tC:TypeId)(hx:L[e]?=some x)[tk:eE [row x.dv.1 tR 5 x.done.length (rows MX x.done),row x.nv.1 tC 7 x.next.length (rows iu x.next),aF (aI oE x.done),aF (aI gB x.next)] H R][t:iU (ax (jY tR tC) (L.eraseIdx e)) (ax (jY tR tC) L) R H'](h:St n F (Mm c H') T):St n F (Mm c H) T:=
 St.mB (tk:=tk) (t:=t) _ _ _ (mq (jY tR tC) hx).symm h
end
theorem C6 (B:cH)(f:Nat)(st:dJ)(e r:Nat){st2:dJ}{x:wB}(h:tj B (ej B f) e r (r+1) (zM B (ej B f) e st)=st2)(hx:st2[e]?=some x):ej B (f+1) st e r=(st2,x.done[r]?):=by
 rw[ej];rw[h,fH hx]
theorem GN {B:cH}{get:dJ→Nat→Nat→dJ×Option jH}{e d rd:Nat}{z:kP}{st:dJ}(h:z.ranks[d]?=some rd):Ae B get e (gV z) (z.ranks.length-d) d st=if 0<rd then ze B get e (gV z) d st else Ae B get e (gV z) (z.ranks.length-(d+1)) (d+1) (ze B get e (gV z) d st):=by
 have hl:=(eD.1 h).1
 rw[show z.ranks.length-d=(z.ranks.length-(d+1))+1 by omega,C0]
 have e1:(gV z).ranks.getD d 0=rd:=by show z.ranks.getD d 0=rd;rw[ak,h];rfl
 rw[e1]
theorem kQ {l:List Int}{k:Nat}{x:Int}(h:l[k]?=some x):(rows aL l)[k*1+0]?=some (iv x):=db aL l k 0 x h (by decide)
theorem RZ (bl bn m0 cp:Nat)(rv xv dQ:aY)(R X:List Int)(its:List cX)(hB:oG (⟨its.map bV,R,X⟩:cH)):∀f,aaK bl bn m0 cp rv xv dQ R X its f:=by
 refine Nat.rec (motive:=λf=>aaK bl bn m0 cp rv xv dQ R X its f) (λe r L _ h=>absurd h (Nat.not_lt_zero _)) (λf VP e r L he qi hr ei=> ?_);refine dt.body (args:=[.pointer (some ⟨bl,0,none⟩),iv (e:Nat),iv (r:Nat)]) 167 Tryz.func52 rfl Tryz.ntmps52 rfl (λc=> ?_);refine go ?_;refine St.cast (H':=(aF (fO bl [rv.1,xv.1,dQ.1,(.slice (some ⟨bn,0,none⟩) m0 cp)])::aF (sl aL rv.1 R)::aF (sl aL xv.1 X)::aF (sl dX dQ.1 its)::aF (aI cW its)::row (.slice (some ⟨bn,0,none⟩) m0 cp) 194 3 (L).length (rows eG (L))::ax (jY 71 196) L)) rfl ?_;obtain⟨y,hy⟩:=aE he
 have wh:e<(⟨its.map bV,R,X⟩:cH).its.length:=by show e<(its.map bV).length;rw[aQ];exact he
 have N7:=sJ ei
 obtain⟨x0,wi⟩:=aE (show e<L.length by omega)
 have hwb:y.bx.length≤1117240000000:=by rw[←Df (R:=R) (X:=X) hy];exact hB.nw e wh
 have hnw:=Df (R:=R) (X:=X) hy
 have Kk:=De hB f
 refine St.cL cW its (x:=y) (ab hy) ?_;refine St.eT (sl lR y.wv.1 y.bx) [cW y] (λρ h=>h (cW y) (aU ..) _ (cE _ (aU ..))) ?_;refine go ?_;refine St.al (λb6=> ?_);refine g8 ?_;refine St.ee (Ev.qm (.mk rfl) Tryz.underlying125 trivial rfl) ?_;refine g5 ?_;refine St.join (ι:=List ir) (λLb T=>T) (λLb=>(row (.slice (some ⟨bn,0,none⟩) m0 cp) 194 3 (Lb).length (rows eG (Lb))::aF (fO bl [rv.1,xv.1,dQ.1,(.slice (some ⟨bn,0,none⟩) m0 cp)])::aF (sl aL rv.1 R)::aF (sl aL xv.1 X)::aF (sl dX dQ.1 its)::aF (aI cW its)::aF (sl lR y.wv.1 y.bx)::aF (cW y)::aX b6 (.cells [iv 0,(.slice none 0 0),iv 0,iv 0,(.slice none 0 0)].toArray 71 (0,0))::(ax (jY 71 196) Lb))) (λLb=>Lb.map ek=zM (⟨its.map bV,R,X⟩:cH) (ej (⟨its.map bV,R,X⟩:cH) f) e (L.map ek)) (aC.cons 0 rfl (aC.cons 1 rfl (aC.cons 2 rfl (aC.cons 6 rfl (aC.cons 7 rfl (aC.cons 8 rfl aC.nil)))))) ?_ ?_
 ·refine g3 ?_
  refine St.ee (Ev.ju rfl (.mk rfl)) ?_;refine St.ee (Ev.j3 rfl (.mk rfl) K7) ?_;refine St.slot 25 (dR (.slice (some ⟨bn,0,none⟩) m0 cp) 3 e 2) rfl rfl ?_;refine St.ee (Ev.cB (.mk rfl) Eb trivial (by omega) (show(rows eG L)[e*3+2]?=some (.bool x0.begun)from tq wi (by decide))) ?_;refine g3 ?_;refine St.cond _ rfl (λQ9=> ?_) (λQ9=> ?_)
  ·skip
   have FO:x0.begun=false:=by simpa using Q9
   have N4:((L.map ek).getD e nO).begun=false:=by rw[fH (eV wi)];exact FO
   refine g3 ?_;refine St.ee (Ev.ju rfl (.mk rfl)) ?_;refine St.ee (Ev.j3 rfl (.mk rfl) K7) ?_;refine St.slot 30 (dR (.slice (some ⟨bn,0,none⟩) m0 cp) 3 e 2) rfl rfl ?_;refine St.bj (.mk rfl) (.mk rfl) BN rfl (by omega) (by decide) ?_;refine St.aO (.slice (some ⟨bn,0,none⟩) m0 cp) (show _=(L.set e x0.wb).length by rw[cG]) (show _=rows eG (L.set e x0.wb)from VT wi) ?_;refine St.aaM (ax (jY 71 196) L) (ax (jY 71 196) (L.set e x0.wb)) (RY _ wi rfl) ?_;refine g8 ?_;refine St.ee (Ev.qm (.mk rfl) mn trivial rfl) ?_;refine g9 ?_;refine St.lH (ι:=Nat×List ir) (λ⟨w,L1⟩ T=>(40,iv w)::T) (λ⟨w,L1⟩=>(row (.slice (some ⟨bn,0,none⟩) m0 cp) 194 3 (L1).length (rows eG (L1))::aF (fO bl [rv.1,xv.1,dQ.1,(.slice (some ⟨bn,0,none⟩) m0 cp)])::aF (sl aL rv.1 R)::aF (sl aL xv.1 X)::aF (sl dX dQ.1 its)::aF (aI cW its)::aF (sl lR y.wv.1 y.bx)::aF (cW y)::aX b6 (.cells [iv 0,(.slice none 0 0),iv 0,iv 0,(.slice none 0 0)].toArray 71 (0,0))::(ax (jY 71 196) L1))) (λ⟨w,L1⟩=>w≤y.bx.length∧L1.map ek=GG (⟨its.map bV,R,X⟩:cH) (ej (⟨its.map bV,R,X⟩:cH) f) e (L.map ek) w) (λ⟨w,L1⟩=>y.bx.length-w) ⟨0,L.set e x0.wb⟩ (aC.cons 0 rfl (aC.cons 1 rfl (aC.cons 2 rfl (aC.cons 6 rfl (aC.cons 7 rfl (aC.cons 8 rfl (aC.cons 39 rfl aC.nil))))))) ⟨aR _,by show _=(L.map ek).set e _;rw[fH (eV wi),ia];rfl⟩ ?_;rintro ⟨w,L1⟩ ⟨hw,hL1⟩
   dsimp only at hw hL1⊢
   have Sd:=Dc hB Kk wh qi ei N4 w (by omega)
   rw[←hL1]at Sd
   have hl1:=sJ Sd.ok
   obtain⟨x1,qf⟩:=aE (show e<L1.length by omega);refine g6 ?_;refine St.cq (λFE=> ?_) (λFE=> ?_)
   ·have MO:w<y.bx.length:=by omega
    obtain⟨wy,hwy⟩:=aE MO
    have nR:=XQ (R:=R) (X:=X) hy hwy
    have XR:w<qy (⟨its.map bV,R,X⟩:cH) e:=by rw[hnw];exact MO
    have Wn:wy.kids.length≤3:=by have h:=agI hB wh XR;rw[nR]at h;exact h
    have hnk:(bC wy.kids).length=wy.kids.length:=cR _
    refine St.eT (sl aL wy.kv.1 (bC wy.kids)) [cW y] (λρ h=>h (cW y) (aU ..) (aI mL y.bx) (cE _ (cE _ (aU ..))) wy (ab hwy)) ?_;refine g2 ?_;refine St.join (ι:=List ir) (λL3 T=>T) (λL3=>(row (.slice (some ⟨bn,0,none⟩) m0 cp) 194 3 (L3).length (rows eG (L3))::aF (fO bl [rv.1,xv.1,dQ.1,(.slice (some ⟨bn,0,none⟩) m0 cp)])::aF (sl aL rv.1 R)::aF (sl aL xv.1 X)::aF (sl dX dQ.1 its)::aF (aI cW its)::aF (sl lR y.wv.1 y.bx)::aF (cW y)::aX b6 (.cells [iv 0,(.slice none 0 0),iv 0,iv 0,(.slice none 0 0)].toArray 71 (0,0))::(ax (jY 71 196) L3))) (λL3=>L3.map ek=Ad (⟨its.map bV,R,X⟩:cH) (ej (⟨its.map bV,R,X⟩:cH) f) e (L1.map ek) w) (aC.cons 0 rfl (aC.cons 1 rfl (aC.cons 2 rfl (aC.cons 6 rfl (aC.cons 7 rfl (aC.cons 8 rfl (aC.cons 39 rfl (aC.cons 40 rfl aC.nil)))))))) ?_ ?_
    ·refine g15 ?_
     refine St.ee (Ev.qm (.mk rfl) mn trivial rfl) ?_;refine g9 ?_;refine St.ot (Rr:=aL) (g:=0) (m:=wy.kids.length) (sz:=1) rfl (.mk rfl) (.mk rfl) cI eJ jA wO (congrArg _ hnk) (congrArg _ hnk) (by omega) rfl rfl (λb60=> ?_);refine St.aO (.slice (some ⟨b60,0,none⟩) wy.kids.length wy.kids.length) (show _=(bC (List.replicate wy.kids.length 0)).length by rw[cR,jI]) (show _=rows aL (bC (List.replicate wy.kids.length 0)) by unfold bC;rw[sN];rfl) ?_;refine St.bZ (.slice (some ⟨b60,0,none⟩) wy.kids.length wy.kids.length) aL (bC (List.replicate wy.kids.length 0)) rfl rfl (λq hq=>by obtain⟨i,hi,rfl⟩:=ct.1 hq;rw[vZ hi];show bP _;unfold bP;omega) ?_;refine St.pN (ds:=[fO bl [rv.1,xv.1,dQ.1,(.slice (some ⟨bn,0,none⟩) m0 cp)],sl aL rv.1 R,sl aL xv.1 X,sl dX dQ.1 its,aI cW its,sl aL (⟨(.slice (some ⟨b60,0,none⟩) wy.kids.length wy.kids.length),rfl⟩:aY).1 (bC (List.replicate wy.kids.length 0))]) (L:=[row (.slice (some ⟨bn,0,none⟩) m0 cp) 194 3 (L1).length (rows eG (L1))]) (X:=ax (jY 71 196) L1) (post:=λv L' X'=>∃(L2:List ir) (cc:kP) (o:Bool),mU (⟨its.map bV,R,X⟩:cH) (ej (⟨its.map bV,R,X⟩:cH) f) (L1.map ek) e w (List.replicate wy.kids.length 0)=(L2.map ek,if o then some (gV cc)else none)∧v= .tuple #[Fy cc,.bool o]∧L'=[row (.slice (some ⟨bn,0,none⟩) m0 cp) 194 3 (L2).length (rows eG (L2)),aF (gB cc)]∧X'=ax (jY 71 196) L2) ((wD bl bn m0 cp rv xv dQ R X its hB f VP e w (0) (⟨(.slice (some ⟨b60,0,none⟩) wy.kids.length wy.kids.length),rfl⟩) (List.replicate wy.kids.length 0) L1 he qi XR (by rw[nR];exact jI) (λq hq=>by rw[vZ hq];exact aW _) (by have:=hB.ht e wh;omega) Sd.ok).mono (λv H' ⟨L2,cc,o,a1,a2,a3⟩=>⟨[_,_],_,a3,L2,cc,o,a1,a2,rfl,rfl⟩)) aeF (.om rfl rfl rfl rfl) rfl ?_;rintro v61 _ _ ⟨L2,cc,o,Gv,rfl,rfl,rfl⟩;refine St.lZ ?_
     have hco:=DS (D:=0) (ranks:=List.replicate wy.kids.length 0) hB Kk wh qi XR (by rw[nR];exact jI) (λq hq=>by rw[vZ hq];exact aW _) (by have:=hB.ht e wh;omega) Sd.ok
     rw[Gv]at hco
     have zA:jG (⟨its.map bV,R,X⟩:cH) (L2.map ek):=hco.1
     have Y0:=sJ zA
     obtain⟨x2,mH⟩:=aE (show e<L2.length by omega)
     have Ra:mU (⟨its.map bV,R,X⟩:cH) (ej (⟨its.map bV,R,X⟩:cH) f) (L1.map ek) e w (List.replicate ((⟨its.map bV,R,X⟩:cH).fA e w).kids.length 0)=(L2.map ek,if o then some (gV cc)else none):=by rw[nR];exact Gv
     refine g3 ?_;refine St.al (λX2=> ?_);refine St.sA (.mk rfl) (.mk rfl) jB ?_ (h1:=(eO.2 λu hu=>iu.one cc u hu));refine g8 ?_;refine St.cond _ rfl (λI8=> ?_) (λI8=> ?_)
     ·skip
      obtain rfl:o=true:=I8
      have BP:=(zA.nl e _ (eV mH)).nl
      have rO:=(zA.nl e _ (eV mH)).dl
      have BP:(x2.next.map gV).length≤qy (⟨its.map bV,R,X⟩:cH) e+3*(x2.done.map mJ).length:=BP
      have rO:(x2.done.map mJ).length+k9 (⟨its.map bV,R,X⟩:cH) e≤262:=rO
      rw[aQ]at BP rO;rw[aQ]at BP;refine St.Kw (L:=L2) (e:=e) 71 196 mH ?_;refine St.cx (row (.slice (some ⟨bn,0,none⟩) m0 cp) 194 3 (L2).length (rows eG (L2))::row x2.nv.1 196 7 (x2.next).length (rows iu (x2.next))::(ax (jY 71 196) (L2.eraseIdx e))) mixed (λnp ns=> ?_);refine SW.gd 0 ?_;refine SW.gd 1 ?_;refine SW.dd 2 rfl (λ_=>Ev.ju rfl (.mk rfl)) ?_;refine SW.dd 3 rfl (λ_=>Ev.j3 rfl (.mk rfl) ox) ?_;refine SW.slot 68 (dR (.slice (some ⟨bn,0,none⟩) m0 cp) 3 e 1) rfl rfl ?_;refine SW.gd 5 ?_;refine SW.slot 70 (Fy cc) rfl rfl ?_;refine SW.t2 4 6 ?_ ?_
      focus
       refine St.ee (Ev.cB (.mk rfl) ga trivial (by omega) (nC mH)) ?_;refine g2 ?_;refine SW.go ?_;refine SW.t1 6 ?_;refine St.gb rfl (.bB rfl) ga jB BT rfl rfl (by simp[Value.cells]) rfl rfl (λb71=> ?_);refine g2 ?_;refine SW.go ?_;refine SW.t1 7 ?_;refine St.aj (.mk rfl) (.mk rfl) ga jB BT P7 (by intro u hu;exact iu.one cc u hu) (by omega) (by omega) rfl rfl rfl rfl (λv72 akJ=> ?_);refine St.aO v72 (show _=(x2.next++ [cc]).length by rw[bA];rfl) (show _=rows iu (x2.next++ [cc]) by rw[aw];rfl) ?_;refine St.bS v72 (λGn _=> ?_);refine g2 ?_;refine SW.go ?_;refine SW.dd 8 rfl (λ_=>Ev.ju rfl (.mk rfl)) ?_;refine SW.dd 9 rfl (λ_=>Ev.j3 rfl (.mk rfl) ox) ?_;refine SW.slot 74 (dR (.slice (some ⟨bn,0,none⟩) m0 cp) 3 e 1) rfl rfl ?_;refine SW.t1 10 ?_;refine St.bj (.mk rfl) (.mk rfl) K6 Gn (by omega) (by decide) ?_;refine St.aO (.slice (some ⟨bn,0,none⟩) m0 cp) (show _=(L2.set e ⟨⟨x2.dv.1,x2.dv.2⟩,x2.done,⟨v72,Gn⟩,x2.next++ [cc],x2.begun⟩).length by rw[cG]) (show _=rows eG (L2.set e ⟨⟨x2.dv.1,x2.dv.2⟩,x2.done,⟨v72,Gn⟩,x2.next++ [cc],x2.begun⟩)from oI mH ⟨v72,Gn⟩ _) ?_;refine g2 ?_;refine SW.go ?_;refine SW.dn ?_
      rotate_left
      focus
       refine St.gb rfl (.bB rfl) ga jB BT rfl rfl (by simp[Value.cells]) rfl rfl (λb71=> ?_);refine g2 ?_;refine SW.go ?_;refine SW.t1 4 ?_;refine St.ee (Ev.cB (.mk rfl) ga trivial (by omega) (nC mH)) ?_;refine g2 ?_;refine SW.go ?_;refine SW.t1 7 ?_;refine St.aj (.mk rfl) (.mk rfl) ga jB BT P7 (by intro u hu;exact iu.one cc u hu) (by omega) (by omega) rfl rfl rfl rfl (λv72 akJ=> ?_);refine St.aO v72 (show _=(x2.next++ [cc]).length by rw[bA];rfl) (show _=rows iu (x2.next++ [cc]) by rw[aw];rfl) ?_;refine St.bS v72 (λGn _=> ?_);refine g2 ?_;refine SW.go ?_;refine SW.dd 8 rfl (λ_=>Ev.ju rfl (.mk rfl)) ?_;refine SW.dd 9 rfl (λ_=>Ev.j3 rfl (.mk rfl) ox) ?_;refine SW.slot 74 (dR (.slice (some ⟨bn,0,none⟩) m0 cp) 3 e 1) rfl rfl ?_;refine SW.t1 10 ?_;refine St.bj (.mk rfl) (.mk rfl) K6 Gn (by omega) (by decide) ?_;refine St.aO (.slice (some ⟨bn,0,none⟩) m0 cp) (show _=(L2.set e ⟨⟨x2.dv.1,x2.dv.2⟩,x2.done,⟨v72,Gn⟩,x2.next++ [cc],x2.begun⟩).length by rw[cG]) (show _=rows eG (L2.set e ⟨⟨x2.dv.1,x2.dv.2⟩,x2.done,⟨v72,Gn⟩,x2.next++ [cc],x2.begun⟩)from oI mH ⟨v72,Gn⟩ _) ?_;refine g2 ?_;refine SW.go ?_;refine SW.dn ?_
      all_goals
       refine g2 ?_;refine St.eT (aI gB (x2.next++ [cc])) [aI gB x2.next,gB cc] (λρ h u hu=>by rcases ba.1 hu with hu|hu;exact h (aI gB x2.next) (aU ..) u hu;rw[bJ]at hu;subst hu;exact h (gB u) (cE _ (aU ..))) ?_;refine St.VS (L:=L2) (e:=e) 71 196 (x2.dv.1) (x2.dv.2) (x2.done) (v72) (Gn) (x2.next++ [cc]) (x2.begun) (by omega) ?_;refine St.mE (L2.set e ⟨⟨x2.dv.1,x2.dv.2⟩,x2.done,⟨v72,Gn⟩,x2.next++ [cc],x2.begun⟩) (by rw[Mp Ra (eV mH),ia];show(L2.map ek).set e (⟨_,(x2.next++ [cc]).map gV,_⟩:wB)=_;rw[cC];rfl)
     ·skip
      obtain rfl:o=false:=I8;refine g3 ?_;refine St.mE L2 (by rw[Mo Ra])
    ·intro L3 hL3
     refine g5 ?_;refine St.aH ⟨w+1,L3⟩ ⟨by omega,by rw[Bz,←hL1];exact hL3⟩
   ·obtain rfl:w=y.bx.length:=by omega
    have BP:=(Sd.ok.nl e _ (eV qf)).nl
    have rO:=(Sd.ok.nl e _ (eV qf)).dl
    have BP:(x1.next.map gV).length≤qy (⟨its.map bV,R,X⟩:cH) e+3*(x1.done.map mJ).length:=BP
    have rO:(x1.done.map mJ).length+k9 (⟨its.map bV,R,X⟩:cH) e≤262:=rO
    rw[aQ]at BP rO;rw[aQ]at BP;refine St.Kw (L:=L1) (e:=e) 71 196 qf ?_;refine g7 ?_;refine St.ee (Ev.ju rfl (.mk rfl)) ?_;refine St.ee (Ev.j3 rfl (.mk rfl) ox) ?_;refine St.slot 78 (dR (.slice (some ⟨bn,0,none⟩) m0 cp) 3 e 1) rfl rfl ?_;refine St.ee (Ev.iface (.mk rfl) Tryz.underlying202 trivial) ?_;refine St.call (Mb bn m0 cp e L1 x1 qf x1.next (by omega)) aiG (.bB rfl) rfl ?_;rintro v80 _ ⟨q2,rfl,wR,pa,rfl⟩;refine St.wG ?_;refine St.aO (.slice (some ⟨bn,0,none⟩) m0 cp) (show _=(L1.set e ⟨⟨x1.dv.1,x1.dv.2⟩,x1.done,⟨x1.nv.1,x1.nv.2⟩,q2,x1.begun⟩).length by rw[cG]) (show _=rows eG (L1.set e ⟨⟨x1.dv.1,x1.dv.2⟩,x1.done,⟨x1.nv.1,x1.nv.2⟩,q2,x1.begun⟩)from Mk eG qf rfl) ?_;refine St.VS (L:=L1) (e:=e) 71 196 (x1.dv.1) (x1.dv.2) (x1.done) (x1.nv.1) (x1.nv.2) (q2) (x1.begun) (by omega) ?_;refine g2 ?_;refine St.mE (L1.set e ⟨⟨x1.dv.1,x1.dv.2⟩,x1.done,⟨x1.nv.1,x1.nv.2⟩,q2,x1.begun⟩) (by rw[GH N4,hnw,←hL1,ql (eV qf),fH (eV qf),ia];show(L1.map ek).set e (⟨_,q2.map gV,_⟩:wB)=_;rw[wR];show _=(L1.map ek).set e (⟨_,ti (x1.next.map gV).length ((x1.next.map gV).length/2) _,_⟩:wB);rw[aQ];rfl)
  ·skip
   have FO:x0.begun=true:=by simpa using Q9
   refine g2 ?_;refine St.mE L (GI (by rw[fH (eV wi)];exact FO)).symm
 ·intro Lb hLb
  have hmb:=RR hB Kk wh qi ei
  rw[←hLb]at hmb;refine g2 ?_;refine St.lH (ι:=Nat×List ir) (λ⟨m,L1⟩ T=>T) (λ⟨m,L1⟩=>(row (.slice (some ⟨bn,0,none⟩) m0 cp) 194 3 (L1).length (rows eG (L1))::aF (fO bl [rv.1,xv.1,dQ.1,(.slice (some ⟨bn,0,none⟩) m0 cp)])::aF (sl aL rv.1 R)::aF (sl aL xv.1 X)::aF (sl dX dQ.1 its)::aF (aI cW its)::aF (sl lR y.wv.1 y.bx)::aF (cW y)::aX b6 (.cells [iv 0,(.slice none 0 0),iv 0,iv 0,(.slice none 0 0)].toArray 71 (0,0))::(ax (jY 71 196) L1))) (λ⟨m,L1⟩=>JD (⟨its.map bV,R,X⟩:cH) e (L.map ek) (L1.map ek)∧tj (⟨its.map bV,R,X⟩:cH) (ej (⟨its.map bV,R,X⟩:cH) f) e r m (L1.map ek)=tj (⟨its.map bV,R,X⟩:cH) (ej (⟨its.map bV,R,X⟩:cH) f) e r (r+1) (zM (⟨its.map bV,R,X⟩:cH) (ej (⟨its.map bV,R,X⟩:cH) f) e (L.map ek))∧(∀x,L1[e]?=some x→r+1≤m+x.done.length)) (λ⟨m,L1⟩=>m) ⟨r+1,Lb⟩ (aC.cons 0 rfl (aC.cons 1 rfl (aC.cons 2 rfl (aC.cons 6 rfl (aC.cons 7 rfl (aC.cons 8 rfl aC.nil)))))) ⟨hmb,by rw[hLb],λx _=>(by omega)⟩ ?_;rintro ⟨m,L1⟩ ⟨hmi,Y5,hmf⟩
  dsimp only at hmi Y5 hmf⊢
  have hl1:=sJ hmi.ok
  obtain⟨x1,qf⟩:=aE (show e<L1.length by omega)
  have hmf:=hmf x1 qf
  have hN1:=hmi.ok.nl e _ (eV qf)
  have BP:(x1.next.map gV).length≤qy (⟨its.map bV,R,X⟩:cH) e+3*(x1.done.map mJ).length:=hN1.nl
  have rO:(x1.done.map mJ).length+k9 (⟨its.map bV,R,X⟩:cH) e≤262:=hN1.dl
  rw[aQ]at BP rO;rw[aQ]at BP;refine St.Kw (L:=L1) (e:=e) 71 196 qf ?_;refine g4 ?_;refine St.ee (Ev.ju rfl (.mk rfl)) ?_;refine St.ee (Ev.j3 rfl (.mk rfl) mr) ?_;refine St.slot 83 (dR (.slice (some ⟨bn,0,none⟩) m0 cp) 3 e 0) rfl rfl ?_;refine St.ee (Ev.cB (.mk rfl) o3 trivial (by omega) (show(rows eG L1)[e*3+0]?=some x1.dv.1 from tq qf (by decide))) ?_;refine g4 ?_;refine St.split 88 _ rfl (λaaN=> ?_) (λaaN=> ?_)
  ·have Rb:x1.done.length≤r:=by have:=eS aaN;omega
   refine St.aa rfl rfl ?_;refine go ?_;refine St.aa rfl rfl ?_;refine St.ee (Ev.ju rfl (.mk rfl)) ?_;refine St.aa rfl rfl ?_;refine St.ee (Ev.j3 rfl (.mk rfl) ox) ?_;refine St.slot 91 (dR (.slice (some ⟨bn,0,none⟩) m0 cp) 3 e 1) rfl rfl ?_;refine St.aa rfl rfl ?_;refine St.ee (Ev.cB (.mk rfl) ga trivial (by omega) (nC qf)) ?_;refine St.aa rfl rfl ?_;refine St.ee (Ev.xh (qj x1.nv.1 x1.next) Tm (.bB rfl) ((cw.row cw.nil rfl rfl rfl (λ_ _=>trivial)))) ?_;refine St.aa rfl rfl ?_;refine go ?_;refine St.ee (Ev.eo (.mk rfl) rfl (.mk rfl)) ?_;refine g2 ?_;refine St.cq (λzw=> ?_) (λzw=> ?_)
   ·have h0n:0<x1.next.length:=by omega
    obtain⟨hpi,Se⟩:=RT hmi (eV qf) hr (by show(x1.done.map mJ).length≤r;rw[aQ];exact Rb) (by show 0<(x1.next.map gV).length;rw[aQ];exact h0n)
    have VV:=VU (B:=(⟨its.map bV,R,X⟩:cH)) (get:=(ej (⟨its.map bV,R,X⟩:cH) f)) (e:=e) (r:=r) (m:=m) (eV qf) (by omega) (by show(x1.done.map mJ).length≤r;rw[aQ];exact Rb) (by show 0<(x1.next.map gV).length;rw[aQ];exact h0n)
    refine g6 ?_;refine St.ee (Ev.ju rfl (.mk rfl)) ?_;refine St.ee (Ev.j3 rfl (.mk rfl) ox) ?_;refine St.slot 98 (dR (.slice (some ⟨bn,0,none⟩) m0 cp) 3 e 1) rfl rfl ?_;refine St.ee (Ev.iface (.mk rfl) Tryz.underlying202 trivial) ?_;refine St.call (Md bn m0 cp e L1 x1 qf x1.next (by omega) h0n) aiH (.bB rfl) rfl ?_;rintro am5 _ ⟨u,q3,z,rfl,PM,hz,hm3,rfl⟩;refine St.wG ?_;refine St.cL gB q3 (x:=z) (ab hz) ?_;refine St.eT (aI gB (q3.take (x1.next.length-1))) [aI gB q3] (λρ h u hu=>h (aI gB q3) (aU ..) u (xO hu)) ?_;refine St.eT (sl aL z.rv.1 (bC z.ranks)) [gB z] (λρ h=>h (gB z) (aU ..) _ (cE _ (cE _ (aU ..)))) ?_;refine St.eT (aI oE (x1.done++ [z.rk])) [aI oE x1.done,gB z] (λρ h u hu=>by rcases ba.1 hu with hu|hu;exact h (aI oE x1.done) (aU ..) u hu;rw[bJ]at hu;subst hu;have hc:=h (gB z) (cE _ (aU ..));intro d hd;simp only[List.mem_cons,List.not_mem_nil,or_false]at hd;rcases hd with rfl|rfl;exact hc _ (aU ..);exact hc _ (cE _ (aU ..))) ?_
    have Zb:(L1.set e (x1.wn u (q3.take (x1.next.length-1))))[e]?=some (x1.wn u (q3.take (x1.next.length-1))):=eP (by omega)
    refine St.ee (Ev.assert (.mk rfl) sj trivial) ?_;refine St.slot 101 (Fy z) rfl rfl ?_;refine St.al (λIA=> ?_);refine St.sA (.mk rfl) (.mk rfl) jB ?_ (h1:=(eO.2 λu hu=>iu.one z u hu));refine g3 ?_;refine St.cx (row (.slice (some ⟨bn,0,none⟩) m0 cp) 194 3 (L1.set e (x1.wn u (q3.take (x1.next.length-1)))).length (rows eG (L1.set e (x1.wn u (q3.take (x1.next.length-1)))))::row x1.dv.1 71 5 x1.done.length (rows MX x1.done)::(ax (jY 71 196) (L1.eraseIdx e))) mixed (λnp ns=> ?_);refine SW.gd 0 ?_;refine SW.gd 1 ?_;refine SW.dd 2 rfl (λ_=>Ev.ju rfl (.mk rfl)) ?_;refine SW.dd 3 rfl (λ_=>Ev.j3 rfl (.mk rfl) mr) ?_;refine SW.slot 105 (dR (.slice (some ⟨bn,0,none⟩) m0 cp) 3 e 0) rfl rfl ?_;refine SW.gd 5 ?_;refine SW.dd 6 rfl (λ_=>Ev.gh 5 (.mk rfl) HW trivial uj rfl rfl) ?_;refine SW.slot 108 (jf z.rk) rfl rfl ?_;refine SW.t2 4 7 ?_ ?_
    focus
     refine St.ee (Ev.cB (.mk rfl) o3 trivial (by rw[cG];omega) (show(rows eG _)[e*3+0]?=some x1.dv.1 from tq (x:=x1.wn u (q3.take (x1.next.length-1))) Zb (by decide))) ?_;refine g2 ?_;refine SW.go ?_;refine SW.t1 7 ?_;refine St.gb rfl (.bB rfl) o3 uj Tn rfl rfl (by simp[Value.cells]) rfl rfl (λakK=> ?_);refine g2 ?_;refine SW.go ?_;refine SW.t1 8 ?_;refine St.aj (.mk rfl) (.mk rfl) o3 uj Tn aeG (by intro u hu;exact MX.one z.rk u hu) (by omega) (by omega) rfl rfl rfl rfl (λvT agN=> ?_);refine St.aO vT (show _=(x1.done++ [z.rk]).length by rw[bA];rfl) (show _=rows MX (x1.done++ [z.rk]) by rw[aw];rfl) ?_;refine St.bS vT (λqv _=> ?_);refine g2 ?_;refine SW.go ?_;refine SW.dd 9 rfl (λ_=>Ev.ju rfl (.mk rfl)) ?_;refine SW.dd 10 rfl (λ_=>Ev.j3 rfl (.mk rfl) mr) ?_;refine SW.slot 112 (dR (.slice (some ⟨bn,0,none⟩) m0 cp) 3 e 0) rfl rfl ?_;refine SW.t1 11 ?_;refine St.bj (.mk rfl) (.mk rfl) Wq qv (by rw[cG];omega) (by decide) ?_;refine St.aO (.slice (some ⟨bn,0,none⟩) m0 cp) (show _=(L1.set e ⟨⟨vT,qv⟩,x1.done++ [z.rk],⟨u.1,u.2⟩,q3.take (x1.next.length-1),x1.begun⟩).length by rw[cG,cG]) (show _=rows eG (L1.set e ⟨⟨vT,qv⟩,x1.done++ [z.rk],⟨u.1,u.2⟩,q3.take (x1.next.length-1),x1.begun⟩) by rw[GM Zb ⟨vT,qv⟩ (x1.done++ [z.rk]),List.set_set];rfl) ?_;refine g2 ?_;refine SW.go ?_;refine SW.dn ?_
    rotate_left
    focus
     refine St.gb rfl (.bB rfl) o3 uj Tn rfl rfl (by simp[Value.cells]) rfl rfl (λakK=> ?_);refine g2 ?_;refine SW.go ?_;refine SW.t1 4 ?_;refine St.ee (Ev.cB (.mk rfl) o3 trivial (by rw[cG];omega) (show(rows eG _)[e*3+0]?=some x1.dv.1 from tq (x:=x1.wn u (q3.take (x1.next.length-1))) Zb (by decide))) ?_;refine g2 ?_;refine SW.go ?_;refine SW.t1 8 ?_;refine St.aj (.mk rfl) (.mk rfl) o3 uj Tn aeG (by intro u hu;exact MX.one z.rk u hu) (by omega) (by omega) rfl rfl rfl rfl (λvT agN=> ?_);refine St.aO vT (show _=(x1.done++ [z.rk]).length by rw[bA];rfl) (show _=rows MX (x1.done++ [z.rk]) by rw[aw];rfl) ?_;refine St.bS vT (λqv _=> ?_);refine g2 ?_;refine SW.go ?_;refine SW.dd 9 rfl (λ_=>Ev.ju rfl (.mk rfl)) ?_;refine SW.dd 10 rfl (λ_=>Ev.j3 rfl (.mk rfl) mr) ?_;refine SW.slot 112 (dR (.slice (some ⟨bn,0,none⟩) m0 cp) 3 e 0) rfl rfl ?_;refine SW.t1 11 ?_;refine St.bj (.mk rfl) (.mk rfl) Wq qv (by rw[cG];omega) (by decide) ?_;refine St.aO (.slice (some ⟨bn,0,none⟩) m0 cp) (show _=(L1.set e ⟨⟨vT,qv⟩,x1.done++ [z.rk],⟨u.1,u.2⟩,q3.take (x1.next.length-1),x1.begun⟩).length by rw[cG,cG]) (show _=rows eG (L1.set e ⟨⟨vT,qv⟩,x1.done++ [z.rk],⟨u.1,u.2⟩,q3.take (x1.next.length-1),x1.begun⟩) by rw[GM Zb ⟨vT,qv⟩ (x1.done++ [z.rk]),List.set_set];rfl) ?_;refine g2 ?_;refine SW.go ?_;refine SW.dn ?_
    all_goals
     refine g2 ?_;refine St.VS (L:=L1) (e:=e) 71 196 (vT) (qv) (x1.done++ [z.rk]) (u.1) (u.2) (q3.take (x1.next.length-1)) (x1.begun) (by omega) ?_
     obtain⟨L2,agO⟩:∃L2,L2=L1.set e ⟨⟨vT,qv⟩,x1.done++ [z.rk],⟨u.1,u.2⟩,q3.take (x1.next.length-1),x1.begun⟩:=⟨_,rfl⟩
     have hzK:Ft (L1.map ek) e=gV z:=by rw[Kr (eV qf)];show(pA (x1.next.map gV)).getD ((x1.next.map gV).length-1) Ke=_;rw[←PM,aQ];exact qk hz
     have hL2:L2.map ek=MW (L1.map ek) e:=by rw[RS (eV qf),agO,ia];show(L1.map ek).set e (⟨(x1.done++ [z.rk]).map mJ,(q3.take (x1.next.length-1)).map gV,_⟩:wB)=(L1.map ek).set e (⟨_++ [((pA (x1.next.map gV)).getD ((x1.next.map gV).length-1) Ke).rk],(pA (x1.next.map gV)).take ((x1.next.map gV).length-1),_⟩:wB);rw[←PM,aQ,qk hz,cC,List.map_take];rfl
     rw[←hL2]at hpi;rw[hzK]at Se;rw[hzK,←hL2]at VV
     have Se:vP (⟨its.map bV,R,X⟩:cH) e x1.done.length (gV z):=by have h:vP (⟨its.map bV,R,X⟩:cH) e (x1.done.map mJ).length (gV z):=Se;rwa[aQ]at h
     have hpi:GJ (⟨its.map bV,R,X⟩:cH) e (x1.done.length+1) (L.map ek) 0 (L2.map ek):=by have h:GJ (⟨its.map bV,R,X⟩:cH) e ((x1.done.map mJ).length+1) (L.map ek) 0 (L2.map ek):=hpi;rwa[aQ]at h
     rw[←agO]
     have hz3:z.ranks.length≤3:=agJ hB wh Se
     have hnz:(bC z.ranks).length=z.ranks.length:=cR _
     obtain⟨PF,hPF⟩:∃PF,PF=Ae (⟨its.map bV,R,X⟩:cH) (ej (⟨its.map bV,R,X⟩:cH) f) e (gV z) (gV z).ranks.length 0 (L2.map ek):=⟨_,rfl⟩
     rw[←hPF]at VV;refine g8 ?_;refine St.lH (ι:=Nat×List ir) (λ⟨d,L3⟩ T=>(116,iv d)::T) (λ⟨d,L3⟩=>(row (.slice (some ⟨bn,0,none⟩) m0 cp) 194 3 (L3).length (rows eG (L3))::aF (fO bl [rv.1,xv.1,dQ.1,(.slice (some ⟨bn,0,none⟩) m0 cp)])::aF (sl aL rv.1 R)::aF (sl aL xv.1 X)::aF (sl dX dQ.1 its)::aF (aI cW its)::aF (sl lR y.wv.1 y.bx)::aF (cW y)::aF (sl aL z.rv.1 (bC z.ranks))::aX b6 (.cells [iv 0,(.slice none 0 0),iv 0,iv 0,(.slice none 0 0)].toArray 71 (0,0))::aX IA (.cells [iv z.rk.wt,z.rk.cv.1,iv z.rk.tree.rule,iv z.rk.tree.lex,z.rk.tree.kv.1,iv (z.fA:Nat),z.rv.1].toArray 196 (0,0))::(ax (jY 71 196) L3))) (λ⟨d,L3⟩=>d≤z.ranks.length∧GJ (⟨its.map bV,R,X⟩:cH) e (x1.done.length+1) (L.map ek) d (L3.map ek)∧Ae (⟨its.map bV,R,X⟩:cH) (ej (⟨its.map bV,R,X⟩:cH) f) e (gV z) (z.ranks.length-d) d (L3.map ek)=PF) (λ⟨d,L3⟩=>z.ranks.length-d) ⟨0,L2⟩ (aC.cons 0 rfl (aC.cons 1 rfl (aC.cons 2 rfl (aC.cons 6 rfl (aC.cons 7 rfl (aC.cons 8 rfl (aC.cons 12 rfl (aC.cons 115 rfl aC.nil)))))))) ⟨aR _,hpi,hPF.symm⟩ ?_;rintro ⟨d,L3⟩ ⟨hd,IH,zf⟩
     dsimp only at hd IH zf⊢
     have hl3:=sJ IH.ok
     refine g6 ?_;refine St.cq (λPr=> ?_) (λPr=> ?_)
     ·obtain⟨rd,hrd⟩:=aE (show d<z.ranks.length by omega)
      have am6:rd≤x1.done.length:=Se.rks rd (ab hrd)
      have hgd:(gV z).ranks.getD d 0=rd:=by show z.ranks.getD d 0=rd;rw[ak,hrd];rfl
      obtain⟨r1,r2⟩:=Ks (d:=d) Se;rw[hgd]at r1 r2
      have hD2:x1.done.length+1+k9 (⟨its.map bV,R,X⟩:cH) e≤262:=by omega
      refine g14 ?_;refine St.fE (G2 z.rv.1 (bC z.ranks) (by omega)) aiI (.bB rfl) rfl ?_;rintro am7 _ ⟨u1,rfl,rfl⟩;refine St.fk ?_;refine g8 ?_;refine St.ee (Ev.cB (.mk rfl) eN trivial (by omega) (kQ (dD hrd))) ?_;refine go ?_;refine St.slot 126 (iv ((rd+1:Nat):Int)) rfl (congrArg iv (by push_cast;rfl)) ?_;refine go ?_;refine St.bj (.mk rfl) (.mk rfl) eJ rfl (by omega) (by decide) ?_;refine St.aO u1.1 (show _=(bC (z.ranks.set d (rd+1))).length by rw[cR,cR,cG]) (show _=rows aL (bC (z.ranks.set d (rd+1)))from C5 _ _ _) ?_;refine St.bZ u1.1 aL (bC (z.ranks.set d (rd+1))) rfl rfl (λq hq=>by obtain⟨i,hi,rfl⟩:=ct.1 hq;have h2:=r2 i hi;show bP _;unfold bP;omega) ?_;refine g2 ?_;refine St.join (ι:=List ir) (λL5 T=>T) (λL5=>(row (.slice (some ⟨bn,0,none⟩) m0 cp) 194 3 (L5).length (rows eG (L5))::aF (fO bl [rv.1,xv.1,dQ.1,(.slice (some ⟨bn,0,none⟩) m0 cp)])::aF (sl aL rv.1 R)::aF (sl aL xv.1 X)::aF (sl dX dQ.1 its)::aF (aI cW its)::aF (sl lR y.wv.1 y.bx)::aF (cW y)::aF (sl aL z.rv.1 (bC z.ranks))::aX b6 (.cells [iv 0,(.slice none 0 0),iv 0,iv 0,(.slice none 0 0)].toArray 71 (0,0))::aX IA (.cells [iv z.rk.wt,z.rk.cv.1,iv z.rk.tree.rule,iv z.rk.tree.lex,z.rk.tree.kv.1,iv (z.fA:Nat),z.rv.1].toArray 196 (0,0))::(ax (jY 71 196) L5))) (λL5=>L5.map ek=ze (⟨its.map bV,R,X⟩:cH) (ej (⟨its.map bV,R,X⟩:cH) f) e (gV z) d (L3.map ek)) (aC.cons 0 rfl (aC.cons 1 rfl (aC.cons 2 rfl (aC.cons 6 rfl (aC.cons 7 rfl (aC.cons 8 rfl (aC.cons 12 rfl (aC.cons 13 rfl (aC.cons 115 rfl (aC.cons 116 rfl aC.nil)))))))))) ?_ ?_
      ·refine g7 ?_
       refine St.pN (ds:=[fO bl [rv.1,xv.1,dQ.1,(.slice (some ⟨bn,0,none⟩) m0 cp)],sl aL rv.1 R,sl aL xv.1 X,sl dX dQ.1 its,aI cW its,sl aL (u1:aY).1 (bC (z.ranks.set d (rd+1)))]) (L:=[row (.slice (some ⟨bn,0,none⟩) m0 cp) 194 3 (L3).length (rows eG (L3))]) (X:=ax (jY 71 196) L3) (post:=λv L' X'=>∃(L4:List ir) (cc:kP) (o:Bool),mU (⟨its.map bV,R,X⟩:cH) (ej (⟨its.map bV,R,X⟩:cH) f) (L3.map ek) e z.fA (z.ranks.set d (rd+1))=(L4.map ek,if o then some (gV cc)else none)∧v= .tuple #[Fy cc,.bool o]∧L'=[row (.slice (some ⟨bn,0,none⟩) m0 cp) 194 3 (L4).length (rows eG (L4)),aF (gB cc)]∧X'=ax (jY 71 196) L4) ((wD bl bn m0 cp rv xv dQ R X its hB f VP e z.fA ((x1.done.length+1)) (u1) (z.ranks.set d (rd+1)) L3 he qi Se.fA r1 r2 hD2 IH.ok).mono (λv H' ⟨L4,cc,o,a1,a2,a3⟩=>⟨[_,_],_,a3,L4,cc,o,a1,a2,rfl,rfl⟩)) aeF (.om rfl rfl rfl rfl) rfl ?_;rintro aj2 _ _ ⟨L4,cc,o,Gv,rfl,rfl,rfl⟩;refine St.lZ ?_
       have hco:=DS (D:=x1.done.length+1) hB Kk wh qi Se.fA r1 r2 hD2 IH.ok
       have hp5:=Dd (d:=d) hB Kk wh qi Se (by omega) IH
       have Ra:mU (⟨its.map bV,R,X⟩:cH) (ej (⟨its.map bV,R,X⟩:cH) f) (L3.map ek) e (gV z).fA ((gV z).ranks.set d ((gV z).ranks.getD d 0+1))=(L4.map ek,if o then some (gV cc)else none):=by rw[hgd];exact Gv
       have hqf:(mU (⟨its.map bV,R,X⟩:cH) (ej (⟨its.map bV,R,X⟩:cH) f) (L3.map ek) e (gV z).fA ((gV z).ranks.set d (rd+1))).1=L4.map ek:=congrArg Prod.fst Gv
       have aaO:jG (⟨its.map bV,R,X⟩:cH) (L4.map ek):=hqf▸hco.1
       have hl4:=sJ aaO
       obtain⟨x4,hx4⟩:=aE (show e<L4.length by omega);refine g3 ?_;refine St.al (λIL=> ?_);refine St.sA (.mk rfl) (.mk rfl) jB ?_ (h1:=(eO.2 λu hu=>iu.one cc u hu));refine g8 ?_;refine St.cond _ rfl (λQd=> ?_) (λQd=> ?_)
       ·skip
        obtain rfl:o=true:=Qd
        have agP:(x4.next.map gV).length≤qy (⟨its.map bV,R,X⟩:cH) e+3*(x4.done.map mJ).length:=(aaO.nl e _ (eV hx4)).nl
        have akL:(x4.done.map mJ).length+k9 (⟨its.map bV,R,X⟩:cH) e≤262:=(aaO.nl e _ (eV hx4)).dl
        rw[aQ]at agP akL;rw[aQ]at agP;refine St.Kw (L:=L4) (e:=e) 71 196 hx4 ?_;refine St.cx (row (.slice (some ⟨bn,0,none⟩) m0 cp) 194 3 (L4).length (rows eG (L4))::row x4.nv.1 196 7 (x4.next).length (rows iu (x4.next))::aF (aI gB x4.next)::aF (gB cc)::(ax (jY 71 196) (L4.eraseIdx e))) mixed (λnp ns=> ?_);refine SW.gd 0 ?_;refine SW.dd 1 rfl (λ_=>Ev.ju rfl (.mk rfl)) ?_;refine SW.dd 2 rfl (λ_=>Ev.j3 rfl (.mk rfl) ox) ?_;refine SW.slot 140 (dR (.slice (some ⟨bn,0,none⟩) m0 cp) 3 e 1) rfl rfl ?_;refine SW.dd 3 rfl (λ_=>Ev.iface (.mk rfl) Tryz.underlying202 trivial) ?_;refine SW.gd 4 ?_;refine SW.slot 142 (Fy cc) rfl rfl ?_;refine SW.dd 5 rfl (λ_=>Ev.iface (.mk rfl) sj trivial) ?_;refine SW.t1 6 ?_;refine St.call (J5 bn m0 cp e L4 x4 hx4 x4.next (by omega) cc) aiJ (.bH rfl rfl) rfl ?_;rintro am8 _ ⟨u,q2,rfl,wR,pa,rfl⟩;refine St.wG ?_;refine St.aO (.slice (some ⟨bn,0,none⟩) m0 cp) (show _=(L4.set e ⟨⟨x4.dv.1,x4.dv.2⟩,x4.done,⟨u.1,u.2⟩,q2,x4.begun⟩).length by rw[cG,cG]) (show _=rows eG (L4.set e ⟨⟨x4.dv.1,x4.dv.2⟩,x4.done,⟨u.1,u.2⟩,q2,x4.begun⟩)from rfl) ?_;refine g2 ?_;refine SW.go ?_;refine SW.dn ?_;refine go ?_;refine St.VS (L:=L4) (e:=e) 71 196 (x4.dv.1) (x4.dv.2) (x4.done) (u.1) (u.2) (q2) (x4.begun) (by omega) ?_;refine St.mE (L4.set e ⟨⟨x4.dv.1,x4.dv.2⟩,x4.done,⟨u.1,u.2⟩,q2,x4.begun⟩) (by rw[Mn Ra (eV hx4),ia];show(L4.map ek).set e (⟨_,q2.map gV,_⟩:wB)=_;rw[wR];rfl)
       ·skip
        obtain rfl:o=false:=Qd;refine g2 ?_;refine St.mE L4 (by rw[Ml Ra])
      ·intro L5 hL5
       have hp5:=Dd (d:=d) hB Kk wh qi Se (by omega) IH
       rw[←hL5]at hp5;refine g6 ?_;refine St.ee (Ev.ld1 (.mk rfl) (dD hrd) eN trivial rfl) ?_;refine g3 ?_;refine St.cq (λZA=> ?_) (λZA=> ?_)
       ·have akM:L5.map ek=PF:=by rw[←zf,GN hrd,aB (by omega)];exact hL5
        refine g7 ?_;refine St.aH ⟨m-1,L5⟩ ⟨u6 hp5,by rw[akM,←VV];exact Y5,λx hx=>by obtain⟨x',Mx,I7,_⟩:=hp5.at_;rw[eV hx]at Mx;obtain rfl:=Option.some.inj Mx;have I7:(x.done.map mJ).length=x1.done.length+1:=I7;rw[aQ]at I7;dsimp only;omega⟩
       ·refine g8 ?_
        refine St.aH ⟨d+1,L5⟩ ⟨by omega,hp5,by rw[←zf,GN hrd];dsimp only;rw[aA (by omega),←hL5]⟩
     ·obtain rfl:d=z.ranks.length:=by omega
      rw[fJ]at zf
      have zf:L3.map ek=PF:=zf
      refine g6 ?_;refine St.aH ⟨m-1,L3⟩ ⟨u6 IH,by rw[zf,←VV];exact Y5,λx hx=>by obtain⟨x',Mx,I7,_⟩:=IH.at_;rw[eV hx]at Mx;obtain rfl:=Option.some.inj Mx;have I7:(x.done.map mJ).length=x1.done.length+1:=I7;rw[aQ]at I7;dsimp only;omega⟩
   ·have h0n:¬0<x1.next.length:=by omega
    refine g7 ?_
    have ke:tj (⟨its.map bV,R,X⟩:cH) (ej (⟨its.map bV,R,X⟩:cH) f) e r (r+1) (zM (⟨its.map bV,R,X⟩:cH) (ej (⟨its.map bV,R,X⟩:cH) f) e (L.map ek))=L1.map ek:=by rw[←Y5];exact C1 (eV qf) (λh=>by have h1:(x1.done.map mJ).length≤r:=h.1;have h2:0<(x1.next.map gV).length:=h.2;rw[aQ]at h1 h2;first|exact Rb h1|exact h0n h2)
    have s6:=C6 (⟨its.map bV,R,X⟩:cH) f (L.map ek) e r ke (eV qf)
    refine g3 ?_;refine St.ee (Ev.ju rfl (.mk rfl)) ?_;refine St.ee (Ev.j3 rfl (.mk rfl) mr) ?_;refine St.slot 155 (dR (.slice (some ⟨bn,0,none⟩) m0 cp) 3 e 0) rfl rfl ?_;refine St.ee (Ev.cB (.mk rfl) o3 trivial (by omega) (show(rows eG L1)[e*3+0]?=some x1.dv.1 from tq qf (by decide))) ?_;refine g4 ?_;refine St.cq (λaaP=> ?_) (λaaP=> ?_)
    ·have Rc:(ek x1).done[r]?=none:=by show(x1.done.map mJ)[r]?=none;rw[fY];rw[aQ];omega
     rw[Rc]at s6;refine g2 ?_;refine St.ee (Ev.build (bF.nil) (λw=>P9 w)) ?_;refine St.slot 159 (.agg #[iv 0,(.slice none 0 0),iv 0,iv 0,(.slice none 0 0)]) rfl rfl ?_;refine go ?_;refine St.fq aL ?_;refine St.fact (bM (.mk 0 0 bK [])) (λρ _ _=>qO _ _ _) ?_;refine St.eT (oE Kv) [sl aL (.slice none 0 0) [],bM (.mk 0 0 bK [])] (λρ h=>h) ?_;refine St.Dg (L:=L1) (e:=e) 71 196 qf ?_;refine g5 ?_;refine St.rV [_,_] (row (.slice (some ⟨bn,0,none⟩) m0 cp) 194 3 (L1).length (rows eG (L1))::aF (oE Kv)::(ax (jY 71 196) L1)) ?_;exact⟨L1,Kv,false,s6,rfl,rfl⟩
    ·obtain⟨kk,l8⟩:=aE (show r<x1.done.length by omega)
     have Re:(ek x1).done[r]?=some (mJ kk):=by show(x1.done.map mJ)[r]?=_;rw[bE,l8];rfl
     rw[Re]at s6;refine St.eT (oE kk) [aI oE x1.done] (λρ h=>h (aI oE x1.done) (aU ..) kk (ab l8)) ?_;refine g5 ?_;refine St.ee (Ev.ju rfl (.mk rfl)) ?_;refine St.ee (Ev.j3 rfl (.mk rfl) mr) ?_;refine St.slot 162 (dR (.slice (some ⟨bn,0,none⟩) m0 cp) 3 e 0) rfl rfl ?_;refine St.ee (Ev.cB (.mk rfl) o3 trivial (by omega) (show(rows eG L1)[e*3+0]?=some x1.dv.1 from tq qf (by decide))) ?_;refine g2 ?_;refine St.ee (Ev.uh (R:=MX) (.mk rfl) l8 HW trivial uj (by omega)) ?_;refine St.slot 166 (jf kk) rfl rfl ?_;refine St.sA (.mk rfl) (.mk rfl) uj ?_ (h1:=(eO.2 λu hu=>MX.one kk u hu));refine St.Dg (L:=L1) (e:=e) 71 196 qf ?_;refine g4 ?_;refine St.rV [_,_] (row (.slice (some ⟨bn,0,none⟩) m0 cp) 194 3 (L1).length (rows eG (L1))::aF (oE kk)::(ax (jY 71 196) L1)) ?_;exact⟨L1,kk,true,s6,rfl,rfl⟩
  ·have Rb:¬x1.done.length≤r:=by have:=iT aaN;omega
   refine St.ag rfl rfl rfl ?_;refine St.ag rfl rfl rfl ?_;refine St.ag rfl rfl rfl ?_;refine St.ag rfl rfl rfl ?_;refine St.ag rfl rfl rfl ?_;refine St.ag rfl rfl rfl ?_;refine St.ee (Ev.ec (.mk rfl) rfl (.mk rfl)) ?_;refine g2 ?_;refine St.pF _ rfl rfl ?_;refine g7 ?_
   have ke:tj (⟨its.map bV,R,X⟩:cH) (ej (⟨its.map bV,R,X⟩:cH) f) e r (r+1) (zM (⟨its.map bV,R,X⟩:cH) (ej (⟨its.map bV,R,X⟩:cH) f) e (L.map ek))=L1.map ek:=by rw[←Y5];exact C1 (eV qf) (λh=>by have h1:(x1.done.map mJ).length≤r:=h.1;have h2:0<(x1.next.map gV).length:=h.2;rw[aQ]at h1 h2;first|exact Rb h1|exact h0n h2)
   have s6:=C6 (⟨its.map bV,R,X⟩:cH) f (L.map ek) e r ke (eV qf)
   refine g3 ?_;refine St.ee (Ev.ju rfl (.mk rfl)) ?_;refine St.ee (Ev.j3 rfl (.mk rfl) mr) ?_;refine St.slot 155 (dR (.slice (some ⟨bn,0,none⟩) m0 cp) 3 e 0) rfl rfl ?_;refine St.ee (Ev.cB (.mk rfl) o3 trivial (by omega) (show(rows eG L1)[e*3+0]?=some x1.dv.1 from tq qf (by decide))) ?_;refine g4 ?_;refine St.cq (λaaP=> ?_) (λaaP=> ?_)
   ·have Rc:(ek x1).done[r]?=none:=by show(x1.done.map mJ)[r]?=none;rw[fY];rw[aQ];omega
    rw[Rc]at s6;refine g2 ?_;refine St.ee (Ev.build (bF.nil) (λw=>P9 w)) ?_;refine St.slot 159 (.agg #[iv 0,(.slice none 0 0),iv 0,iv 0,(.slice none 0 0)]) rfl rfl ?_;refine go ?_;refine St.fq aL ?_;refine St.fact (bM (.mk 0 0 bK [])) (λρ _ _=>qO _ _ _) ?_;refine St.eT (oE Kv) [sl aL (.slice none 0 0) [],bM (.mk 0 0 bK [])] (λρ h=>h) ?_;refine St.Dg (L:=L1) (e:=e) 71 196 qf ?_;refine g5 ?_;refine St.rV [_,_] (row (.slice (some ⟨bn,0,none⟩) m0 cp) 194 3 (L1).length (rows eG (L1))::aF (oE Kv)::(ax (jY 71 196) L1)) ?_;exact⟨L1,Kv,false,s6,rfl,rfl⟩
   ·obtain⟨kk,l8⟩:=aE (show r<x1.done.length by omega)
    have Re:(ek x1).done[r]?=some (mJ kk):=by show(x1.done.map mJ)[r]?=_;rw[bE,l8];rfl
    rw[Re]at s6;refine St.eT (oE kk) [aI oE x1.done] (λρ h=>h (aI oE x1.done) (aU ..) kk (ab l8)) ?_;refine g5 ?_;refine St.ee (Ev.ju rfl (.mk rfl)) ?_;refine St.ee (Ev.j3 rfl (.mk rfl) mr) ?_;refine St.slot 162 (dR (.slice (some ⟨bn,0,none⟩) m0 cp) 3 e 0) rfl rfl ?_;refine St.ee (Ev.cB (.mk rfl) o3 trivial (by omega) (show(rows eG L1)[e*3+0]?=some x1.dv.1 from tq qf (by decide))) ?_;refine g2 ?_;refine St.ee (Ev.uh (R:=MX) (.mk rfl) l8 HW trivial uj (by omega)) ?_;refine St.slot 166 (jf kk) rfl rfl ?_;refine St.sA (.mk rfl) (.mk rfl) uj ?_ (h1:=(eO.2 λu hu=>MX.one kk u hu));refine St.Dg (L:=L1) (e:=e) 71 196 qf ?_;refine g4 ?_;refine St.rV [_,_] (row (.slice (some ⟨bn,0,none⟩) m0 cp) 194 3 (L1).length (rows eG (L1))::aF (oE kk)::(ax (jY 71 196) L1)) ?_;exact⟨L1,kk,true,s6,rfl,rfl⟩
end Go.Proofs.YtblifkgpebebmaaGreatDoor
namespace Go.J
open Go
variable {P:Program}{n:Nat}{F:Fr}{A:World→Prop}{t:TypeId}{ty:TypeId}{x lo hi:Operand}{s:bI}
theorem Ev.VW {i j:Int}{k k':IntKind}{l m:Nat}(hx:aZ F x (sv s))(hlo:aZ F lo (.int k i))(hhi:aZ F hi (.int k' j))(ht:P.underlying t=some .string)(JT:i=l)(hj:j=m)(hl:l≤m∧m≤s.length):Ev P n F A (.slice t x (some lo) (some hi) none) ty (sv ((s.take m).drop l)):= .of_run λa w ha _=>by
 subst JT hj
 have:=run_slice_string (P:=P) w t ⟨s.toArray⟩ k k' l m ht (by omega) (by omega) (by rw[yC];omega)
 rw[Dv,Dv,vn]at this
 simp only[sv]at this⊢
 simp[execOp,hx.eval ha,hlo.eval ha,hhi.eval ha,Instr.sliceAt,run_underlying ht,this,sv]
end Go.J
namespace Go.Proofs.YtblifkgpebebmaaGreatDoor
open Go Go.J Tryz
open Go.Lib
abbrev Tk0:=Nat×Nat×Nat×bI
def r5:Rp Tk0:=⟨4,by decide,λt=>[iv (t.1:Nat),iv (t.2.1:Nat),iv (t.2.2.1:Nat),sv t.2.2.2],λ_=>True,λ_=>rfl,λt u h=>bL rfl (bL rfl (bL rfl (bL rfl λ_ h=>by cases h))) u h⟩
instance (t:Tk0):iY r5 t [iv (t.1:Nat),iv (t.2.1:Nat),iv (t.2.2.1:Nat),sv t.2.2.2]:=⟨rfl⟩
def VX (l:List Nat)(i:Nat):Bool:=(l[i]?).elim false λc=>decide (cls c=2)||decide (cls c=3)
def vU (l:List Nat)(i:Nat):Bool:=(l[i]?).elim false λc=>decide (cls c=4)
theorem Rf {l:List Nat}{i c:Nat}(h:l[i]?=some c):VX l i=(decide (cls c=2)||decide (cls c=3)):=by unfold VX;rw[h];rfl
theorem Kx {l:List Nat}{i:Nat}(h:l.length≤i):VX l i=false:=by unfold VX;rw[fY h];rfl
theorem Ky {l:List Nat}{i c:Nat}(h:l[i]?=some c):vU l i=decide (cls c=4):=by unfold vU;rw[h];rfl
theorem GO {l:List Nat}{i:Nat}(h:l.length≤i):vU l i=false:=by unfold vU;rw[fY h];rfl
theorem head_drop (l:List Nat)(i:Nat):(l.drop i).head?=l[i]?:=by rw[List.head?_drop]
theorem GP {l:List Nat}{j x:Nat}(h:l[j]?=some x):wdB x (l.drop (j+1))=(VX l j||((decide (x=45)||decide (x=39))&&(l[j+1]?).elim false λy=>decide (cls y=2))):=by
 unfold wdB;rw[head_drop,Rf h,uF]
 cases l[j+1]? with
 |none=>simp
 |some y=>simp
theorem GQ {l:List Nat}{j x:Nat}(h:l[j]?=some x):dgB x (l.drop (j+1))=(vU l j||((decide (x=46)||decide (x=44))&&vU l (j+1))):=by
 unfold dgB;rw[head_drop,Ky h,uF];unfold vU
 cases l[j+1]? with
 |none=>simp
 |some y=>simp
theorem XS {l:List Nat}{j x:Nat}(h:l[j]?=some x)(hb:VX l j=true∨∃y,l[j+1]?=some y∧(x=45∨x=39)∧cls y=2):Dl (l.drop j)=Dl (l.drop (j+1))+1:=by
 rw[an h,Dl,aB];rw[GP h]
 rcases hb with hb|⟨y,h1,h2,h3⟩
 ·rw[hb];rfl
 ·rw[h1];simp[h2,h3]
theorem Kz {l:List Nat}{j:Nat}(h:VX l j=false)(h2:∀x y,l[j]?=some x→l[j+1]?=some y→¬((x=45∨x=39)∧cls y=2)):Dl (l.drop j)=0:=by
 cases e:l[j]? with
 |none=>rw[fX (List.getElem?_eq_none_iff.1 e)];rfl
 |some x=>
  rw[an e,Dl,aA];rw[GP e,h]
  cases e2:l[j+1]? with
  |none=>simp
  |some y=>have h3:=h2 x y e e2;simpa using h3
theorem XT {l:List Nat}{j x:Nat}(h:l[j]?=some x)(hb:vU l j=true∨((x=46∨x=44)∧vU l (j+1)=true)):Dm (l.drop j)=Dm (l.drop (j+1))+1:=by
 rw[an h,Dm,aB];rw[GQ h]
 rcases hb with hb|⟨h2,h3⟩
 ·rw[hb];rfl
 ·rw[h3];simp[h2]
theorem L0 {l:List Nat}{j:Nat}(h:vU l j=false)(h2:∀x,l[j]?=some x→¬((x=46∨x=44)∧vU l (j+1)=true)):Dm (l.drop j)=0:=by
 cases e:l[j]? with
 |none=>rw[fX (List.getElem?_eq_none_iff.1 e)];rfl
 |some x=>
  rw[an e,Dm,aA];rw[GQ e,h]
  have h3:=h2 x e
  simpa using h3
theorem aaQ {l:List Nat}{j:Nat}(h:VX l j=true):j<l.length:=by
 rcases e7 j l.length with h2|h2
 ·exact h2
 ·rw[Kx h2]at h;cases h
theorem VY {l:List Nat}{j:Nat}(h:vU l j=true):j<l.length:=by
 rcases e7 j l.length with h2|h2
 ·exact h2
 ·rw[GO h2]at h;cases h
def L6 (l:List Nat)(i:Nat):List Nat:=(List.range (l.length+1)).map λj=>if j≤i then gg (l.take j)else 0
theorem Rg (l:List Nat):bC (L6 l 0)=List.replicate (l.length+1) (0:Int):=by
 rw[bC,List.eq_replicate_iff];refine⟨by rw[aQ];unfold L6;rw[aQ,iJ],λb hb=> ?_⟩;obtain⟨x,hx,rfl⟩:=ct.1 hb;obtain⟨j,_,rfl⟩:=ct.1 hx
 split
 ·rename_i h;obtain rfl:j=0:=by omega
  rfl
 ·rfl
theorem zg {l:List Nat}{i j:Nat}(h:j≤i)(hl:j≤l.length):(L6 l i)[j]?=some (gg (l.take j)):=by
 unfold L6;rw[bE,kg (by omega),Option.map_some,aB h]
theorem VZ {l:List Nat}{i:Nat}:(rows aL (bC (L6 l i))).set ((i+1)*1+0) (iv ((gg (l.take (i+1)):Nat):Int))=rows aL (bC (L6 l (i+1))):=by
 rw[gN]
 congr 1
 rw[bC,bC,←ia]
 congr 1
 apply nV
 intro j;unfold L6;rw[List.getElem?_set,aQ,iJ,bE,bE]
 by_cases hj:j<l.length+1
 ·rw[kg hj,Option.map_some,Option.map_some]
  by_cases e:i+1=j
  ·subst e;rw[aB rfl,aB hj,aB (aW _)]
  ·rw[aA e]
   by_cases h2:j≤i
   ·rw[aB h2,aB (by omega)]
   ·rw[aA h2,aA (by omega)]
 ·rw[fY (by rw[iJ];omega)]
  by_cases e:i+1=j
  ·subst e;rw[aB rfl,aA hj];rfl
  ·rw[aA e];rfl
theorem L7 {s:bI}{l:List Nat}{c0:Int×Int}(h:jo s=(l,c0))(hc:c0.1≠0):gU s=([],c0):=by unfold gU;rw[h,aB hc]
theorem Rh {s:bI}{l:List Nat}(h:jo s=(l,(0,0)))(hc:300<(nK l.length 0 l).length):gU s=([],2,-1):=by unfold gU;rw[h,aA (λe=>e rfl),aB hc]
theorem aaR {s:bI}{l:List Nat}(h:jo s=(l,(0,0)))(hc:¬300<(nK l.length 0 l).length):gU s=((nK l.length 0 l).map (YD s l),0,0):=by unfold gU;rw[h,aA (λe=>e rfl),aA hc]
theorem Va {c:Nat}{r:List Nat}(h:cls c=2):jF c r=(1,Dl r+1):=by unfold jF;rw[aB h]
theorem Vb {c:Nat}{r:List Nat}(h:cls c=4):jF c r=(2,Dm r+1):=by unfold jF;rw[aA (by omega),aB h]
theorem Vc {c:Nat}{r:List Nat}(h:cls c=6):jF c r=(3,1):=by unfold jF;rw[aA (by omega),aA (by omega),aB h]
theorem Vd {c:Nat}{r:List Nat}(h2:cls c≠2)(h4:cls c≠4)(h6:cls c≠6):jF c r=(4,1):=by unfold jF;rw[aA h2,aA h4,aA h6]
theorem GR (b:Nat)(lv:aY)(l:List Nat)(Ve:∀x∈l,wM x=true)(i:Nat):dA Tryz.prog 21 ([iv (i:Nat)]++ [Value.pointer (some ⟨b,0,none⟩)]).toArray [oW b lv.1,sl aL lv.1 (bC l)] (.bool (VX l i)):=by
 refine dA.mZ (args:=[iv (i:Nat)]++ [Value.pointer (some ⟨b,0,none⟩)]) 24 Tryz.func21 rfl Tryz.ntmps21 rfl (λc=> ?_);refine go ?_
 have KC:=cR l
 refine g11 ?_;refine St.split 8 _ rfl (λhs8=> ?_) (λhs8=> ?_)
 ·simp only[br]at hs8
  obtain⟨x,hx⟩:=aE (show i<l.length by omega)
  have hxs:=Ve x (ab hx)
  refine St.aa rfl rfl ?_;refine go ?_;refine St.aa rfl rfl ?_;refine go ?_;refine St.aa rfl rfl ?_;refine go ?_;refine St.aa rfl rfl ?_;refine St.ee (Ev.ld1 (.mk rfl) (dD hx) eN trivial rfl) ?_;refine St.aa rfl rfl ?_;refine St.ee (Ev.call (jX x hxs) PB (.bB rfl)) ?_;refine St.aa rfl rfl ?_;refine go ?_;refine St.aa rfl rfl ?_;refine go ?_;refine St.gf _ rfl rfl (λhg=>Ev.EC (.mk rfl) cI trivial) rfl ?_;refine St.gf _ rfl rfl (λhg=>Ev.move (.mk rfl)) rfl ?_;refine St.gf _ rfl rfl (λhg=>Ev.cZ (k:=i) (aZ.gv rfl hg) (aZ.gv rfl hg) cI eJ (by first|omega|(simp only[br]at hg;omega)) (by omega)) rfl ?_;refine St.gf _ rfl rfl (λhg=>Ev.ld1 (aZ.gv rfl hg) (dD hx) eN trivial rfl) rfl ?_;refine St.gf _ rfl rfl (λhg=>Ev.call (jX x hxs) PB (.cons (aZ.gv rfl hg) .nil)) rfl ?_;refine St.gf _ rfl rfl (λhg=>Ev.eql (aZ.gv rfl hg) (.mk rfl)) rfl ?_;refine St.aa rfl rfl ?_;refine go ?_;refine St.ee (Ev.eo (.mk rfl) rfl (.mk rfl)) ?_;refine g4 ?_;refine St.rV [_] [] ?_;exact be (by rw[Rf hx,uF];simp only[br];omega)
 ·simp only[br]at hs8
  refine St.ag rfl rfl rfl ?_;refine St.ag rfl rfl rfl ?_;refine St.ag rfl rfl rfl ?_;refine St.ag rfl rfl rfl ?_;refine St.ag rfl rfl rfl ?_;refine St.ag rfl rfl rfl ?_;refine St.ag rfl rfl rfl ?_;refine St.cj rfl rfl rfl ?_;refine St.cj rfl rfl rfl ?_;refine St.cj rfl rfl rfl ?_;refine St.cj rfl rfl rfl ?_;refine St.cj rfl rfl rfl ?_;refine St.cj rfl rfl rfl ?_;refine St.ag rfl rfl rfl ?_;refine St.ee (Ev.ec (.mk rfl) rfl (.mk rfl)) ?_;refine g4 ?_;refine St.rV [_] [] ?_;exact be (Kx (by omega)).symm
theorem zh (b:Nat)(lv:aY)(l:List Nat)(Ve:∀x∈l,wM x=true)(i:Nat):dA Tryz.prog 23 ([iv (i:Nat)]++ [Value.pointer (some ⟨b,0,none⟩)]).toArray [oW b lv.1,sl aL lv.1 (bC l)] (.bool (vU l i)):=by
 refine dA.mZ (args:=[iv (i:Nat)]++ [Value.pointer (some ⟨b,0,none⟩)]) 16 Tryz.func23 rfl Tryz.ntmps23 rfl (λc=> ?_);refine go ?_
 have KC:=cR l
 refine g11 ?_;refine St.split 8 _ rfl (λhs8=> ?_) (λhs8=> ?_)
 ·simp only[br]at hs8
  obtain⟨x,hx⟩:=aE (show i<l.length by omega)
  have hxs:=Ve x (ab hx)
  refine St.aa rfl rfl ?_;refine go ?_;refine St.aa rfl rfl ?_;refine go ?_;refine St.aa rfl rfl ?_;refine go ?_;refine St.aa rfl rfl ?_;refine St.ee (Ev.ld1 (.mk rfl) (dD hx) eN trivial rfl) ?_;refine St.aa rfl rfl ?_;refine St.ee (Ev.call (jX x hxs) PB (.bB rfl)) ?_;refine St.aa rfl rfl ?_;refine go ?_;refine St.ee (Ev.eo (.mk rfl) rfl (.mk rfl)) ?_;refine g4 ?_;refine St.rV [_] [] ?_;exact be (by rw[Ky hx,uF];simp only[br];omega)
 ·simp only[br]at hs8
  refine St.ag rfl rfl rfl ?_;refine St.ag rfl rfl rfl ?_;refine St.ag rfl rfl rfl ?_;refine St.ag rfl rfl rfl ?_;refine St.ag rfl rfl rfl ?_;refine St.ag rfl rfl rfl ?_;refine St.ee (Ev.ec (.mk rfl) rfl (.mk rfl)) ?_;refine g4 ?_;refine St.rV [_] [] ?_;exact be (GO (by omega)).symm
theorem zi (s:bI)(hs:s.length≤9223372036854775807):xT Tryz.prog 8 #[sv s] ([u8].map aF) (λv H'=>∃ov:aY,v= .tuple #[ov.1,fv (gU s).2]∧H'=[aF (sl r5 ov.1 (gU s).1)]):=by
 refine xT.body (args:=[sv s]) 166 Tryz.func8 rfl Tryz.ntmps8 rfl (λc lf=> ?_);refine St.cast (H':=[aF (u8)]) rfl ?_;refine go ?_
 obtain⟨l,c0,XU⟩:∃l c0,jo s=(l,c0):=⟨_,_,rfl⟩
 have hD:=G1 s hs
 rw[XU]at hD
 dsimp only at hD
 have hcz:c0.1=0→c0.2=0:=λh=>by have:=(Ci (s:=s) (by rw[XU];exact h)).2.1;rw[XU]at this;rw[show c0=(0,0)from this]
 refine g2 ?_;refine St.al (λb3=> ?_);refine g5 ?_;refine St.pe lf hD aiV (.bB rfl) rfl ?_;rintro v17 _ ⟨lv,rfl,rfl⟩;refine St.fk ?_;refine g3 ?_;refine St.slot 19 (fv c0) rfl rfl ?_;refine St.al (λb4=> ?_);refine St.al (λb5=> ?_);refine St.cO (.mk rfl) (.mk rfl) kY lv.2 (by rfl) ?_;refine g7 ?_;refine St.ee (Ev.build (bF.nil) (λw=>fL w)) ?_;refine St.ee (Ev.lL (.mk rfl) (.mk rfl) Tryz.eqGuardType35 (λw=>yQ _ _ _ _ w)) ?_;refine g2 ?_;refine St.cq (λyU=> ?_) (λyU=> ?_)
 ·have Vf:=L7 XU (show c0.1≠0 by omega)
  refine go ?_;refine St.sZ [b3] mixed (λnp ns=> ?_);refine SW.gd 0 ?_;refine SW.gd 1 ?_;refine SW.t1 2 ?_;refine g3 ?_;refine SW.go ?_;refine SW.dn ?_;refine g3 ?_;refine St.fq r5 ?_;refine St.rV [_,_] [aF (sl r5 (.slice none 0 0) [])] ?_;exact⟨bK,by rw[Vf];rfl,by rw[Vf]⟩
 ·obtain rfl:c0=(0,0):=Prod.ext (show c0.1=0 by omega) (show c0.2=0 by omega)
  obtain⟨h4k,_,iX⟩:=Ci (s:=s) (by rw[XU]);rw[XU]at iX
  dsimp only at iX
  have MO:=iX.len
  have UE:=yB l
  have Ve:=iX.wM
  have KC:=cR l
  refine St.ED b4 ?_;refine g7 ?_;refine St.pg (m:=(l.length+1)) (.mk rfl) (.mk rfl) cI eJ jA wO (by omega) (by omega) (by omega) rfl rfl (λDt=> ?_);refine St.aO (.slice (some ⟨Dt,0,none⟩) (l.length+1) (l.length+1)) rfl (show _=rows aL (bC (L6 l 0)) by rw[Rg];exact tX _) ?_;refine g12 ?_;refine St.lH (ι:=Nat) (λi T=>(30,iv i)::T) (λi=>[row (.slice (some ⟨Dt,0,none⟩) (l.length+1) (l.length+1)) 3 1 (l.length+1) (rows aL (bC (L6 l (i)))),aX b3 (.cells [iv 0,iv 0].toArray 35 (0,0)),aF (oW b4 lv.1),aF (sl aL lv.1 (bC l)),aF u8]) (λi=>i≤l.length) (λi=>l.length-i) 0 (aC.cons 0 rfl (aC.cons 2 rfl (aC.cons 3 rfl (aC.cons 4 rfl (aC.cons 6 rfl (aC.cons 28 rfl (aC.cons 29 rfl aC.nil))))))) (aR _) ?_;intro i hi;refine g6 ?_;refine St.cq (λuq=> ?_) (λuq=> ?_)
  ·obtain⟨p,hp⟩:=aE (show i<l.length by omega)
   have hwi:=oe l i
   have hwp:=Cg p
   have hws:=Lk hp
   refine g8 ?_;refine St.ee (Ev.ld1 (.mk rfl) (dD hp) eN trivial rfl) ?_;refine g4 ?_;refine St.rqs 11 mixed (by kernel_rfl) (by kernel_rfl) (Mm.drawn _ _) ?_;refine g6 ?_;refine Sq.ee (Ev.cB (.mk rfl) eN trivial (by omega) (kQ (dD (zg (aW i) hi)))) ?_;refine go ?_;refine Sq.ee (Ev.call (Iz p) aiW (.bB rfl)) ?_;refine go ?_;refine Sq.slot 44 (iv ((gg (l.take (i+1)):Nat):Int)) rfl (congrArg iv (by rw[hws];omega)) ?_;refine Sq.ee (Ev.dT (k:=(i+1)) (.mk rfl) (.mk rfl) cI eJ (by omega) (by omega)) ?_;refine go ?_;refine St.bj (.mk rfl) (.mk rfl) eJ rfl (by omega) (by decide) ?_;refine St.aO (.slice (some ⟨Dt,0,none⟩) (l.length+1) (l.length+1)) rfl (show _=rows aL (bC (L6 l (i+1)))from VZ) ?_;refine g8 ?_;refine St.aH (i+1) (by omega)
  ·obtain rfl:i=l.length:=by omega
   refine g7 ?_;refine St.ee (Ev.func (.bB rfl)) ?_;refine g5 ?_;refine St.ee (Ev.func (.bB rfl)) ?_;refine g15 ?_;refine St.dc 42 4 ?_;refine St.aO (.slice none 0 0) (show _=([]:List Tk0).length from rfl) (show _=rows r5 []from rfl) ?_;refine St.lH (ι:=Nat×aY×List Tk0) (λ⟨i,ov,out⟩ T=>(12,iv i)::(11,ov.1)::T) (λ⟨i,ov,out⟩=>[row ov.1 42 4 out.length (rows r5 out),row (.slice (some ⟨Dt,0,none⟩) (l.length+1) (l.length+1)) 3 1 (l.length+1) (rows aL (bC (L6 l (l.length)))),aX b3 (.cells [iv 0,iv 0].toArray 35 (0,0)),aF (oW b4 lv.1),aF (sl aL lv.1 (bC l)),aF u8]) (λ⟨i,ov,out⟩=>i≤l.length∧out.length≤300∧∃f,l.length-i≤f∧(nK l.length 0 l).map (YD s l)=out++(nK f i (l.drop i)).map (YD s l)) (λ⟨i,ov,out⟩=>l.length-i) ⟨0,bK,[]⟩ (aC.cons 0 rfl (aC.cons 3 rfl (aC.cons 4 rfl (aC.cons 6 rfl (aC.cons 9 rfl (aC.cons 10 rfl aC.nil)))))) ⟨aR _,aR _,l.length,by omega,rfl⟩ ?_;rintro ⟨i,ov,out⟩ ⟨hi,QU,f,hf,hC⟩
   dsimp only at hi QU hf hC⊢
   refine g9 ?_;refine St.cq (λSH=> ?_) (λSH=> ?_)
   ·obtain⟨c1,kV⟩:=aE (show i<l.length by omega)
    have Sf:=Ve c1 (ab kV)
    obtain⟨f,rfl⟩:∃g,f=g+1:=⟨f-1,by omega⟩
    rw[an kV,nK]at hC
    have Yh:=Jk c1 (l.drop (i+1))
    rw[lT]at Yh;refine g15 ?_;refine St.join (ι:=Nat×Nat) (λ⟨j,kd⟩ T=>(13,iv j)::(14,iv kd)::(12,iv i)::T) (λ⟨j,kd⟩=>[row ov.1 42 4 out.length (rows r5 out),row (.slice (some ⟨Dt,0,none⟩) (l.length+1) (l.length+1)) 3 1 (l.length+1) (rows aL (bC (L6 l (l.length)))),aX b3 (.cells [iv 0,iv 0].toArray 35 (0,0)),aF (oW b4 lv.1),aF (sl aL lv.1 (bC l)),aF u8]) (λ⟨j,kd⟩=>kd=(jF c1 (l.drop (i+1))).1∧j=i+(jF c1 (l.drop (i+1))).2∧cls c1≠5) (aC.cons 0 rfl (aC.cons 3 rfl (aC.cons 4 rfl (aC.cons 6 rfl (aC.cons 9 rfl (aC.cons 10 rfl (aC.cons 11 rfl aC.nil))))))) ?_ ?_
    ·refine g5 ?_
     refine St.ee (Ev.ld1 (.mk rfl) (dD kV) eN trivial rfl) ?_;refine St.ee (Ev.call (jX c1 Sf) PB (.bB rfl)) ?_;refine g9 ?_;refine St.cq (λSI=> ?_) (λSI=> ?_)
     ·rw[aB (by omega)]at hC
      refine g12 ?_;refine St.aH ⟨i+1,ov,out⟩ ⟨by dsimp only;omega,QU,f,by dsimp only;omega,hC⟩
     ·have h5:cls c1≠5:=by omega
      refine g6 ?_;refine St.cq (λI8=> ?_) (λI8=> ?_)
      ·have nS:=Va (r:=l.drop (i+1)) (show cls c1=2 by omega)
       refine g6 ?_;refine St.lH (ι:=Nat) (λj T=>(13,iv j)::T) (λj=>[row ov.1 42 4 out.length (rows r5 out),row (.slice (some ⟨Dt,0,none⟩) (l.length+1) (l.length+1)) 3 1 (l.length+1) (rows aL (bC (L6 l (l.length)))),aX b3 (.cells [iv 0,iv 0].toArray 35 (0,0)),aF (oW b4 lv.1),aF (sl aL lv.1 (bC l)),aF u8]) (λj=>i+1≤j∧j≤l.length∧Dl (l.drop (i+1))=(j-(i+1))+Dl (l.drop j)) (λj=>l.length-j) (i+1) (aC.cons 0 rfl (aC.cons 3 rfl (aC.cons 4 rfl (aC.cons 6 rfl (aC.cons 9 rfl (aC.cons 10 rfl (aC.cons 11 rfl (aC.cons 12 rfl (aC.cons 14 rfl aC.nil))))))))) ⟨aW _,by omega,by omega⟩ ?_;rintro j ⟨hj1,hj2,hw⟩;refine g5 ?_;refine St.ee (Ev.j5 (GR b4 lv l Ve j) aiX (.mk rfl) (.bB rfl)) ?_;refine go ?_;refine St.split 69 _ rfl (λRi=> ?_) (λRi=> ?_)
       ·have LS:=aaQ Ri
        obtain⟨x,hx⟩:=aE LS
        have Kk:=XS hx (.inl Ri)
        refine St.ag rfl rfl rfl ?_;refine St.ag rfl rfl rfl ?_;refine St.ag rfl rfl rfl ?_;refine St.ag rfl rfl rfl ?_;refine St.ag rfl rfl rfl ?_;refine St.ag rfl rfl rfl ?_;refine St.cj rfl rfl rfl ?_;refine St.cj rfl rfl rfl ?_;refine St.cj rfl rfl rfl ?_;refine St.cj rfl rfl rfl ?_;refine St.cj rfl rfl rfl ?_;refine St.cj rfl rfl rfl ?_;refine St.cj rfl rfl rfl ?_;refine St.cj rfl rfl rfl ?_;refine St.cj rfl rfl rfl ?_;refine St.cj rfl rfl rfl ?_;refine St.cj rfl rfl rfl ?_;refine St.cj rfl rfl rfl ?_;refine St.ag rfl rfl rfl ?_;refine St.ag rfl rfl rfl ?_;refine St.cj rfl rfl rfl ?_;refine St.cj rfl rfl rfl ?_;refine St.cj rfl rfl rfl ?_;refine St.cj rfl rfl rfl ?_;refine St.cj rfl rfl rfl ?_;refine St.cj rfl rfl rfl ?_;refine St.cj rfl rfl rfl ?_;refine St.ag rfl rfl rfl ?_;refine St.ee (Ev.eo (.mk rfl) rfl (.mk rfl)) ?_;refine g2 ?_;refine St.Ax _ rfl rfl ?_;refine g10 ?_;refine St.aH (j+1) ⟨by omega,by omega,by omega⟩
       ·refine St.aa rfl rfl ?_
        refine go ?_;refine St.aa rfl rfl ?_;refine go ?_;refine St.aa rfl rfl ?_;refine go ?_;refine St.aa rfl rfl ?_;refine go ?_;refine St.aa rfl rfl ?_;refine go ?_;refine St.aa rfl rfl ?_;refine go ?_;refine St.split 75 _ rfl (λaaS=> ?_) (λaaS=> ?_)
        ·simp only[br]at aaS
         obtain⟨x,hx⟩:=aE (show j<l.length by omega);obtain⟨y,hy⟩:=aE (show j+1<l.length by omega)
         have XE:=Ve y (ab hy)
         refine St.aa rfl rfl ?_;refine go ?_;refine St.aa rfl rfl ?_;refine go ?_;refine St.aa rfl rfl ?_;refine go ?_;refine St.aa rfl rfl ?_;refine St.ee (Ev.ld1 (.mk rfl) (dD hx) eN trivial rfl) ?_;refine St.aa rfl rfl ?_;refine go ?_;refine St.aa rfl rfl ?_;refine go ?_;refine St.gf _ rfl rfl (λhg=>Ev.EC (.mk rfl) cI trivial) rfl ?_;refine St.gf _ rfl rfl (λhg=>Ev.move (.mk rfl)) rfl ?_;refine St.gf _ rfl rfl (λhg=>Ev.cZ (k:=j) (aZ.gv rfl hg) (aZ.gv rfl hg) cI eJ (by first|omega|(simp only[br]at hg;omega)) (by omega)) rfl ?_;refine St.gf _ rfl rfl (λhg=>Ev.ld1 (aZ.gv rfl hg) (dD hx) eN trivial rfl) rfl ?_;refine St.gf _ rfl rfl (λhg=>Ev.eql (aZ.gv rfl hg) (.mk rfl)) rfl ?_;refine St.aa rfl rfl ?_;refine go ?_;refine St.aa rfl rfl ?_;refine St.ee (Ev.eo (.mk rfl) rfl (.mk rfl)) ?_;refine St.aa rfl rfl ?_;refine go ?_;refine St.gt _ rfl rfl (λhg=>Ev.EC (.mk rfl) cI trivial) rfl ?_;refine St.gt _ rfl rfl (λhg=>Ev.move (.mk rfl)) rfl ?_;refine St.gt _ rfl rfl (λhg=>Ev.add (aZ.gv rfl hg) (.mk rfl) (by omega)) rfl ?_;refine St.gt _ rfl rfl (λhg=>Ev.cZ (k:=(j+1)) (aZ.gv rfl hg) (aZ.gv rfl hg) cI eJ (by first|omega|(simp only[br]at hg;omega)) (by omega)) rfl ?_;refine St.gt _ rfl rfl (λhg=>Ev.ld1 (aZ.gv rfl hg) (dD hy) eN trivial rfl) rfl ?_;refine St.gt _ rfl rfl (λhg=>Ev.call (jX y XE) PB (.cons (aZ.gv rfl hg) .nil)) rfl ?_;refine St.gt _ rfl rfl (λhg=>Ev.eql (aZ.gv rfl hg) (.mk rfl)) rfl ?_;refine St.aa rfl rfl ?_;refine go ?_;refine St.ee (Ev.ec (.mk rfl) rfl (.mk rfl)) ?_;refine g2 ?_;refine St.cq (λh98=> ?_) (λh98=> ?_)
         ·have Kk:=XS hx (.inr ⟨y,hy,by omega,by omega⟩)
          refine g10 ?_;refine St.aH (j+1) ⟨by omega,by omega,by omega⟩
         ·have hz:=Kz Ri (λx2 y2 h1 h2=>by rw[hx]at h1;rw[hy]at h2;obtain rfl:=Option.some.inj h1;obtain rfl:=Option.some.inj h2;omega)
          refine g6 ?_;refine St.mE ⟨j,1⟩ ⟨by rw[nS],by rw[nS];dsimp only;omega,h5⟩
        ·simp only[br]at aaS
         have hz:=Kz Ri (λx y _ h2=>absurd (eD.1 h2).1 (by omega))
         refine St.ag rfl rfl rfl ?_;refine St.ag rfl rfl rfl ?_;refine St.ag rfl rfl rfl ?_;refine St.ag rfl rfl rfl ?_;refine St.ag rfl rfl rfl ?_;refine St.ag rfl rfl rfl ?_;refine St.cj rfl rfl rfl ?_;refine St.cj rfl rfl rfl ?_;refine St.cj rfl rfl rfl ?_;refine St.cj rfl rfl rfl ?_;refine St.cj rfl rfl rfl ?_;refine St.ag rfl rfl rfl ?_;refine St.aa rfl rfl ?_;refine St.ee (Ev.ec (.mk rfl) rfl (.mk rfl)) ?_;refine St.aa rfl rfl ?_;refine go ?_;refine St.ag rfl rfl rfl ?_;refine St.ag rfl rfl rfl ?_;refine St.ag rfl rfl rfl ?_;refine St.ag rfl rfl rfl ?_;refine St.ag rfl rfl rfl ?_;refine St.ag rfl rfl rfl ?_;refine St.ag rfl rfl rfl ?_;refine St.aa rfl rfl ?_;refine St.ee (Ev.ec (.mk rfl) rfl (.mk rfl)) ?_;refine St.ee (Ev.ec (.mk rfl) rfl (.mk rfl)) ?_;refine g2 ?_;refine St.pF _ rfl rfl ?_;refine g6 ?_;refine St.mE ⟨j,1⟩ ⟨by rw[nS],by rw[nS];dsimp only;omega,h5⟩
      ·refine g6 ?_
       refine St.cq (λakN=> ?_) (λakN=> ?_)
       ·have nS:=Vb (r:=l.drop (i+1)) (show cls c1=4 by omega)
        refine g6 ?_;refine St.lH (ι:=Nat) (λj T=>(13,iv j)::T) (λj=>[row ov.1 42 4 out.length (rows r5 out),row (.slice (some ⟨Dt,0,none⟩) (l.length+1) (l.length+1)) 3 1 (l.length+1) (rows aL (bC (L6 l (l.length)))),aX b3 (.cells [iv 0,iv 0].toArray 35 (0,0)),aF (oW b4 lv.1),aF (sl aL lv.1 (bC l)),aF u8]) (λj=>i+1≤j∧j≤l.length∧Dm (l.drop (i+1))=(j-(i+1))+Dm (l.drop j)) (λj=>l.length-j) (i+1) (aC.cons 0 rfl (aC.cons 3 rfl (aC.cons 4 rfl (aC.cons 6 rfl (aC.cons 9 rfl (aC.cons 10 rfl (aC.cons 11 rfl (aC.cons 12 rfl (aC.cons 14 rfl aC.nil))))))))) ⟨aW _,by omega,by omega⟩ ?_;rintro j ⟨hj1,hj2,hw⟩;refine g5 ?_;refine St.ee (Ev.j5 (zh b4 lv l Ve j) aeO (.mk rfl) (.bB rfl)) ?_;refine go ?_;refine St.split 106 _ rfl (λGS=> ?_) (λGS=> ?_)
        ·have LS:=VY GS
         obtain⟨x,hx⟩:=aE LS
         have Kk:=XT hx (.inl GS)
         refine St.ag rfl rfl rfl ?_;refine St.ag rfl rfl rfl ?_;refine St.ag rfl rfl rfl ?_;refine St.ag rfl rfl rfl ?_;refine St.ag rfl rfl rfl ?_;refine St.cj rfl rfl rfl ?_;refine St.cj rfl rfl rfl ?_;refine St.cj rfl rfl rfl ?_;refine St.cj rfl rfl rfl ?_;refine St.cj rfl rfl rfl ?_;refine St.cj rfl rfl rfl ?_;refine St.cj rfl rfl rfl ?_;refine St.cj rfl rfl rfl ?_;refine St.cj rfl rfl rfl ?_;refine St.cj rfl rfl rfl ?_;refine St.cj rfl rfl rfl ?_;refine St.cj rfl rfl rfl ?_;refine St.ag rfl rfl rfl ?_;refine St.ag rfl rfl rfl ?_;refine St.cj rfl rfl rfl ?_;refine St.cj rfl rfl rfl ?_;refine St.cj rfl rfl rfl ?_;refine St.cj rfl rfl rfl ?_;refine St.ag rfl rfl rfl ?_;refine St.ee (Ev.eo (.mk rfl) rfl (.mk rfl)) ?_;refine g2 ?_;refine St.Ax _ rfl rfl ?_;refine g10 ?_;refine St.aH (j+1) ⟨by omega,by omega,by omega⟩
        ·refine St.aa rfl rfl ?_
         refine go ?_;refine St.aa rfl rfl ?_;refine go ?_;refine St.aa rfl rfl ?_;refine go ?_;refine St.aa rfl rfl ?_;refine go ?_;refine St.aa rfl rfl ?_;refine go ?_;refine St.split 111 _ rfl (λRj=> ?_) (λRj=> ?_)
         ·simp only[br]at Rj
          obtain⟨x,hx⟩:=aE (show j<l.length by omega);refine St.aa rfl rfl ?_;refine go ?_;refine St.aa rfl rfl ?_;refine go ?_;refine St.aa rfl rfl ?_;refine go ?_;refine St.aa rfl rfl ?_;refine St.ee (Ev.ld1 (.mk rfl) (dD hx) eN trivial rfl) ?_;refine St.aa rfl rfl ?_;refine go ?_;refine St.aa rfl rfl ?_;refine go ?_;refine St.gf _ rfl rfl (λhg=>Ev.EC (.mk rfl) cI trivial) rfl ?_;refine St.gf _ rfl rfl (λhg=>Ev.move (.mk rfl)) rfl ?_;refine St.gf _ rfl rfl (λhg=>Ev.cZ (k:=j) (aZ.gv rfl hg) (aZ.gv rfl hg) cI eJ (by first|omega|(simp only[br]at hg;omega)) (by omega)) rfl ?_;refine St.gf _ rfl rfl (λhg=>Ev.ld1 (aZ.gv rfl hg) (dD hx) eN trivial rfl) rfl ?_;refine St.gf _ rfl rfl (λhg=>Ev.eql (aZ.gv rfl hg) (.mk rfl)) rfl ?_;refine St.aa rfl rfl ?_;refine go ?_;refine St.aa rfl rfl ?_;refine St.ee (Ev.eo (.mk rfl) rfl (.mk rfl)) ?_;refine St.aa rfl rfl ?_;refine go ?_;refine St.gt _ rfl rfl (λhg=>Ev.move (.mk rfl)) rfl ?_;refine St.gt _ rfl rfl (λhg=>Ev.move (.mk rfl)) rfl ?_;refine St.gt _ rfl rfl (λhg=>Ev.add (aZ.gv rfl hg) (.mk rfl) (by omega)) rfl ?_;refine St.gt _ rfl rfl (λhg=>Ev.j5 (zh b4 lv l Ve (j+1)) aeO (aZ.gv rfl hg) (.cons (aZ.gv rfl hg) .nil)) rfl ?_;refine St.aa rfl rfl ?_;refine go ?_;refine St.ee (Ev.ec (.mk rfl) rfl (.mk rfl)) ?_;refine g2 ?_;refine St.cq (λVg=> ?_) (λVg=> ?_)
          ·have Kk:=XT hx (.inr ⟨by omega,Vg.2⟩)
           refine g10 ?_;refine St.aH (j+1) ⟨by omega,by omega,by omega⟩
          ·have hz:=L0 GS (λx2 h1=>by rw[hx]at h1;obtain rfl:=Option.some.inj h1;rintro ⟨q1,q2⟩;rw[q2]at Vg;simp at Vg;omega)
           refine g6 ?_;refine St.mE ⟨j,2⟩ ⟨by rw[nS],by rw[nS];dsimp only;omega,h5⟩
         ·simp only[br]at Rj
          have hz:=L0 GS (λx h2=>absurd (eD.1 h2).1 (by omega))
          refine St.ag rfl rfl rfl ?_;refine St.ag rfl rfl rfl ?_;refine St.ag rfl rfl rfl ?_;refine St.ag rfl rfl rfl ?_;refine St.ag rfl rfl rfl ?_;refine St.ag rfl rfl rfl ?_;refine St.cj rfl rfl rfl ?_;refine St.cj rfl rfl rfl ?_;refine St.cj rfl rfl rfl ?_;refine St.cj rfl rfl rfl ?_;refine St.cj rfl rfl rfl ?_;refine St.ag rfl rfl rfl ?_;refine St.aa rfl rfl ?_;refine St.ee (Ev.ec (.mk rfl) rfl (.mk rfl)) ?_;refine St.aa rfl rfl ?_;refine go ?_;refine St.ag rfl rfl rfl ?_;refine St.ag rfl rfl rfl ?_;refine St.ag rfl rfl rfl ?_;refine St.ag rfl rfl rfl ?_;refine St.aa rfl rfl ?_;refine St.ee (Ev.ec (.mk rfl) rfl (.mk rfl)) ?_;refine St.ee (Ev.ec (.mk rfl) rfl (.mk rfl)) ?_;refine g2 ?_;refine St.pF _ rfl rfl ?_;refine g6 ?_;refine St.mE ⟨j,2⟩ ⟨by rw[nS],by rw[nS];dsimp only;omega,h5⟩
       ·refine g6 ?_
        refine St.cq (λakO=> ?_) (λakO=> ?_)
        ·have nS:=Vc (r:=l.drop (i+1)) (show cls c1=6 by omega)
         refine g5 ?_;refine St.mE ⟨i+1,3⟩ ⟨by rw[nS],by rw[nS],h5⟩
        ·have nS:=Vd (r:=l.drop (i+1)) (show cls c1≠2 by omega) (show cls c1≠4 by omega) (show cls c1≠6 by omega)
         refine g5 ?_;refine St.mE ⟨i+1,4⟩ ⟨by rw[nS],by rw[nS],h5⟩
    ·rintro ⟨j,kd⟩ ⟨XC,hj,h5⟩
     dsimp only at XC hj⊢
     rw[aA h5]at hC;refine g8 ?_;refine St.cq (λakP=> ?_) (λakP=> ?_)
     ·have hCl:=congrArg List.length hC
      rw[bA,aQ,aQ,dy]at hCl
      have Vf:=Rh XU (by omega)
      refine g2 ?_;refine St.ee (Ev.call (iw 2 (-1)) PD (.bH rfl rfl)) ?_;refine g10 ?_;refine St.fq r5 ?_;refine St.rV [_,_] [aF (sl r5 (.slice none 0 0) [])] ?_;exact⟨bK,by rw[Vf];rfl,by rw[Vf]⟩
     ·have hwm:=BC (l:=l) (show i≤j by omega)
      have hwj:=oe l j
      rw[List.drop_drop]at hC
      have CS:i+1+((jF c1 (l.drop (i+1))).2-1)=j:=by omega
      rw[CS,←hj,←XC]at hC;refine g3 ?_;refine St.cx [row ov.1 42 4 out.length (rows r5 out)] mixed (λnp ns=> ?_);refine SW.gd 0 ?_;refine SW.gd 1 ?_;refine SW.gd 2 ?_;refine SW.gd 3 ?_;refine SW.gd 4 ?_;refine SW.dd 5 rfl (λ_=>Ev.cB (.mk rfl) eN trivial (by omega) (kQ (dD (zg (l:=l) (i:=l.length) (j:=i) (by omega) (by omega))))) ?_;refine SW.gd 6 ?_;refine SW.gd 7 ?_;refine SW.gd 8 ?_;refine SW.dd 9 rfl (λ_=>Ev.cB (.mk rfl) eN trivial (by omega) (kQ (dD (zg (l:=l) (i:=l.length) (j:=j) (by omega) (by omega))))) ?_;refine SW.gd 10 ?_;refine SW.gd 11 ?_;refine SW.gd 12 ?_;refine SW.gd 13 ?_;refine SW.dd 14 rfl (λ_=>Ev.cB (.mk rfl) eN trivial (by omega) (kQ (dD (zg (l:=l) (i:=l.length) (j:=i) (by omega) (by omega))))) ?_;refine SW.gd 15 ?_;refine SW.gd 16 ?_;refine SW.gd 17 ?_;refine SW.dd 18 rfl (λ_=>Ev.cB (.mk rfl) eN trivial (by omega) (kQ (dD (zg (l:=l) (i:=l.length) (j:=j) (by omega) (by omega))))) ?_;refine SW.dd 19 rfl (λ_=>Ev.VW (l:=gg (l.take i)) (m:=gg (l.take j)) (.mk rfl) (.mk rfl) (.mk rfl) sK rfl rfl ⟨hwm,by omega⟩) ?_;refine SW.dd 20 rfl (λ_=>Ev.build (ps:=[(0,(.tmp 141)),(1,(.tmp 145)),(2,(.tmp 149)),(3,(.tmp 159))]) (bF.om rfl rfl rfl rfl) (λw=>AG rfl rfl rfl rfl w)) ?_;refine SW.t1 21 ?_;refine St.gb rfl (.bB rfl) HU Ea aeP rfl rfl (by simp[Value.cells]) rfl rfl (λam9=> ?_);refine g2 ?_;refine SW.go ?_;refine SW.t1 22 ?_;refine St.aj (.mk rfl) (.mk rfl) HU Ea aeP aiZ (by simp[Value.oneCell',Value.cells]) (by omega) (by omega) rfl rfl rfl rfl (λv162 alH=> ?_);refine St.aO v162 (show _=(out++ [YD s l (kd,i,j)]).length by rw[bA];rfl) (show _=rows r5 (out++ [YD s l (kd,i,j)]) by rw[aw];rfl) ?_;refine St.bS v162 (λakQ _=> ?_);refine g2 ?_;refine SW.go ?_;refine SW.gd 23 ?_;refine SW.dn ?_;refine g7 ?_;refine St.aH ⟨j,⟨v162,akQ⟩,out++ [YD s l (kd,i,j)]⟩ ⟨by dsimp only;omega,by dsimp only;rw[bA,lU];omega,f,by dsimp only;omega,by dsimp only;rw[hC,eW,cg];rfl⟩
   ·obtain rfl:i=l.length:=by omega
    rw[fX (aW _),show nK f l.length []=[] by cases f<;>rfl,lV,fj]at hC
    have hCl:=congrArg List.length hC
    rw[aQ]at hCl
    have Vf:=aaR XU (by omega)
    rw[hC]at Vf;refine St.bZ ov.1 r5 out rfl rfl (λ_ _=>trivial) ?_;refine g8 ?_;refine St.ee (Ev.build (bF.nil) (λw=>fL w)) ?_;refine g5 ?_;refine St.rV [_,_] [aF (sl r5 ov.1 out)] ?_;exact⟨ov,by rw[Vf];rfl,by rw[Vf]⟩
theorem Vh {w:bI}(h:(gU w).2.1≠1):w.length≤4000:=by
 apply Classical.byContradiction
 intro hw;exact h (by rw[L7 (vR (by omega)) (by decide)])
theorem JE {i:Nat}{ws:List bI}{w:bI}(h:ws[i]?=some w):eY i (ws.drop i)=if(gU w).2.1=1 then([],1,(i:Int))else if Cj w then(og i w++w::(eY (i+1) (ws.drop (i+1))).1,(eY (i+1) (ws.drop (i+1))).2)else([],5,(i:Int)):=by rw[an h,eY]
theorem zj {ws:List bI}(h:300<ws.length):fx ws=([],2,-1):=by unfold fx;rw[aB h]
theorem C7 {ws:List bI}(h:¬300<ws.length){ps:List bI}{c0:Int×Int}(hj:eY 0 ws=(ps,c0))(hc:c0.1≠0):fx ws=([],c0):=by unfold fx;rw[aA h,hj,aB hc]
theorem Mq {ws ps:List bI}(h:¬300<ws.length)(hj:eY 0 ws=(ps,(0,0)))(hc:4000<ps.flatten.length):fx ws=([],1,-1):=by unfold fx;rw[aA h,hj,aA (λe=>e rfl),aB hc]
theorem Rk {ws ps:List bI}(h:¬300<ws.length)(hj:eY 0 ws=(ps,(0,0)))(hc:¬4000<ps.flatten.length):fx ws=(ps.flatten,0,0):=by unfold fx;rw[aA h,hj,aA (λe=>e rfl),aA hc]
theorem JF {ps:List bI}{k:Nat}{p:bI}(h:ps[k]?=some p):(ps.take (k+1)).flatten.length=(ps.take k).flatten.length+p.length:=by
 rw[ai h,List.flatten_append,bA];simp
theorem GU (ps:List bI)(h:∀p∈ps,p.length≤4000):ps.flatten.length≤4000*ps.length:=by
 induction ps with
 |nil=>simp
 |cons p ps ih=>
  have h1:=h p (aU ..)
  have h2:=ih λq hq=>h q (cE _ hq)
  rw[List.flatten_cons,bA,dy];omega
theorem C8 (l:List bI):Lib.join l []=l.flatten:=by
 cases l with
 |nil=>rfl
 |cons x l=>rw[Lib.join_cons];simp[Lib.joinTail]
theorem Mr {ws:List bI}{s:bI}(h:fx ws=(s,0,0)):ws.length≤300:=by
 apply Classical.byContradiction
 intro hn;rw[zj (by omega)]at h
 cases h
theorem Ms {ws:List bI}:(fx ws).1.length≤4000:=by
 unfold fx
 split
 ·exact aR _
 ·split
  ·exact aR _
  ·split
   ·exact aR _
   ·dsimp only;omega
theorem C9 (v0:Value)(ws:List bI):iz Tryz.prog 7 #[v0] [sl dY v0 ws,u8] (.tuple #[sv (fx ws).1,fv (fx ws).2]):=by
 refine iz.body (args:=[v0]) (ds:=[sl dY v0 ws,u8]) 85 Tryz.func7 rfl Tryz.ntmps7 rfl (λc lf=> ?_)
 change St _ _ (Mm c [aF (sl dY v0 ws),aF u8]) _
 refine go ?_;refine St.wf v0 (λvh hlen=> ?_);refine g2 ?_;refine St.al (λb3=> ?_);refine g10 ?_;refine St.cq (λDp=> ?_) (λDp=> ?_)
 ·have L8:=zj (ws:=ws) (by omega)
  refine g2 ?_;refine St.ee (Ev.call (iw 2 (-1)) PD (.bH rfl rfl)) ?_;refine g6 ?_;refine St.rV [_,_] [] ?_;exact(by first|(rw[L8];done)|(rw[L8];rfl))
 ·refine g16 ?_
  refine St.dc 9 1 ?_;refine St.aO (.slice none 0 0) (show _=([]:List bI).length from rfl) (show _=rows dY []from rfl) ?_;refine St.lH (ι:=Nat×aY×List bI) (λ⟨i,ov,ps⟩ T=>(18,iv i)::(4,ov.1)::T) (λ⟨i,ov,ps⟩=>[row ov.1 9 1 ps.length (rows dY ps),aX b3 (.cells [iv 0,iv 0].toArray 35 (0,0)),aF (sl dY v0 ws),aF u8]) (λ⟨i,ov,ps⟩=>i≤ws.length∧ps.length≤2*i∧(∀p∈ps,p.length≤4000)∧eY 0 ws=(ps++(eY i (ws.drop i)).1,(eY i (ws.drop i)).2)) (λ⟨i,ov,ps⟩=>ws.length-i) ⟨0,bK,[]⟩ (aC.cons 3 rfl (aC.cons 16 rfl (aC.cons 17 rfl aC.nil))) ⟨aR _,aR _,λp hp=>(by cases hp),rfl⟩ ?_;rintro ⟨i,ov,ps⟩ ⟨hi,yW,hp4,hJ⟩
  dsimp only at hi yW hp4 hJ⊢
  refine g6 ?_;refine St.cq (λpc=> ?_) (λpc=> ?_)
  ·obtain⟨w,hw⟩:=aE (show i<ws.length by omega)
   have Uf:w.length≤140737488351232:=vh w (ab hw)
   rw[JE hw]at hJ;refine g16 ?_;refine St.pe lf (zi w (by omega)) cb8 (.bB rfl) rfl ?_;rintro v25 _ ⟨tv,rfl,rfl⟩;refine St.fk ?_;refine g3 ?_;refine St.slot 27 (fv (gU w).2) rfl rfl ?_;refine St.al (λb8=> ?_);refine g12 ?_;refine St.cq (λw6=> ?_) (λw6=> ?_)
   ·rw[aB w6]at hJ
    have L8:=C7 (by omega) hJ (show(1:Int)≠0 by decide)
    refine g3 ?_;refine St.ee (Ev.call (iw 1 i) PD (.bH rfl rfl)) ?_;refine g11 ?_;refine St.rV [_,_] [] ?_;exact(by first|(rw[L8];done)|(rw[L8];rfl))
   ·rw[aA w6]at hJ
    have hw4:=Vh w6
    refine g6 ?_;refine St.ee (Ev.build (bF.nil) (λw=>fL w)) ?_;refine St.ee (Ev.lL (.mk rfl) (.mk rfl) Tryz.eqGuardType35 (λw=>yQ _ _ _ _ w)) ?_;refine go ?_;refine St.gf _ rfl rfl (λhg=>Ev.move (.mk rfl)) rfl ?_;refine St.gf _ rfl rfl (λhg=>Ev.fm (aZ.gv rfl hg) HU) rfl ?_;refine St.gf _ rfl rfl (λhg=>Ev.neq (aZ.gv rfl hg) (.mk rfl)) rfl ?_;refine g2 ?_;refine St.gf _ rfl rfl (λhg=>Ev.move (.mk rfl)) rfl ?_;refine St.gf _ rfl rfl (λhg=>Ev.cZ (k:=0) (aZ.gv rfl hg) (.mk rfl) HU Ea (by first|omega|(simp only[br]at hg;omega)) (by first|omega|(simp only[br]at hg;omega))) rfl ?_;refine St.gf _ rfl rfl (λhg=>Ev.JR (aZ.gv rfl hg) (by first|omega|(simp only[br]at hg;omega)) Hq) rfl ?_;refine St.gf _ rfl rfl (λhg=>Ev.ld1 (aZ.gv rfl hg) (uK (0,0,0,[]) (by first|omega|(simp only[br]at hg;omega))) sK trivial rfl) rfl ?_;refine St.gf _ rfl rfl (λhg=>Ev.move (.mk rfl)) rfl ?_;refine St.gf _ rfl rfl (λhg=>Ev.W4 (aZ.gv rfl hg) (aZ.gv rfl hg)) rfl ?_;refine g3 ?_;refine St.cq (λh48=> ?_) (λh48=> ?_)
    ·have ho:Cj w=false:=by unfold Cj;rw[decide_eq_false_iff_not];rintro ⟨q1,q2,q3⟩;simp only[q1,q2,q3]at h48;simp at h48
     rw[ho,aA (by decide)]at hJ
     have L8:=C7 (by omega) hJ (show(5:Int)≠0 by decide)
     refine g3 ?_;refine St.ee (Ev.call (iw 5 i) PD (.bH rfl rfl)) ?_;refine g11 ?_;refine St.rV [_,_] [] ?_;exact(by first|(rw[L8];done)|(rw[L8];rfl))
    ·have ho:Cj w=true:=by unfold Cj;rw[fS];exact⟨Prod.ext (show(gU w).2.1=0 by omega) (show(gU w).2.2=0 by omega),by omega,by simpa using h48.2⟩
     rw[ho,aB rfl]at hJ
     have h1c:(gU w).1.length=1:=(eS ho).2.1
     have jv:(gU w).1.getD 0 (0,0,0,[])=(gU w).1.getD 0 (0,0,0,[]):=rfl
     refine g2 ?_;refine St.join (ι:=aY×List bI) (λ⟨tY,Vi⟩ T=>(4,tY.1)::T) (λ⟨tY,Vi⟩=>[row tY.1 9 1 Vi.length (rows dY Vi),aX b3 (.cells [iv 0,iv 0].toArray 35 (0,0)),aF (sl dY v0 ws),aF u8]) (λ⟨tY,Vi⟩=>Vi=ps++og i w) (aC.cons 3 rfl (aC.cons 6 rfl (aC.cons 16 rfl (aC.cons 17 rfl (aC.cons 18 rfl aC.nil))))) ?_ ?_
     ·refine g5 ?_
      refine St.gt _ rfl rfl (λhg=>Ev.move (.mk rfl)) rfl ?_;refine St.gt _ rfl rfl (λhg=>Ev.cZ (k:=0) (aZ.gv rfl hg) (.mk rfl) HU Ea (by first|omega|(simp only[br]at hg;omega)) (by omega)) rfl ?_;refine St.gt _ rfl rfl (λhg=>Ev.JR (aZ.gv rfl hg) (by first|omega|(simp only[br]at hg;omega)) YZ) rfl ?_;refine St.gt _ rfl rfl (λhg=>Ev.ld1 (aZ.gv rfl hg) (uK (0,0,0,[]) (by omega)) eN trivial rfl) rfl ?_;refine St.gt _ rfl rfl (λhg=>Ev.neq (aZ.gv rfl hg) (.mk rfl)) rfl ?_;refine g3 ?_;refine St.cq (λTy=> ?_) (λTy=> ?_)
      ·have XV:og i w=[[32]]:=by unfold og;rw[aB ⟨by omega,λe=>by have e2:((gU w).1.getD 0 (0,0,0,[])).1=3:=e;omega⟩]
       refine g2 ?_;refine St.gb rfl (.bB rfl) uX TU YK rfl rfl (by simp[Value.cells]) rfl rfl (λb61=> ?_);refine St.aj (.mk rfl) (.mk rfl) uX TU YK by9 (by simp[Value.oneCell',Value.cells]) (by omega) (by omega) rfl rfl rfl rfl (λv62 anA=> ?_);refine St.aO v62 (show _=(ps++ [[32]]).length by rw[bA];rfl) (show _=rows dY (ps++ [[32]]) by rw[aw];rfl) ?_;refine St.bS v62 (λPg _=> ?_);refine g3 ?_;refine St.mE ⟨⟨v62,Pg⟩,ps++ [[32]]⟩ (by rw[XV])
      ·have XV:og i w=[]:=by unfold og;rw[aA];rintro ⟨q1,q2⟩;have q3:((gU w).1.getD 0 (0,0,0,[])).1≠3:=q2;omega
       refine g2 ?_;refine St.mE ⟨ov,ps⟩ (by rw[XV,fj])
     ·rintro ⟨tY,Vi⟩ Vj
      dsimp only at Vj⊢
      have Tx:(og i w).length≤1:=by unfold og;split<;>simp
      have agQ:=congrArg List.length Vj
      rw[bA]at agQ;refine g3 ?_;refine St.gb rfl (.bB rfl) uX TU YK rfl rfl (by simp[Value.cells]) rfl rfl (λb65=> ?_);refine St.aj (.mk rfl) (.mk rfl) uX TU YK by9 (by simp[Value.oneCell',Value.cells]) (by omega) (by omega) rfl rfl rfl rfl (λv66 akR=> ?_);refine St.aO v66 (show _=(Vi++ [w]).length by rw[bA];rfl) (show _=rows dY (Vi++ [w]) by rw[aw];rfl) ?_;refine St.bS v66 (λh66 _=> ?_);refine g9 ?_;refine St.aH ⟨i+1,⟨v66,h66⟩,Vi++ [w]⟩ ⟨by dsimp only;omega,by dsimp only;rw[bA,lU];omega,λp hp=>(by rcases ba.1 hp with hp|hp;rw[Vj]at hp;rcases ba.1 hp with hp|hp;exact hp4 p hp;unfold og at hp;split at hp;rw[bJ.1 hp];decide;cases hp;rw[bJ.1 hp];exact hw4),by dsimp only;rw[hJ,Vj];simp⟩
  ·obtain rfl:i=ws.length:=by omega
   rw[fX (aW _),eY,fj]at hJ
   dsimp only at hJ
   have Ck:=GU ps hp4
   refine St.bZ ov.1 dY ps rfl rfl (λp hp=>by have:=hp4 p hp;show p.length≤140737488351232;omega) ?_;refine g19 ?_;refine St.slot 9 (iv (((ps.take 0).flatten.length:Nat):Int)) rfl rfl ?_;refine St.lH (ι:=Nat) (λk T=>(70,iv k)::(9,iv ((ps.take k).flatten.length:Nat))::T) (λk=>[aX b3 (.cells [iv 0,iv 0].toArray 35 (0,0)),aF (sl dY ov.1 ps),aF (sl dY v0 ws),aF u8]) (λk=>k≤ps.length) (λk=>ps.length-k) 0 (aC.cons 3 rfl (aC.cons 4 rfl (aC.cons 68 rfl (aC.cons 69 rfl aC.nil)))) (aR _) ?_;intro k hk
   have iH:=GU (ps.take k) (λp hp=>hp4 p (xO hp))
   rw[e9]at iH;refine g6 ?_;refine St.cq (λSZ=> ?_) (λSZ=> ?_)
   ·obtain⟨p,hp⟩:=aE (show k<ps.length by omega)
    have Rl:=JF hp
    have anB:=hp4 p (ab hp)
    refine g16 ?_;refine St.slot 77 (iv (((ps.take (k+1)).flatten.length:Nat):Int)) rfl (congrArg iv (by rw[Rl];omega)) ?_;refine g9 ?_;refine St.aH (k+1) (by omega)
   ·obtain rfl:k=ps.length:=by omega
    rw[jy];refine g12 ?_;refine St.cq (λh80=> ?_) (λh80=> ?_)
    ·have L8:=Mq (by omega) hJ (by omega)
     refine g2 ?_;refine St.ee (Ev.call (iw 1 (-1)) PD (.bH rfl rfl)) ?_;refine g6 ?_;refine St.rV [_,_] [] ?_;exact(by first|(rw[L8];done)|(rw[L8];rfl))
    ·have L8:=Rk (by omega) hJ (by omega)
     refine g5 ?_;refine St.ee (Ev.ni lf (Iw ov.1 ps [] (by rw[C8];omega) (by omega)) ai0 (.bH rfl rfl)) ?_;refine St.slot 83 (sv ps.flatten) rfl (by rw[C8]) ?_;refine St.ee (Ev.build (bF.nil) (λw=>fL w)) ?_;refine g5 ?_;refine St.rV [_,_] [] ?_;exact(by first|(rw[L8];done)|(rw[L8];rfl))
theorem Rm {nf nn i:Int}:∀{l:jw} {last:Int},(AD nf nn i last l).1=0→(∀x∈l,last<x.1)∧s7 l∧∀x∈l,(0≤x.1∧x.1<nf)∧0≤x.2∧x.2<nn
 | [],_,_=>⟨λ_ h=>(by cases h),.nil,λ_ h=>(by cases h)⟩
 |x::l,last,h=>by
  rw[AD]at h
  by_cases h1:x.1<0∨nf≤x.1∨x.2<0∨nn≤x.2
  ·rw[aB h1]at h;exact absurd h (by simp)
  rw[aA h1]at h
  by_cases h2:x.1≤last
  ·rw[aB h2]at h;exact absurd h (by simp)
  rw[aA h2]at h;obtain⟨a,b,c⟩:=Rm h;refine⟨λy hy=> ?_,.cons (λy hy=>a y hy) b,λy hy=> ?_⟩
  ·rcases cD.1 hy with rfl|hy
   ·omega
   ·have:=a y hy;omega
  ·rcases cD.1 hy with rfl|hy
   ·omega
   ·exact c y hy
theorem u7 {nt nf nn:Int}:∀{l:dF} {i:Nat},(eC nt nf nn i l).1=0→∀n∈l,(0≤n.1∧n.1<nt)∧s7 n.2∧∀x∈n.2,(0≤x.1∧x.1<nf)∧0≤x.2∧x.2<nn
 | [],_,_,_,h=>by cases h
 |y::l,i,h,n,hn=>by
  rw[eC]at h
  by_cases h1:y.1<0∨nt≤y.1
  ·rw[aB h1]at h;exact absurd h (by simp)
  rw[aA h1]at h
  by_cases h2:(AD nf nn i (-1) y.2).1≠0
  ·rw[aB h2]at h;exact absurd h h2
  rw[aA h2]at h
  rcases cD.1 hn with rfl|hn
  ·obtain⟨_,b,c⟩:=Rm (iR.1 h2)
   exact⟨by omega,b,c⟩
  ·exact u7 h n hn
theorem Rn {nt nf:Nat}{g:dF}(h:(eU nt nf g).1=0):dP nt nf g∧g.length≤60:=by
 unfold eU at h
 by_cases h1:g.length=0∨60<g.length
 ·rw[aB h1]at h;exact absurd h (by simp)
 rw[aA h1]at h;exact⟨⟨by omega,λn hn=>u7 h n hn⟩,by omega⟩
theorem vV {T:List dz}{Fs:List oO}{g:dF}(h:(ca T Fs g).1=0):dP T.length Fs.length g∧g.length≤60:=by
 unfold ca at h
 by_cases h1:(eU T.length Fs.length g).1≠0
 ·rw[aB h1]at h;exact absurd h h1
 ·exact Rn (iR.1 h1)
theorem JG {g:dF}{kids:Int}(h:ml g kids=true)(h3:kids≤3):∀k:Int,0≤k→k≤kids→0≤qp g k:=λk h0 hk=>by
 unfold ml at h
 have:=eO.1 h k.toNat (cy.2 (by omega))
 rw[show((k.toNat:Nat):Int)=k by omega,dH hk]at this
 simpa using this
structure JH (nt nf:Nat)(r:CZ):Prop where
 kids:1≤r.kids∧r.kids≤3
 wt:0≤r.weight∧r.weight≤1000000
 gr:dP nt nf r.graph
 len:r.graph.length≤60
 qp:∀k:Int,0≤k→k≤r.kids→0≤qp r.graph k
structure Rq (nt nf:Nat)(x:HJ):Prop where
 word:isWord x.word=true
 wt:0≤x.weight∧x.weight≤1000000
 gr:dP nt nf x.graph
 len:x.graph.length≤60
structure XW (g:ob):Prop where
 ty:gy g.types
 ft:g.bb.length≤40
 rn:g.rules.length≤40
 xn:g.aN.length≤100
 rule:∀r∈g.rules,JH g.types.length g.bb.length r
 lex:∀x∈g.aN,Rq g.types.length g.bb.length x
 start:dP g.types.length g.bb.length g.start∧g.start.length≤60
theorem Rs {T:List dz}{Fs:List oO}{r:CZ}(h:pK T Fs r=0):JH T.length Fs.length r:=by
 unfold pK at h
 by_cases h1:r.kids<1∨3<r.kids∨r.weight<0∨1000000<r.weight
 ·rw[aB h1]at h;exact absurd h (by decide)
 rw[aA h1]at h
 by_cases h2:(ca T Fs r.graph).1≠0
 ·rw[aB h2]at h;exact absurd h h2
 rw[aA h2]at h
 by_cases h3:ml r.graph r.kids=false
 ·rw[aB h3]at h;exact absurd h (by decide)
 obtain⟨a,b⟩:=vV (iR.1 h2);exact⟨by omega,by omega,a,b,JG (by simpa using h3) (by omega)⟩
theorem Vk {T:List dz}{Fs:List oO}{x:HJ}(h:wL T Fs x=0):Rq T.length Fs.length x:=by
 unfold wL at h
 by_cases h0:isWord x.word=false
 ·rw[aB h0]at h;exact absurd h (by decide)
 rw[aA h0]at h
 by_cases h1:x.weight<0∨1000000<x.weight
 ·rw[aB h1]at h;exact absurd h (by decide)
 rw[aA h1]at h
 by_cases h2:(ca T Fs x.graph).1≠0
 ·rw[aB h2]at h;exact absurd h h2
 obtain⟨a,b⟩:=vV (iR.1 h2);exact⟨by simpa using h0,by omega,a,b⟩
theorem CA {T:List dz}{Fs:List oO}:∀{l:List CZ} {known:List bI} {i:Nat},(j0 T Fs known i l).1=0→∀r∈l,JH T.length Fs.length r
 | [],_,_,_,_,h=>by cases h
 |y::l,known,i,h,r,hr=>by
  rw[j0]at h
  by_cases h1:isName y.name=false
  ·rw[aB h1]at h;exact absurd h (by simp)
  rw[aA h1]at h
  by_cases h2:y.name∈known
  ·rw[aB h2]at h;exact absurd h (by simp)
  rw[aA h2]at h
  by_cases h3:pK T Fs y≠0
  ·rw[aB h3]at h;exact absurd h h3
  rw[aA h3]at h
  rcases cD.1 hr with rfl|hr
  ·exact Rs (iR.1 h3)
  ·exact CA h r hr
theorem CB {T:List dz}{Fs:List oO}:∀{l:List HJ} {i:Nat},(j2 T Fs i l).1=0→∀x∈l,Rq T.length Fs.length x
 | [],_,_,_,h=>by cases h
 |y::l,i,h,x,hx=>by
  rw[j2]at h
  by_cases h3:wL T Fs y≠0
  ·rw[aB h3]at h;exact absurd h h3
  rw[aA h3]at h
  rcases cD.1 hx with rfl|hx
  ·exact Vk (iR.1 h3)
  ·exact CB h x hx
theorem JI {g:ob}(h:(lC g).1=0):XW g:=by
 unfold lC at h
 by_cases h1:(ij g.types g.bb).1≠0
 ·rw[aB h1]at h;exact absurd h h1
 rw[aA h1]at h
 by_cases h2:g.bb.length≤3
 ·rw[aB h2]at h;exact absurd h (by simp)
 rw[aA h2]at h
 by_cases h3:40<g.rules.length∨100<g.aN.length
 ·rw[aB h3]at h;exact absurd h (by simp)
 rw[aA h3]at h
 by_cases h4:(j0 g.types g.bb [] 0 g.rules).1≠0
 ·rw[aB h4]at h;exact absurd h h4
 rw[aA h4]at h
 by_cases h5:(j2 g.types g.bb 0 g.aN).1≠0
 ·rw[aB h5]at h;exact absurd h h5
 rw[aA h5]at h
 by_cases h6:(ca g.types g.bb g.start).1≠0
 ·rw[aB h6]at h;exact absurd h h6
 have h7:=iR.1 h1
 unfold ij at h7
 by_cases h8:40<g.bb.length
 ·rw[aB h8]at h7;exact absurd h7 (by simp)
 rw[aA h8]at h7
 by_cases h9:(AA g.types).1≠0
 ·rw[aB h9]at h7;exact absurd h7 h9
 obtain⟨_,_,ht⟩:=I1 (iR.1 h9);exact⟨ht,by omega,by omega,by omega,CA (iR.1 h4),CB (iR.1 h5),vV (iR.1 h6)⟩
theorem GV {nt nf n:Nat}:nL nt nf n 1 0 ⟨[],List.replicate (n*(n+1)) []⟩:=by
 have hg:∀k,(List.replicate (n*(n+1)) ([]:List Nat)).getD k []=[]:=λk=>by
  rw[ak,r9]
  split<;>rfl
 refine⟨⟨jI ..,λl hl e he=> ?_,?_,λi j e _ he=> ?_,λit h=>(by cases h),λit h=>(by cases h),λit h=>(by cases h)⟩,aR _,λit h=>(by cases h),λi h=>(by cases h)⟩
 ·rw[(List.mem_replicate.1 hl).2]at he;cases he
 ·show((List.replicate (n*(n+1)) ([]:List Nat)).map List.length).sum=0
  rw[sN];simp
 ·rw[show(⟨[],List.replicate (n*(n+1)) []⟩:Cs).sp=List.replicate (n*(n+1)) []from rfl,hg]at he;cases he
theorem GW {N:Nat}(hN:N≤256):∀(l m:jw) (u v:bI),l.length=m.length→(∀x∈l,(0≤x.1∧x.1<N)∧0≤x.2∧x.2<N)→(∀x∈m,(0≤x.1∧x.1<N)∧0≤x.2∧x.2<N)→vA l++u=vA m++v→l=m∧u=v
 | [],[],u,v,_,_,_,h=>⟨rfl,h⟩
 | [],_::_,_,_,h,_,_,_=>by cases h
 |_::_,[],_,_,h,_,_,_=>by cases h
 |a::l,b::m,u,v,hl,ha,hb,h=>by
  have h:jU a.1::jU a.2::(vA l++u)=jU b.1::jU b.2::(vA m++v):=h
  rw[List.cons.injEq,List.cons.injEq]at h;obtain⟨h1,h2,h3⟩:=h;obtain⟨⟨a1,a2⟩,a3,a4⟩:=ha a (by simp);obtain⟨⟨b1,b2⟩,b3,b4⟩:=hb b (by simp);obtain⟨p,q⟩:=a;obtain⟨r,s⟩:=b
  dsimp only at*
  have e1:=lI (a:=p.toNat) (b:=r.toNat) (by omega) (by omega) (by rw[sM a1,sM b1];exact h1)
  have e2:=lI (a:=q.toNat) (b:=s.toNat) (by omega) (by omega) (by rw[sM a3,sM b3];exact h2)
  obtain⟨e3,e4⟩:=GW hN l m u v (by simpa using hl) (λx hx=>ha x (by simp[hx])) (λx hx=>hb x (by simp[hx])) h3
  have e5:p=r:=by omega
  have e6:q=s:=by omega
  exact⟨by rw[e3,e5,e6],e4⟩
def Rt (g:dF):Prop:=∀n∈g,(0≤n.1∧n.1<(256:Nat))∧n.2.length<256∧∀x∈n.2,(0≤x.1∧x.1<(256:Nat))∧0≤x.2∧x.2<(256:Nat)
theorem GX:∀(l m:dF),Rt l→Rt m→yo l=yo m→l=m
 | [],[],_,_,_=>rfl
 | [],_::_,_,_,h=>by cases h
 |_::_,[],_,_,h=>by cases h
 |a::l,b::m,ha,hb,h=>by
  have h:jU a.1::jU (a.2.length:Nat)::(vA a.2++yo l)=jU b.1::jU (b.2.length:Nat)::(vA b.2++yo m):=h
  rw[List.cons.injEq,List.cons.injEq]at h;obtain⟨h1,h2,h3⟩:=h;obtain⟨⟨a1,a2⟩,a3,a4⟩:=ha a (by simp);obtain⟨⟨b1,b2⟩,b3,b4⟩:=hb b (by simp);obtain⟨p,q⟩:=a;obtain⟨r,s⟩:=b
  dsimp only at*
  have e1:=lI (a:=p.toNat) (b:=r.toNat) (by omega) (by omega) (by rw[sM a1,sM b1];exact h1)
  have e2:=lI a3 b3 h2
  obtain⟨e3,e4⟩:=GW (aW 256) q s (yo l) (yo m) e2 a4 b4 h3
  have e5:p=r:=by omega
  rw[e5,e3,GX l m (λx hx=>ha x (by simp[hx])) (λx hx=>hb x (by simp[hx])) e4]
theorem dP.xW {nt nf:Nat}{g:dF}(h:dP nt nf g)(oS:nt≤250)(gl:nf≤250)(hl:g.length≤60):Rt g:=λn hn=>by
 obtain⟨h1,h2,h3⟩:=h.nd n hn;refine⟨by omega,?_,λx hx=> ?_⟩
 ·have h4:(n.2.map λz=>z.1.toNat).Nodup:=by
   unfold List.Nodup;rw[rC];exact vY (λ{a b} p q r=>by have:=(h3 a p).1;have:=(h3 b q).1;omega) h2
  have:=js h4 (n:=nf) (λj hj=>by obtain⟨z,hz,rfl⟩:=ct.1 hj;have:=(h3 z hz).1;omega)
  rw[aQ]at this;omega
 ·have:=h3 x hx;omega
theorem key_inj {e d:p5}(he:e.frm<256∧e.tqo<256∧e.cQ<256∧Rt e.gr)(hd:d.frm<256∧d.tqo<256∧d.cQ<256∧Rt d.gr)(h:ea e=ea d):e=d:=by
 unfold ea at h;rw[List.cons.injEq,List.cons.injEq,List.cons.injEq]at h;obtain⟨h1,h2,h3,h4⟩:=h
 have e1:=lI he.1 hd.1 h1
 have e2:=lI he.2.1 hd.2.1 h2
 have e3:=lI he.2.2.1 hd.2.2.1 h3
 have e4:=GX _ _ he.2.2.2 hd.2.2.2 h4
 cases e;cases d;simp_all
def jh (cs:Cs)(tqo:Nat):Nat→List Nat→Prop
 |a,[]=>a=tqo
 |a,k::l=>k<cs.its.length∧(cs.ed k).frm=a∧jh cs tqo (cs.ed k).tqo l
def rX (mt:Nat→Nat→Option Nat):dF→Nat→List dF→Option dF
 |x,_,[]=>some x
 |x,k,y::l=>match mQ mt x ((k:Nat):Int) y with
  |none=>none
  |some z=>rX mt z (k+1) l
theorem CC {mt:Nat→Nat→Option Nat}:∀{l:List dF} {x z:dF} {k:Nat} (y:dF),rX mt x k l=some z→rX mt x k (l++ [y])=mQ mt z ((k+l.length:Nat):Int) y
 | [],x,z,k,y,h=>by
  obtain rfl:=Option.some.inj h
  show(match mQ mt x ((k:Nat):Int) y with|none=>none|some z=>rX mt z (k+1) [])=mQ mt x ((k+0:Nat):Int) y
  rw[jK]
  cases mQ mt x ((k:Nat):Int) y<;>rfl
 |a::l,x,z,k,y,h=>by
  rw[r7,rX];rw[rX]at h
  cases hs:mQ mt x ((k:Nat):Int) a with
  |none=>rw[hs]at h;cases h
  |some w=>
   rw[hs]at h
   dsimp only at h⊢
   rw[CC y h,dy,show k+1+l.length=k+(l.length+1) by omega]
def agR (cs:Cs):List Nat→Nat
 | [k]=>(cs.ed k).cQ+1
 |_=>0
def zk (Q:Qr)(words:List bI)(cs:Cs)(e:p5)(w:uz):Prop:=
 (w.rule= -1∧w.kids=[]∧e.tqo=e.frm+1∧e.cQ=0∧∃i:Nat,i<Q.aN.length∧w.lex=i∧(Q.aN.getD i SC).word=words.getD e.frm []∧e.gr=ff (Q.aN.getD i SC).graph 0)∨
 (∃i:Nat,i<Q.rules.length∧w.rule=i∧w.lex=0∧((w.kids.length:Nat):Int)=(Q.rules.getD i nz).kids∧jh cs e.tqo e.frm w.kids∧e.cQ=agR cs w.kids∧∃y,rX Q.mt (Q.rules.getD i nz).graph 1 (w.kids.map λk=>(cs.ed k).gr)=some y∧e.gr=lF y)
def fI (Q:Qr)(words:List bI)(cs:Cs):Prop:=∀it∈cs.its,∀w∈it.bx,zk Q words cs it.ed w
structure r6 (cs eh:Cs):Prop where
 more:cs.its.length≤eh.its.length
 ed:∀i,i<cs.its.length→eh.ed i=cs.ed i
theorem Grow.stay {n frm tqo a:Nat}{cs eh:Cs}(h:Grow n frm tqo cs eh a):r6 cs eh:=⟨h.more,h.ed⟩
theorem r6.refl (cs:Cs):r6 cs cs:=⟨aW _,λ_ _=>rfl⟩
theorem r6.trans {x y z:Cs}(h:r6 x y)(k:r6 y z):r6 x z:=⟨eH h.more k.more,λi hi=>by rw[k.ed i (eK hi h.more),h.ed i hi]⟩
theorem jh.stay {cs eh:Cs}(h:r6 cs eh){tqo:Nat}:∀{l:List Nat} {a:Nat},jh cs tqo a l→jh eh tqo a l
 | [],_,k=>k
 |i::l,a,⟨k1,k2,k3⟩=>⟨eK k1 h.more,by rw[h.ed i k1];exact k2,by rw[h.ed i k1];exact jh.stay h k3⟩
theorem jh.lt {cs:Cs}{tqo:Nat}:∀{l:List Nat} {a:Nat},jh cs tqo a l→∀k∈l,k<cs.its.length
 | [],_,_,_,h=>by cases h
 |i::l,a,⟨k1,_,k3⟩,k,h=>by
  rcases cD.1 h with rfl|h
  ·exact k1
  ·exact jh.lt k3 k h
theorem jh.snoc {cs:Cs}{b tqo e:Nat}(he:e<cs.its.length)(h1:(cs.ed e).frm=b)(h2:(cs.ed e).tqo=tqo):∀{l:List Nat} {a:Nat},jh cs b a l→jh cs tqo a (l++ [e])
 | [],a,k=>⟨he,by rw[h1];exact k.symm,h2⟩
 |i::l,a,⟨k1,k2,k3⟩=>⟨k1,k2,jh.snoc he h1 h2 k3⟩
theorem Ru {cs eh:Cs}(h:r6 cs eh){l:List Nat}(hl:∀k∈l,k<cs.its.length):(l.map λk=>(eh.ed k).gr)=l.map λk=>(cs.ed k).gr:=Ar λk hk=>by rw[h.ed k (hl k hk)]
theorem zk.stay {Q:Qr}{words:List bI}{cs eh:Cs}(h:r6 cs eh){e:p5}{w:uz}(k:zk Q words cs e w):zk Q words eh e w:=by
 rcases k with k|⟨i,k1,k2,k3,k4,k5,k6,y,k7,k8⟩
 ·exact .inl k
 ·have hl:=k5.lt
  refine .inr ⟨i,k1,k2,k3,k4,k5.stay h,?_,y,by rw[Ru h hl];exact k7,k8⟩;rw[k6]
  match hk:w.kids with
  | []=>rfl
  | [q]=>show _=(eh.ed q).cQ+1;rw[h.ed q (hl q (by rw[hk];simp))];rfl
  |_::_::_=>rfl
theorem Dh {nt nf n:Nat}(hn:n≤12)(oS:nt≤250)(gl:nf≤250){Q:Qr}{words:List bI}{cs:Cs}(h:fV nt nf n cs)(hs:fI Q words cs){e:p5}{w:uz}(he:e.frm<e.tqo∧e.tqo≤n∧e.cQ≤3∧dP nt nf e.gr∧e.gr.length≤60)(hk:∀k∈w.kids,k<cs.its.length)(hw:zk Q words cs e w):fI Q words (jt n cs e w):=by
 have ei:=(yr hn h he hk).2.stay
 have A2:∀it∈cs.its,∀w∈it.bx,zk Q words (jt n cs e w) it.ed w→True:=λ_ _ _ _ _=>trivial
 intro it hit v hv
 have aaT:(∃i,xG cs.its (ea e)=some i)∨xG cs.its (ea e)=none:=by
  cases xG cs.its (ea e)with
  |none=>exact .inr rfl
  |some i=>exact .inl ⟨i,rfl⟩
 rcases aaT with⟨i,hi⟩|hi
 ·have e1:(jt n cs e w).its=cs.its.modify i λit=>it.put w:=by unfold jt;rw[hi]
  rw[e1]at hit;obtain⟨j,hj,rfl⟩:=Dx.1 hit;rw[pE]at hj;rw[List.getElem_modify]at hv⊢;obtain⟨x,hx,hxk⟩:=yq hi
  by_cases c:i=j
  ·subst c
   rw[aB rfl]at hv⊢
   have mH:cs.its[i]=x:=by rw[bO hj]at hx;exact Option.some.inj hx
   rcases ba.1 hv with hv|hv
   ·exact(hs _ (gm hj) v hv).stay ei
   ·rw[bJ.1 hv]
    obtain⟨g1,g2,g3,g4,g5⟩:=h.gr cs.its[i] (gm hj)
    have AR:cs.its[i].ed=e:=key_inj ⟨by omega,by omega,by omega,g4.xW oS gl g5⟩ ⟨by omega,by omega,by omega,he.2.2.2.1.xW oS gl he.2.2.2.2⟩ (by rw[mH];exact hxk)
    show zk Q words _ cs.its[i].ed w
    rw[AR];exact hw.stay ei
  ·rw[aA c]at hv⊢
   exact(hs _ (gm hj) v hv).stay ei
 ·have e1:(jt n cs e w).its=cs.its++ [(⟨e,[],[]⟩:kZ).put w]:=by unfold jt;rw[hi]
  rw[e1]at hit
  rcases ba.1 hit with hit|hit
  ·exact(hs it hit v hv).stay ei
  ·rw[bJ.1 hit]at hv⊢
   have hv:v∈([]:List uz)++ [w]:=hv
   rw[Av]at hv;rw[bJ.1 hv];exact hw.stay ei
theorem vW {β:Type}(f:Cs→β→Cs)(I:Cs→Prop):∀(l:List β) (cs:Cs),I cs→(∀cs x,x∈l→I cs→I (f cs x))→I (l.foldl f cs)
 | [],_,h,_=>h
 |x::l,cs,h,hs=>vW f I l (f cs x) (hs cs x (by simp) h) λcs y hy=>hs cs y (by simp[hy])
theorem GY {Q:Qr}{cs:Cs}{rule gi e:Nat}{x y:dF}(h:ka Q cs rule x gi e=some y):mQ Q.mt x gi (cs.ed e).gr=some y:=by
 unfold ka at h
 split at h
 ·exact h
 ·cases h
theorem Vl {nt nf:Nat}{Q:Qr}(hn:Q.n≤12)(oS:nt≤250)(gl:nf≤250)(qC:yn nt Q.mt){words:List bI}{rule frm tqo:Nat}(hr:rule<Q.rules.length)(iH:frm<tqo)(ht:tqo≤Q.n)(c:Nat→Nat→Nat):∀(l:Nat) (cs:Cs) (x:dF) (kids:List Nat) (a:Nat),
 gj nt nf Q.n frm tqo c 0 cs→dP nt nf x→(frm<a∨(a=frm∧1≤l))→a<tqo→fI Q words cs→jh cs a frm kids→((kids.length+l+1:Nat):Int)=(Q.rules.getD rule nz).kids→rX Q.mt (Q.rules.getD rule nz).graph 1 (kids.map λk=>(cs.ed k).gr)=some x→
 fI Q words (vB Q rule frm tqo l cs x kids a):=by
 intro l
 induction l using Nat.strongRecOn with|_ l ih=> ?_
 intro cs x kids a hs hx ha Bi hsn XV nU ei;rw[Kl]
 have hE0:∀z∈List.range' (nQ l a tqo) (r0 l a tqo),a<z∧z≤tqo∧(1≤l→z<tqo)∧(l=0→z=tqo):=λz hz=>by
  obtain⟨j,hj,rfl⟩:=List.mem_range'.1 hz
  have:=DV Bi hj
  rw[Nat.one_mul];exact⟨this.1,this.2.1,this.2.2.2,this.2.2.1⟩
 refine(vW (Me Q rule frm tqo l x kids a) (λeh=>gj nt nf Q.n frm tqo c 0 eh∧fI Q words eh∧r6 cs eh) _ cs ⟨hs,hsn,r6.refl _⟩ (λsB en IY ⟨s1,n1,y1⟩=> ?_)).2.1;obtain⟨e1,e2,e3,e4⟩:=hE0 en IY
 have XX:∀e∈sB.at_ Q.n a en,e<sB.its.length:=λe he=>s1.ok.qI he
 have agS:∀e∈sB.at_ Q.n a en,(sB.ed e).frm=a∧(sB.ed e).tqo=en:=λe he=>s1.ok.prt a en e (by omega) he
 have inner:=vW (tu Q rule frm tqo l x kids en) (λeh=>gj nt nf Q.n frm tqo c 0 eh∧fI Q words eh∧r6 sB eh) (sB.at_ Q.n a en) sB ⟨s1,n1,r6.refl _⟩ (λoQ e he ⟨s2,n2,y2⟩=> ?_)
 ·exact⟨inner.1,inner.2.1,y1.trans inner.2.2⟩
 have lA:e<oQ.its.length:=eK (XX e he) y2.more
 have AR:=y2.ed e (XX e he)
 have ke:=y1.trans y2
 have agT:∀k∈kids,k<oQ.its.length:=λk hk=>eK (XV.lt k hk) ke.more
 obtain⟨g1,g2⟩:=G3 hn qC iH ht c (l:=l) (rule:=rule) s2 hx (en:=en) ⟨by omega,e3⟩ agT lA;refine⟨g1,?_,y2.trans g2.stay⟩;unfold tu
 cases hy:ka Q oQ rule x (kids.length+1) e with
 |none=>exact n2
 |some y=>
  dsimp only
  obtain⟨p1,p2,_⟩:=vC qC s2.ok hx lA hy
  have Rl:=GY hy
  have agU:jh oQ en frm (kids++ [e]):=jh.snoc lA (by rw[AR];exact(agS e he).1) (by rw[AR];exact(agS e he).2) (XV.stay ke)
  have akS:((kids++ [e]).map λk=>(oQ.ed k).gr)=(kids.map λk=>(cs.ed k).gr)++ [(oQ.ed e).gr]:=by rw[cC,Ru ke XV.lt];rfl
  have agV:rX Q.mt (Q.rules.getD rule nz).graph 1 ((kids++ [e]).map λk=>(oQ.ed k).gr)=some y:=by
   rw[akS,CC _ ei,aQ,Nat.add_comm 1];exact Rl
  cases l with
  |zero=>
   dsimp only
   obtain⟨m1,m2⟩:=qH p1 p2
   have AV:=e4 rfl
   subst AV;refine Dh hn oS gl s2.ok n2 ⟨iH,ht,aR _,m1,m2⟩ (λk hk=> ?_) (.inr ⟨rule,hr,rfl,rfl,by rw[←nU,bA];simp,agU,?_,y,agV,rfl⟩)
   ·rcases ba.1 hk with hk|hk
    ·exact agT k hk
    ·rw[bJ.1 hk];exact lA
   ·cases kids with
    |nil=>
     have:frm=a:=XV
     omega
    |cons q kids=>
     cases kids with
     |nil=>rfl
     |cons _ _=>rfl
  |succ l=>
   dsimp only
   exact ih l (by omega) oQ y (kids++ [e]) en s2 p1 (.inl (by omega)) (e3 (by omega)) n2 agU (by rw[←nU,bA];simp;omega) agV
theorem Vm {nt nf:Nat}{Q:Qr}(hQ:qu nt nf Q)(oS:nt≤250)(gl:nf≤250){words:List bI}{w:bI}{frm tqo i:Nat}(hw:w=words.getD frm [])(AV:tqo=frm+1)(ht:tqo≤Q.n){cs:Cs}(h:fV nt nf Q.n cs)(hs:fI Q words cs)(hi:i<Q.aN.length):fI Q words (qq Q w frm tqo cs i):=by
 obtain⟨hg,hl⟩:=hQ.Wy hi;unfold qq
 split
 ·rename_i hc
  obtain⟨f1,f2,_⟩:=tV hg hg.pos;exact Dh hQ.n oS gl h hs ⟨by dsimp only;omega,ht,aR _,f1,eH f2 hl⟩ (λk hk=>by cases hk) (.inl ⟨rfl,rfl,AV,rfl,i,hi,rfl,by rw[hc,hw],rfl⟩)
 ·exact hs
theorem Vn {nt nf:Nat}{Q:Qr}(hQ:qu nt nf Q)(oS:nt≤250)(gl:nf≤250){words:List bI}{frm tqo i:Nat}{c:Nat→Nat→Nat}(iH:frm<tqo)(ht:tqo≤Q.n){cs:Cs}(h:gj nt nf Q.n frm tqo c 0 cs)(hs:fI Q words cs)(hi:i<Q.rules.length):fI Q words (qs Q frm tqo cs i):=by
 obtain⟨⟨k1,k3⟩,hg,_⟩:=hQ.vE hi;unfold qs
 split
 ·rename_i hc
  exact Vl hQ.n oS gl hQ.mt hi iH ht c _ cs _ [] frm h hg (.inr ⟨rfl,by omega⟩) iH hs rfl (by show((0+((Q.rules.getD i nz).kids.toNat-1)+1:Nat):Int)=_;omega) rfl
 ·exact hs
theorem Vo {nt nf:Nat}{Q:Qr}(hQ:qu nt nf Q)(oS:nt≤250)(gl:nf≤250){words:List bI}{frm tqo e i:Nat}(iH:frm<tqo)(ht:tqo≤Q.n){cs:Cs}(h:fV nt nf Q.n cs)(hs:fI Q words cs)(he:e<cs.its.length)(qi:(cs.ed e).frm=frm∧(cs.ed e).tqo=tqo)(h3:(cs.ed e).cQ<3)(hi:i<Q.rules.length):fI Q words (qE Q frm tqo e cs i):=by
 obtain⟨_,hg,_⟩:=hQ.vE hi;unfold qE
 split
 ·exact hs
 ·rename_i hk
  cases hy:ka Q cs i (Q.rules.getD i nz).graph 1 e with
  |none=>exact hs
  |some x=>
   dsimp only
   obtain⟨y1,y2,_⟩:=vC hQ.mt h hg he hy;obtain⟨m1,m2⟩:=qH y1 y2
   have Rl:=GY hy
   refine Dh hQ.n oS gl h hs ⟨iH,ht,by dsimp only;omega,m1,m2⟩ (λk hk=>by rw[bJ.1 hk];exact he) (.inr ⟨i,hi,rfl,rfl,?_,⟨he,qi.1,qi.2⟩,rfl,x,?_,rfl⟩)
   ·show((1:Nat):Int)=_
    omega
   ·show(match mQ Q.mt _ ((1:Nat):Int) (cs.ed e).gr with|none=>none|some z=>rX Q.mt z (1+1) [])=some x
    rw[Rl];rfl
theorem Vp {nt nf:Nat}{Q:Qr}(hQ:qu nt nf Q)(oS:nt≤250)(gl:nf≤250){words:List bI}{frm tqo:Nat}(iH:frm<tqo)(ht:tqo≤Q.n){cs:Cs}(h:fV nt nf Q.n cs)(hl:cs.its.length≤300)(hs:fI Q words cs):fI Q words (mR Q words frm tqo cs):=by
 have h0:gj nt nf Q.n frm tqo (λi j=>(cs.at_ Q.n i j).length) 0 cs:=⟨h,λ_ _ _ _=>rfl,aR _⟩
 unfold mR
 split
 ·rename_i AV
  exact(vW (qq Q (words.getD frm []) frm tqo) (λeh=>gj nt nf Q.n frm tqo (λi j=>(cs.at_ Q.n i j).length) 0 eh∧fI Q words eh) _ cs ⟨h0,hs⟩ (λsB i hi ⟨a,b⟩=>⟨(yz hQ iH ht a (cy.1 hi)).1,Vm hQ oS gl rfl AV ht a.ok b (cy.1 hi)⟩)).2
 ·exact(vW (qs Q frm tqo) (λeh=>gj nt nf Q.n frm tqo (λi j=>(cs.at_ Q.n i j).length) 0 eh∧fI Q words eh) _ cs ⟨h0,hs⟩ (λsB i hi ⟨a,b⟩=>⟨(yy hQ iH ht h hl a (cy.1 hi)).1,Vn hQ oS gl iH ht a b (cy.1 hi)⟩)).2
theorem zm {nt nf:Nat}{Q:Qr}(hQ:qu nt nf Q)(oS:nt≤250)(gl:nf≤250){words:List bI}{frm tqo:Nat}(iH:frm<tqo)(ht:tqo≤Q.n):∀(f k:Nat) (cs:Cs),fV nt nf Q.n cs→fI Q words cs→fI Q words (qF Q frm tqo f k cs)
 |0,_,_,_,h=>h
 |f+1,k,cs,ho,h=>by
  rw[qF]
  split
  ·rename_i hk
   have X5:(cs.at_ Q.n frm tqo)[k]?=some ((cs.at_ Q.n frm tqo).getD k 0):=by rw[ak,bO hk];rfl
   have X3:=ab X5
   have lA:=ho.qI X3
   have hpr:=ho.prt frm tqo _ (by omega) X3
   split
   ·exact zm hQ oS gl iH ht f (k+1) cs ho h
   ·rename_i h3
    have Wr:(cs.ed ((cs.at_ Q.n frm tqo).getD k 0)).cQ≤3:=by
     have:cs.ed ((cs.at_ Q.n frm tqo).getD k 0)=(cs.its[(cs.at_ Q.n frm tqo).getD k 0]'lA).ed:=by unfold Cs.ed;rw[ak (l:=cs.its),bO lA];rfl
     rw[this];exact(ho.gr _ (gm lA)).2.2.1
    have Gv:(cs.ed ((cs.at_ Q.n frm tqo).getD k 0)).cQ<3:=by omega
    have hu:=Bn hQ iH ht (e:=(cs.at_ Q.n frm tqo).getD k 0) (ch:=(cs.ed ((cs.at_ Q.n frm tqo).getD k 0)).cQ) Gv ho lA rfl
    refine zm hQ oS gl iH ht f (k+1) _ hu.ok ?_;refine(vW (qE Q frm tqo ((cs.at_ Q.n frm tqo).getD k 0)) (λeh=>fV nt nf Q.n eh∧fI Q words eh∧r6 cs eh) _ cs ⟨ho,h,r6.refl _⟩ (λsB i hi ⟨a,b,y⟩=> ?_)).2.1
    have agW:=eK lA y.more
    have AR:=y.ed _ lA
    have h1:=KU hQ iH ht a agW (by rw[AR]) Gv (cy.1 hi)
    exact⟨h1.ok,Vo hQ oS gl iH ht a b agW (by rw[AR];exact hpr) (by rw[AR];exact Gv) (cy.1 hi),y.trans h1.gr.stay⟩
  ·exact h
theorem L9 {nt nf len:Nat}{Q:Qr}(hQ:qu nt nf Q)(oS:nt≤250)(gl:nf≤250){words:List bI}{frm:Nat}(hl:1≤len)(ht:frm+len≤Q.n){cs:Cs}(h:nL nt nf Q.n len frm cs)(hs:fI Q words cs):fI Q words (p6 Q words frm (frm+len) cs):=by
 obtain⟨b1,_,_⟩:=DH hQ (words:=words) hl ht h;exact zm hQ oS gl (by omega) ht _ _ _ b1 (Vp hQ oS gl (by omega) ht h.ok h.KR hs)
end Go.Proofs.YtblifkgpebebmaaGreatDoor
