/-
  Laws of walks through programs, and facts on grammars, trees and queries.
  Conditions: none.
-/
import Derived.Test.YtiefglecbgdaiaaGreatDoorGR10
set_option maxHeartbeats 4000000
set_option maxRecDepth 20000
set_option linter.unusedVariables false
set_option linter.unusedSimpArgs false
namespace Go.Proofs.YtiefglecbgdaiaaGreatDoor
open Go Go.J Tryz
theorem VL {g:fD}{t:dY}(h:(lR g t).1=0):lR g t=(0,0):=by
 unfold lR at h⊢
 by_cases h1:(oX (g.rules.map kM.kids) g.aG.length t 1 0 ⟨0,0⟩).2.1≠0
 ·rw[aB h1]at h;exact absurd h h1
 rw[aA h1]at h⊢
 by_cases a:12<(oX (g.rules.map kM.kids) g.aG.length t 1 0 ⟨0,0⟩).1.leaves
 ·rw[aB a]at h;exact absurd h (by decide)
 ·rw[aA a]
theorem ZC (wr wx:List Pr)(x:bM)(p:Pr):lh wr wx (aN x) p=if(lL 2 p (if x.rule<0 then wx.getD x.lex.toNat (0,0)else wr.getD x.rule.toNat (0,0))).2.1≠0 then none else jV wr wx (x.kids.map aN) (lL 2 p (if x.rule<0 then wx.getD x.lex.toNat (0,0)else wr.getD x.rule.toNat (0,0))).1:=by rw[fG,lh]
theorem J3 {wr wx:List Pr}{l:List bM}{k:Nat}{y:bM}{p:Pr}(h:l[k]?=some y):jV wr wx ((l.take (k+1)).map aN) p=(jV wr wx ((l.take k).map aN) p).bind λq=>lh wr wx (aN y) q:=by
 rw[kB h,wA]
 congr 1
 funext q
 rw[jV]
 cases lh wr wx (aN y) q with
 |none=>rfl
 |some z=>show jV wr wx [] z=_;rw[jV]
theorem J2 {wr wx:List Pr}{l:List bM}{k:Nat}{p:Pr}(h:jV wr wx ((l.take k).map aN) p=none):jV wr wx (l.map aN) p=none:=by
 have e:l.map aN=(l.take k).map aN++(l.drop k).map aN:=by rw[←cY,nR]
 rw[e,wA,h];rfl
theorem KR {l:List Pr}{i:Nat}{z:Pr}(h:l[i]?=some z):l.getD i (0,0)=z:=by rw[ax,h];rfl
theorem J4 (g:fD)(d e a bw:Nat)(lv rv:ah)(wr wx:List Pr)(R:wr.length=g.rules.length)(hx:wx.length=g.aG.length):∀(x:bM),tm g (aN x)=true→Ek g (aN x)=true→∀p:Pr,tL p→
 dx prog 85 ([dA x]++ [tW d,tW e,tW a,tW bw]).toArray ([ae x,kH d lv.1,kH e rv.1,kH bw (.func (.func 85) #[] #[tW d,tW e,tW a,tW bw]),sl dv lv.1 wx,sl dv rv.1 wr].map aD++ [tI a [iv p.1,iv p.2] 47]) (λv H'=>∃q:Pr,v= .bool (lh wr wx (aN x) p).isSome∧tL q∧(∀z,lh wr wx (aN x) p=some z→q=z)∧H'=[tI a [iv q.1,iv q.2] 47]):=by
 intro x
 induction x using bM.ind
 rename_i x M
 intro N o p r;refine dx.body (args:=[dA x]++ [tW d,tW e,tW a,tW bw]) 45 func85 rfl ntmps85 rfl (λc=>go ?_);refine St.cast (H':=[aD (ae x),aD (kH d lv.1),aD (kH e rv.1),aD (kH bw (.func (.func 85) #[] #[tW d,tW e,tW a,tW bw])),aD (sl dv lv.1 wx),aD (sl dv rv.1 wr),tI a [iv p.1,iv p.2] 47]) rfl ?_;obtain⟨E,F,G⟩:=L7 N o;refine St.kS x (St.wf x.kv.1 (λS U=>St.wf lv.1 (λO _=>St.wf rv.1 (λs _=>?_))))
 have b:=ZC wr wx x p
 refine go ?_;refine St.cC (.mk rfl) rfl (λH=>g5 ?_);refine St.al (λP=>g2 ?_);refine St.join (ι:=Pr) (λy T=>T) (λy=>[tI P [iv y.1,iv y.2] 47,tI a [iv p.1,iv p.2] 47,aD (kH d lv.1),aD (kH e rv.1),aD (kH bw (.func (.func 85) #[] #[tW d,tW e,tW a,tW bw])),aD (sl dv lv.1 wx),aD (sl dv rv.1 wr),aD (sl bR x.kv.1 x.kids),aD (aL ae x.kids),tI H (oA x) 51]) (λy=>y=(if x.rule<0 then wx.getD x.lex.toNat (0,0)else wr.getD x.rule.toNat (0,0))∧tL y) (aC.k5 3 4 5 6 7) ?_ ?_
 ·refine g7 ?_
  refine St.cq (λu=> ?_) (λu=> ?_)
  ·have E:=E zE
   obtain⟨z,hz⟩:=aF (show x.lex.toNat<wx.length by omega);refine g4 ?_;refine St.ee (Ev.cI (k:=x.lex.toNat) (.mk rfl) (.mk rfl) wW nG zE zE) (St.ee (Ev.iD (.mk rfl) hz vB trivial nG gH.eq) (g3 ?_));refine St.mE z ⟨by rw[aB (show x.rule<0 by omega)];exact(KR hz).symm,O z (aY hz)⟩
  ·have F:=F zE
   obtain⟨z,hz⟩:=aF (show x.rule.toNat<wr.length by omega);refine g4 ?_;refine St.ee (Ev.cI (k:=x.rule.toNat) (.mk rfl) (.mk rfl) wW nG zE zE) (St.ee (Ev.iD (.mk rfl) hz vB trivial nG gH.eq) (g3 ?_));refine St.mE z ⟨by rw[aA (show ¬x.rule<0 by omega)];exact(KR hz).symm,s z (aY hz)⟩
 ·rintro y ⟨w,A⟩
  rw[←w]at b;refine g2 ?_;refine St.al (λV=>g6 ?_);refine St.slot 25 (rY p) rfl rfl (go ?_);refine St.slot 26 (rY y) rfl rfl (St.ee (Ev.call (IE p y r A) akA (.aX rfl rfl)) (St.slot 27 (.tuple #[.agg #[iv (lL 2 p y).1.1,iv (lL 2 p y).1.2],.agg #[iv (lL 2 p y).2.1,iv (lL 2 p y).2.2]]) rfl rfl (g14 ?_)));refine St.cq (λI=> ?_) (λI=> ?_)
  ·have i:lh wr wx (aN x) p=none:=by rw[b,aB (show(lL 2 p y).2.1≠0 from I)]
   refine g7 ?_;refine St.rV [_] [tI a [iv (lL 2 p y).1.1,iv (lL 2 p y).1.2] 47] ?_;exact⟨(lL 2 p y).1,by rw[i];rfl,KG 2 p y,λz hz=>(by rw[i]at hz;cases hz),rfl⟩
  ·have b:lh wr wx (aN x) p=jV wr wx (x.kids.map aN) (lL 2 p y).1:=by rw[b,aA zE]
   refine g12 ?_;refine St.lH (ι:=Nat×Pr) (λ⟨k,q⟩ T=>(36,iv k)::T) (λ⟨k,q⟩=>[tI a [iv q.1,iv q.2] 47,aD (kH d lv.1),aD (kH e rv.1),aD (kH bw (.func (.func 85) #[] #[tW d,tW e,tW a,tW bw])),aD (sl dv lv.1 wx),aD (sl dv rv.1 wr),aD (sl bR x.kv.1 x.kids),aD (aL ae x.kids),tI H (oA x) 51]) (λ⟨k,q⟩=>k≤x.kids.length∧jV wr wx ((x.kids.take k).map aN) (lL 2 p y).1=some q∧tL q) (λ⟨k,q⟩=>x.kids.length-k) ⟨0,(lL 2 p y).1⟩ (aC.k3 4 34 35) ⟨aQ _,by rw[pL,kb,jV],KG 2 p y⟩ ?_;rintro ⟨k,q⟩ ⟨hk,j,h⟩
   dsimp only at hk j h⊢
   refine g6 ?_;refine St.cq (λQ=> ?_) (λQ=> ?_)
   ·obtain⟨t,ht⟩:=aF (show k<x.kids.length by omega)
    have m:=aY ht
    refine St.bh ae x.kids (x:=t) m ?_
    have J:=J3 (wr:=wr) (wx:=wx) (p:=(lL 2 p y).1) ht
    refine g7 ?_;refine St.ee (Ev.iD (.mk rfl) ht po trivial jo gH.eq) (St.al (λW=>g7 ?_));refine St.slot 41 (dA t) rfl rfl (St.nk (dr:=True) (ds:=[ae t,kH d lv.1,kH e rv.1,kH bw (.func (.func 85) #[] #[tW d,tW e,tW a,tW bw]),sl dv lv.1 wx,sl dv rv.1 wr]) (L:=[tI a [iv q.1,iv q.2] 47]) (caps:=[tW d,tW e,tW a,tW bw]) (λ_=>trivial) (M t m (G t m).1 (G t m).2 q h) acN (.mk rfl) (.aq rfl) rfl ?_);rintro v42 _ ⟨l,rfl,K,B,rfl⟩;refine St.bB (g3 ?_);refine St.cond _ rfl (λf=> ?_) (λf=> ?_)
    ·skip
     have C:lh wr wx (aN t) q=none:=by cases n:lh wr wx (aN t) q with|none=>rfl|some z=>(rw[n]at f;cases f)
     have i:lh wr wx (aN x) p=none:=by rw[b];exact J2 (k:=k+1) (by rw[J,j];exact C)
     refine g11 ?_;refine St.rV [_] [tI a [iv l.1,iv l.2] 47] ?_;exact⟨l,by rw[i];rfl,K,λz hz=>(by rw[i]at hz;cases hz),rfl⟩
    ·skip
     have D:lh wr wx (aN t) q=some l:=by cases n:lh wr wx (aN t) q with|none=>(rw[n]at f;cases f)|some z=>rw[B z n]
     refine g8 ?_;refine St.aH ⟨k+1,l⟩ ⟨by dsimp only;omega,by dsimp only;rw[J,j];exact D,K⟩
   ·obtain rfl:k=x.kids.length:=by omega
    rw[iT]at j;rw[j]at b;refine g11 ?_;refine St.rV [_] [tI a [iv q.1,iv q.2] 47] ?_;exact⟨q,by rw[b];rfl,h,λz hz=>by rw[b]at hz;exact Option.some.inj hz,rfl⟩
theorem CT (g:fD)(lv rv:ah)(wr wx:List Pr)(k:wr.length=g.rules.length)(hx:wx.length=g.aG.length)(x:bM)(l:tm g (aN x)=true)(i:Ek g (aN x)=true):
 dK prog 39 #[rv.1,lv.1,dA x] [sl dv rv.1 wr,sl dv lv.1 wx,ae x] (.tuple #[rY ((lh wr wx (aN x) (1,1)).getD (0,0)),.bool (lh wr wx (aN x) (1,1)).isSome]):=by
 refine dK.Ve (args:=[rv.1,lv.1,dA x]) 18 func39 rfl ntmps39 rfl (λc=>g2 ?_);refine St.Ll (.mk rfl) rv.2 rfl (λa=>St.Ll (.mk rfl) lv.2 rfl (λb=>St.cC (.mk rfl) rfl (λr=>St.al (λs=>g5 ?_))));refine St.ee (Ev.build (au.aX rfl rfl) (λw=>Br rfl rfl w)) (St.al (λf=>g5 ?_));refine St.al (λd=>g4 ?_);refine St.ee (Ev.func (.gn rfl rfl rfl rfl)) (St.cP (.mk rfl) (.mk rfl) ahS rfl (by rfl) ?_);refine St.pA a (St.pA b (St.pA d (g7 ?_)));refine St.slot 13 (dA x) rfl rfl (St.nk (dr:=True) (ds:=[ae x,kH b lv.1,kH a rv.1,kH d (.func (.func 85) #[] #[tW b,tW a,tW f,tW d]),sl dv lv.1 wx,sl dv rv.1 wr]) (L:=[tI f [iv ((1,1):Pr).1,iv ((1,1):Pr).2] 47]) (caps:=[tW b,tW a,tW f,tW d]) (λ_=>trivial) (J4 g b a f d lv rv wr wx k hx x l i (1,1) (by unfold tL aZ;decide)) acN (.mk rfl) (.aq rfl) rfl ?_);rintro m _ ⟨q,rfl,n,j,rfl⟩;refine St.bB (g3 ?_);refine St.cond _ rfl (λe=> ?_) (λe=> ?_)
 ·skip
  have o:(lh wr wx (aN x) (1,1))=none:=by cases h:(lh wr wx (aN x) (1,1))with|none=>rfl|some z=>(rw[h]at e;cases e)
  refine g2 ?_;refine St.ee (Ev.build (au.nil) (λw=>mg w)) (g6 ?_);refine St.rV [_,_] [] ?_
  rw[o];rfl
 ·skip
  have p:(lh wr wx (aN x) (1,1))=some q:=by cases h:(lh wr wx (aN x) (1,1))with|none=>(rw[h]at e;cases e)|some z=>rw[j z h]
  refine g5 ?_;refine St.slot 17 (rY q) rfl rfl (g5 ?_);refine St.rV [_,_] [] ?_
  rw[p];rfl
theorem LY (g:eU)(rv xv:ah)(R X:List Int)(t:bM)(j:(km (bK g)).1=0)(d:D8 (bK g) R X)(a:(lR (bK g) (aN t)).1=0)(l:bR.wf t):kL prog 8 #[eF g,.agg #[rv.1,xv.1],dA t] [cj g,sl aJ rv.1 R,sl aJ xv.1 X,ae t,tz,u8] (.tuple #[rY ((dm (bK g) R X (aN t)).getD (0,0)),fv (if(dm (bK g) R X (aN t)).isSome=true then(0,0)else(18,0))]):=by
 refine kL.body (args:=[eF g,.agg #[rv.1,xv.1],dA t]) (ds:=[cj g,sl aJ rv.1 R,sl aJ xv.1 X,ae t,tz,u8]) 49 func8 rfl ntmps8 rfl (λc m=>St.cast (H':=[aD (cj g),aD (sl aJ rv.1 R),aD (sl aJ xv.1 X),aD (ae t),aD (tz),aD (u8)]) rfl (go ?_))
 have k:=zX j
 have x:(bK g).rules.length=g.rules.length:=aO _
 have n:=LH (X:=X) d.rl
 have o:=LI (R:=R) d.xl
 have e:(bK g).rules.length≤999:=dH k.rn (by decide)
 obtain⟨p,f,q⟩:=Gt e a
 have h:(lR (bK g) (aN t))=(0,0):=VL a
 refine go ?_;refine St.cC (.mk rfl) rfl (λy=>St.cC (.mk rfl) rfl (λA=>St.cC (.mk rfl) rfl (λB=>St.al (λC=>St.al (λD=>g6 ?_)))));refine St.slot 14 (eF g) rfl rfl (go ?_);refine St.slot 15 (.agg #[rv.1,xv.1]) rfl rfl (St.ee (Ev.nj m (wj g rv xv R X j d) acC (.aX rfl rfl)) (St.slot 16 (.agg #[iv 0,iv 0]) rfl rfl (St.al (λE=>g10 ?_))));refine St.uG _ rfl (by rfl) ?_;refine g6 ?_;refine St.slot 22 (eF g) rfl rfl (go ?_);refine St.slot 23 (dA t) rfl rfl (St.ee (Ev.call (Bd g t l) ab5 (.aX rfl rfl)) (St.slot 24 (.agg #[iv 0,iv 0]) rfl (by rw[h];rfl) ?_));refine St.al (λF=>g10 ?_);refine St.uG _ rfl (by rfl) ?_;refine g5 ?_;refine St.slot 31 (eF g) rfl rfl (go ?_);refine St.slot 32 (.agg #[rv.1,xv.1]) rfl rfl (St.ak (sc g rv xv R X k d) acD (.aX rfl rfl) rfl ?_);rintro v33 _ ⟨r,pv,rfl,rfl⟩;refine St.dD (g12 ?_);refine St.slot 39 (dA t) rfl rfl (St.ee (Ev.call (CT (bK g) pv r (SV (bK g) R X) (SX (bK g) R X) n o t p f) acE (.eI rfl rfl rfl)) (St.slot 40 (.tuple #[.agg #[iv ((dm (bK g) R X (aN t)).getD (0,0)).1,iv ((dm (bK g) R X (aN t)).getD (0,0)).2],.bool (dm (bK g) R X (aN t)).isSome]) rfl rfl (g3 ?_)));refine St.al (λs=>g11 ?_);refine St.cond _ rfl (λb=> ?_) (λb=> ?_)
 ·skip
  have u:(dm (bK g) R X (aN t))=none:=by cases i:(dm (bK g) R X (aN t))with|none=>rfl|some z=>(rw[i]at b;cases b)
  refine g2 ?_;refine St.ee (Ev.build (au.nil) (λw=>mg w)) (St.ee (Ev.call (pn 18 0) Xq (.aX rfl rfl)) (g6 ?_));refine St.rV [_,_] [] ?_
  rw[u];rfl
 ·skip
  have v:(dm (bK g) R X (aN t)).isSome=true:=by cases i:(dm (bK g) R X (aN t))with|none=>(rw[i]at b;cases b)|some z=>rfl
  refine g5 ?_;refine St.slot 47 (rY ((dm (bK g) R X (aN t)).getD (0,0))) rfl rfl (St.ee (Ev.build (au.nil) (λw=>fP w)) (g5 ?_));refine St.rV [_,_] [] ?_
  rw[aB v];rfl
theorem Bp {g:fD}{R X:List Int}{l:List bM}{k:Nat}{t:bM}(h:l[k]?=some t):(((l.take (k+1)).map aN).map λt=>(dm g R X t).getD (0,0))=(((l.take k).map aN).map λt=>(dm g R X t).getD (0,0))++ [(dm g R X (aN t)).getD (0,0)]:=by rw[kB h,cY];rfl
theorem DK {g:fD}{R X:List Int}(l:List dY)(h:∀t∈l,(dm g R X t).isSome=true):∀p∈l.map (λt=>(dm g R X t).getD (0,0)),ij p:=λp hp=>by
 obtain⟨t,ht,rfl⟩:=cS.1 hp;obtain⟨z,hz⟩:=Option.isSome_iff_exists.1 (h t ht);rw[hz];exact Kk _ _ _ _ _ hz
theorem Bo (g:eU)(rv xv:ah)(R X:List Int)(wv:Value)(words:List cM)(l:(km (bK g)).1=0)(e:D8 (bK g) R X)(y:(e9 (bK g) words).2=(0,0))(hp:∀t∈(e9 (bK g) words).1,(dm (bK g) R X t).isSome=true):Be prog 42 #[eF g,.agg #[rv.1,xv.1],wv] ([cj g,sl aJ rv.1 R,sl aJ xv.1 X,sl fK wv words,tz,u8].map aD) (λv H'=>∃(tv lv:ah) (trees:List bM),v= .tuple #[tv.1,lv.1,fv (0,0)]∧trees.map aN=(e9 (bK g) words).1∧H'=[aD (sl bR tv.1 trees),aD (aL ae trees),aD (sl dv lv.1 ((e9 (bK g) words).1.map λt=>(dm (bK g) R X t).getD (0,0)))]):=by
 refine Be.body (args:=[eF g,.agg #[rv.1,xv.1],wv]) 68 func42 rfl ntmps42 rfl (λc m=>St.cast (H':=[aD (cj g),aD (sl aJ rv.1 R),aD (sl aJ xv.1 X),aD (sl fK wv words),aD (tz),aD (u8)]) rfl (go ?_))
 have n:=zX l
 have N:(bK g).rules.length=g.rules.length:=aO _
 have A:=LH (X:=X) e.rl
 have B:=LI (R:=R) e.xl
 have C:(bK g).rules.length≤999:=dH n.rn (by decide)
 refine go ?_;refine St.cC (.mk rfl) rfl (λO=>St.cC (.mk rfl) rfl (λP=>g2 ?_));refine St.al (λD=>g6 ?_);refine St.slot 19 (eF g) rfl rfl (go ?_);refine St.slot 20 (.agg #[rv.1,xv.1]) rfl rfl (St.ee (Ev.nj m (wj g rv xv R X l e) acC (.aX rfl rfl)) (St.slot 21 (.agg #[iv 0,iv 0]) rfl rfl (St.al (λQ=>g10 ?_))));refine St.uG _ rfl (by rfl) ?_;refine g5 ?_;refine St.slot 27 (eF g) rfl rfl (go ?_);refine St.pS m (wg g wv words) cb7 (.aX rfl rfl) rfl ?_;rintro E _ ⟨tv,trees,rfl,f,rfl⟩;refine St.dD (St.wf tv.1 (λS _=>?_))
 have F:=congrArg List.length f
 rw[aO]at F
 have U:=E0 (bK g) words
 refine g3 ?_;refine St.slot 31 (.agg #[iv 0,iv 0]) rfl (by rw[y];rfl) ?_;refine St.al (λV=>g12 ?_);refine St.uG _ rfl (by rfl) ?_;refine g5 ?_;refine St.slot 37 (eF g) rfl rfl (go ?_);refine St.slot 38 (.agg #[rv.1,xv.1]) rfl rfl (St.ak (sc g rv xv R X n e) acD (.aX rfl rfl) rfl ?_);rintro v39 _ ⟨o,pv,rfl,rfl⟩;refine St.dD (g21 ?_);refine St.e7 47 2 (St.aP (.slice none 0 0) (show _=(((trees.take 0).map aN).map λt=>(dm (bK g) R X t).getD (0,0)).length from rfl) (show _=rows dv (((trees.take 0).map aN).map λt=>(dm (bK g) R X t).getD (0,0))from rfl) (St.lH (ι:=Nat×ah) (λ⟨k,lv⟩ T=>(44,iv k)::(14,lv.1)::T) (λ⟨k,lv⟩=>[row lv.1 47 2 ((((trees.take k).map aN).map λt=>(dm (bK g) R X t).getD (0,0))).length (rows dv ((((trees.take k).map aN).map λt=>(dm (bK g) R X t).getD (0,0)))),aD (sl bR tv.1 trees),aD (aL ae trees),aD (sl dv o.1 (SV (bK g) R X)),aD (sl dv pv.1 (SX (bK g) R X)),tI D [iv 0,iv 0] 39]) (λ⟨k,lv⟩=>k≤trees.length) (λ⟨k,lv⟩=>trees.length-k) ⟨0,bx⟩ (aC.k6 8 10 12 13 42 43) (aQ _) ?_));rintro ⟨k,lv⟩ hk
 dsimp only at hk⊢
 have W:(((trees.take k).map aN).map λt=>(dm (bK g) R X t).getD (0,0)).length≤200:=by rw[aO,aO,eR];omega
 refine g6 ?_;refine St.cq (λG=> ?_) (λG=> ?_)
 ·obtain⟨t,ht⟩:=aF (show k<trees.length by omega)
  have r:=aY ht
  refine St.bh ae trees (x:=t) r ?_
  have b:aN t∈(e9 (bK g) words).1:=by rw[←f];exact dh r
  obtain⟨Y,p5,_⟩:=KK b
  have H:=hp _ b
  have s:=Bp (g:=bK g) (R:=R) (X:=X) ht
  obtain⟨q,h⟩:=Option.isSome_iff_exists.1 H
  have h:lh (SV (bK g) R X) (SX (bK g) R X) (aN t) (1,1)=some q:=h
  refine g8 ?_;refine St.ee (Ev.iD (.mk rfl) ht po trivial jo gH.eq) (St.al (λI=>g9 ?_));refine St.slot 52 (dA t) rfl rfl (St.ee (Ev.call (CT (bK g) pv o (SV (bK g) R X) (SX (bK g) R X) A B t p5.tr p5.ar) acE (.eI rfl rfl rfl)) (St.slot 53 (.tuple #[.agg #[iv q.1,iv q.2],.bool true]) rfl (by rw[h];rfl) ?_));refine g3 ?_;refine St.al (λZ=>g11 ?_);refine St.cond _ rfl (λd=> ?_) (λd=> ?_)
  ·skip
   exact absurd d (by decide)
  ·skip
   refine g5 ?_;refine St.slot 61 (rY q) rfl rfl (St.iu rfl (.aq rfl) wW nG Jh rfl rfl (by simp[Value.cells]) rfl rfl (λJ=> ?_));refine St.bH (.mk rfl) (.mk rfl) wW nG Jh Xm (by intro u hu;exact dv.one q u hu) zE zE rfl rfl rfl rfl (λv63 K=> ?_);refine St.aP v63 (show _=(((trees.take (k+1)).map aN).map λt=>(dm (bK g) R X t).getD (0,0)).length by rw[s,cA];rfl) (show _=rows dv (((trees.take (k+1)).map aN).map λt=>(dm (bK g) R X t).getD (0,0)) by rw[s,bN,show(dm (bK g) R X (aN t)).getD (0,0)=q by unfold dm;rw[h];rfl];rfl) ?_;refine St.cH v63 (λi _=>g9 ?_);refine St.aH ⟨k+1,⟨v63,i⟩⟩ (by dsimp only;omega)
 ·obtain rfl:k=trees.length:=by omega
  rw[iT,f]
  obtain⟨⟨a,j⟩,L⟩:∃z,z=lv:=⟨lv,rfl⟩
  subst L;refine St.bU a dv ((e9 (bK g) words).1.map λt=>(dm (bK g) R X t).getD (0,0)) rfl rfl (zT λp M=>pf (DK _ hp p M)) (g9 ?_);refine St.ee (Ev.build (au.nil) (λw=>fP w)) (g6 ?_);refine St.rV [_,_,_] [aD (sl bR tv.1 trees),aD (aL ae trees),aD (sl dv a ((e9 (bK g) words).1.map λt=>(dm (bK g) R X t).getD (0,0)))] ?_;exact⟨tv,⟨a,j⟩,trees,rfl,f,rfl⟩
theorem Ex (g:eU)(rv xv:ah)(R X:List Int)(wv:Value)(words:List cM)(a:(km (bK g)).1=0)(b:D8 (bK g) R X)(d:(e9 (bK g) words).2=(0,0))(hp:∀t∈(e9 (bK g) words).1,(dm (bK g) R X t).isSome=true):kL prog 10 #[eF g,.agg #[rv.1,xv.1],wv] [cj g,sl aJ rv.1 R,sl aJ xv.1 X,sl fK wv words,tz,u8] (Lz (sV ((e9 (bK g) words).1.map λt=>(dm (bK g) R X t).getD (0,0)))):=by
 refine kL.body (args:=[eF g,.agg #[rv.1,xv.1],wv]) (ds:=[cj g,sl aJ rv.1 R,sl aJ xv.1 X,sl fK wv words,tz,u8]) 28 func10 rfl ntmps10 rfl (λc e=>St.cast (H':=[aD (cj g),aD (sl aJ rv.1 R),aD (sl aJ xv.1 X),aD (sl fK wv words),aD (tz),aD (u8)]) rfl (g2 ?_));refine St.cC (.mk rfl) rfl (λh=>St.cC (.mk rfl) rfl (λi=>St.al (λj=>St.al (λk=>g5 ?_))));refine St.slot 12 (eF g) rfl rfl (go ?_);refine St.slot 13 (.agg #[rv.1,xv.1]) rfl rfl (go ?_);refine St.pS e (Bo g rv xv R X wv words a b d hp) acF (.eI rfl rfl rfl) rfl ?_;rintro f _ ⟨tv,lv,trees,rfl,l,rfl⟩;refine St.kG (g4 ?_);refine St.al (λm=>g13 ?_);refine St.uG _ rfl (by rfl) ?_;refine g5 ?_;refine St.ee (Ev.call (zS lv.1 ((e9 (bK g) words).1.map λt=>(dm (bK g) R X t).getD (0,0))) cb9 (.aq rfl)) ?_
 generalize sV ((e9 (bK g) words).1.map λt=>(dm (bK g) R X t).getD (0,0))=S at*
 refine St.slot 25 (.tuple #[.agg #[iv S.1.1,iv S.1.2],.agg #[iv S.2.1,iv S.2.2]]) rfl rfl (g7 ?_);refine St.rV [_,_] [] ?_;rfl
theorem yN {l:List Pr}{i:Nat}{z:Pr}(h:l[i]?=some z):l.getD i (0,1)=z:=by rw[ax,h];rfl
theorem HQ (g:eU)(rv xv:ah)(R X:List Int)(wv:Value)(words:List cM)(D:(km (bK g)).1=0)(E:D8 (bK g) R X)(F:(e9 (bK g) words).2=(0,0))(hp:∀t∈(e9 (bK g) words).1,(dm (bK g) R X t).isSome=true):Be prog 11 #[eF g,.agg #[rv.1,xv.1],wv] ([cj g,sl aJ rv.1 R,sl aJ xv.1 X,sl fK wv words,tz,u8].map aD) (λv H'=>∃(t:bM) (p:Pr),v= .tuple #[dA t,rY p,.bool (decide ((e9 (bK g) words).1≠ [])),fv (0,0)]∧((e9 (bK g) words).1≠ []→(e9 (bK g) words).1[oJ ((e9 (bK g) words).1.map λt=>(dm (bK g) R X t).getD (0,0)) ((e9 (bK g) words).1.map λt=>(dm (bK g) R X t).getD (0,0)).length]?=some (aN t)∧((e9 (bK g) words).1.map λt=>(dm (bK g) R X t).getD (0,0))[oJ ((e9 (bK g) words).1.map λt=>(dm (bK g) R X t).getD (0,0)) ((e9 (bK g) words).1.map λt=>(dm (bK g) R X t).getD (0,0)).length]?=some p)∧H'=[aD (ae t)]):=by
 refine Be.body (args:=[eF g,.agg #[rv.1,xv.1],wv]) 66 func11 rfl ntmps11 rfl (λc G=>St.cast (H':=[aD (cj g),aD (sl aJ rv.1 R),aD (sl aJ xv.1 X),aD (sl fK wv words),aD (tz),aD (u8)]) rfl (g2 ?_));refine St.cC (.mk rfl) rfl (λS=>St.cC (.mk rfl) rfl (λU=>St.al (λm=>St.al (λo=>go ?_))));refine St.al (λr=>g5 ?_);refine St.slot 19 (eF g) rfl rfl (go ?_);refine St.slot 20 (.agg #[rv.1,xv.1]) rfl rfl (go ?_);refine St.pS G (Bo g rv xv R X wv words D E F hp) acF (.eI rfl rfl rfl) rfl ?_;rintro v22 _ ⟨tv,lv,trees,rfl,u,rfl⟩;refine St.kG (g4 ?_);refine St.al (λH=>g7 ?_)
 have s:=congrArg List.length u
 rw[aO]at s
 have V:=E0 (bK g) words
 have j:((e9 (bK g) words).1.map λt=>(dm (bK g) R X t).getD (0,0)).length=trees.length:=by rw[aO,s]
 have b:=DK (g:=bK g) (R:=R) (X:=X) _ hp
 refine g5 ?_;refine St.known 29 _ false rfl (by rfl) ?_;refine St.eK rfl rfl (go ?_);refine St.eK rfl rfl (go ?_);refine St.eK rfl rfl (go ?_);refine St.ee (Ev.p8 (.mk rfl) rfl (.mk rfl)) (g2 ?_);refine St.cq (λI=> ?_) (λI=> ?_)
 ·have z:(e9 (bK g) words).1=[]:=ka zE
  refine go ?_;refine St.jm [m,o,r] mixed (λA B=>SW.dd 0 rfl (λ_=>Ev.build (ps:=[]) (au.nil) (λw=>Xk w)) (SW.dd 1 rfl (λ_=>Ev.build (ps:=[]) (au.nil) (λw=>mg w)) (SW.gd 2 ?_)));refine SW.slot 36 (.agg #[iv 0,iv 0]) rfl rfl (SW.t1 3 ?_);refine g3 ?_;refine SW.go (SW.t1 4 ?_);refine g3 ?_;refine SW.go (SW.gd 5 ?_);refine SW.t1 6 ?_;refine g3 ?_;refine SW.go (SW.dn (g3 ?_));refine St.fact (ae (.mk 0 0 bx [])) (λρ _ _=>l3.mk (x:= .mk 0 0 bx []) (lp bR ρ) (λy hy=>by cases hy)) ?_;refine St.rV [_,_,_,_] [aD (ae (.mk 0 0 bx []))] ?_;exact⟨.mk 0 0 bx [],(0,0),by rw[z];rfl,λh=>absurd z h,rfl⟩
 ·have J:(e9 (bK g) words).1≠ []:=λh=>by rw[h,List.length_nil]at s;omega
  refine g16 ?_;refine St.lH (ι:=Nat) (λk T=>(39,iv k)::(13,iv (oJ ((e9 (bK g) words).1.map λt=>(dm (bK g) R X t).getD (0,0)) k:Nat))::T) (λk=>[aD (sl bR tv.1 trees),aD (aL ae trees),aD (sl dv lv.1 ((e9 (bK g) words).1.map λt=>(dm (bK g) R X t).getD (0,0))),tI m [iv 0,iv 0,(.slice none 0 0)] 51,tI o [iv ((0,0):Pr).1,iv ((0,0):Pr).2] 47,tI r [iv 0,iv 0] 39]) (λk=>k≤trees.length) (λk=>trees.length-k) 0 (aC.k8 6 7 8 9 10 11 37 38) (aQ _) ?_;intro k hk;obtain⟨l,K⟩:=yD b (by rw[j];omega) k (by rw[j];omega);refine g6 ?_;refine St.cq (λL=> ?_) (λL=> ?_)
  ·obtain⟨p,d⟩:=aF (show k<((e9 (bK g) words).1.map λt=>(dm (bK g) R X t).getD (0,0)).length by omega)
   obtain⟨q,a⟩:=aF l
   have C:=b p (aY d)
   have f:=b q (aY a)
   have M:jM p q=(gK p q,(0,0)):=by unfold jM;rw[CB C f];rfl
   have e:oJ ((e9 (bK g) words).1.map λt=>(dm (bK g) R X t).getD (0,0)) (k+1)=if 0<gK p q then k else oJ ((e9 (bK g) words).1.map λt=>(dm (bK g) R X t).getD (0,0)) k:=by rw[oJ,yN d,yN a]
   generalize N:oJ ((e9 (bK g) words).1.map λt=>(dm (bK g) R X t).getD (0,0)) k=W at l K a e⊢
   refine g8 ?_;refine St.ee (Ev.iD (.mk rfl) d vB trivial nG gH.eq) (St.al (λO=>g5 ?_));refine St.jm [] mixed (λA B=>SW.gd 0 ?_);refine Sq.slot 45 (rY p) rfl rfl (SW.gd 1 ?_);refine SW.gd 2 ?_;refine SW.gd 3 ?_;refine SW.dd 4 rfl (λ_=>Ev.iD (.mk rfl) a vB trivial nG gH.eq) (Sq.slot 49 (rY q) rfl rfl (SW.dd 5 rfl (λ_=>Ev.call (qn p q (pf C) (pf f)) abI (.aX rfl rfl)) (Sq.slot 50 (.tuple #[iv (gK p q),.agg #[iv 0,iv 0]]) rfl (by rw[M];rfl) ?_)));refine SW.gd 6 ?_;refine SW.gd 7 ?_;refine SW.gd 8 ?_;refine SW.t1 9 ?_;refine St.al (λY=>g2 ?_);refine SW.go (SW.gd 10 ?_);refine SW.t1 11 ?_;refine g3 ?_;refine SW.go (SW.dn (g7 ?_));refine St.cq (λP=> ?_) (λP=> ?_)
   ·refine g11 ?_
    refine St.slot 13 (iv (oJ ((e9 (bK g) words).1.map λt=>(dm (bK g) R X t).getD (0,0)) (k+1):Nat)) rfl (congrArg (λn:Nat=>iv (n:Int)) (by rw[e,aB zE])) ?_;refine St.aH (k+1) zE
   ·refine g8 ?_
    refine St.slot 13 (iv (oJ ((e9 (bK g) words).1.map λt=>(dm (bK g) R X t).getD (0,0)) (k+1):Nat)) rfl (congrArg (λn:Nat=>iv (n:Int)) (by rw[e,aA zE])) ?_;refine St.aH (k+1) zE
  ·obtain rfl:k=trees.length:=by omega
   obtain⟨q,a⟩:=aF l;obtain⟨t,ht⟩:=aF (show oJ ((e9 (bK g) words).1.map λt=>(dm (bK g) R X t).getD (0,0)) trees.length<trees.length by omega)
   have Q:=aY ht
   refine St.bh ae trees (x:=t) Q ?_
   generalize i:oJ ((e9 (bK g) words).1.map λt=>(dm (bK g) R X t).getD (0,0)) trees.length=Z at l a ht⊢
   refine g6 ?_;refine St.jm [m,o,r] mixed (λA B=>SW.gd 0 ?_);refine SW.gd 1 ?_;refine SW.gd 2 ?_;refine SW.dd 3 rfl (λ_=>Ev.iD (.mk rfl) ht po trivial jo gH.eq) (SW.gd 4 ?_);refine SW.gd 5 ?_;refine SW.gd 6 ?_;refine SW.dd 7 rfl (λ_=>Ev.iD (.mk rfl) a vB trivial nG gH.eq) (SW.slot 64 (rY q) rfl rfl (SW.dd 8 rfl (λ_=>Ev.build (ps:=[]) (au.nil) (λw=>fP w)) (SW.t1 9 ?_)));refine g3 ?_;refine SW.go (SW.t1 10 ?_);refine g3 ?_;refine SW.go (SW.gd 11 ?_);refine SW.t1 12 ?_;refine g3 ?_;refine SW.go (SW.dn (g2 ?_));refine St.rV [_,_,_,_] [aD (ae t)] ?_;exact⟨t,q,by rw[cX J];rfl,λ_=>⟨by rw[j,i,←u,bJ,ht];rfl,by rw[j,i];exact a⟩,rfl⟩
abbrev e0:j0:= .mk sE []
abbrev t0:j0:= .mk sT []
abbrev ao (a b:j0):j0:= .mk [] [a,b]
abbrev ab (i:Int):ji:= .mk 2 [] i S0 []
abbrev aM (a b:ji):ji:= .mk 4 [] 0 S0 [a,b]
abbrev aw (s:j0)(t:ji):ji:= .mk 3 [] 0 s [t]
abbrev bf (n:cM)(s:j0):ji:= .mk 1 n 0 s []
abbrev p0:j0:=ao e0 t0
abbrev ahI (q c:cM):ji:=aM (bf q (ao p0 t0)) (aw e0 (aM (aM (bf c (ao t0 (ao t0 t0))) (aM (ab 2) (ab 0))) (aM (ab 1) (ab 0))))
abbrev an6:cM:=[110,111,116]
def nE (q c:cM)(no:Bool):ji:=aw p0 (aw p0 (if no then aM (bf an6 (ao t0 t0)) (ahI q c)else ahI q c))
theorem lj (q cc:cM)(no:Bool)(i:nY q)(j:nY cc):dx prog 30 #[sv q,sv cc,.bool no] ([].map aD) (λv H'=>H'=[aD (isTerm (nE q cc no) v)]):=by
 refine dx.body (args:=[sv q,sv cc,.bool no]) 51 func30 rfl ntmps30 rfl (λc=>St.cast (H':=[]) rfl (g2 ?_));refine St.al (λU=>g4 ?_);refine St.ak (mU [101] (by decide)) Lo (.aq rfl) rfl ?_;rintro v11 _ rfl;refine St.bB (St.dL e0 v11 (λg y=>?_));obtain⟨z,A,B⟩:=y;subst z;refine St.ak (mU [116] (by decide)) Lo (.aq rfl) rfl ?_;rintro v12 _ rfl;refine St.bB (St.dL t0 v12 (λb C=>?_));obtain⟨D,E,F⟩:=C;subst D;refine St.al (λV=>St.al (λW=>g8 ?_));refine St.ak (fQ (aV g) (aV b) e0 t0) qj (.aX rfl rfl) rfl ?_;rintro k _ rfl;refine St.bB (St.dL p0 k (λd l=>?_));obtain⟨G,H,I⟩:=l;subst G;refine St.al (λX=>g4 ?_);refine St.ajM 23 24 16 [10] (⟨16,[],λu=>cZ u ((sv q))⟩::⟨17,[],λu=>cZ u ((aV d))⟩::⟨18,[],λu=>cZ u ((aV b))⟩::⟨19,[1,2],λu=>dL (ao p0 t0) u⟩::⟨20,[0,3],λu=>isTerm (bf q (ao p0 t0)) u⟩::⟨21,[],λu=>cZ u ((aV g))⟩::⟨22,[],λu=>cZ u ((sv cc))⟩::⟨23,[],λu=>cZ u ((aV b))⟩::⟨24,[],λu=>cZ u ((aV b))⟩::⟨25,[],λu=>cZ u ((aV b))⟩::⟨26,[8,9],λu=>dL (ao t0 t0) u⟩::⟨27,[7,10],λu=>dL (ao t0 (ao t0 t0)) u⟩::⟨28,[6,11],λu=>isTerm (bf cc (ao t0 (ao t0 t0))) u⟩::⟨29,[],λu=>isTerm (ab 2) u⟩::⟨30,[],λu=>isTerm (ab 0) u⟩::⟨31,[13,14],λu=>isTerm (aM (ab 2) (ab 0)) u⟩::⟨32,[12,15],λu=>isTerm (aM (bf cc (ao t0 (ao t0 t0))) (aM (ab 2) (ab 0))) u⟩::⟨33,[],λu=>isTerm (ab 1) u⟩::⟨34,[],λu=>isTerm (ab 0) u⟩::⟨35,[17,18],λu=>isTerm (aM (ab 1) (ab 0)) u⟩::⟨36,[16,19],λu=>isTerm (aM (aM (bf cc (ao t0 (ao t0 t0))) (aM (ab 2) (ab 0))) (aM (ab 1) (ab 0))) u⟩::⟨37,[5,20],λu=>isTerm (aw e0 (aM (aM (bf cc (ao t0 (ao t0 t0))) (aM (ab 2) (ab 0))) (aM (ab 1) (ab 0)))) u⟩::⟨38,[4,21],λu=>isTerm (aM (bf q (ao p0 t0)) (aw e0 (aM (aM (bf cc (ao t0 (ao t0 t0))) (aM (ab 2) (ab 0))) (aM (ab 1) (ab 0))))) u⟩::⟨10,[],λu=>cZ u u⟩::[]) ((16,[])::(17,[])::(18,[])::(19,[1,2])::(20,[0,3])::(21,[])::(22,[])::(23,[])::(24,[])::(25,[])::(26,[8,9])::(27,[7,10])::(28,[6,11])::(29,[])::(30,[])::(31,[13,14])::(32,[12,15])::(33,[])::(34,[])::(35,[17,18])::(36,[16,19])::(37,[5,20])::(38,[4,21])::(10,[])::[]) [23,22] rfl rfl Jf rfl (by kernel_rfl) rfl rfl mixed (by kernel_rfl) (by kernel_rfl) (by rfl) (λe=>[(10,e 23),(38,e 22)]) (λe=>[aD (cZ (e 23) (e 23)),aD (isTerm (aM (bf q (ao p0 t0)) (aw e0 (aM (aM (bf cc (ao t0 (ao t0 t0))) (aM (ab 2) (ab 0))) (aM (ab 1) (ab 0))))) (e 22))]) (λ_=>rfl) (λ_=>rfl) ?_ (λe m n=> ?_)
 ·refine an.c0 (λc e a=> ?_) ?_
  ·refine St.aM ?_
   refine go ?_;refine St.fact (cZ ((sv q)) ((sv q))) (λ_ _ _=>rfl) ?_;exact St.bg _
  refine an.c0 (λc e a=> ?_) ?_
  ·refine St.aM ?_
   refine go ?_;refine St.fact (cZ ((aV d)) ((aV d))) (λ_ _ _=>rfl) ?_;exact St.bg _
  refine an.c0 (λc e a=> ?_) ?_
  ·refine St.aM ?_
   refine go ?_;refine St.fact (cZ ((aV b)) ((aV b))) (λ_ _ _=>rfl) ?_;exact St.bg _
  refine an.cc (λe=>[(17,e 1),(18,e 2)]) (λe=>[aD (cZ (e 1) ((aV d))),aD (cZ (e 2) ((aV b)))]) (λc e a=> ?_) ?_
  ·refine St.dD ?_
   refine St.bm (P:=prog) 17 (e 1) ((aV d)) rfl (St.bm (P:=prog) 18 (e 2) ((aV b)) rfl (St.ak (fQ (aV d) (aV b) p0 t0) qj (.aX rfl rfl) rfl ?_));rintro J _ rfl;refine St.bB ?_;exact St.bg _
  refine an.cc (λe=>[(16,e 0),(19,e 3)]) (λe=>[aD (cZ (e 0) ((sv q))),aD (dL (ao p0 t0) (e 3))]) (λc e a=> ?_) ?_
  ·refine St.dD ?_
   refine St.bm (P:=prog) 16 (e 0) ((sv q)) rfl (St.ak (eP q i (e 3) (ao p0 t0)) oM (.aX rfl rfl) rfl ?_);rintro v20 _ rfl;refine St.bB ?_;exact St.bg _
  refine an.c0 (λc e a=> ?_) ?_
  ·refine St.aM ?_
   refine go ?_;refine St.fact (cZ ((aV g)) ((aV g))) (λ_ _ _=>rfl) ?_;exact St.bg _
  refine an.c0 (λc e a=> ?_) ?_
  ·refine St.aM ?_
   refine go ?_;refine St.fact (cZ ((sv cc)) ((sv cc))) (λ_ _ _=>rfl) ?_;exact St.bg _
  refine an.c0 (λc e a=> ?_) ?_
  ·refine St.aM ?_
   refine go ?_;refine St.fact (cZ ((aV b)) ((aV b))) (λ_ _ _=>rfl) ?_;exact St.bg _
  refine an.c0 (λc e a=> ?_) ?_
  ·refine St.aM ?_
   refine go ?_;refine St.fact (cZ ((aV b)) ((aV b))) (λ_ _ _=>rfl) ?_;exact St.bg _
  refine an.c0 (λc e a=> ?_) ?_
  ·refine St.aM ?_
   refine go ?_;refine St.fact (cZ ((aV b)) ((aV b))) (λ_ _ _=>rfl) ?_;exact St.bg _
  refine an.cc (λe=>[(24,e 8),(25,e 9)]) (λe=>[aD (cZ (e 8) ((aV b))),aD (cZ (e 9) ((aV b)))]) (λc e a=> ?_) ?_
  ·refine St.dD ?_
   refine St.bm (P:=prog) 24 (e 8) ((aV b)) rfl (St.bm (P:=prog) 25 (e 9) ((aV b)) rfl (St.ak (fQ (aV b) (aV b) t0 t0) qj (.aX rfl rfl) rfl ?_));rintro v26 _ rfl;refine St.bB ?_;exact St.bg _
  refine an.cc (λe=>[(23,e 7),(26,e 10)]) (λe=>[aD (cZ (e 7) ((aV b))),aD (dL (ao t0 t0) (e 10))]) (λc e a=> ?_) ?_
  ·refine St.dD ?_
   refine St.bm (P:=prog) 23 (e 7) ((aV b)) rfl (St.ak (fQ (aV b) (e 10) t0 (ao t0 t0)) qj (.aX rfl rfl) rfl ?_);rintro v27 _ rfl;refine St.bB ?_;exact St.bg _
  refine an.cc (λe=>[(22,e 6),(27,e 11)]) (λe=>[aD (cZ (e 6) ((sv cc))),aD (dL (ao t0 (ao t0 t0)) (e 11))]) (λc e a=> ?_) ?_
  ·refine St.dD ?_
   refine St.bm (P:=prog) 22 (e 6) ((sv cc)) rfl (St.ak (eP cc j (e 11) (ao t0 (ao t0 t0))) oM (.aX rfl rfl) rfl ?_);rintro v28 _ rfl;refine St.bB ?_;exact St.bg _
  refine an.c0 (λc e a=> ?_) ?_
  ·refine St.aM ?_
   refine St.ak (cw 2 (by unfold aZ;decide)) mi (.aq rfl) rfl ?_;rintro K _ rfl;refine St.bB ?_;exact St.bg _
  refine an.c0 (λc e a=> ?_) ?_
  ·refine St.aM ?_
   refine St.ak (cw 0 (by unfold aZ;decide)) mi (.aq rfl) rfl ?_;rintro v30 _ rfl;refine St.bB ?_;exact St.bg _
  refine an.cc (λe=>[(29,e 13),(30,e 14)]) (λe=>[aD (isTerm (ab 2) (e 13)),aD (isTerm (ab 0) (e 14))]) (λc e a=> ?_) ?_
  ·refine St.dD ?_
   refine St.ak (ei (e 13) (e 14) (ab 2) (ab 0)) pT (.aX rfl rfl) rfl ?_;rintro v31 _ rfl;refine St.bB ?_;exact St.bg _
  refine an.cc (λe=>[(28,e 12),(31,e 15)]) (λe=>[aD (isTerm (bf cc (ao t0 (ao t0 t0))) (e 12)),aD (isTerm (aM (ab 2) (ab 0)) (e 15))]) (λc e a=> ?_) ?_
  ·refine St.dD ?_
   refine St.ak (ei (e 12) (e 15) (bf cc (ao t0 (ao t0 t0))) (aM (ab 2) (ab 0))) pT (.aX rfl rfl) rfl ?_;rintro v32 _ rfl;refine St.bB ?_;exact St.bg _
  refine an.c0 (λc e a=> ?_) ?_
  ·refine St.aM ?_
   refine St.ak (cw 1 (by unfold aZ;decide)) mi (.aq rfl) rfl ?_;rintro v33 _ rfl;refine St.bB ?_;exact St.bg _
  refine an.c0 (λc e a=> ?_) ?_
  ·refine St.aM ?_
   refine St.ak (cw 0 (by unfold aZ;decide)) mi (.aq rfl) rfl ?_;rintro L _ rfl;refine St.bB ?_;exact St.bg _
  refine an.cc (λe=>[(33,e 17),(34,e 18)]) (λe=>[aD (isTerm (ab 1) (e 17)),aD (isTerm (ab 0) (e 18))]) (λc e a=> ?_) ?_
  ·refine St.dD ?_
   refine St.ak (ei (e 17) (e 18) (ab 1) (ab 0)) pT (.aX rfl rfl) rfl ?_;rintro v35 _ rfl;refine St.bB ?_;exact St.bg _
  refine an.cc (λe=>[(32,e 16),(35,e 19)]) (λe=>[aD (isTerm (aM (bf cc (ao t0 (ao t0 t0))) (aM (ab 2) (ab 0))) (e 16)),aD (isTerm (aM (ab 1) (ab 0)) (e 19))]) (λc e a=> ?_) ?_
  ·refine St.dD ?_
   refine St.ak (ei (e 16) (e 19) (aM (bf cc (ao t0 (ao t0 t0))) (aM (ab 2) (ab 0))) (aM (ab 1) (ab 0))) pT (.aX rfl rfl) rfl ?_;rintro v36 _ rfl;refine St.bB ?_;exact St.bg _
  refine an.cc (λe=>[(21,e 5),(36,e 20)]) (λe=>[aD (cZ (e 5) ((aV g))),aD (isTerm (aM (aM (bf cc (ao t0 (ao t0 t0))) (aM (ab 2) (ab 0))) (aM (ab 1) (ab 0))) (e 20))]) (λc e a=> ?_) ?_
  ·refine St.dD ?_
   refine St.bm (P:=prog) 21 (e 5) ((aV g)) rfl (St.ak (eC (aV g) (e 20) e0 (aM (aM (bf cc (ao t0 (ao t0 t0))) (aM (ab 2) (ab 0))) (aM (ab 1) (ab 0)))) mh (.aX rfl rfl) rfl ?_);rintro v37 _ rfl;refine St.bB ?_;exact St.bg _
  refine an.cc (λe=>[(20,e 4),(37,e 21)]) (λe=>[aD (isTerm (bf q (ao p0 t0)) (e 4)),aD (isTerm (aw e0 (aM (aM (bf cc (ao t0 (ao t0 t0))) (aM (ab 2) (ab 0))) (aM (ab 1) (ab 0)))) (e 21))]) (λc e a=> ?_) ?_
  ·refine St.dD ?_
   refine St.ak (ei (e 4) (e 21) (bf q (ao p0 t0)) (aw e0 (aM (aM (bf cc (ao t0 (ao t0 t0))) (aM (ab 2) (ab 0))) (aM (ab 1) (ab 0))))) pT (.aX rfl rfl) rfl ?_;rintro v38 _ rfl;refine St.bB ?_;exact St.bg _
  refine an.c0 (λc e a=> ?_) ?_
  ·refine St.aM ?_
   refine St.al (λm=>St.fact (cZ (tW m) (tW m)) (λ_ _ _=>rfl) ?_);exact St.bg _
  exact an.nil
 refine St.dD (St.slot 10 _ rfl n (St.isTerm (aM (bf q (ao p0 t0)) (aw e0 (aM (aM (bf cc (ao t0 (ao t0 t0))) (aM (ab 2) (ab 0))) (aM (ab 1) (ab 0))))) (e 22) (λf M=>?_)));obtain⟨o,N,O⟩:=M;rw[o];refine g9 ?_;refine St.cond _ rfl (λp=> ?_) (λp=> ?_)
 ·skip
  refine St.Vd 6 40 [] (⟨40,[],λu=>cZ u ((aV b))⟩::⟨41,[],λu=>cZ u ((aV b))⟩::⟨42,[0,1],λu=>dL (ao t0 t0) u⟩::⟨43,[2],λu=>isTerm (bf [110,111,116] (ao t0 t0)) u⟩::⟨44,[],λu=>cZ u ((cR f))⟩::⟨45,[3,4],λu=>isTerm (aM (bf [110,111,116] (ao t0 t0)) (aM (bf q (ao p0 t0)) (aw e0 (aM (aM (bf cc (ao t0 (ao t0 t0))) (aM (ab 2) (ab 0))) (aM (ab 1) (ab 0)))))) u⟩::[]) ((40,[])::(41,[])::(42,[0,1])::(43,[2])::(44,[])::(45,[3,4])::[]) [5] rfl rfl mixed (by kernel_rfl) (by kernel_rfl) (by rfl) (λe=>[(45,e 5)]) (λe=>[aD (isTerm (aM (bf [110,111,116] (ao t0 t0)) (aM (bf q (ao p0 t0)) (aw e0 (aM (aM (bf cc (ao t0 (ao t0 t0))) (aM (ab 2) (ab 0))) (aM (ab 1) (ab 0)))))) (e 5))]) (λ_=>rfl) (λ_=>rfl) ?_ (λe=> ?_)
  ·refine an.c0 (λc e a=> ?_) ?_
   ·refine St.aM ?_
    refine go ?_;refine St.fact (cZ ((aV b)) ((aV b))) (λ_ _ _=>rfl) ?_;exact St.bg _
   refine an.c0 (λc e a=> ?_) ?_
   ·refine St.aM ?_
    refine go ?_;refine St.fact (cZ ((aV b)) ((aV b))) (λ_ _ _=>rfl) ?_;exact St.bg _
   refine an.cc (λe=>[(40,e 0),(41,e 1)]) (λe=>[aD (cZ (e 0) ((aV b))),aD (cZ (e 1) ((aV b)))]) (λc e a=> ?_) ?_
   ·refine St.dD ?_
    refine St.bm (P:=prog) 40 (e 0) ((aV b)) rfl (St.bm (P:=prog) 41 (e 1) ((aV b)) rfl (St.ak (fQ (aV b) (aV b) t0 t0) qj (.aX rfl rfl) rfl ?_));rintro v42 _ rfl;refine St.bB ?_;exact St.bg _
   refine an.cc (λe=>[(42,e 2)]) (λe=>[aD (dL (ao t0 t0) (e 2))]) (λc e a=> ?_) ?_
   ·refine St.bB ?_
    refine St.ak (eP [110,111,116] (by decide) (e 2) (ao t0 t0)) oM (.aX rfl rfl) rfl ?_;rintro Q _ rfl;refine St.bB ?_;exact St.bg _
   refine an.c0 (λc e a=> ?_) ?_
   ·refine St.aM ?_
    refine go ?_;refine St.fact (cZ ((cR f)) ((cR f))) (λ_ _ _=>rfl) ?_;exact St.bg _
   refine an.cc (λe=>[(43,e 3),(44,e 4)]) (λe=>[aD (isTerm (bf [110,111,116] (ao t0 t0)) (e 3)),aD (cZ (e 4) ((cR f)))]) (λc e a=> ?_) ?_
   ·refine St.dD ?_
    refine St.bm (P:=prog) 44 (e 4) ((cR f)) rfl (St.ak (ei (e 3) (cR f) (bf [110,111,116] (ao t0 t0)) (aM (bf q (ao p0 t0)) (aw e0 (aM (aM (bf cc (ao t0 (ao t0 t0))) (aM (ab 2) (ab 0))) (aM (ab 1) (ab 0)))))) pT (.aX rfl rfl) rfl ?_);rintro v45 _ rfl;refine St.bB ?_;exact St.bg _
   exact an.nil
  refine St.bB (St.isTerm (aM (bf [110,111,116] (ao t0 t0)) (aM (bf q (ao p0 t0)) (aw e0 (aM (aM (bf cc (ao t0 (ao t0 t0))) (aM (ab 2) (ab 0))) (aM (ab 1) (ab 0)))))) (e 5) (λxn R=>?_));obtain⟨r,S,T⟩:=R;rw[r];refine g4 ?_;refine St.Vd 5 46 [] (⟨46,[],λu=>cZ u ((aV d))⟩::⟨47,[],λu=>cZ u ((aV d))⟩::⟨48,[],λu=>cZ u ((cR xn))⟩::⟨49,[1,2],λu=>isTerm (aw p0 (aM (bf [110,111,116] (ao t0 t0)) (aM (bf q (ao p0 t0)) (aw e0 (aM (aM (bf cc (ao t0 (ao t0 t0))) (aM (ab 2) (ab 0))) (aM (ab 1) (ab 0))))))) u⟩::⟨50,[0,3],λu=>isTerm (aw p0 (aw p0 (aM (bf [110,111,116] (ao t0 t0)) (aM (bf q (ao p0 t0)) (aw e0 (aM (aM (bf cc (ao t0 (ao t0 t0))) (aM (ab 2) (ab 0))) (aM (ab 1) (ab 0)))))))) u⟩::[]) ((46,[])::(47,[])::(48,[])::(49,[1,2])::(50,[0,3])::[]) [4] rfl rfl mixed (by kernel_rfl) (by kernel_rfl) (by rfl) (λe=>[(50,e 4)]) (λe=>[aD (isTerm (aw p0 (aw p0 (aM (bf [110,111,116] (ao t0 t0)) (aM (bf q (ao p0 t0)) (aw e0 (aM (aM (bf cc (ao t0 (ao t0 t0))) (aM (ab 2) (ab 0))) (aM (ab 1) (ab 0)))))))) (e 4))]) (λ_=>rfl) (λ_=>rfl) ?_ (λe=> ?_)
  ·refine an.c0 (λc e a=> ?_) ?_
   ·refine St.aM ?_
    refine go ?_;refine St.fact (cZ ((aV d)) ((aV d))) (λ_ _ _=>rfl) ?_;exact St.bg _
   refine an.c0 (λc e a=> ?_) ?_
   ·refine St.aM ?_
    refine go ?_;refine St.fact (cZ ((aV d)) ((aV d))) (λ_ _ _=>rfl) ?_;exact St.bg _
   refine an.c0 (λc e a=> ?_) ?_
   ·refine St.aM ?_
    refine go ?_;refine St.fact (cZ ((cR xn)) ((cR xn))) (λ_ _ _=>rfl) ?_;exact St.bg _
   refine an.cc (λe=>[(47,e 1),(48,e 2)]) (λe=>[aD (cZ (e 1) ((aV d))),aD (cZ (e 2) ((cR xn)))]) (λc e a=> ?_) ?_
   ·refine St.dD ?_
    refine St.bm (P:=prog) 47 (e 1) ((aV d)) rfl (St.bm (P:=prog) 48 (e 2) ((cR xn)) rfl (St.ak (eC (aV d) (cR xn) p0 (aM (bf [110,111,116] (ao t0 t0)) (aM (bf q (ao p0 t0)) (aw e0 (aM (aM (bf cc (ao t0 (ao t0 t0))) (aM (ab 2) (ab 0))) (aM (ab 1) (ab 0))))))) mh (.aX rfl rfl) rfl ?_));rintro v49 _ rfl;refine St.bB ?_;exact St.bg _
   refine an.cc (λe=>[(46,e 0),(49,e 3)]) (λe=>[aD (cZ (e 0) ((aV d))),aD (isTerm (aw p0 (aM (bf [110,111,116] (ao t0 t0)) (aM (bf q (ao p0 t0)) (aw e0 (aM (aM (bf cc (ao t0 (ao t0 t0))) (aM (ab 2) (ab 0))) (aM (ab 1) (ab 0))))))) (e 3))]) (λc e a=> ?_) ?_
   ·refine St.dD ?_
    refine St.bm (P:=prog) 46 (e 0) ((aV d)) rfl (St.ak (eC (aV d) (e 3) p0 (aw p0 (aM (bf [110,111,116] (ao t0 t0)) (aM (bf q (ao p0 t0)) (aw e0 (aM (aM (bf cc (ao t0 (ao t0 t0))) (aM (ab 2) (ab 0))) (aM (ab 1) (ab 0)))))))) mh (.aX rfl rfl) rfl ?_);rintro v50 _ rfl;refine St.bB ?_;exact St.bg _
   exact an.nil
  refine St.bB (St.isTerm (aw p0 (aw p0 (aM (bf [110,111,116] (ao t0 t0)) (aM (bf q (ao p0 t0)) (aw e0 (aM (aM (bf cc (ao t0 (ao t0 t0))) (aM (ab 2) (ab 0))) (aM (ab 1) (ab 0)))))))) (e 4) (λs h=>?_));obtain⟨t,w,x⟩:=h;rw[t];refine g4 ?_
  have i:(aw p0 (aw p0 (aM (bf [110,111,116] (ao t0 t0)) (aM (bf q (ao p0 t0)) (aw e0 (aM (aM (bf cc (ao t0 (ao t0 t0))) (aM (ab 2) (ab 0))) (aM (ab 1) (ab 0))))))))=nE q cc no:=by rw[p];rfl
  rw[i];refine St.rV [_] [aD (isTerm (nE q cc no) (cR s))] ?_;rfl
 ·skip
  refine g3 ?_;refine St.Vd 5 46 [] (⟨46,[],λu=>cZ u ((aV d))⟩::⟨47,[],λu=>cZ u ((aV d))⟩::⟨48,[],λu=>cZ u ((cR f))⟩::⟨49,[1,2],λu=>isTerm (aw p0 (aM (bf q (ao p0 t0)) (aw e0 (aM (aM (bf cc (ao t0 (ao t0 t0))) (aM (ab 2) (ab 0))) (aM (ab 1) (ab 0)))))) u⟩::⟨50,[0,3],λu=>isTerm (aw p0 (aw p0 (aM (bf q (ao p0 t0)) (aw e0 (aM (aM (bf cc (ao t0 (ao t0 t0))) (aM (ab 2) (ab 0))) (aM (ab 1) (ab 0))))))) u⟩::[]) ((46,[])::(47,[])::(48,[])::(49,[1,2])::(50,[0,3])::[]) [4] rfl rfl mixed (by kernel_rfl) (by kernel_rfl) (by rfl) (λe=>[(50,e 4)]) (λe=>[aD (isTerm (aw p0 (aw p0 (aM (bf q (ao p0 t0)) (aw e0 (aM (aM (bf cc (ao t0 (ao t0 t0))) (aM (ab 2) (ab 0))) (aM (ab 1) (ab 0))))))) (e 4))]) (λ_=>rfl) (λ_=>rfl) ?_ (λe=> ?_)
  ·refine an.c0 (λc e a=> ?_) ?_
   ·refine St.aM ?_
    refine go ?_;refine St.fact (cZ ((aV d)) ((aV d))) (λ_ _ _=>rfl) ?_;exact St.bg _
   refine an.c0 (λc e a=> ?_) ?_
   ·refine St.aM ?_
    refine go ?_;refine St.fact (cZ ((aV d)) ((aV d))) (λ_ _ _=>rfl) ?_;exact St.bg _
   refine an.c0 (λc e a=> ?_) ?_
   ·refine St.aM ?_
    refine go ?_;refine St.fact (cZ ((cR f)) ((cR f))) (λ_ _ _=>rfl) ?_;exact St.bg _
   refine an.cc (λe=>[(47,e 1),(48,e 2)]) (λe=>[aD (cZ (e 1) ((aV d))),aD (cZ (e 2) ((cR f)))]) (λc e a=> ?_) ?_
   ·refine St.dD ?_
    refine St.bm (P:=prog) 47 (e 1) ((aV d)) rfl (St.bm (P:=prog) 48 (e 2) ((cR f)) rfl (St.ak (eC (aV d) (cR f) p0 (aM (bf q (ao p0 t0)) (aw e0 (aM (aM (bf cc (ao t0 (ao t0 t0))) (aM (ab 2) (ab 0))) (aM (ab 1) (ab 0)))))) mh (.aX rfl rfl) rfl ?_));rintro v49 _ rfl;refine St.bB ?_;exact St.bg _
   refine an.cc (λe=>[(46,e 0),(49,e 3)]) (λe=>[aD (cZ (e 0) ((aV d))),aD (isTerm (aw p0 (aM (bf q (ao p0 t0)) (aw e0 (aM (aM (bf cc (ao t0 (ao t0 t0))) (aM (ab 2) (ab 0))) (aM (ab 1) (ab 0)))))) (e 3))]) (λc e a=> ?_) ?_
   ·refine St.dD ?_
    refine St.bm (P:=prog) 46 (e 0) ((aV d)) rfl (St.ak (eC (aV d) (e 3) p0 (aw p0 (aM (bf q (ao p0 t0)) (aw e0 (aM (aM (bf cc (ao t0 (ao t0 t0))) (aM (ab 2) (ab 0))) (aM (ab 1) (ab 0))))))) mh (.aX rfl rfl) rfl ?_);rintro v50 _ rfl;refine St.bB ?_;exact St.bg _
   exact an.nil
  refine St.bB (St.isTerm (aw p0 (aw p0 (aM (bf q (ao p0 t0)) (aw e0 (aM (aM (bf cc (ao t0 (ao t0 t0))) (aM (ab 2) (ab 0))) (aM (ab 1) (ab 0))))))) (e 4) (λs h=>?_));obtain⟨t,w,x⟩:=h;rw[t];refine g4 ?_
  have i:(aw p0 (aw p0 (aM (bf q (ao p0 t0)) (aw e0 (aM (aM (bf cc (ao t0 (ao t0 t0))) (aM (ab 2) (ab 0))) (aM (ab 1) (ab 0)))))))=nE q cc no:=by rw[p];rfl
  rw[i];refine St.rV [_] [aD (isTerm (nE q cc no) (cR s))] ?_;rfl
theorem K9 {n:Nat}{F:Fr}{c:Ctx}{H:List ay}{T:Act→World→Prop}{α:Type}(f:α→e8)(xs:List α)(ds:List e8)(a:ds=xs.map f)[hd:lG ds H](k:St n F (Mm c (aD (aL f xs)::H)) T):St n F (Mm c H) T:=
 St.fF (aL f xs) ds (λρ h x hx=>h _ (by rw[a];exact dh hx)) k
theorem all_cons {α:Type}{p:α→Prop}{x:α}{l:List α}(h:p x)(k:∀y∈l,p y):∀y∈x::l,p y:=λy hy=>by
 rcases cN.1 hy with rfl|hy
 ·exact h
 ·exact k y hy
theorem all_nil {α:Type}{p:α→Prop}:∀y∈([]:List α),p y:=λy hy=>by cases hy
def tK:List ji:=[(aw (ao (ao (.mk [101] []) (.mk [116] [])) (.mk [116] [])) (aw (ao (.mk [101] []) (.mk [116] [])) (aM (ab 1) (ab 0)))),(aw (ao (ao (.mk [101] []) (.mk [116] [])) (ao (ao (.mk [101] []) (.mk [116] [])) (.mk [116] []))) (aw (ao (.mk [101] []) (.mk [116] [])) (aM (ab 1) (ab 0)))),(aw (ao (.mk [101] []) (.mk [116] [])) (ab 0)),(aw (ao (.mk [101] []) (ao (.mk [101] []) (.mk [116] []))) (aw (ao (ao (.mk [101] []) (.mk [116] [])) (.mk [116] [])) (aw (.mk [101] []) (aM (ab 1) (aw (.mk [101] []) (aM (aM (ab 3) (ab 1)) (ab 0))))))),(aw (ao (.mk [116] []) (.mk [116] [])) (aw (ao (.mk [101] []) (.mk [116] [])) (aw (.mk [101] []) (aM (ab 2) (aM (ab 1) (ab 0)))))),(aw (ao (ao (.mk [101] []) (.mk [116] [])) (.mk [116] [])) (aw (ao (.mk [116] []) (ao (.mk [116] []) (.mk [116] []))) (aw (ao (ao (.mk [101] []) (.mk [116] [])) (.mk [116] [])) (aw (ao (.mk [101] []) (.mk [116] [])) (aM (aM (ab 2) (aM (ab 3) (ab 0))) (aM (ab 1) (ab 0)))))))]
theorem BJ:dx prog 27 #[.bool false] ([].map aD) (λv H'=>H'=[aD (mO tK v)]):=by
 refine dx.body (args:=[.bool false]) 128 func27 rfl ntmps27 rfl (λc=>St.cast (H':=[]) rfl (g7 ?_));refine St.ak (mU [101] (by decide)) Lo (.aq rfl) rfl ?_;rintro v10 _ rfl;refine St.bB (St.dL (.mk [101] []) v10 (λg Z=>?_));obtain⟨YZ,anR,anS⟩:=Z;subst YZ;refine St.ak (mU [116] (by decide)) Lo (.aq rfl) rfl ?_;rintro v11 _ rfl;refine St.bB (St.dL (.mk [116] []) v11 (λd UK=>?_));obtain⟨Yc,anX,anY⟩:=UK;subst Yc;refine St.al (λb3=>St.al (λb4=>g8 ?_));refine St.ak (fQ (aV g) (aV d) (.mk [101] []) (.mk [116] [])) qj (.aX rfl rfl) rfl ?_;rintro r _ rfl;refine St.bB (St.dL (ao (.mk [101] []) (.mk [116] [])) r (λb s=>?_));obtain⟨Ya,anT,anU⟩:=s;subst Ya;refine St.al (λb5=>g7 ?_);refine St.ak (fQ (aV b) (aV d) (ao (.mk [101] []) (.mk [116] [])) (.mk [116] [])) qj (.aX rfl rfl) rfl ?_;rintro v17 _ rfl;refine St.bB (St.dL (ao (ao (.mk [101] []) (.mk [116] [])) (.mk [116] [])) v17 (λf t=>?_));obtain⟨w,aqL,aqM⟩:=t;subst w;refine St.al (λb6=>g7 ?_);refine St.ak (fQ (aV g) (aV b) (.mk [101] []) (ao (.mk [101] []) (.mk [116] []))) qj (.aX rfl rfl) rfl ?_;rintro v20 _ rfl;refine St.bB (St.dL (ao (.mk [101] []) (ao (.mk [101] []) (.mk [116] []))) v20 (λp x=>?_));obtain⟨Yb,anV,anW⟩:=x;subst Yb;refine St.al (λb7=>g7 ?_);refine St.ak (fQ (aV b) (aV f) (ao (.mk [101] []) (.mk [116] [])) (ao (ao (.mk [101] []) (.mk [116] [])) (.mk [116] []))) qj (.aX rfl rfl) rfl ?_;rintro v23 _ rfl;refine St.bB (St.dL (ao (ao (.mk [101] []) (.mk [116] [])) (ao (ao (.mk [101] []) (.mk [116] [])) (.mk [116] []))) v23 (λq y=>?_));obtain⟨z,aqJ,aqK⟩:=y;subst z;refine St.al (λb8=>g4 ?_);refine St.Vd 67 24 [] (⟨24,[],λu=>cZ u ((aV f))⟩::⟨25,[],λu=>cZ u ((aV b))⟩::⟨26,[],λu=>isTerm (ab 1) u⟩::⟨27,[],λu=>isTerm (ab 0) u⟩::⟨28,[2,3],λu=>isTerm (aM (ab 1) (ab 0)) u⟩::⟨29,[1,4],λu=>isTerm (aw (ao (.mk [101] []) (.mk [116] [])) (aM (ab 1) (ab 0))) u⟩::⟨30,[0,5],λu=>isTerm (aw (ao (ao (.mk [101] []) (.mk [116] [])) (.mk [116] [])) (aw (ao (.mk [101] []) (.mk [116] [])) (aM (ab 1) (ab 0)))) u⟩::⟨31,[],λu=>cZ u ((aV q))⟩::⟨32,[],λu=>cZ u ((aV b))⟩::⟨33,[],λu=>isTerm (ab 1) u⟩::⟨34,[],λu=>isTerm (ab 0) u⟩::⟨35,[9,10],λu=>isTerm (aM (ab 1) (ab 0)) u⟩::⟨36,[8,11],λu=>isTerm (aw (ao (.mk [101] []) (.mk [116] [])) (aM (ab 1) (ab 0))) u⟩::⟨37,[7,12],λu=>isTerm (aw (ao (ao (.mk [101] []) (.mk [116] [])) (ao (ao (.mk [101] []) (.mk [116] [])) (.mk [116] []))) (aw (ao (.mk [101] []) (.mk [116] [])) (aM (ab 1) (ab 0)))) u⟩::⟨38,[],λu=>cZ u ((aV b))⟩::⟨39,[],λu=>isTerm (ab 0) u⟩::⟨40,[14,15],λu=>isTerm (aw (ao (.mk [101] []) (.mk [116] [])) (ab 0)) u⟩::⟨41,[],λu=>cZ u ((aV p))⟩::⟨42,[],λu=>cZ u ((aV f))⟩::⟨43,[],λu=>cZ u ((aV g))⟩::⟨44,[],λu=>isTerm (ab 1) u⟩::⟨45,[],λu=>cZ u ((aV g))⟩::⟨46,[],λu=>isTerm (ab 3) u⟩::⟨47,[],λu=>isTerm (ab 1) u⟩::⟨48,[22,23],λu=>isTerm (aM (ab 3) (ab 1)) u⟩::⟨49,[],λu=>isTerm (ab 0) u⟩::⟨50,[24,25],λu=>isTerm (aM (aM (ab 3) (ab 1)) (ab 0)) u⟩::⟨51,[21,26],λu=>isTerm (aw (.mk [101] []) (aM (aM (ab 3) (ab 1)) (ab 0))) u⟩::⟨52,[20,27],λu=>isTerm (aM (ab 1) (aw (.mk [101] []) (aM (aM (ab 3) (ab 1)) (ab 0)))) u⟩::⟨53,[19,28],λu=>isTerm (aw (.mk [101] []) (aM (ab 1) (aw (.mk [101] []) (aM (aM (ab 3) (ab 1)) (ab 0))))) u⟩::⟨54,[18,29],λu=>isTerm (aw (ao (ao (.mk [101] []) (.mk [116] [])) (.mk [116] [])) (aw (.mk [101] []) (aM (ab 1) (aw (.mk [101] []) (aM (aM (ab 3) (ab 1)) (ab 0)))))) u⟩::⟨55,[17,30],λu=>isTerm (aw (ao (.mk [101] []) (ao (.mk [101] []) (.mk [116] []))) (aw (ao (ao (.mk [101] []) (.mk [116] [])) (.mk [116] [])) (aw (.mk [101] []) (aM (ab 1) (aw (.mk [101] []) (aM (aM (ab 3) (ab 1)) (ab 0))))))) u⟩::⟨56,[],λu=>cZ u ((aV d))⟩::⟨57,[],λu=>cZ u ((aV d))⟩::⟨58,[32,33],λu=>dL (ao (.mk [116] []) (.mk [116] [])) u⟩::⟨59,[],λu=>cZ u ((aV b))⟩::⟨60,[],λu=>cZ u ((aV g))⟩::⟨61,[],λu=>isTerm (ab 2) u⟩::⟨62,[],λu=>isTerm (ab 1) u⟩::⟨63,[],λu=>isTerm (ab 0) u⟩::⟨64,[38,39],λu=>isTerm (aM (ab 1) (ab 0)) u⟩::⟨65,[37,40],λu=>isTerm (aM (ab 2) (aM (ab 1) (ab 0))) u⟩::⟨66,[36,41],λu=>isTerm (aw (.mk [101] []) (aM (ab 2) (aM (ab 1) (ab 0)))) u⟩::⟨67,[35,42],λu=>isTerm (aw (ao (.mk [101] []) (.mk [116] [])) (aw (.mk [101] []) (aM (ab 2) (aM (ab 1) (ab 0))))) u⟩::⟨68,[34,43],λu=>isTerm (aw (ao (.mk [116] []) (.mk [116] [])) (aw (ao (.mk [101] []) (.mk [116] [])) (aw (.mk [101] []) (aM (ab 2) (aM (ab 1) (ab 0)))))) u⟩::⟨69,[],λu=>cZ u ((aV f))⟩::⟨70,[],λu=>cZ u ((aV d))⟩::⟨71,[],λu=>cZ u ((aV d))⟩::⟨72,[],λu=>cZ u ((aV d))⟩::⟨73,[47,48],λu=>dL (ao (.mk [116] []) (.mk [116] [])) u⟩::⟨74,[46,49],λu=>dL (ao (.mk [116] []) (ao (.mk [116] []) (.mk [116] []))) u⟩::⟨75,[],λu=>cZ u ((aV f))⟩::⟨76,[],λu=>cZ u ((aV b))⟩::⟨77,[],λu=>isTerm (ab 2) u⟩::⟨78,[],λu=>isTerm (ab 3) u⟩::⟨79,[],λu=>isTerm (ab 0) u⟩::⟨80,[54,55],λu=>isTerm (aM (ab 3) (ab 0)) u⟩::⟨81,[53,56],λu=>isTerm (aM (ab 2) (aM (ab 3) (ab 0))) u⟩::⟨82,[],λu=>isTerm (ab 1) u⟩::⟨83,[],λu=>isTerm (ab 0) u⟩::⟨84,[58,59],λu=>isTerm (aM (ab 1) (ab 0)) u⟩::⟨85,[57,60],λu=>isTerm (aM (aM (ab 2) (aM (ab 3) (ab 0))) (aM (ab 1) (ab 0))) u⟩::⟨86,[52,61],λu=>isTerm (aw (ao (.mk [101] []) (.mk [116] [])) (aM (aM (ab 2) (aM (ab 3) (ab 0))) (aM (ab 1) (ab 0)))) u⟩::⟨87,[51,62],λu=>isTerm (aw (ao (ao (.mk [101] []) (.mk [116] [])) (.mk [116] [])) (aw (ao (.mk [101] []) (.mk [116] [])) (aM (aM (ab 2) (aM (ab 3) (ab 0))) (aM (ab 1) (ab 0))))) u⟩::⟨88,[50,63],λu=>isTerm (aw (ao (.mk [116] []) (ao (.mk [116] []) (.mk [116] []))) (aw (ao (ao (.mk [101] []) (.mk [116] [])) (.mk [116] [])) (aw (ao (.mk [101] []) (.mk [116] [])) (aM (aM (ab 2) (aM (ab 3) (ab 0))) (aM (ab 1) (ab 0)))))) u⟩::⟨89,[45,64],λu=>isTerm (aw (ao (ao (.mk [101] []) (.mk [116] [])) (.mk [116] [])) (aw (ao (.mk [116] []) (ao (.mk [116] []) (.mk [116] []))) (aw (ao (ao (.mk [101] []) (.mk [116] [])) (.mk [116] [])) (aw (ao (.mk [101] []) (.mk [116] [])) (aM (aM (ab 2) (aM (ab 3) (ab 0))) (aM (ab 1) (ab 0))))))) u⟩::⟨90,[6,13,16,31,44,65],λu=>mO tK u⟩::[]) ((24,[])::(25,[])::(26,[])::(27,[])::(28,[2,3])::(29,[1,4])::(30,[0,5])::(31,[])::(32,[])::(33,[])::(34,[])::(35,[9,10])::(36,[8,11])::(37,[7,12])::(38,[])::(39,[])::(40,[14,15])::(41,[])::(42,[])::(43,[])::(44,[])::(45,[])::(46,[])::(47,[])::(48,[22,23])::(49,[])::(50,[24,25])::(51,[21,26])::(52,[20,27])::(53,[19,28])::(54,[18,29])::(55,[17,30])::(56,[])::(57,[])::(58,[32,33])::(59,[])::(60,[])::(61,[])::(62,[])::(63,[])::(64,[38,39])::(65,[37,40])::(66,[36,41])::(67,[35,42])::(68,[34,43])::(69,[])::(70,[])::(71,[])::(72,[])::(73,[47,48])::(74,[46,49])::(75,[])::(76,[])::(77,[])::(78,[])::(79,[])::(80,[54,55])::(81,[53,56])::(82,[])::(83,[])::(84,[58,59])::(85,[57,60])::(86,[52,61])::(87,[51,62])::(88,[50,63])::(89,[45,64])::(90,[6,13,16,31,44,65])::[]) [66] rfl rfl mixed (by kernel_rfl) (by kernel_rfl) (by rfl) (λe=>[(90,e 66)]) (λe=>[aD (mO tK (e 66))]) (λ_=>rfl) (λ_=>rfl) ?_ (λe=> ?_)
 ·refine an.c0 (λc e a=> ?_) ?_
  ·refine St.aM ?_
   refine go ?_;refine St.fact (cZ ((aV f)) ((aV f))) (λ_ _ _=>rfl) ?_;exact St.bg _
  refine an.c0 (λc e a=> ?_) ?_
  ·refine St.aM ?_
   refine go ?_;refine St.fact (cZ ((aV b)) ((aV b))) (λ_ _ _=>rfl) ?_;exact St.bg _
  refine an.c0 (λc e a=> ?_) ?_
  ·refine St.aM ?_
   refine St.ak (cw 1 (by unfold aZ;decide)) mi (.aq rfl) rfl ?_;rintro v26 _ rfl;refine St.bB ?_;exact St.bg _
  refine an.c0 (λc e a=> ?_) ?_
  ·refine St.aM ?_
   refine St.ak (cw 0 (by unfold aZ;decide)) mi (.aq rfl) rfl ?_;rintro v27 _ rfl;refine St.bB ?_;exact St.bg _
  refine an.cc (λe=>[(26,e 2),(27,e 3)]) (λe=>[aD (isTerm (ab 1) (e 2)),aD (isTerm (ab 0) (e 3))]) (λc e a=> ?_) ?_
  ·refine St.dD ?_
   refine St.ak (ei (e 2) (e 3) (ab 1) (ab 0)) pT (.aX rfl rfl) rfl ?_;rintro v28 _ rfl;refine St.bB ?_;exact St.bg _
  refine an.cc (λe=>[(25,e 1),(28,e 4)]) (λe=>[aD (cZ (e 1) ((aV b))),aD (isTerm (aM (ab 1) (ab 0)) (e 4))]) (λc e a=> ?_) ?_
  ·refine St.dD ?_
   refine St.bm (P:=prog) 25 (e 1) ((aV b)) rfl (St.ak (eC (aV b) (e 4) (ao (.mk [101] []) (.mk [116] [])) (aM (ab 1) (ab 0))) mh (.aX rfl rfl) rfl ?_);rintro v29 _ rfl;refine St.bB ?_;exact St.bg _
  refine an.cc (λe=>[(24,e 0),(29,e 5)]) (λe=>[aD (cZ (e 0) ((aV f))),aD (isTerm (aw (ao (.mk [101] []) (.mk [116] [])) (aM (ab 1) (ab 0))) (e 5))]) (λc e a=> ?_) ?_
  ·refine St.dD ?_
   refine St.bm (P:=prog) 24 (e 0) ((aV f)) rfl (St.ak (eC (aV f) (e 5) (ao (ao (.mk [101] []) (.mk [116] [])) (.mk [116] [])) (aw (ao (.mk [101] []) (.mk [116] [])) (aM (ab 1) (ab 0)))) mh (.aX rfl rfl) rfl ?_);rintro v30 _ rfl;refine St.bB ?_;exact St.bg _
  refine an.c0 (λc e a=> ?_) ?_
  ·refine St.aM ?_
   refine go ?_;refine St.fact (cZ ((aV q)) ((aV q))) (λ_ _ _=>rfl) ?_;exact St.bg _
  refine an.c0 (λc e a=> ?_) ?_
  ·refine St.aM ?_
   refine go ?_;refine St.fact (cZ ((aV b)) ((aV b))) (λ_ _ _=>rfl) ?_;exact St.bg _
  refine an.c0 (λc e a=> ?_) ?_
  ·refine St.aM ?_
   refine St.ak (cw 1 (by unfold aZ;decide)) mi (.aq rfl) rfl ?_;rintro v33 _ rfl;refine St.bB ?_;exact St.bg _
  refine an.c0 (λc e a=> ?_) ?_
  ·refine St.aM ?_
   refine St.ak (cw 0 (by unfold aZ;decide)) mi (.aq rfl) rfl ?_;rintro v34 _ rfl;refine St.bB ?_;exact St.bg _
  refine an.cc (λe=>[(33,e 9),(34,e 10)]) (λe=>[aD (isTerm (ab 1) (e 9)),aD (isTerm (ab 0) (e 10))]) (λc e a=> ?_) ?_
  ·refine St.dD ?_
   refine St.ak (ei (e 9) (e 10) (ab 1) (ab 0)) pT (.aX rfl rfl) rfl ?_;rintro v35 _ rfl;refine St.bB ?_;exact St.bg _
  refine an.cc (λe=>[(32,e 8),(35,e 11)]) (λe=>[aD (cZ (e 8) ((aV b))),aD (isTerm (aM (ab 1) (ab 0)) (e 11))]) (λc e a=> ?_) ?_
  ·refine St.dD ?_
   refine St.bm (P:=prog) 32 (e 8) ((aV b)) rfl (St.ak (eC (aV b) (e 11) (ao (.mk [101] []) (.mk [116] [])) (aM (ab 1) (ab 0))) mh (.aX rfl rfl) rfl ?_);rintro v36 _ rfl;refine St.bB ?_;exact St.bg _
  refine an.cc (λe=>[(31,e 7),(36,e 12)]) (λe=>[aD (cZ (e 7) ((aV q))),aD (isTerm (aw (ao (.mk [101] []) (.mk [116] [])) (aM (ab 1) (ab 0))) (e 12))]) (λc e a=> ?_) ?_
  ·refine St.dD ?_
   refine St.bm (P:=prog) 31 (e 7) ((aV q)) rfl (St.ak (eC (aV q) (e 12) (ao (ao (.mk [101] []) (.mk [116] [])) (ao (ao (.mk [101] []) (.mk [116] [])) (.mk [116] []))) (aw (ao (.mk [101] []) (.mk [116] [])) (aM (ab 1) (ab 0)))) mh (.aX rfl rfl) rfl ?_);rintro v37 _ rfl;refine St.bB ?_;exact St.bg _
  refine an.c0 (λc e a=> ?_) ?_
  ·refine St.aM ?_
   refine go ?_;refine St.fact (cZ ((aV b)) ((aV b))) (λ_ _ _=>rfl) ?_;exact St.bg _
  refine an.c0 (λc e a=> ?_) ?_
  ·refine St.aM ?_
   refine St.ak (cw 0 (by unfold aZ;decide)) mi (.aq rfl) rfl ?_;rintro v39 _ rfl;refine St.bB ?_;exact St.bg _
  refine an.cc (λe=>[(38,e 14),(39,e 15)]) (λe=>[aD (cZ (e 14) ((aV b))),aD (isTerm (ab 0) (e 15))]) (λc e a=> ?_) ?_
  ·refine St.dD ?_
   refine St.bm (P:=prog) 38 (e 14) ((aV b)) rfl (St.ak (eC (aV b) (e 15) (ao (.mk [101] []) (.mk [116] [])) (ab 0)) mh (.aX rfl rfl) rfl ?_);rintro v40 _ rfl;refine St.bB ?_;exact St.bg _
  refine an.c0 (λc e a=> ?_) ?_
  ·refine St.aM ?_
   refine go ?_;refine St.fact (cZ ((aV p)) ((aV p))) (λ_ _ _=>rfl) ?_;exact St.bg _
  refine an.c0 (λc e a=> ?_) ?_
  ·refine St.aM ?_
   refine go ?_;refine St.fact (cZ ((aV f)) ((aV f))) (λ_ _ _=>rfl) ?_;exact St.bg _
  refine an.c0 (λc e a=> ?_) ?_
  ·refine St.aM ?_
   refine go ?_;refine St.fact (cZ ((aV g)) ((aV g))) (λ_ _ _=>rfl) ?_;exact St.bg _
  refine an.c0 (λc e a=> ?_) ?_
  ·refine St.aM ?_
   refine St.ak (cw 1 (by unfold aZ;decide)) mi (.aq rfl) rfl ?_;rintro v44 _ rfl;refine St.bB ?_;exact St.bg _
  refine an.c0 (λc e a=> ?_) ?_
  ·refine St.aM ?_
   refine go ?_;refine St.fact (cZ ((aV g)) ((aV g))) (λ_ _ _=>rfl) ?_;exact St.bg _
  refine an.c0 (λc e a=> ?_) ?_
  ·refine St.aM ?_
   refine St.ak (cw 3 (by unfold aZ;decide)) mi (.aq rfl) rfl ?_;rintro v46 _ rfl;refine St.bB ?_;exact St.bg _
  refine an.c0 (λc e a=> ?_) ?_
  ·refine St.aM ?_
   refine St.ak (cw 1 (by unfold aZ;decide)) mi (.aq rfl) rfl ?_;rintro v47 _ rfl;refine St.bB ?_;exact St.bg _
  refine an.cc (λe=>[(46,e 22),(47,e 23)]) (λe=>[aD (isTerm (ab 3) (e 22)),aD (isTerm (ab 1) (e 23))]) (λc e a=> ?_) ?_
  ·refine St.dD ?_
   refine St.ak (ei (e 22) (e 23) (ab 3) (ab 1)) pT (.aX rfl rfl) rfl ?_;rintro v48 _ rfl;refine St.bB ?_;exact St.bg _
  refine an.c0 (λc e a=> ?_) ?_
  ·refine St.aM ?_
   refine St.ak (cw 0 (by unfold aZ;decide)) mi (.aq rfl) rfl ?_;rintro v49 _ rfl;refine St.bB ?_;exact St.bg _
  refine an.cc (λe=>[(48,e 24),(49,e 25)]) (λe=>[aD (isTerm (aM (ab 3) (ab 1)) (e 24)),aD (isTerm (ab 0) (e 25))]) (λc e a=> ?_) ?_
  ·refine St.dD ?_
   refine St.ak (ei (e 24) (e 25) (aM (ab 3) (ab 1)) (ab 0)) pT (.aX rfl rfl) rfl ?_;rintro v50 _ rfl;refine St.bB ?_;exact St.bg _
  refine an.cc (λe=>[(45,e 21),(50,e 26)]) (λe=>[aD (cZ (e 21) ((aV g))),aD (isTerm (aM (aM (ab 3) (ab 1)) (ab 0)) (e 26))]) (λc e a=> ?_) ?_
  ·refine St.dD ?_
   refine St.bm (P:=prog) 45 (e 21) ((aV g)) rfl (St.ak (eC (aV g) (e 26) (.mk [101] []) (aM (aM (ab 3) (ab 1)) (ab 0))) mh (.aX rfl rfl) rfl ?_);rintro v51 _ rfl;refine St.bB ?_;exact St.bg _
  refine an.cc (λe=>[(44,e 20),(51,e 27)]) (λe=>[aD (isTerm (ab 1) (e 20)),aD (isTerm (aw (.mk [101] []) (aM (aM (ab 3) (ab 1)) (ab 0))) (e 27))]) (λc e a=> ?_) ?_
  ·refine St.dD ?_
   refine St.ak (ei (e 20) (e 27) (ab 1) (aw (.mk [101] []) (aM (aM (ab 3) (ab 1)) (ab 0)))) pT (.aX rfl rfl) rfl ?_;rintro v52 _ rfl;refine St.bB ?_;exact St.bg _
  refine an.cc (λe=>[(43,e 19),(52,e 28)]) (λe=>[aD (cZ (e 19) ((aV g))),aD (isTerm (aM (ab 1) (aw (.mk [101] []) (aM (aM (ab 3) (ab 1)) (ab 0)))) (e 28))]) (λc e a=> ?_) ?_
  ·refine St.dD ?_
   refine St.bm (P:=prog) 43 (e 19) ((aV g)) rfl (St.ak (eC (aV g) (e 28) (.mk [101] []) (aM (ab 1) (aw (.mk [101] []) (aM (aM (ab 3) (ab 1)) (ab 0))))) mh (.aX rfl rfl) rfl ?_);rintro v53 _ rfl;refine St.bB ?_;exact St.bg _
  refine an.cc (λe=>[(42,e 18),(53,e 29)]) (λe=>[aD (cZ (e 18) ((aV f))),aD (isTerm (aw (.mk [101] []) (aM (ab 1) (aw (.mk [101] []) (aM (aM (ab 3) (ab 1)) (ab 0))))) (e 29))]) (λc e a=> ?_) ?_
  ·refine St.dD ?_
   refine St.bm (P:=prog) 42 (e 18) ((aV f)) rfl (St.ak (eC (aV f) (e 29) (ao (ao (.mk [101] []) (.mk [116] [])) (.mk [116] [])) (aw (.mk [101] []) (aM (ab 1) (aw (.mk [101] []) (aM (aM (ab 3) (ab 1)) (ab 0)))))) mh (.aX rfl rfl) rfl ?_);rintro v54 _ rfl;refine St.bB ?_;exact St.bg _
  refine an.cc (λe=>[(41,e 17),(54,e 30)]) (λe=>[aD (cZ (e 17) ((aV p))),aD (isTerm (aw (ao (ao (.mk [101] []) (.mk [116] [])) (.mk [116] [])) (aw (.mk [101] []) (aM (ab 1) (aw (.mk [101] []) (aM (aM (ab 3) (ab 1)) (ab 0)))))) (e 30))]) (λc e a=> ?_) ?_
  ·refine St.dD ?_
   refine St.bm (P:=prog) 41 (e 17) ((aV p)) rfl (St.ak (eC (aV p) (e 30) (ao (.mk [101] []) (ao (.mk [101] []) (.mk [116] []))) (aw (ao (ao (.mk [101] []) (.mk [116] [])) (.mk [116] [])) (aw (.mk [101] []) (aM (ab 1) (aw (.mk [101] []) (aM (aM (ab 3) (ab 1)) (ab 0))))))) mh (.aX rfl rfl) rfl ?_);rintro v55 _ rfl;refine St.bB ?_;exact St.bg _
  refine an.c0 (λc e a=> ?_) ?_
  ·refine St.aM ?_
   refine go ?_;refine St.fact (cZ ((aV d)) ((aV d))) (λ_ _ _=>rfl) ?_;exact St.bg _
  refine an.c0 (λc e a=> ?_) ?_
  ·refine St.aM ?_
   refine go ?_;refine St.fact (cZ ((aV d)) ((aV d))) (λ_ _ _=>rfl) ?_;exact St.bg _
  refine an.cc (λe=>[(56,e 32),(57,e 33)]) (λe=>[aD (cZ (e 32) ((aV d))),aD (cZ (e 33) ((aV d)))]) (λc e a=> ?_) ?_
  ·refine St.dD ?_
   refine St.bm (P:=prog) 56 (e 32) ((aV d)) rfl (St.bm (P:=prog) 57 (e 33) ((aV d)) rfl (St.ak (fQ (aV d) (aV d) (.mk [116] []) (.mk [116] [])) qj (.aX rfl rfl) rfl ?_));rintro v58 _ rfl;refine St.bB ?_;exact St.bg _
  refine an.c0 (λc e a=> ?_) ?_
  ·refine St.aM ?_
   refine go ?_;refine St.fact (cZ ((aV b)) ((aV b))) (λ_ _ _=>rfl) ?_;exact St.bg _
  refine an.c0 (λc e a=> ?_) ?_
  ·refine St.aM ?_
   refine go ?_;refine St.fact (cZ ((aV g)) ((aV g))) (λ_ _ _=>rfl) ?_;exact St.bg _
  refine an.c0 (λc e a=> ?_) ?_
  ·refine St.aM ?_
   refine St.ak (cw 2 (by unfold aZ;decide)) mi (.aq rfl) rfl ?_;rintro v61 _ rfl;refine St.bB ?_;exact St.bg _
  refine an.c0 (λc e a=> ?_) ?_
  ·refine St.aM ?_
   refine St.ak (cw 1 (by unfold aZ;decide)) mi (.aq rfl) rfl ?_;rintro v62 _ rfl;refine St.bB ?_;exact St.bg _
  refine an.c0 (λc e a=> ?_) ?_
  ·refine St.aM ?_
   refine St.ak (cw 0 (by unfold aZ;decide)) mi (.aq rfl) rfl ?_;rintro v63 _ rfl;refine St.bB ?_;exact St.bg _
  refine an.cc (λe=>[(62,e 38),(63,e 39)]) (λe=>[aD (isTerm (ab 1) (e 38)),aD (isTerm (ab 0) (e 39))]) (λc e a=> ?_) ?_
  ·refine St.dD ?_
   refine St.ak (ei (e 38) (e 39) (ab 1) (ab 0)) pT (.aX rfl rfl) rfl ?_;rintro v64 _ rfl;refine St.bB ?_;exact St.bg _
  refine an.cc (λe=>[(61,e 37),(64,e 40)]) (λe=>[aD (isTerm (ab 2) (e 37)),aD (isTerm (aM (ab 1) (ab 0)) (e 40))]) (λc e a=> ?_) ?_
  ·refine St.dD ?_
   refine St.ak (ei (e 37) (e 40) (ab 2) (aM (ab 1) (ab 0))) pT (.aX rfl rfl) rfl ?_;rintro v65 _ rfl;refine St.bB ?_;exact St.bg _
  refine an.cc (λe=>[(60,e 36),(65,e 41)]) (λe=>[aD (cZ (e 36) ((aV g))),aD (isTerm (aM (ab 2) (aM (ab 1) (ab 0))) (e 41))]) (λc e a=> ?_) ?_
  ·refine St.dD ?_
   refine St.bm (P:=prog) 60 (e 36) ((aV g)) rfl (St.ak (eC (aV g) (e 41) (.mk [101] []) (aM (ab 2) (aM (ab 1) (ab 0)))) mh (.aX rfl rfl) rfl ?_);rintro v66 _ rfl;refine St.bB ?_;exact St.bg _
  refine an.cc (λe=>[(59,e 35),(66,e 42)]) (λe=>[aD (cZ (e 35) ((aV b))),aD (isTerm (aw (.mk [101] []) (aM (ab 2) (aM (ab 1) (ab 0)))) (e 42))]) (λc e a=> ?_) ?_
  ·refine St.dD ?_
   refine St.bm (P:=prog) 59 (e 35) ((aV b)) rfl (St.ak (eC (aV b) (e 42) (ao (.mk [101] []) (.mk [116] [])) (aw (.mk [101] []) (aM (ab 2) (aM (ab 1) (ab 0))))) mh (.aX rfl rfl) rfl ?_);rintro v67 _ rfl;refine St.bB ?_;exact St.bg _
  refine an.cc (λe=>[(58,e 34),(67,e 43)]) (λe=>[aD (dL (ao (.mk [116] []) (.mk [116] [])) (e 34)),aD (isTerm (aw (ao (.mk [101] []) (.mk [116] [])) (aw (.mk [101] []) (aM (ab 2) (aM (ab 1) (ab 0))))) (e 43))]) (λc e a=> ?_) ?_
  ·refine St.dD ?_
   refine St.ak (eC (e 34) (e 43) (ao (.mk [116] []) (.mk [116] [])) (aw (ao (.mk [101] []) (.mk [116] [])) (aw (.mk [101] []) (aM (ab 2) (aM (ab 1) (ab 0)))))) mh (.aX rfl rfl) rfl ?_;rintro v68 _ rfl;refine St.bB ?_;exact St.bg _
  refine an.c0 (λc e a=> ?_) ?_
  ·refine St.aM ?_
   refine go ?_;refine St.fact (cZ ((aV f)) ((aV f))) (λ_ _ _=>rfl) ?_;exact St.bg _
  refine an.c0 (λc e a=> ?_) ?_
  ·refine St.aM ?_
   refine go ?_;refine St.fact (cZ ((aV d)) ((aV d))) (λ_ _ _=>rfl) ?_;exact St.bg _
  refine an.c0 (λc e a=> ?_) ?_
  ·refine St.aM ?_
   refine go ?_;refine St.fact (cZ ((aV d)) ((aV d))) (λ_ _ _=>rfl) ?_;exact St.bg _
  refine an.c0 (λc e a=> ?_) ?_
  ·refine St.aM ?_
   refine go ?_;refine St.fact (cZ ((aV d)) ((aV d))) (λ_ _ _=>rfl) ?_;exact St.bg _
  refine an.cc (λe=>[(71,e 47),(72,e 48)]) (λe=>[aD (cZ (e 47) ((aV d))),aD (cZ (e 48) ((aV d)))]) (λc e a=> ?_) ?_
  ·refine St.dD ?_
   refine St.bm (P:=prog) 71 (e 47) ((aV d)) rfl (St.bm (P:=prog) 72 (e 48) ((aV d)) rfl (St.ak (fQ (aV d) (aV d) (.mk [116] []) (.mk [116] [])) qj (.aX rfl rfl) rfl ?_));rintro v73 _ rfl;refine St.bB ?_;exact St.bg _
  refine an.cc (λe=>[(70,e 46),(73,e 49)]) (λe=>[aD (cZ (e 46) ((aV d))),aD (dL (ao (.mk [116] []) (.mk [116] [])) (e 49))]) (λc e a=> ?_) ?_
  ·refine St.dD ?_
   refine St.bm (P:=prog) 70 (e 46) ((aV d)) rfl (St.ak (fQ (aV d) (e 49) (.mk [116] []) (ao (.mk [116] []) (.mk [116] []))) qj (.aX rfl rfl) rfl ?_);rintro v74 _ rfl;refine St.bB ?_;exact St.bg _
  refine an.c0 (λc e a=> ?_) ?_
  ·refine St.aM ?_
   refine go ?_;refine St.fact (cZ ((aV f)) ((aV f))) (λ_ _ _=>rfl) ?_;exact St.bg _
  refine an.c0 (λc e a=> ?_) ?_
  ·refine St.aM ?_
   refine go ?_;refine St.fact (cZ ((aV b)) ((aV b))) (λ_ _ _=>rfl) ?_;exact St.bg _
  refine an.c0 (λc e a=> ?_) ?_
  ·refine St.aM ?_
   refine St.ak (cw 2 (by unfold aZ;decide)) mi (.aq rfl) rfl ?_;rintro v77 _ rfl;refine St.bB ?_;exact St.bg _
  refine an.c0 (λc e a=> ?_) ?_
  ·refine St.aM ?_
   refine St.ak (cw 3 (by unfold aZ;decide)) mi (.aq rfl) rfl ?_;rintro v78 _ rfl;refine St.bB ?_;exact St.bg _
  refine an.c0 (λc e a=> ?_) ?_
  ·refine St.aM ?_
   refine St.ak (cw 0 (by unfold aZ;decide)) mi (.aq rfl) rfl ?_;rintro v79 _ rfl;refine St.bB ?_;exact St.bg _
  refine an.cc (λe=>[(78,e 54),(79,e 55)]) (λe=>[aD (isTerm (ab 3) (e 54)),aD (isTerm (ab 0) (e 55))]) (λc e a=> ?_) ?_
  ·refine St.dD ?_
   refine St.ak (ei (e 54) (e 55) (ab 3) (ab 0)) pT (.aX rfl rfl) rfl ?_;rintro v80 _ rfl;refine St.bB ?_;exact St.bg _
  refine an.cc (λe=>[(77,e 53),(80,e 56)]) (λe=>[aD (isTerm (ab 2) (e 53)),aD (isTerm (aM (ab 3) (ab 0)) (e 56))]) (λc e a=> ?_) ?_
  ·refine St.dD ?_
   refine St.ak (ei (e 53) (e 56) (ab 2) (aM (ab 3) (ab 0))) pT (.aX rfl rfl) rfl ?_;rintro v81 _ rfl;refine St.bB ?_;exact St.bg _
  refine an.c0 (λc e a=> ?_) ?_
  ·refine St.aM ?_
   refine St.ak (cw 1 (by unfold aZ;decide)) mi (.aq rfl) rfl ?_;rintro v82 _ rfl;refine St.bB ?_;exact St.bg _
  refine an.c0 (λc e a=> ?_) ?_
  ·refine St.aM ?_
   refine St.ak (cw 0 (by unfold aZ;decide)) mi (.aq rfl) rfl ?_;rintro v83 _ rfl;refine St.bB ?_;exact St.bg _
  refine an.cc (λe=>[(82,e 58),(83,e 59)]) (λe=>[aD (isTerm (ab 1) (e 58)),aD (isTerm (ab 0) (e 59))]) (λc e a=> ?_) ?_
  ·refine St.dD ?_
   refine St.ak (ei (e 58) (e 59) (ab 1) (ab 0)) pT (.aX rfl rfl) rfl ?_;rintro v84 _ rfl;refine St.bB ?_;exact St.bg _
  refine an.cc (λe=>[(81,e 57),(84,e 60)]) (λe=>[aD (isTerm (aM (ab 2) (aM (ab 3) (ab 0))) (e 57)),aD (isTerm (aM (ab 1) (ab 0)) (e 60))]) (λc e a=> ?_) ?_
  ·refine St.dD ?_
   refine St.ak (ei (e 57) (e 60) (aM (ab 2) (aM (ab 3) (ab 0))) (aM (ab 1) (ab 0))) pT (.aX rfl rfl) rfl ?_;rintro v85 _ rfl;refine St.bB ?_;exact St.bg _
  refine an.cc (λe=>[(76,e 52),(85,e 61)]) (λe=>[aD (cZ (e 52) ((aV b))),aD (isTerm (aM (aM (ab 2) (aM (ab 3) (ab 0))) (aM (ab 1) (ab 0))) (e 61))]) (λc e a=> ?_) ?_
  ·refine St.dD ?_
   refine St.bm (P:=prog) 76 (e 52) ((aV b)) rfl (St.ak (eC (aV b) (e 61) (ao (.mk [101] []) (.mk [116] [])) (aM (aM (ab 2) (aM (ab 3) (ab 0))) (aM (ab 1) (ab 0)))) mh (.aX rfl rfl) rfl ?_);rintro v86 _ rfl;refine St.bB ?_;exact St.bg _
  refine an.cc (λe=>[(75,e 51),(86,e 62)]) (λe=>[aD (cZ (e 51) ((aV f))),aD (isTerm (aw (ao (.mk [101] []) (.mk [116] [])) (aM (aM (ab 2) (aM (ab 3) (ab 0))) (aM (ab 1) (ab 0)))) (e 62))]) (λc e a=> ?_) ?_
  ·refine St.dD ?_
   refine St.bm (P:=prog) 75 (e 51) ((aV f)) rfl (St.ak (eC (aV f) (e 62) (ao (ao (.mk [101] []) (.mk [116] [])) (.mk [116] [])) (aw (ao (.mk [101] []) (.mk [116] [])) (aM (aM (ab 2) (aM (ab 3) (ab 0))) (aM (ab 1) (ab 0))))) mh (.aX rfl rfl) rfl ?_);rintro v87 _ rfl;refine St.bB ?_;exact St.bg _
  refine an.cc (λe=>[(74,e 50),(87,e 63)]) (λe=>[aD (dL (ao (.mk [116] []) (ao (.mk [116] []) (.mk [116] []))) (e 50)),aD (isTerm (aw (ao (ao (.mk [101] []) (.mk [116] [])) (.mk [116] [])) (aw (ao (.mk [101] []) (.mk [116] [])) (aM (aM (ab 2) (aM (ab 3) (ab 0))) (aM (ab 1) (ab 0))))) (e 63))]) (λc e a=> ?_) ?_
  ·refine St.dD ?_
   refine St.ak (eC (e 50) (e 63) (ao (.mk [116] []) (ao (.mk [116] []) (.mk [116] []))) (aw (ao (ao (.mk [101] []) (.mk [116] [])) (.mk [116] [])) (aw (ao (.mk [101] []) (.mk [116] [])) (aM (aM (ab 2) (aM (ab 3) (ab 0))) (aM (ab 1) (ab 0)))))) mh (.aX rfl rfl) rfl ?_;rintro v88 _ rfl;refine St.bB ?_;exact St.bg _
  refine an.cc (λe=>[(69,e 45),(88,e 64)]) (λe=>[aD (cZ (e 45) ((aV f))),aD (isTerm (aw (ao (.mk [116] []) (ao (.mk [116] []) (.mk [116] []))) (aw (ao (ao (.mk [101] []) (.mk [116] [])) (.mk [116] [])) (aw (ao (.mk [101] []) (.mk [116] [])) (aM (aM (ab 2) (aM (ab 3) (ab 0))) (aM (ab 1) (ab 0)))))) (e 64))]) (λc e a=> ?_) ?_
  ·refine St.dD ?_
   refine St.bm (P:=prog) 69 (e 45) ((aV f)) rfl (St.ak (eC (aV f) (e 64) (ao (ao (.mk [101] []) (.mk [116] [])) (.mk [116] [])) (aw (ao (.mk [116] []) (ao (.mk [116] []) (.mk [116] []))) (aw (ao (ao (.mk [101] []) (.mk [116] [])) (.mk [116] [])) (aw (ao (.mk [101] []) (.mk [116] [])) (aM (aM (ab 2) (aM (ab 3) (ab 0))) (aM (ab 1) (ab 0))))))) mh (.aX rfl rfl) rfl ?_);rintro v89 _ rfl;refine St.bB ?_;exact St.bg _
  refine an.cc (λe=>[(30,e 6),(37,e 13),(40,e 16),(55,e 31),(68,e 44),(89,e 65)]) (λe=>[aD (isTerm (aw (ao (ao (.mk [101] []) (.mk [116] [])) (.mk [116] [])) (aw (ao (.mk [101] []) (.mk [116] [])) (aM (ab 1) (ab 0)))) (e 6)),aD (isTerm (aw (ao (ao (.mk [101] []) (.mk [116] [])) (ao (ao (.mk [101] []) (.mk [116] [])) (.mk [116] []))) (aw (ao (.mk [101] []) (.mk [116] [])) (aM (ab 1) (ab 0)))) (e 13)),aD (isTerm (aw (ao (.mk [101] []) (.mk [116] [])) (ab 0)) (e 16)),aD (isTerm (aw (ao (.mk [101] []) (ao (.mk [101] []) (.mk [116] []))) (aw (ao (ao (.mk [101] []) (.mk [116] [])) (.mk [116] [])) (aw (.mk [101] []) (aM (ab 1) (aw (.mk [101] []) (aM (aM (ab 3) (ab 1)) (ab 0))))))) (e 31)),aD (isTerm (aw (ao (.mk [116] []) (.mk [116] [])) (aw (ao (.mk [101] []) (.mk [116] [])) (aw (.mk [101] []) (aM (ab 2) (aM (ab 1) (ab 0)))))) (e 44)),aD (isTerm (aw (ao (ao (.mk [101] []) (.mk [116] [])) (.mk [116] [])) (aw (ao (.mk [116] []) (ao (.mk [116] []) (.mk [116] []))) (aw (ao (ao (.mk [101] []) (.mk [116] [])) (.mk [116] [])) (aw (ao (.mk [101] []) (.mk [116] [])) (aM (aM (ab 2) (aM (ab 3) (ab 0))) (aM (ab 1) (ab 0))))))) (e 65))]) (λc e a=> ?_) ?_
  ·refine St.NZ ?_
   refine St.isTerm (aw (ao (ao (.mk [101] []) (.mk [116] [])) (.mk [116] [])) (aw (ao (.mk [101] []) (.mk [116] [])) (aM (ab 1) (ab 0)))) (e 6) (λi A=>?_);obtain⟨B,C,D⟩:=A;rw[B];refine St.isTerm (aw (ao (ao (.mk [101] []) (.mk [116] [])) (ao (ao (.mk [101] []) (.mk [116] [])) (.mk [116] []))) (aw (ao (.mk [101] []) (.mk [116] [])) (aM (ab 1) (ab 0)))) (e 13) (λj E=>?_);obtain⟨F,G,H⟩:=E;rw[F];refine St.isTerm (aw (ao (.mk [101] []) (.mk [116] [])) (ab 0)) (e 16) (λk I=>?_);obtain⟨J,K,L⟩:=I;rw[J];refine St.isTerm (aw (ao (.mk [101] []) (ao (.mk [101] []) (.mk [116] []))) (aw (ao (ao (.mk [101] []) (.mk [116] [])) (.mk [116] [])) (aw (.mk [101] []) (aM (ab 1) (aw (.mk [101] []) (aM (aM (ab 3) (ab 1)) (ab 0))))))) (e 31) (λl M=>?_);obtain⟨N,O,Q⟩:=M;rw[N];refine St.isTerm (aw (ao (.mk [116] []) (.mk [116] [])) (aw (ao (.mk [101] []) (.mk [116] [])) (aw (.mk [101] []) (aM (ab 2) (aM (ab 1) (ab 0)))))) (e 44) (λm R=>?_);obtain⟨S,T,U⟩:=R;rw[S];refine St.isTerm (aw (ao (ao (.mk [101] []) (.mk [116] [])) (.mk [116] [])) (aw (ao (.mk [116] []) (ao (.mk [116] []) (.mk [116] []))) (aw (ao (ao (.mk [101] []) (.mk [116] [])) (.mk [116] [])) (aw (ao (.mk [101] []) (.mk [116] [])) (aM (aM (ab 2) (aM (ab 3) (ab 0))) (aM (ab 1) (ab 0))))))) (e 65) (λn V=>?_);obtain⟨W,X,Y⟩:=V;rw[W];refine St.iu rfl (.Z2 rfl rfl rfl rfl rfl rfl) lx jy Zs rfl rfl (by simp[Value.cells]) rfl rfl (λo=> ?_);refine St.bU (tO o 6 6) cz [i,j,k,l,m,n] rfl rfl (all_cons D (all_cons H (all_cons L (all_cons Q (all_cons U (all_cons Y (all_nil))))))) (K9 cu [i,j,k,l,m,n] [cu i,cu j,cu k,cu l,cu m,cu n] rfl (St.fF (mO tK (tO o 6 6)) [sl cz (tO o 6 6) [i,j,k,l,m,n],aL cu [i,j,k,l,m,n]] (λρ h=>⟨rfl,[i,j,k,l,m,n],by simp only[List.map_cons,List.map_nil,C,G,K,O,T,X];rfl,h (sl cz (tO o 6 6) [i,j,k,l,m,n]) (by simp),h (aL cu [i,j,k,l,m,n]) (by simp)⟩) ?_));exact St.bg _
  exact an.nil
 refine St.bB (g9 ?_);refine St.uG _ rfl rfl (g9 ?_);refine St.rV [_] [aD (mO tK (e 66))] ?_;rfl
end Go.Proofs.YtiefglecbgdaiaaGreatDoor
namespace Go.J
open Go
section
variable {p:List Int}
theorem OO {a b:Nat}(c:a≤p.length)(d:b≤p.length)(h:p.drop a=p.drop b):a=b:=by
 have:=congrArg List.length h
 simp only[List.length_drop]at this
 omega
abbrev Sx (p:List Int)(l:List Nat):Prop:=l.Pairwise (λa b=>nU (p.drop a) (p.drop b)=true)
structure NJ (p:List Int)(i:Nat)(A B:List Nat):Prop where
 perm:(A++B).Perm (List.range i)
 srt:Sx p (A++B)
 less:∀b∈B,nU (p.drop i) (p.drop b)=true
theorem NJ.step {i a:Nat}{A B:List Nat}(h:NJ p i (A++ [a]) B)(d:nU (p.drop i) (p.drop a)=true):NJ p i A (a::B):=
 ⟨by simpa using h.perm,by simpa using h.srt,λb c=>by rcases cN.1 c with rfl|c;exact d;exact h.less b c⟩
theorem NJ.done {i:Nat}{A B:List Nat}(h:NJ p i A B)(hi:i<p.length)(d:A=[]∨∃A' a,A=A'++ [a]∧nU (p.drop i) (p.drop a)=false):(A++i::B).Perm (List.range (i+1))∧Sx p (A++i::B):=by
 have e:∀x∈A++B,x<i:=λx hx=>dM.1 (h.perm.mem_iff.1 hx)
 constructor
 ·rw[vH]
  exact qH.trans ((h.perm.cons i).trans (List.perm_append_singleton i _).symm)
 ·have b:=sq.1 h.srt
  have f:∀x∈A,nU (p.drop x) (p.drop i)=true:=by
   rcases d with rfl|⟨A',a,rfl,c⟩
   ·intro x hx;cases hx
   ·have last:nU (p.drop a) (p.drop i)=true:=by
     have g:=e a (by simp)
     rcases yM (p.drop a) (p.drop i)with q|q|q
     ·exact q
     ·have:=OO zE zE q;omega
     ·rw[c]at q;cases q
    intro x hx
    rcases ca.1 hx with hx|hx
    ·exact p6 ((sq.1 b.1).2.2 x hx a (sm _)) last
    ·rw[ba.1 hx];exact last
  refine sq.2 ⟨b.1,jq.2 ⟨h.less,b.2.1⟩,?_⟩;intro x hx y hy
  rcases cN.1 hy with rfl|hy
  ·exact f x hx
  ·exact b.2.2 x hx y hy
end
section
variable {n:Nat}{cf:Nat→Nat→Int}{l:List Nat}
end
structure aaD (l:List (List cM)):Prop where
 len:l.length≤100
 each:∀s∈l,0<s.length∧s.length≤12∧s.all isWord=true
theorem aaD.nil:aaD []:=⟨by simp,λs h=>by cases h⟩
def hz {β:Type}(q:List Nat):List Nat→List β→List β
 |x::a,z::b=>if(x::a).take q.length=q then z::hz q a b else hz q a b
 |_,_=>[]
end Go.J
namespace Go.Proofs.YtiefglecbgdaiaaGreatDoor
open Go Go.J Tryz
def dU:List Int→List dt
 |a::b::r=>⟨a,b⟩::dU r
 |_=>[]
theorem xE:∀xs:List Int,(dU xs).length=xs.length/2
 | []=>rfl
 | [_]=>by simp[dU]
 |a::b::r=>by rw[dU,fL,xE r];simp only[List.length_cons];omega
theorem xD:∀{xs:List Int} {j:Nat} {a b:Int},xs[2*j]?=some a→xs[2*j+1]?=some b→(dU xs)[j]?=some ⟨a,b⟩
 | [],_,_,_,h,_=>by simp at h
 | [_],0,_,_,_,h=>by simp at h
 | [_],j+1,_,_,h,_=>by simp at h
 |x::y::r,0,a,b,h,k=>by
  simp at h k;subst h k;rfl
 |x::y::r,j+1,a,b,h,k=>by
  rw[show 2*(j+1)=(2*j)+1+1 by omega,sg,sg]at h;rw[show 2*(j+1)+1=(2*j+1)+1+1 by omega,sg,sg]at k;rw[dU,sg];exact xD h k
theorem qt:∀{xs:List Int} {x:dt},x∈dU xs→x.dE∈xs∧x.tqo∈xs
 | [],_,h=>by cases h
 | [_],_,h=>by cases h
 |a::b::r,x,h=>by
  rw[dU]at h
  rcases cN.1 h with rfl|h
  ·exact⟨by simp,by simp⟩
  ·have:=qt h
   exact⟨by simp[this.1],by simp[this.2]⟩
def ZH (xs:List Int):LV:=(xs.headD 0,(dU xs.tail).map fV)
def cG (iZ:List (List Int)):eB:=iZ.map ZH
theorem A8 {X Y:List dt}{x:dt}(h:Y=X++ [x]):rows bC X++ [iv x.dE,iv x.tqo]=rows bC Y:=by rw[h,bN];rfl
theorem JA {X:List db}{x:db}:rows bz X++ [iv x.type,x.lv.1]=rows bz (X++ [x]):=by rw[bN];rfl
theorem Mg {xs:List Int}{x:Int}(h:xs[0]?=some x):ZH xs=(x,(dU (xs.drop 1)).map fV):=by
 cases xs with
 |nil=>simp at h
 |cons y r=>simp at h;subst h;rfl
theorem drop_at {xs:List Int}{j:Nat}:(xs.drop 1)[j]?=xs[1+j]?:=by rw[Ap]
theorem gZ (u:Value)(iZ:List (List Int))(G:iZ.all (λxs=>decide (0<xs.length)&&decide (xs.length≤60))=true)(S:iZ.length≤60):dx prog 28 #[u] ([fW aJ iZ u].map aD) (λv H'=>H'=[aD (bS (cG iZ) v)]):=by
 refine dx.body (args:=[u]) 48 func28 rfl ntmps28 rfl (λc=>St.cast (H':=[aD (fW aJ iZ u)]) rfl (go ?_));refine St.fW aJ iZ u (λU=>St.Z3 u (λvs l=>St.ahG vs l (λH=>go ?_)));refine St.al (λA=>g4 ?_);refine St.al (λB=>g11 ?_);refine St.e7 166 2 (St.aP (.slice none 0 0) (show _=([]:List db).length from rfl) (show _=rows bz []from rfl) (St.dN cF (St.td (ι:=Nat) (κ:=Value×List db) (λk z T=>(10,iv k)::T) (λk z=>[tI B [z.1] 30,row z.1 166 2 (z.2).length (rows bz (z.2)),aD (aL cF z.2),tI A [(.slice none 0 0)] 30,aD (sl cr u vs),aD (Ut aJ vs iZ)]) (λk z=>k≤iZ.length∧z.1.oneCell'=true∧z.2.map mQ=cG (iZ.take k)∧∀x∈z.2,bz.wf x) (λk z=>iZ.length-k) 0 ((.slice none 0 0),[]) (aC.k4 2 3 8 9) ⟨aQ _,rfl,rfl,λx hx=>by cases hx⟩ ?_)));rintro k ⟨a,X⟩ ⟨hk,hz,d,b⟩
 dsimp only at hz d b⊢
 have I:=congrArg List.length d
 rw[aO,cG,aO,eR]at I;refine g6 ?_;refine St.cq (λm=> ?_) (λm=> ?_)
 ·obtain⟨s,e⟩:=aF (show k<iZ.length by omega)
  obtain⟨w,hw⟩:=aF (show k<vs.length by omega);refine St.Ut (vs:=vs) k hw e ?_
  have n:=H s (aY e)
  have K:=fY.1 G s (aY e)
  simp only[Bool.and_eq_true,decide_eq_true_eq]at K
  obtain⟨x0,C⟩:=aF (show 0<s.length by omega)
  have L:=xE (s.drop 1)
  rw[Aq]at L;refine g14 ?_;refine St.ee (Ev.cI (k:=0) (.mk rfl) (.mk rfl) bQ dQ rfl zE) (go ?_);refine St.ee (Ev.build (au.aq rfl) (λw=>FF rfl w)) (St.al (λD=>g10 ?_));refine St.e7 168 2 (St.aP (.slice none 0 0) (show _=((dU (s.drop 1)).take 0).length from rfl) (show _=rows bC ((dU (s.drop 1)).take 0)from rfl) (St.td (ι:=Nat) (κ:=Value) (λj y T=>(7,iv (1+2*(j:Nat)))::T) (λj y=>[tI D [iv x0,y] 166,row y 168 2 ((dU (s.drop 1)).take j).length (rows bC ((dU (s.drop 1)).take j)),aD (sl aJ w.1 s),tI B [a] 30,row a 166 2 (X).length (rows bz (X)),aD (aL cF X),tI A [(.slice none 0 0)] 30,aD (sl cr u vs),aD (Ut aJ vs iZ)]) (λj y=>j≤(s.length-1)/2∧y.oneCell'=true) (λj y=>(s.length-1)/2-j) 0 (.slice none 0 0) (aC.k7 2 3 5 6 8 9 10) ⟨aQ _,rfl⟩ ?_));rintro j y ⟨V,hy⟩
  have W:((dU (s.drop 1)).take j).length≤60:=by rw[eR];omega
  refine g10 ?_;refine St.cq (λM=> ?_) (λM=> ?_)
  ·have N:1+2*j+1<s.length:=by omega
   obtain⟨o,O⟩:=aF (show 1+2*j<s.length by omega);obtain⟨xb,p⟩:=aF (show 1+2*j+1<s.length by omega)
   have f:(dU (s.drop 1))[j]?=some ⟨o,xb⟩:=xD (by rw[drop_at];exact O) (by rw[drop_at,←vI];exact p)
   refine g4 ?_;refine St.ef [tI D [iv x0,y] 166,row y 168 2 ((dU (s.drop 1)).take j).length (rows bC ((dU (s.drop 1)).take j))] mixed (λY Z=>SW.gd 0 ?_);refine SW.gd 2 ?_;refine SW.gd 3 ?_;refine SW.dd 4 rfl (λ_=>Ev.cI (k:=(1+2*j)) (.mk rfl) (.mk rfl) bQ dQ zE zE) (SW.gd 5 ?_);refine SW.gd 6 ?_;refine SW.gd 7 ?_;refine SW.gd 8 ?_;refine SW.dd 9 rfl (λ_=>Ev.cI (k:=(1+2*j+1)) (.mk rfl) (.mk rfl) bQ dQ zE zE) (SW.gd 10 ?_);refine SW.dd 11 rfl (λ_=>Ev.build (ps:=[(0,(.tmp 30)),(1,(.tmp 35))]) (au.aX rfl rfl) (λw=>pR rfl rfl w)) (SW.t2 1 12 ?_ ?_)
   focus
    refine g3 ?_;refine SW.go (SW.t1 12 ?_);refine St.iu rfl (.aq rfl) eX de kg rfl rfl (by simp[Value.cells]) rfl rfl (λr=> ?_);refine g2 ?_;refine SW.go (SW.t1 13 ?_);refine St.bH (.mk rfl) (.mk rfl) eX de kg qg (by simp[Value.oneCell',Value.cells]) zE zE rfl rfl rfl rfl (λv38 t=> ?_);refine St.aP v38 (show _=((dU (s.drop 1)).take (j+1)).length by rw[ag f];exact cW) (show _=rows bC ((dU (s.drop 1)).take (j+1))from A8 (x:=⟨o,xb⟩) (ag f)) ?_;refine St.cH v38 (λi _=>g2 ?_);refine SW.go (SW.gd 14 ?_);refine SW.t1 15 ?_;refine St.cP (.mk rfl) (.mk rfl) qD i (by rfl) ?_;refine g2 ?_;refine SW.go (SW.dn ?_)
   rotate_left
   focus
    refine St.iu rfl (.aq rfl) eX de kg rfl rfl (by simp[Value.cells]) rfl rfl (λr=> ?_);refine g2 ?_;refine SW.go (SW.t1 1 ?_);refine g3 ?_;refine SW.go (SW.t1 13 ?_);refine St.bH (.mk rfl) (.mk rfl) eX de kg qg (by simp[Value.oneCell',Value.cells]) zE zE rfl rfl rfl rfl (λv38 t=> ?_);refine St.aP v38 (show _=((dU (s.drop 1)).take (j+1)).length by rw[ag f];exact cW) (show _=rows bC ((dU (s.drop 1)).take (j+1))from A8 (x:=⟨o,xb⟩) (ag f)) ?_;refine St.cH v38 (λi _=>g2 ?_);refine SW.go (SW.gd 14 ?_);refine SW.t1 15 ?_;refine St.cP (.mk rfl) (.mk rfl) qD i (by rfl) ?_;refine g2 ?_;refine SW.go (SW.dn ?_)
   all_goals
    refine g8 ?_;refine St.vL (j+1) v38 ⟨by omega,i⟩
  ·obtain rfl:j=(s.length-1)/2:=by omega
   have P:(dU (s.drop 1)).take ((s.length-1)/2)=(dU (s.drop 1)):=fZ zE
   rw[P];refine St.bU y bC (dU (s.drop 1)) rfl rfl (λx hx=>⟨n _ (D1 (qt hx).1),n _ (D1 (qt hx).2)⟩) (St.fF (cF ⟨x0,⟨y,hy⟩,(dU (s.drop 1))⟩) [sl bC y (dU (s.drop 1))] (λρ h=>h _ (aR ..)) (g9 ?_));refine St.iu rfl (.aq rfl) na jF HH rfl rfl (by simp[J.cells_one hy,Value.cells]) rfl rfl (λQ=> ?_);refine St.bH (.mk rfl) (.mk rfl) na jF HH Nt (by intro q E;simp[Value.cells]at E;rcases E with rfl|rfl;rfl;exact hy) zE zE rfl rfl rfl rfl (λv44 R=> ?_);refine St.aP v44 (show _=(X++ [(⟨x0,⟨y,hy⟩,(dU (s.drop 1))⟩:db)]).length from cW) (show _=rows bz (X++ [(⟨x0,⟨y,hy⟩,(dU (s.drop 1))⟩:db)])from JA (x:=⟨x0,⟨y,hy⟩,(dU (s.drop 1))⟩)) (St.cH v44 (λF _=>St.ou cF (xs:=X) (x:=⟨x0,⟨y,hy⟩,(dU (s.drop 1))⟩) (go ?_)));refine St.cP (.mk rfl) (.mk rfl) ahY F (by rfl) ?_;refine g8 ?_;refine St.vL (k+1) (v44,X++ [(⟨x0,⟨y,hy⟩,(dU (s.drop 1))⟩:db)]) ⟨by omega,F,by rw[ag e,cY,d,cG,cG,cY];exact congrArg (λq=>List.map ZH (List.take k iZ)++ [q]) (Mg C).symm,λx hx=>(ca.1 hx).elim (b x) λq=>by rw[ba.1 q];exact n x0 (aY C)⟩
 ·obtain rfl:k=iZ.length:=by omega
  rw[iT]at d;refine g8 ?_;refine St.sA (.mk rfl) (.mk rfl) jx ?_ (h1:=(by simp[hz]));refine g3 ?_;refine St.bU a bz X rfl rfl b (St.fF (aI ⟨⟨a,hz⟩,X⟩) [sl bz a X,aL cF X] (λρ h=>h) (St.VJ ⟨⟨a,hz⟩,X⟩ (g:=cG iZ) (bF ⟨⟨a,hz⟩,X⟩) rfl d (St.rV [_] [aD (bS (cG iZ) (bF ⟨⟨a,hz⟩,X⟩))] ?_)));rfl
def za (names:List cM)(ps:List Int)(k:Nat):List er:=(List.range k).map λi=>(names.getD i [],if i=0 then []else [ps.getD i 0])
theorem IW (names:List cM)(ps:List Int)(k:Nat):za names ps (k+1)=za names ps k++ [(names.getD k [],if k=0 then []else [ps.getD k 0])]:=by
 unfold za;rw[vH,cY];rfl
theorem JB {X:List sD}{x:sD}:rows lW X++ [sv x.name,x.pv.1]=rows lW (X++ [x]):=by rw[bN];rfl
theorem J9 {X:List fq}{x:fq}:rows cy X++UW x=rows cy (X++ [x]):=by rw[bN];rfl
theorem vk (a b j:Value)(names:List cM)(ps:List Int)(e:j.oneCell'=true)(hlen:ps.length=names.length)(L:names.length≤60):dx prog 26 #[a,b,j] ([fa fK names a,fa aJ ps b].map aD) (λv H'=>∃(tv:ah) (m:List sD),v= .agg #[tv.1,j]∧m.map dG=za names ps names.length∧H'=[aD (sl lW tv.1 m),aD (aL s6 m)]):=by
 refine dx.body (args:=[a,b,j]) 38 func26 rfl ntmps26 rfl (λc=>St.cast (H':=[aD (fa fK names a),aD (fa aJ ps b)]) rfl (go ?_));refine St.fa fK names a (λM=>St.fa aJ ps b (λN=>St.wf a (λC _=>St.wf b (λn _=>go ?_))));refine St.al (λt=>g4 ?_);refine St.al (λu=>g11 ?_);refine St.e7 163 2 (St.aP (.slice none 0 0) (show _=([]:List sD).length from rfl) (show _=rows lW []from rfl) (St.dN s6 (St.td (ι:=Nat) (κ:=Value×List sD) (λk z T=>(13,iv k)::T) (λk z=>[tI u [z.1,(.slice none 0 0)] 25,row z.1 163 2 (z.2).length (rows lW (z.2)),aD (aL s6 z.2),tI t [(.slice none 0 0),(.slice none 0 0)] 25,aD (sl fK a names),aD (sl aJ b ps)]) (λk z=>k≤names.length∧z.1.oneCell'=true∧z.2.map dG=za names ps k∧∀x∈z.2,lW.wf x) (λk z=>names.length-k) 0 ((.slice none 0 0),[]) (aC.k6 1 2 6 7 11 12) ⟨aQ _,rfl,rfl,λx hx=>by cases hx⟩ ?_)));rintro k ⟨f,X⟩ ⟨hk,hz,l,d⟩
 dsimp only at hz l d⊢
 have D:=congrArg List.length l
 rw[aO,za,aO,kF]at D;refine g6 ?_;refine St.cq (λE=> ?_) (λE=> ?_)
 ·obtain⟨nm,g⟩:=aF (show k<names.length by omega)
  obtain⟨p,hp⟩:=aF (show k<ps.length by omega)
  have o:names.getD k []=nm:=by rw[ax,g];rfl
  have r:ps.getD k 0=p:=by rw[ax,hp];rfl
  have F:=C nm (aY g)
  have s:=n p (aY hp)
  have G:=IW names ps k
  refine g16 ?_;refine St.ee (Ev.build (au.aq rfl) (λw=>Nn rfl w)) (St.al (λH=>g3 ?_));refine St.join (ι:=Value) (λy T=>T) (λy=>[tI H [sv nm,y] 163,aD (sl aJ y (if k=0 then []else [p])),tI u [f,(.slice none 0 0)] 25,row f 163 2 (X).length (rows lW (X)),aD (aL s6 X),tI t [(.slice none 0 0),(.slice none 0 0)] 25,aD (sl fK a names),aD (sl aJ b ps)]) (λy=>y.oneCell'=true) (aC.k8 1 2 6 7 10 11 12 13) ?_ ?_
  ·refine g6 ?_
   refine St.cq (λI=> ?_) (λI=> ?_)
   ·rw[aA (show ¬k=0 by omega)]
    refine g5 ?_;refine St.iu rfl (.aq rfl) bQ dQ ec rfl rfl (by simp[Value.cells]) rfl rfl (λi=> ?_);refine St.bU (tO i 1 1) aJ [p] rfl rfl (QF s) (go ?_);refine St.cP (.mk rfl) (.mk rfl) fT rfl (by rfl) ?_;refine g2 ?_;refine St.mE (tO i 1 1) rfl
   ·rw[aB (show k=0 by omega)]
    refine St.gi aJ (g2 ?_);refine St.mE (.slice none 0 0) rfl
  ·intro y hy
   have O:(⟨nm,⟨y,hy⟩,if k=0 then []else [p]⟩:sD)=⟨nm,⟨y,hy⟩,if k=0 then []else [p]⟩:=rfl
   refine g4 ?_;refine St.iu rfl (.aq rfl) wU Cj XD rfl rfl (by simp[J.cells_one hy,Value.cells]) rfl rfl (λP=> ?_);refine St.bH (.mk rfl) (.mk rfl) wU Cj XD aaZ (by intro q A;simp[Value.cells]at A;rcases A with rfl|rfl;rfl;exact hy) zE zE rfl rfl rfl rfl (λv32 K=> ?_);refine St.fF (s6 ⟨nm,⟨y,hy⟩,if k=0 then []else [p]⟩) [sl aJ y (if k=0 then []else [p])] (λρ h=>h _ (aR ..)) (St.aP v32 (show _=(X++ [(⟨nm,⟨y,hy⟩,if k=0 then []else [p]⟩:sD)]).length from cW) (show _=rows lW (X++ [(⟨nm,⟨y,hy⟩,if k=0 then []else [p]⟩:sD)])from JB (x:=⟨nm,⟨y,hy⟩,if k=0 then []else [p]⟩)) (St.cH v32 (λB _=>St.ou s6 (xs:=X) (x:=⟨nm,⟨y,hy⟩,if k=0 then []else [p]⟩) (go ?_))));refine St.cP (.mk rfl) (.mk rfl) aoH B (by rfl) ?_;refine g8 ?_;refine St.vL (k+1) (v32,X++ [(⟨nm,⟨y,hy⟩,if k=0 then []else [p]⟩:sD)]) ⟨by omega,B,by rw[cY,l,G,o,r];rfl,λx hx=>(ca.1 hx).elim (d x) λq=>by rw[ba.1 q];exact F⟩
 ·obtain rfl:k=names.length:=by omega
  refine g9 ?_;refine St.cP (.mk rfl) (.mk rfl) aoI e (by rfl) ?_;refine g5 ?_;refine St.sA (.mk rfl) (.mk rfl) RD ?_ (h1:=(by simp[hz,e]));refine g3 ?_;refine St.bU f lW X rfl rfl d (St.rV [_] [aD (sl lW f X),aD (aL s6 X)] ?_);exact⟨⟨f,hz⟩,X,rfl,l,rfl⟩
theorem eM (b:Nat)(e f g i xv:Value)(X:List fq)(word:cM)(wt:Int)(u w:Value)(t:ji)(iZ:List (List Int))(hw:nY word)(o:aZ wt)(D:xv.oneCell'=true)(E:X.length≤100)(F:∀x∈X,cy.wf x)
 (p:iZ.all (λxs=>decide (0<xs.length)&&decide (xs.length≤60))=true) (r:iZ.length≤60):dx prog 29 ([sv word,iv wt,u,w]++ [tW b]).toArray [aD (isTerm t u),aD (fW aJ iZ w),aD (aL dz X),tI b [e,f,g,xv,i] 32,row xv 100 9 (X).length (rows cy (X))]
 (λv H'=>∃(d:Value) (x:fq),v= .tuple #[]∧d.oneCell'=true∧jg x=⟨word,cG iZ,wt,t⟩∧cy.wf x∧H'=[tI b [e,f,g,d,i] 32,row d 100 9 (X++ [x]).length (rows cy (X++ [x])),aD (aL dz (X++ [x]))]):=by
 refine dx.body (args:=[sv word,iv wt,u,w]++ [tW b]) 20 func29 rfl ntmps29 rfl (λc=>go ?_);refine St.cast (H':=[aD (isTerm t u),aD (fW aJ iZ w),aD (aL dz X),tI b [e,f,g,xv,i] 32,row xv 100 9 (X).length (rows cy (X))]) rfl (St.isTerm t u (λx hx=>?_));obtain⟨rfl,rfl,s⟩:=hx;obtain⟨j,z,k,l⟩:=s;refine go ?_;refine St.cC (.mk rfl) rfl (λG=>g2 ?_);refine St.ef [tI b [e,f,g,xv,i] 32,row xv 100 9 (X).length (rows cy (X))] mixed (λH I=>?_)
 repeat' first
  |with_reducible refine SW.me ?_
   first
    |refine SW.gd 0 ?_
    |refine SW.gd 2 ?_
    |refine SW.gd 3 ?_
    |refine SW.gd 4 ?_
    |refine SW.gd 5 ?_
    |refine SW.dd 7 rfl (λ_=>Ev.build (ps:=[(0,(.tmp 11)),(2,(.tmp 12)),(3,(.tmp 13)),(1,(.tmp 15))]) (au.gn rfl rfl rfl rfl) (λw=>yo rfl rfl w)) ?_
    |refine SW.gd 10 ?_
    |refine SW.t2 1 6 ?_ ?_
    |refine SW.t1 6 ?_
    |refine SW.t1 8 ?_
    |refine SW.t1 9 ?_
    |refine SW.t1 11 ?_
    |refine SW.t2 1 8 ?_ ?_
    |refine SW.t1 1 ?_
  |with_reducible refine SW.tg 1 ?_
   refine g3 ?_;refine SW.go ?_
  |with_reducible refine SW.tg 6 ?_
   refine St.ak (gZ w iZ p r) FJ (.aq rfl) rfl ?_;rintro m _ rfl;refine St.bB (St.bS (cG iZ) m (λy hy=>?_));obtain⟨rfl,A⟩:=hy;refine g2 ?_;refine SW.go ?_
  |with_reducible refine SW.tg 8 ?_
   refine St.iu rfl (.aq rfl) wV mH LP rfl rfl (by simp[J.cells_one y.nv.2,J.cells_one x.type.av.2,J.cells_one x.av.2,Value.cells]) rfl rfl (λK=> ?_);refine g2 ?_;refine SW.go ?_
  |with_reducible refine SW.tg 9 ?_
   refine St.bH (.mk rfl) (.mk rfl) wV mH LP Vf (by intro q B;exact cy.one (⟨word,y,wt,x⟩:fq) q (by show q∈UW (⟨word,y,wt,x⟩:fq);simpa[Value.cells]using B)) zE zE rfl rfl rfl rfl (λa C=> ?_);refine St.fF (dz (⟨word,y,wt,x⟩:fq)) [aI y,cu x] (λρ h=>h) (St.aP a (show _=(X++ [(⟨word,y,wt,x⟩:fq)]).length from cW) (show _=rows cy (X++ [(⟨word,y,wt,x⟩:fq)])from J9 (x:=(⟨word,y,wt,x⟩:fq))) (St.cH a (λn _=>St.ou dz (xs:=X) (x:=(⟨word,y,wt,x⟩:fq)) (g2 ?_))));refine SW.go ?_
  |with_reducible refine SW.tg 11 ?_
   refine St.cP (.mk rfl) (.mk rfl) ahX n (by rfl) ?_;refine g2 ?_;refine SW.go ?_
 all_goals refine SW.dn ?_
 all_goals
  refine St.fi (St.rV [] [tI b [e,f,g,a,i] 32,row a 100 9 (X++ [(⟨word,y,wt,x⟩:fq)]).length (rows cy (X++ [(⟨word,y,wt,x⟩:fq)])),aD (aL dz (X++ [(⟨word,y,wt,x⟩:fq)]))] ?_);exact⟨a,(⟨word,y,wt,x⟩:fq),rfl,n,by rw[←A];rfl,⟨hw,o,j,z,k,l⟩,rfl⟩
end Go.Proofs.YtiefglecbgdaiaaGreatDoor
