/-
  Laws of walks through programs, and facts on grammars, trees and queries.
  Conditions: none.
-/
import Derived.Test.YtblifkgpebebmaaGreatDoorGT9
set_option maxHeartbeats 8000000
set_option maxRecDepth 20000
set_option linter.unusedVariables false
set_option linter.unusedSimpArgs false
namespace Go.Proofs.YtblifkgpebebmaaGreatDoor
open Go Go.J Tryz
theorem Rv {words:List bI}{k:Nat}{w:bI}(h:words[k]?=some w):wY k (words.drop k)=if isWord w=false then(10,(k:Int))else wY (k+1) (words.drop (k+1)):=by rw[an h,wY]
theorem Vq {words:List bI}{k:Nat}(h:words.length≤k):wY k (words.drop k)=(0,0):=by rw[fX h,wY]
theorem Rx {L:List HJ}{words:List bI}{k:Nat}{w:bI}(h:words[k]?=some w):AP L k (words.drop k)=if w∈L.map (·.word)then AP L (k+1) (words.drop (k+1))else(6,(k:Int)):=by rw[an h,AP]
theorem Vr {L:List HJ}{words:List bI}{k:Nat}(h:words.length≤k):AP L k (words.drop k)=(0,0):=by rw[fX h,AP]
theorem CD {g:ob}{words:List bI}(h:(qt g words).1=0):0<words.length∧words.length≤12:=by
 unfold qt at h
 by_cases c:words.length=0∨12<words.length
 ·rw[aB c]at h;exact absurd h (by decide)
 ·omega
theorem Mm.Di {c:Ctx}(tI:TypeId){w:World}:∀(m:Nat) (H:List ao),Mm c H w→Mm c (ax (ez tI) (List.replicate m (bK,[]))++H) w
 |0,_,h=>h
 |m+1,H,h=>by
  obtain⟨ρ,hm⟩:=(Mm.Di tI m H h).out;exact Mm.mk (hm.A4 rfl ⟨rfl,aW _⟩ rfl (aW _) (λ_ _=>rfl) (dZ.2 (World.ownsRow_nil _ _ _ _)) (λb hb=>by rw[dV]at hb;simp[Value.ownBlock]at hb))
theorem St.Di {n:Nat}{F:Fr}{c:Ctx}{H H':List ao}{T:Act→World→Prop}(tW tI:TypeId)(m:Nat)[t:iU [] (ax (dx tW tI) []++ax (ez tI) (List.replicate m (bK,[]))) H H'](h:St n F (Mm c H') T):St n F (Mm c H) T:=by
 obtain⟨L,a,b⟩:=t.eq
 refine h.pQ λw hw=> ?_
 rw[a,fj]at hw;obtain⟨ρ,k⟩:=(Mm.Di tI m L hw).out;rw[b];exact Mm.mk (k.perm jJ)
theorem St.agX {n:Nat}{F:Fr}{c:Ctx}{H H':List ao}{T:Act→World→Prop}(X Y:List ao)[t:iU (X++Y) X H H'](h:St n F (Mm c H') T):St n F (Mm c H) T:=by
 obtain⟨L,a,b⟩:=t.eq
 refine h.pQ λw hw=> ?_
 rw[a,←cg]at hw;obtain⟨ρ,k⟩:=hw.out;rw[b];exact Mm.mk k.left
theorem Vs {f:kO}{g:ja}{words:List bI}(h:wC f (gG g) (fg (g.types.map cS)))(hk:∀r∈(gG g).rules,r.kids≤3):jg f (g.types.map cS) words.length g=qrG (gG g) words:=by
 unfold qrG jg
 rw[RE h hk];rfl
theorem aaU {g:ja}(h:XW (gG g)){f:kO}{n:Nat}(hn:n≤12):qu (g.types.map cS).length (g.bb.map fi).length (jg f (g.types.map cS) n g):=
 ⟨hn,Bl _,h.rn,h.xn,λr hr=>⟨(h.rule r hr).kids,(h.rule r hr).gr,(h.rule r hr).len⟩,λx hx=>⟨(h.lex x hx).gr,(h.lex x hx).len⟩⟩
theorem Vt {nt nf n len frm:Nat}{Q:Qr}{words:List bI}(hQ:qu nt nf Q){d:nA}(hs:nL nt nf n len frm d.cs)(hd:fI Q words d.cs):∀x∈d.its,x.bx.length≤3000000000000∧∀w∈x.bx,lR.wf w∧w.kids.length≤1000∧∀k∈w.kids,k<d.its.length:=λx hx=>by
 have hm:bV x∈d.cs.its:=dq hx
 have h1:=hs.bx _ hm
 have e1:(bV x).bx.length=x.bx.length:=aQ _
 unfold vI at h1;refine⟨by omega,λw hw=> ?_⟩
 have Gj:wyE w∈(bV x).bx:=dq hw
 have hk:∀k∈w.kids,k<d.its.length:=λk hk=>by rw[←gW];exact hs.ok.kids _ hm _ Gj k hk
 rcases hd _ hm _ Gj with⟨a1,a2,_,_,i,hi,a5,_⟩|⟨i,hi,a2,a3,a4,_⟩
 ·have a1:w.rule= -1:=a1
  have a2:w.kids=[]:=a2
  have a5:w.lex=i:=a5
  have:=hQ.xn
  exact⟨⟨by rw[a1];unfold bP;omega,by rw[a5];unfold bP;omega⟩,by rw[a2];exact aR _,hk⟩
 ·have a2:w.rule=i:=a2
  have a3:w.lex=0:=a3
  have a4:((w.kids.length:Nat):Int)=_:=a4
  have:=hQ.rn
  have h3:=(hQ.vE hi).1.2
  exact⟨⟨by rw[a2];unfold bP;omega,by rw[a3];unfold bP;omega⟩,by omega,hk⟩
theorem aaV {nt nf n:Nat}{cs:Cs}(h:fV nt nf n cs){it:kZ}(hit:it∈fU cs.its):it.ed.frm<it.ed.tqo∧it.ed.tqo≤n∧it.ed.cQ≤3∧dP nt nf it.ed.gr∧it.ed.gr.length≤60:=by
 unfold fU at hit;obtain⟨i,hi,rfl⟩:=ct.1 hit
 have qQ:i<cs.its.length:=cy.1 ((jE _ _).mem_iff.1 hi)
 have e:cs.its.getD i fQ=cs.its[i]:=by rw[ak,bO qQ];rfl
 dsimp only
 rw[e];exact h.gr _ (gm qQ)
theorem GZ {Q:Qr}{words:List bI}{len m frm:Nat}{cs:Cs}(hm:0<m):AO Q words len m frm cs=if 300<(p6 Q words frm (frm+len) cs).its.length then none else AO Q words len (m-1) (frm+1) (p6 Q words frm (frm+len) cs):=by
 obtain⟨k,rfl⟩:∃k,m=k+1:=⟨m-1,by omega⟩
 rfl
theorem Ga {Q:Qr}{words:List bI}{len m:Nat}{cs:Cs}(hm:0<m):yp Q words m len cs=(AO Q words len (Q.n+1-len) 0 cs).bind λcs=>yp Q words (m-1) (len+1) cs:=by
 obtain⟨k,rfl⟩:∃k,m=k+1:=⟨m-1,by omega⟩
 rfl
theorem zn {mt:Nat→Nat→Option Nat}{n:Nat}{start:dF}{its:List kZ}{k:Nat}:((List.range (k+1)).filter λi=>decide ((its.getD i fQ).ed.frm=0)&&decide ((its.getD i fQ).ed.tqo=n)&&(cm mt (its.getD i fQ).ed.gr 0 start).isSome)=
 ((List.range k).filter λi=>decide ((its.getD i fQ).ed.frm=0)&&decide ((its.getD i fQ).ed.tqo=n)&&(cm mt (its.getD i fQ).ed.gr 0 start).isSome)++if(decide ((its.getD k fQ).ed.frm=0)&&decide ((its.getD k fQ).ed.tqo=n)&&(cm mt (its.getD k fQ).ed.gr 0 start).isSome)=true then [k]else []:=by
 rw[vc,List.filter_append,List.filter_cons,List.filter_nil]
theorem Ry (g:ja)(wv:Value)(words:List bI):iz Tryz.prog 87 #[kC g,wv] [sl eF g.xv.1 g.aN,aI eB g.aN,sl dY wv words,u8] (fv (qt (gG g) words)):=by
 refine iz.body (args:=[kC g,wv]) (ds:=[sl eF g.xv.1 g.aN,aI eB g.aN,sl dY wv words,u8]) 69 Tryz.func87 rfl Tryz.ntmps87 rfl (λc lf=> ?_);refine St.cast (H':=[aF (sl eF g.xv.1 g.aN),aF (aI eB g.aN),aF (sl dY wv words),aF (u8)]) rfl ?_;refine go ?_;refine St.wf wv (λUf MO=> ?_);refine St.wf g.xv.1 (λzu wI=> ?_);refine go ?_;refine St.cz (.mk rfl) rfl (λb2=> ?_);refine St.al (λb4=> ?_);refine g9 ?_;refine St.gf _ rfl rfl (λhg=>Ev.move (.mk rfl)) rfl ?_;refine St.gf _ rfl rfl (λhg=>Ev.fm (aZ.gv rfl hg) uX) rfl ?_;refine St.gf _ rfl rfl (λhg=>Ev.gtr (aZ.gv rfl hg) (.mk rfl)) rfl ?_;refine g3 ?_;refine St.cq (λAJ=> ?_) (λAJ=> ?_)
 ·have hk:(qt (gG g) words)=(9,-2):=by unfold qt;rw[aB (by omega)]
  refine g2 ?_;refine St.ee (Ev.build (bF.bH rfl rfl) (λw=>fB rfl rfl w)) ?_;refine g5 ?_;refine St.rV [_] [] ?_
  rw[hk];rfl
 ·have hk:(qt (gG g) words)=if(wY 0 words).1≠0 then wY 0 words else AP (g.aN.map rJ) 0 words:=by unfold qt;rw[aA (by omega)];rfl
  refine g11 ?_;refine St.lH (ι:=Nat) (λk T=>(25,iv k)::T) (λk=>[aX b2 (.cells (lh g).toArray 32 (0,0)),aX b4 (.cells [iv 0,iv 0].toArray 35 (0,0)),aF (sl eF g.xv.1 g.aN),aF (aI eB g.aN),aF (sl dY wv words),aF (u8)]) (λk=>k≤words.length∧wY 0 words=wY k (words.drop k)) (λk=>words.length-k) 0 (aC.cons 1 rfl (aC.cons 2 rfl (aC.cons 4 rfl (aC.cons 23 rfl (aC.cons 24 rfl aC.nil))))) ⟨aR _,rfl⟩ ?_;rintro k ⟨rf,hv⟩;refine g6 ?_;refine St.cq (λGk=> ?_) (λGk=> ?_)
  ·obtain⟨w,hw⟩:=aE (show k<words.length by omega)
   have anC:w.length≤140737488351232:=Uf w (ab hw)
   have ei:=Rv hw
   refine g16 ?_;refine St.ee (Ev.ni lf (BQ w (by omega)) acR (.bB rfl)) ?_;refine g3 ?_;refine St.cond _ rfl (λWE=> ?_) (λWE=> ?_)
   ·skip
    rw[aB (show isWord w=false by simpa using WE)]at ei;rw[hv.trans ei,aB (show(10:Int)≠0 by decide)]at hk;refine g3 ?_;refine St.ee (Ev.build (bF.bH rfl rfl) (λw=>fB rfl rfl w)) ?_;refine g9 ?_;refine St.rV [_] [] ?_
    rw[hk];rfl
   ·skip
    rw[aA (show ¬isWord w=false by simpa using WE)]at ei;refine g8 ?_;refine St.aH (k+1) ⟨by omega,hv.trans ei⟩
  ·rw[Vq (by omega)]at hv
   rw[hv,aA (by decide)]at hk;refine g7 ?_;refine St.makeMap mkStr rfl (λSg=> ?_);refine g13 ?_;refine St.vo (ι:=Nat) (κ:=List (bI×Value)) (λq m T=>(40,iv q)::T) (λq m=>[aX Sg (dh mkStr m),aX b2 (.cells (lh g).toArray 32 (0,0)),aX b4 (.cells [iv 0,iv 0].toArray 35 (0,0)),aF (sl eF g.xv.1 g.aN),aF (aI eB g.aN),aF (sl dY wv words),aF (u8)]) (λq m=>q≤g.aN.length∧M3 m ((g.aN.take q).map fN.word)) (λq m=>g.aN.length-q) 0 [] (aC.cons 1 rfl (aC.cons 4 rfl (aC.cons 7 rfl (aC.cons 38 rfl (aC.cons 39 rfl aC.nil))))) ⟨aR _,M3.nil⟩ ?_;rintro q m ⟨hq,wT⟩;refine g6 ?_;refine St.cq (λFE=> ?_) (λFE=> ?_)
   ·obtain⟨x,hx⟩:=aE (show q<g.aN.length by omega)
    refine g8 ?_;refine St.ee (Ev.jj (.mk rfl) hx yE trivial pq iY.eq) ?_;refine St.al (λb9=> ?_);refine go ?_;refine St.sA (.mk rfl) (.mk rfl) pq ?_ (h1:=(eO.2 λu hu=>eF.one x u hu));refine g7 ?_;refine St.mapUpdate mkStr (k:=x.word) (.mk rfl) (.mk rfl) (.mk rfl) pL (by exact sK) ?_;refine g8 ?_;refine St.wo (q+1) (kB m x.word (iv q)) ⟨by omega,by rw[fM fN.word hx];exact wT.snoc _ _⟩
   ·obtain rfl:q=g.aN.length:=by omega
    rw[jy]at wT;refine g14 ?_;refine St.lH (ι:=Nat) (λk T=>(52,iv k)::T) (λk=>[aX Sg (dh mkStr m),aX b2 (.cells (lh g).toArray 32 (0,0)),aX b4 (.cells [iv 0,iv 0].toArray 35 (0,0)),aF (sl eF g.xv.1 g.aN),aF (aI eB g.aN),aF (sl dY wv words),aF (u8)]) (λk=>k≤words.length∧AP (g.aN.map rJ) 0 words=AP (g.aN.map rJ) k (words.drop k)) (λk=>words.length-k) 0 (aC.cons 4 rfl (aC.cons 7 rfl (aC.cons 50 rfl (aC.cons 51 rfl aC.nil)))) ⟨aR _,rfl⟩ ?_;rintro k ⟨rf,wU⟩;refine g6 ?_;refine St.cq (λYd=> ?_) (λYd=> ?_)
    ·obtain⟨w,hw⟩:=aE (show k<words.length by omega)
     have ke:=Rx (L:=g.aN.map rJ) hw
     rw[kh]at ke;refine g17 ?_;refine St.ee (Ev.sY mkStr (k:=w) (.mk rfl) (.mk rfl) pL (by exact sK) jA) ?_;refine g3 ?_;refine St.slot 62 (.bool (decide (w∈g.aN.map fN.word))) rfl (congrArg Value.bool (wT w)) ?_;refine g10 ?_;refine St.cond _ rfl (λI8=> ?_) (λI8=> ?_)
     ·skip
      rw[aA (show ¬w∈g.aN.map ((·.word)∘rJ)from(by simpa using I8:¬w∈g.aN.map fN.word))]at ke;rw[wU.trans ke]at hk;refine g3 ?_;refine St.ee (Ev.build (bF.bH rfl rfl) (λw=>fB rfl rfl w)) ?_;refine g9 ?_;refine St.rV [_] [] ?_
      rw[hk];rfl
     ·skip
      rw[aB (show w∈g.aN.map ((·.word)∘rJ)from(by simpa using I8:w∈g.aN.map fN.word))]at ke;refine g8 ?_;refine St.aH (k+1) ⟨by omega,wU.trans ke⟩
    ·rw[Vr (by omega)]at wU
     rw[wU]at hk;refine g7 ?_;refine St.ee (Ev.build (bF.nil) (λw=>fL w)) ?_;refine g4 ?_;refine St.rV [_] [] ?_
     rw[hk];rfl
theorem Rz (g:ja)(wv:Value)(words:List bI):xT Tryz.prog 50 #[kC g,wv] ([kW g,sl dY wv words,tz,u8].map aF) (λv H'=>∃(u2 u3:aY) (m:Nat) (j4:List cX),v= .tuple #[.agg #[u2.1,iv (m:Nat),u3.1],fv (dI (gG g) words).2]∧j4.map bV=(dI (gG g) words).1.1∧H'=[aF (sl dX u2.1 j4),aF (aI cW j4),aF (sl aL u3.1 (bC (dI (gG g) words).1.2))]):=by
 refine xT.body (args:=[kC g,wv]) 124 Tryz.func50 rfl Tryz.ntmps50 rfl (λc lf=> ?_);refine St.cast (H':=[aF (kW g),aF (sl dY wv words),aF (tz),aF (u8)]) rfl ?_
 refine St.j7 (kW g) (λ_:Unit=>Lg g) (λρ h=>⟨(),h⟩) λ_=> ?_
 refine St.cast (H':=[aF (sl qS g.tv.1 g.types),aF (aI xy g.types),aF (sl gZ g.fv.1 g.bb),aF (sl cY g.rv.1 g.rules),aF (aI cK g.rules),aF (sl eF g.xv.1 g.aN),aF (aI eB g.aN),aF (aG g.start),aF (kW g),aF (sl dY wv words),aF (tz),aF (u8)]) rfl ?_;refine g2 ?_;refine St.cz (.mk rfl) rfl (λb2=> ?_);refine St.al (λb4=> ?_);refine St.al (λb5=> ?_);refine g6 ?_;refine St.slot 17 (kC g) rfl rfl ?_;refine St.ee (Ev.ni lf (w7 g) adU (.bB rfl)) ?_;refine St.slot 18 (.agg #[iv (lC (gG g)).1,iv (lC (gG g)).2]) rfl rfl ?_;refine St.al (λb6=> ?_);refine g10 ?_;refine St.cq (λAJ=> ?_) (λAJ=> ?_)
 ·have zf:(dI (gG g) words)=(([],[]),lC (gG g)):=by unfold dI;rw[aB AJ]
  refine go ?_;refine St.sZ [b4,b5] mixed (λnp ns=> ?_);refine SW.dd 0 rfl (λ_=>Ev.build (ps:=[]) (bF.nil) (λw=>Cy w)) ?_;refine SW.gd 1 ?_;refine SW.t1 2 ?_;refine g3 ?_;refine SW.go ?_;refine SW.t1 3 ?_;refine g3 ?_;refine SW.go ?_;refine SW.dn ?_;refine g3 ?_;refine St.fq dX ?_;refine St.e8 cW ?_;refine St.fq aL ?_;refine St.rV [_,_] [aF (sl dX (.slice none 0 0) []),aF (aI cW []),aF (sl aL (.slice none 0 0) [])] ?_;exact⟨bK,bK,0,[],by rw[zf];rfl,by rw[zf];rfl,by rw[zf];rfl⟩
 ·have H8:(lC (gG g)).1=0:=by omega
  have rY:=JI H8
  have hT:gy (g.types.map cS):=rY.ty
  have M9:=hT.len
  have Pp:(g.bb.map fi).length≤40:=rY.ft
  refine g6 ?_;refine St.slot 24 (kC g) rfl rfl ?_;refine go ?_;refine St.ee (Ev.ni lf (Ry g wv words) aiC (.bH rfl rfl)) ?_;refine St.slot 26 (.agg #[iv (qt (gG g) words).1,iv (qt (gG g) words).2]) rfl rfl ?_;refine St.al (λb7=> ?_);refine g10 ?_;refine St.cq (λh29=> ?_) (λh29=> ?_)
  ·have zf:(dI (gG g) words)=(([],[]),(qt (gG g) words)):=by unfold dI;rw[aA (λh=>h H8),aB h29]
   refine go ?_;refine St.sZ [b4,b5] mixed (λnp ns=> ?_);refine SW.dd 0 rfl (λ_=>Ev.build (ps:=[]) (bF.nil) (λw=>Cy w)) ?_;refine SW.gd 1 ?_;refine SW.t1 2 ?_;refine g3 ?_;refine SW.go ?_;refine SW.t1 3 ?_;refine g3 ?_;refine SW.go ?_;refine SW.dn ?_;refine g3 ?_;refine St.fq dX ?_;refine St.e8 cW ?_;refine St.fq aL ?_;refine St.rV [_,_] [aF (sl dX (.slice none 0 0) []),aF (aI cW []),aF (sl aL (.slice none 0 0) [])] ?_;exact⟨bK,bK,0,[],by rw[zf];rfl,by rw[zf];rfl,by rw[zf];rfl⟩
  ·have hk0:(qt (gG g) words).1=0:=by omega
   obtain⟨JU,aaW⟩:=CD hk0
   have ZM:∀r∈g.rules,(1≤r.kids∧r.kids≤3)∧dP (g.types.map cS).length (g.bb.map fi).length (ar r.graph)∧r.graph.nodes.length≤60:=λr hr=>by have h:=rY.rule (mi r) (dq hr);exact⟨h.kids,h.gr,by rw[←cP];exact h.len⟩
   have Zp:∀x∈g.aN,dP (g.types.map cS).length (g.bb.map fi).length (ar x.graph)∧x.graph.nodes.length≤60:=λx hx=>by have h:=rY.lex (rJ x) (dq hx);exact⟨h.gr,by rw[←cP];exact h.len⟩
   have Vu:dP (g.types.map cS).length (g.bb.map fi).length (ar g.start)∧g.start.nodes.length≤60:=⟨rY.start.1,by rw[←cP];exact rY.start.2⟩
   have Gs:∀r∈g.rules,∀k:Int,0≤k→k≤r.kids→0≤qp (ar r.graph) k:=λr hr=>(rY.rule (mi r) (dq hr)).qp
   have Bw:g.rules.length≤40:=by have h:(g.rules.map mi).length≤40:=rY.rn;rwa[aQ]at h
   have hxn:g.aN.length≤100:=by have h:(g.aN.map rJ).length≤100:=rY.xn;rwa[aQ]at h
   refine g7 ?_;refine St.fE (q9 g.tv.1 g.types hT) YM (.bB rfl) rfl ?_;rintro v35 _ ⟨w1,w2,rfl,rfl⟩;refine St.lZ ?_;refine St.al (λb8=> ?_);refine g3 ?_;refine St.join (ι:=kO×aY×Nat×Nat×nA) (λ⟨f,sv,Al,LA,d0⟩ T=>(9,.pointer (some ⟨LA,0,none⟩))::T) (λ⟨f,sv,Al,LA,d0⟩=>(aF (aI (λx:cX=>aG x.gr) d0.its)::aX LA (.cells (mS g w1 w2 f words.length d0.dQ.1 sv.1 Al).toArray 180 (0,0))::aX Al (dh mkStr d0.m)::row d0.dQ.1 186 6 d0.its.length (rows dX d0.its)::row sv.1 58 1 d0.bR.length (rows cN (d0.bR.map Prod.fst))::aF (gT [fz f,sl cY g.rv.1 g.rules,aI cK g.rules,sl eF g.xv.1 g.aN,aI eB g.aN])::aF (gT [sl ay w1.1 (cn (g.types.map cS)),sl ay w2.1 (cr (g.types.map cS)),tz,sl dY wv words,aG g.start])::aX b2 (.cells (lh g).toArray 32 (0,0))::aX b4 (.cells [(.slice none 0 0),iv 0,(.slice none 0 0)].toArray 120 (0,0))::aX b5 (.cells [iv 0,iv 0].toArray 35 (0,0))::aX b8 (.cells [w1.1,w2.1].toArray 100 (0,0))::(ax (dx 200 3) d0.its++ax (ez 3) d0.bR))) (λ⟨f,sv,Al,LA,d0⟩=>wC f (gG g) (fg (g.types.map cS))∧d0.nB=sv∧kb d0∧d0.cs=(⟨[],List.replicate (words.length*(words.length+1)) []⟩:Cs)) (aC.cons 1 rfl (aC.cons 2 rfl (aC.cons 4 rfl (aC.cons 5 rfl (aC.cons 8 rfl aC.nil))))) ?_ ?_
   ·refine St.cx [aF (sl cY g.rv.1 g.rules),aF (aI cK g.rules),aF (sl eF g.xv.1 g.aN),aF (aI eB g.aN),aF (aG g.start),aF (sl ay w1.1 (cn (g.types.map cS))),aF (sl ay w2.1 (cr (g.types.map cS))),aF (tz)] mixed (λnp ns=> ?_)
    repeat' first
     |with_reducible refine SW.me ?_
      first
       |refine SW.gd 0 ?_
        refine SW.slot 36 (kC g) rfl rfl ?_
       |refine SW.gd 1 ?_
        refine SW.slot 37 (jS w1 w2) rfl rfl ?_
       |refine SW.gd 2 ?_
        refine SW.slot 38 (kC g) rfl rfl ?_
       |refine SW.gd 3 ?_
        refine SW.slot 39 (jS w1 w2) rfl rfl ?_
       |refine SW.gd 5 ?_
       |refine SW.gd 6 ?_
       |refine SW.dd 9 rfl (λ_=>Ev.build (ps:=[(0,(.tmp 36)),(1,(.tmp 37)),(2,(.tmp 40)),(4,(.tmp 43)),(5,(.tmp 44))]) (bF.ahU rfl rfl rfl rfl rfl) (λw=>ug rfl w)) ?_
        refine SW.slot 45 (.agg (mS g w1 w2 f words.length bK.1 sv.1 Al).toArray) rfl rfl ?_
       |refine SW.gd 11 ?_
       |refine SW.t2 4 8 ?_ ?_
       |refine SW.t2 7 8 ?_ ?_
       |refine SW.t1 8 ?_
       |refine SW.t1 10 ?_
       |refine SW.t1 7 ?_
       |refine SW.t1 4 ?_
     |with_reducible refine SW.tg 4 ?_
      refine St.fE (VC g w1 w2 (g.types.map cS) hT (g.bb.map fi).length (by omega) Bw hxn ZM Zp Vu Gs) aiD (.bH rfl rfl) rfl ?_;rintro v40 _ ⟨f,rfl,XL,rfl⟩;refine St.fk ?_;refine g2 ?_;refine SW.go ?_
     |with_reducible refine SW.tg 7 ?_
      refine St.call (Ag words.length aaW (words.length*(words.length+1)) rfl) aiE (.bB rfl) rfl ?_;rintro v43 _ ⟨sv,rfl,rfl⟩;refine St.fk ?_;refine g2 ?_;refine SW.go ?_
     |with_reducible refine SW.tg 8 ?_
      refine St.makeMap mkStr rfl (λAl=> ?_);refine g2 ?_;refine SW.go ?_
     |with_reducible refine SW.tg 10 ?_
      refine St.cz (.mk rfl) rfl (λLA=> ?_);refine g2 ?_;refine SW.go ?_
    all_goals refine SW.dn ?_
    all_goals
     refine go ?_;refine St.aO sv.1 (show _=(List.replicate (words.length*(words.length+1)) ((bK,[]):aY×List Nat)).length by rw[jI,jI]) (show _=rows cN ((List.replicate (words.length*(words.length+1)) ((bK,[]):aY×List Nat)).map Prod.fst) by rw[sN]) ?_;refine St.dc 186 6 ?_;refine St.aO (.slice none 0 0) (show _=([]:List cX).length from rfl) (show _=rows dX []from rfl) ?_;refine St.e8 (λx:cX=>aG x.gr) ?_;refine St.Di 200 3 (words.length*(words.length+1)) ?_;refine St.eT (gT [fz f,sl cY g.rv.1 g.rules,aI cK g.rules,sl eF g.xv.1 g.aN,aI eB g.aN]) [fz f,sl cY g.rv.1 g.rules,aI cK g.rules,sl eF g.xv.1 g.aN,aI eB g.aN] (λρ h=>h) ?_;refine St.eT (gT [sl ay w1.1 (cn (g.types.map cS)),sl ay w2.1 (cr (g.types.map cS)),tz,sl dY wv words,aG g.start]) [sl ay w1.1 (cn (g.types.map cS)),sl ay w2.1 (cr (g.types.map cS)),tz,sl dY wv words,aG g.start] (λρ h=>h) ?_;refine St.mE ⟨f,sv,Al,LA,(⟨bK,[],sv,List.replicate (words.length*(words.length+1)) (bK,[]),[]⟩:nA)⟩ ⟨XL,rfl,⟨λ_ h=>(by cases h),wZ.nil,.nil⟩,(by show(⟨_,_⟩:Cs)=_;rw[sN];rfl)⟩
   ·rintro ⟨f,sv,Al,LA,d0⟩ ⟨XL,agY,Pb,LW⟩
    dsimp only at XL agY Pb LW⊢
    refine St.Ja [sl ay w1.1 (cn (g.types.map cS)),sl ay w2.1 (cr (g.types.map cS)),tz,sl dY wv words,aG g.start] ?_;refine St.cast (H':=(aF (sl ay w1.1 (cn (g.types.map cS)))::aF (sl ay w2.1 (cr (g.types.map cS)))::aF (tz)::aF (sl dY wv words)::aF (aG g.start)::(aF (aI (λx:cX=>aG x.gr) d0.its)::aX LA (.cells (mS g w1 w2 f words.length d0.dQ.1 sv.1 Al).toArray 180 (0,0))::aX Al (dh mkStr d0.m)::row d0.dQ.1 186 6 d0.its.length (rows dX d0.its)::row sv.1 58 1 d0.bR.length (rows cN (d0.bR.map Prod.fst))::aF (gT [fz f,sl cY g.rv.1 g.rules,aI cK g.rules,sl eF g.xv.1 g.aN,aI eB g.aN])::aF (gT [sl ay w1.1 (cn (g.types.map cS)),sl ay w2.1 (cr (g.types.map cS)),tz,sl dY wv words,aG g.start])::aX b2 (.cells (lh g).toArray 32 (0,0))::aX b4 (.cells [(.slice none 0 0),iv 0,(.slice none 0 0)].toArray 120 (0,0))::aX b5 (.cells [iv 0,iv 0].toArray 35 (0,0))::aX b8 (.cells [w1.1,w2.1].toArray 100 (0,0))::(ax (dx 200 3) d0.its++ax (ez 3) d0.bR)))) rfl ?_;refine St.Ja [fz f,sl cY g.rv.1 g.rules,aI cK g.rules,sl eF g.xv.1 g.aN,aI eB g.aN] ?_;refine St.cast (H':=(aF (fz f)::aF (sl cY g.rv.1 g.rules)::aF (aI cK g.rules)::aF (sl eF g.xv.1 g.aN)::aF (aI eB g.aN)::aF (sl ay w1.1 (cn (g.types.map cS)))::aF (sl ay w2.1 (cr (g.types.map cS)))::aF (tz)::aF (sl dY wv words)::aF (aG g.start)::aF (aI (λx:cX=>aG x.gr) d0.its)::aX LA (.cells (mS g w1 w2 f words.length d0.dQ.1 sv.1 Al).toArray 180 (0,0))::aX Al (dh mkStr d0.m)::row d0.dQ.1 186 6 d0.its.length (rows dX d0.its)::row sv.1 58 1 d0.bR.length (rows cN (d0.bR.map Prod.fst))::aF (gT [fz f,sl cY g.rv.1 g.rules,aI cK g.rules,sl eF g.xv.1 g.aN,aI eB g.aN])::aF (gT [sl ay w1.1 (cn (g.types.map cS)),sl ay w2.1 (cr (g.types.map cS)),tz,sl dY wv words,aG g.start])::aX b2 (.cells (lh g).toArray 32 (0,0))::aX b4 (.cells [(.slice none 0 0),iv 0,(.slice none 0 0)].toArray 120 (0,0))::aX b5 (.cells [iv 0,iv 0].toArray 35 (0,0))::aX b8 (.cells [w1.1,w2.1].toArray 100 (0,0))::(ax (dx 200 3) d0.its++ax (ez 3) d0.bR))) rfl ?_
    have hFn:=XL.ln (by have:=rY.rn;omega) (by have:=rY.xn;omega) (λr hr=>(rY.rule r hr).kids.2)
    have hQ:=aaU rY (f:=f) aaW
    have hQs:=Vs (words:=words) XL (λr hr=>(rY.rule r hr).kids.2)
    have akT:f.nr=g.rules.length:=by rw[XL.nr];exact aQ _
    obtain⟨W,hW⟩:∃W,W=yp (jg f (g.types.map cS) words.length g) words words.length 1 (⟨[],List.replicate (words.length*(words.length+1)) []⟩:Cs):=⟨_,rfl⟩
    have akU:AQ (gG g) words=W.map λcs=>fU cs.its:=by unfold AQ;rw[←hQs,hW]
    have zf:(dI (gG g) words)=match AQ (gG g) words with|none=>(([],[]),(17,-2))|some its=>((its,IP (fg (g.types.map cS)) words.length (ar g.start) its),(0,0)):=by unfold dI;rw[aA (λh=>h H8),aA (λh=>h hk0)];rfl
    rw[akU]at zf;refine g7 ?_;refine St.lH (ι:=Nat×nA) (λ⟨i,d1⟩ T=>(10,iv ((i+1:Nat):Int))::T) (λ⟨i,d1⟩=>(aF (aI (λx:cX=>aG x.gr) d1.its)::aX LA (.cells (mS g w1 w2 f words.length d1.dQ.1 sv.1 Al).toArray 180 (0,0))::aX Al (dh mkStr d1.m)::row d1.dQ.1 186 6 d1.its.length (rows dX d1.its)::row sv.1 58 1 d1.bR.length (rows cN (d1.bR.map Prod.fst))::aF (fz f)::aF (sl cY g.rv.1 g.rules)::aF (aI cK g.rules)::aF (sl eF g.xv.1 g.aN)::aF (aI eB g.aN)::aF (sl ay w1.1 (cn (g.types.map cS)))::aF (sl ay w2.1 (cr (g.types.map cS)))::aF (tz)::aF (sl dY wv words)::aF (aG g.start)::aX b2 (.cells (lh g).toArray 32 (0,0))::aX b4 (.cells [(.slice none 0 0),iv 0,(.slice none 0 0)].toArray 120 (0,0))::aX b5 (.cells [iv 0,iv 0].toArray 35 (0,0))::aX b8 (.cells [w1.1,w2.1].toArray 100 (0,0))::(ax (dx 200 3) d1.its++ax (ez 3) d1.bR))) (λ⟨i,d1⟩=>i≤words.length∧d1.nB=sv∧kb d1∧nL (g.types.map cS).length (g.bb.map fi).length words.length (i+1) 0 d1.cs∧fI (jg f (g.types.map cS) words.length g) words d1.cs∧yp (jg f (g.types.map cS) words.length g) words (words.length-i) (i+1) d1.cs=W) (λ⟨i,d1⟩=>words.length-i) ⟨0,d0⟩ (aC.cons 1 rfl (aC.cons 2 rfl (aC.cons 4 rfl (aC.cons 5 rfl (aC.cons 8 rfl (aC.cons 9 rfl aC.nil)))))) ⟨aR _,agY,Pb,by rw[LW];exact GV,by rw[LW];exact λit h=>(by cases h),by rw[LW,hW];rfl⟩ ?_;rintro ⟨i,d1⟩ ⟨hi,mK,vG,Sf,hn1,ig⟩
    dsimp only at hi mK vG Sf hn1 ig⊢
    refine g9 ?_;refine St.cq (λN0=> ?_) (λN0=> ?_)
    ·have qQ:i<words.length:=by omega
     rw[Ga (by omega),show((jg f (g.types.map cS) words.length g)).n+1-(i+1)=words.length-i from(by show words.length+1-(i+1)=_;omega)]at ig;refine g10 ?_;refine St.lH (ι:=Nat×nA) (λ⟨fr,d2⟩ T=>(11,iv fr)::T) (λ⟨fr,d2⟩=>(aF (aI (λx:cX=>aG x.gr) d2.its)::aX LA (.cells (mS g w1 w2 f words.length d2.dQ.1 sv.1 Al).toArray 180 (0,0))::aX Al (dh mkStr d2.m)::row d2.dQ.1 186 6 d2.its.length (rows dX d2.its)::row sv.1 58 1 d2.bR.length (rows cN (d2.bR.map Prod.fst))::aF (fz f)::aF (sl cY g.rv.1 g.rules)::aF (aI cK g.rules)::aF (sl eF g.xv.1 g.aN)::aF (aI eB g.aN)::aF (sl ay w1.1 (cn (g.types.map cS)))::aF (sl ay w2.1 (cr (g.types.map cS)))::aF (tz)::aF (sl dY wv words)::aF (aG g.start)::aX b2 (.cells (lh g).toArray 32 (0,0))::aX b4 (.cells [(.slice none 0 0),iv 0,(.slice none 0 0)].toArray 120 (0,0))::aX b5 (.cells [iv 0,iv 0].toArray 35 (0,0))::aX b8 (.cells [w1.1,w2.1].toArray 100 (0,0))::(ax (dx 200 3) d2.its++ax (ez 3) d2.bR))) (λ⟨fr,d2⟩=>fr+i≤words.length∧d2.nB=sv∧kb d2∧nL (g.types.map cS).length (g.bb.map fi).length words.length (i+1) fr d2.cs∧fI (jg f (g.types.map cS) words.length g) words d2.cs∧(AO (jg f (g.types.map cS) words.length g) words (i+1) (words.length-i-fr) fr d2.cs).bind (λcs=>yp (jg f (g.types.map cS) words.length g) words (words.length-i-1) (i+1+1) cs)=W) (λ⟨fr,d2⟩=>words.length-fr) ⟨0,d1⟩ (aC.cons 1 rfl (aC.cons 2 rfl (aC.cons 4 rfl (aC.cons 5 rfl (aC.cons 8 rfl (aC.cons 9 rfl (aC.cons 10 rfl aC.nil))))))) ⟨by omega,mK,vG,Sf,hn1,ig⟩ ?_;rintro ⟨fr,d2⟩ ⟨hfr,qN,rP,zA,SE,hlen⟩
     dsimp only at hfr qN rP zA SE hlen⊢
     refine g6 ?_;refine St.slot 55 (iv ((fr+(i+1):Nat):Int)) rfl (congrArg iv (by push_cast;omega)) ?_;refine g5 ?_;refine St.cq (λh58=> ?_) (λh58=> ?_)
     ·have Ck:fr+(i+1)≤words.length:=by omega
      rw[GZ (by omega)]at hlen;refine g12 ?_;refine St.slot 66 (iv ((fr+(i+1):Nat):Int)) rfl (congrArg iv (by push_cast;omega)) ?_;refine St.pN (ds:=[fz f,sl cY g.rv.1 g.rules,aI cK g.rules,sl eF g.xv.1 g.aN,aI eB g.aN,sl ay w1.1 (cn (g.types.map cS)),sl ay w2.1 (cr (g.types.map cS)),tz,sl dY wv words,aI (λx:cX=>aG x.gr) d2.its]) (L:=[aX LA (.cells (mS g w1 w2 f words.length d2.dQ.1 sv.1 Al).toArray 180 (0,0)),aX Al (dh mkStr d2.m),row d2.dQ.1 186 6 d2.its.length (rows dX d2.its),row sv.1 58 1 d2.bR.length (rows cN (d2.bR.map Prod.fst))]) (X:=(ax (dx 200 3) d2.its++ax (ez 3) d2.bR)) (post:=λv L' X'=>∃d3:nA,d3.cs=p6 (jg f (g.types.map cS) words.length g) words fr (fr+(i+1)) d2.cs∧d3.nB=sv∧kb d3∧L'=[aF (aI (λx:cX=>aG x.gr) d3.its),aX LA (.cells (mS g w1 w2 f words.length d3.dQ.1 sv.1 Al).toArray 180 (0,0)),aX Al (dh mkStr d3.m),row d3.dQ.1 186 6 d3.its.length (rows dX d3.its),row sv.1 58 1 d3.bR.length (rows cN (d3.bR.map Prod.fst))]∧X'=(ax (dx 200 3) d3.its++ax (ez 3) d3.bR)) ((Mf g w1 w2 (g.types.map cS) hT (g.bb.map fi).length (by omega) f hFn words.length aaW LA Al sv wv words rfl akT hQ Gs fr (fr+(i+1)) (i+1) (by omega) rfl Ck d2 qN rP zA).mono (λv H' ⟨d3,a1,a2,a3,a4⟩=>⟨_,_,a4,d3,a1,a2,a3,rfl,rfl⟩)) aiA (.om rfl rfl rfl rfl) rfl ?_;rintro v67 _ _ ⟨d3,a1,a2,a3,rfl,rfl⟩;refine St.Cd ?_;refine g12 ?_;refine St.cq (λh73=> ?_) (λh73=> ?_)
      ·rw[aB (by rw[←a1,gW];omega)]at hlen
       have hWn:W=none:=hlen.symm
       rw[hWn]at zf;refine g2 ?_;refine St.ee (Ev.build (bF.nil) (λw=>Cy w)) ?_;refine St.ee (Ev.build (bF.bH rfl rfl) (λw=>fB rfl rfl w)) ?_;refine g14 ?_;refine St.fq dX ?_;refine St.e8 cW ?_;refine St.fq aL ?_;refine St.rV [_,_] [aF (sl dX (.slice none 0 0) []),aF (aI cW []),aF (sl aL (.slice none 0 0) [])] ?_;exact⟨bK,bK,0,[],by rw[zf];rfl,by rw[zf];rfl,by rw[zf];rfl⟩
      ·have hle:¬300<(p6 (jg f (g.types.map cS) words.length g) words fr (fr+(i+1)) d2.cs).its.length:=by rw[←a1,gW];omega
       rw[aA hle,←a1]at hlen
       have Vv:=Fh hQ (words:=words) (show 1≤i+1 by omega) Ck zA hle
       have hn3:=L9 hQ (by omega) (by omega) (show 1≤i+1 by omega) Ck zA SE
       rw[←a1]at Vv hn3;refine g9 ?_;refine St.aH ⟨fr+1,d3⟩ ⟨by omega,a2,a3,Vv,hn3,by dsimp only;rw[show words.length-i-(fr+1)=words.length-i-fr-1 by omega];exact hlen⟩
     ·rw[show words.length-i-fr=0 by omega]at hlen
      have K8:yp (jg f (g.types.map cS) words.length g) words (words.length-i-1) (i+1+1) d2.cs=W:=hlen
      refine g12 ?_;refine St.aH ⟨i+1,d2⟩ ⟨by omega,qN,rP,KV zA,SE,by dsimp only;rw[show words.length-(i+1)=words.length-i-1 by omega];exact K8⟩
    ·obtain rfl:i=words.length:=by omega
     rw[fJ]at ig
     have hWs:W=some d1.cs:=ig.symm
     rw[hWs]at zf;refine g13 ?_;refine St.ee (Ev.build (bF.bH rfl rfl) (λw=>Hi d1.dQ.2 rfl w)) ?_;refine St.slot 82 (.agg #[d1.dQ.1,iv (words.length:Nat),(.slice none 0 0)]) rfl rfl ?_;refine St.al (λIA=> ?_);refine g5 ?_
     have agZ:=Sf.KR
     rw[gW]at agZ;refine St.agX (ax (dx 200 3) (d1.its)) (ax (ez 3) d1.bR) ?_;refine St.pN (ds:=[aI (λx:cX=>aG x.gr) d1.its]) (L:=[aX IA (.cells [d1.dQ.1,iv (words.length:Nat),(.slice none 0 0)].toArray 120 (0,0)),row d1.dQ.1 186 6 d1.its.length (rows dX d1.its)]) (X:=ax (dx 200 3) (d1.its)) (post:=λv L' X'=>∃(u2:aY) (j4:List cX),j4.map bV=fU (d1.its.map bV)∧L'=[aX IA (.cells [u2.1,iv (words.length:Nat),(.slice none 0 0)].toArray 120 (0,0)),aF (sl dX u2.1 j4),aF (aI cW j4)]∧X'=[]) ((Mj IA words.length d1.dQ d1.its vG.nd (by omega) (Vt hQ Sf hn1)).mono (λv H' ⟨u2,j4,a1,a2⟩=>⟨[_,_,_],[],a2,u2,j4,a1,rfl,rfl⟩)) aiB (.bB rfl) rfl ?_;rintro v83 _ _ ⟨u2,j4,zA,rfl,rfl⟩;refine St.wG ?_;refine St.wf u2.1 (λ_ Y0=> ?_);refine g12 ?_;refine St.dc 3 1 ?_;refine St.aO (.slice none 0 0) (show _=([]:List Nat).length from rfl) (show _=rows aL (bC [])from rfl) ?_
     have hl3:j4.length≤300:=by have h:=congrArg List.length zA;rw[aQ]at h;unfold fU at h;rw[aQ]at h;have h2:(kM (d1.its.map bV)).length=_:=(jE _ _).length_eq;rw[iJ,aQ]at h2;omega
     refine St.lH (ι:=Nat×aY×List Nat) (λ⟨k,zo,FL⟩ T=>(87,iv k)::T) (λ⟨k,zo,FL⟩=>(row zo.1 3 1 (FL).length (rows aL (bC (FL)))::aX IA (.cells [u2.1,iv (words.length:Nat),zo.1].toArray 120 (0,0))::aF (sl dX u2.1 j4)::aF (aI cW j4)::aF (fz f)::aF (sl cY g.rv.1 g.rules)::aF (aI cK g.rules)::aF (sl eF g.xv.1 g.aN)::aF (aI eB g.aN)::aF (sl ay w1.1 (cn (g.types.map cS)))::aF (sl ay w2.1 (cr (g.types.map cS)))::aF (tz)::aF (sl dY wv words)::aF (aG g.start)::aX b2 (.cells (lh g).toArray 32 (0,0))::aX b4 (.cells [(.slice none 0 0),iv 0,(.slice none 0 0)].toArray 120 (0,0))::aX b5 (.cells [iv 0,iv 0].toArray 35 (0,0))::aX b8 (.cells [w1.1,w2.1].toArray 100 (0,0))::[])) (λ⟨k,zo,FL⟩=>k≤j4.length∧FL=((List.range (k)).filter λi=>decide ((((j4.map bV)).getD i fQ).ed.frm=0)&&decide ((((j4.map bV)).getD i fQ).ed.tqo=words.length)&&(cm (fg (g.types.map cS)) (((j4.map bV)).getD i fQ).ed.gr 0 (ar g.start)).isSome)) (λ⟨k,zo,FL⟩=>j4.length-k) ⟨0,bK,[]⟩ (aC.cons 2 rfl (aC.cons 4 rfl (aC.cons 5 rfl (aC.cons 8 rfl (aC.cons 12 rfl (aC.cons 85 rfl (aC.cons 86 rfl aC.nil))))))) ⟨aR _,rfl⟩ ?_;rintro ⟨k,zo,FL⟩ ⟨hk,hFL⟩
     dsimp only at hk hFL⊢
     have anD:FL.length≤k:=by rw[hFL];exact eH (List.length_filter_le _ _) (Nat.le_of_eq iJ)
     refine g6 ?_;refine St.cq (λh88=> ?_) (λh88=> ?_)
     ·obtain⟨x,hx⟩:=aE (show k<j4.length by omega)
      have aaX:(j4.map bV).getD k fQ=bV x:=by rw[ak,bE,hx];rfl
      obtain⟨_,_,_,uC,kI⟩:=aaV Sf.ok (it:=bV x) (by show _∈fU (d1.its.map bV);rw[←zA];exact dq (ab hx))
      have kI:x.gr.nodes.length≤60:=by rw[←cP];exact kI
      have X4:=fG (g:=x.gr) uC (by omega)
      have hss:=fG Vu.1 (by omega)
      refine St.cL cW j4 (x:=x) (ab hx) ?_;refine St.eT (aG x.gr) [cW x] (λρ h=>h (cW x) (aU ..) (aG x.gr) (aU ..)) ?_;refine g8 ?_;refine St.ee (Ev.Hk (Rr:=dX) (sz:=6) (.mk rfl) hx Tryz.underlying186 trivial o4 (by decide) (by decide)) ?_;refine St.slot 91 (.agg #[iv (x.frm:Nat),iv (x.tqo:Nat),iv (x.cQ:Nat),x.gr.nv.1,x.wv.1,x.tv.1]) rfl rfl ?_;refine St.al (λGl=> ?_);refine g11 ?_;refine St.gt _ rfl rfl (λhg=>Ev.dB (.mk rfl) tA) rfl ?_;refine St.gt _ rfl rfl (λhg=>Ev.Xg (aZ.gv rfl hg) Cw) rfl ?_;refine St.gt _ rfl rfl (λhg=>Ev.kU (aZ.gv rfl hg) eN trivial (by rfl)) rfl ?_;refine St.gt _ rfl rfl (λhg=>Ev.dB (.mk rfl) Th) rfl ?_;refine St.gt _ rfl rfl (λhg=>Ev.kU (aZ.gv rfl hg) eN trivial (by rfl)) rfl ?_;refine St.gt _ rfl rfl (λhg=>Ev.eql (aZ.gv rfl hg) (aZ.gv rfl hg)) rfl ?_;refine g3 ?_;refine St.cq (λR8=> ?_) (λR8=> ?_)
      ·have e1:(bV x).ed.frm=0:=(show x.frm=0 by omega)
       have e2:(bV x).ed.tqo=words.length:=(show x.tqo=words.length by omega)
       refine g3 ?_;refine St.slot 105 (jS w1 w2) rfl rfl ?_;refine g2 ?_;refine St.ee (Ev.gh 1 (.mk rfl) mO trivial jb rfl rfl) ?_;refine St.slot 108 (au x.gr) rfl rfl ?_;refine go ?_;refine St.ee (Ev.gh 1 (.mk rfl) mO trivial jb rfl rfl) ?_;refine St.slot 110 (au g.start) rfl rfl ?_;refine St.fE (qg w1 w2 (g.types.map cS) hT (g.bb.map fi).length (by omega) x.gr g.start uC Vu.1 kI Vu.2 (λt ht=>by have:=(X4 t ht).2;omega) (λt ht=>by have:=(hss t ht).2;omega) 0 (by have:=uC.pos;rw[show(bV x).ed.gr=ar x.gr from rfl,cP]at this;exact this)) Td (.om rfl rfl rfl rfl) rfl ?_;rintro VE _ ⟨u,rfl,rfl⟩;refine St.fk ?_;refine St.cF ((cm (fg (g.types.map cS)) (ar x.gr) 0 (ar g.start)).getD []) u (λz hz=> ?_);obtain⟨rfl,hzE⟩:=hz;refine g3 ?_;refine St.al (λIL=> ?_);refine g9 ?_;refine St.cond _ rfl (λaaY=> ?_) (λaaY=> ?_)
       ·skip
        have pb:(cm (fg (g.types.map cS)) (bV x).ed.gr 0 (ar g.start)).isSome=true:=aaY
        refine g4 ?_;refine St.gb rfl (.bB rfl) cI eJ jA rfl rfl (by simp[Value.cells]) rfl rfl (λanE=> ?_);refine St.aj (.mk rfl) (.mk rfl) cI eJ jA wO (by simp[Value.oneCell',Value.cells]) (by omega) (by omega) rfl rfl rfl rfl (λaaZ alI=> ?_);refine St.aO aaZ (show _=(FL++ [k]).length by rw[bA];rfl) (show _=rows aL (bC (FL++ [k])) by rw[jD,aw];rfl) ?_;refine St.bS aaZ (λLx _=> ?_);refine go ?_;refine St.cO (.mk rfl) (.mk rfl) kY Lx (by rfl) ?_;refine g8 ?_;refine St.aH ⟨k+1,⟨aaZ,Lx⟩,FL++ [k]⟩ ⟨by omega,by rw[zn,←hFL,aaX,dH e1,dH e2,pb,aB (by decide)]⟩
       ·skip
        have pb:(cm (fg (g.types.map cS)) (bV x).ed.gr 0 (ar g.start)).isSome=false:=aaY
        refine g8 ?_;refine St.aH ⟨k+1,zo,FL⟩ ⟨by omega,by rw[zn,←hFL,aaX,pb,Bool.and_false,aA (by decide)];exact(fj _).symm⟩
      ·have Sa:(decide ((bV x).ed.frm=0)&&decide ((bV x).ed.tqo=words.length))=false:=by by_cases e1:x.frm=0;rw[eL (show ¬(bV x).ed.tqo=words.length from(show ¬x.tqo=words.length by omega)),Bool.and_false];rw[eL (show ¬(bV x).ed.frm=0 from e1),Bool.false_and]
       refine g8 ?_;refine St.aH ⟨k+1,zo,FL⟩ ⟨by omega,by rw[zn,←hFL,aaX,Sa,Bool.false_and,aA (by decide)];exact(fj _).symm⟩
     ·obtain rfl:k=j4.length:=by omega
      obtain⟨⟨fvv,hfv⟩,wU⟩:∃z,z=zo:=⟨zo,rfl⟩
      subst wU;refine St.bZ fvv aL (bC FL) rfl (cR _).symm (λz hz=>by obtain⟨q,hq,rfl⟩:=ct.1 hz;rw[hFL]at hq;have:=cy.1 (List.mem_filter.1 hq).1;show bP (q:Int);unfold bP;omega) ?_
      have aa0:(dI (gG g) words)=((j4.map bV,FL),(0,0)):=by rw[zf];show((fU d1.cs.its,IP (fg (g.types.map cS)) words.length (ar g.start) (fU d1.cs.its)),((0:Int),(0:Int)))=_;rw[show fU d1.cs.its=j4.map bV from zA.symm,hFL];unfold IP;rw[aQ]
      refine g8 ?_;refine St.ee (Ev.build (bF.nil) (λw=>fL w)) ?_;refine St.sA (.mk rfl) (.mk rfl) Oq ?_ (h1:=(by simp only[List.all_cons,List.all_nil,Bool.and_true,Bool.and_eq_true];exact⟨u2.2,rfl,hfv⟩));refine g4 ?_;refine St.rV [_,_] [aF (sl dX u2.1 j4),aF (aI cW j4),aF (sl aL fvv (bC FL))] ?_;exact⟨u2,⟨fvv,hfv⟩,words.length,j4,by rw[aa0];rfl,by rw[aa0],by rw[aa0]⟩
def u9:ir:=⟨bK,[],bK,[],false⟩
theorem hY {α β:Type}{f:α→β}{l:List α}{k:Nat}{a:α}(h:l[k]?=some a):(l.take (k+1)).map f=(l.take k).map f++ [f a]:=Bt h
theorem S0 {g:ob}{words:List bI}(h:(dI g words).2.1=0):(lC g).1=0:=by
 by_cases h1:(lC g).1=0
 ·exact h1
 ·unfold dI at h;rw[aB h1]at h;exact absurd h h1
theorem Gb {g:ob}{words:List bI}(h:(dI g words).2.1=0):(dI g words).2=(0,0):=by
 unfold dI at h⊢
 by_cases h1:(lC g).1≠0
 ·rw[aB h1]at h;exact absurd h h1
 ·rw[aA h1]at h⊢
  by_cases h2:(qt g words).1≠0
  ·rw[aB h2]at h;exact absurd h h2
  ·rw[aA h2]at h⊢
   cases hc:AQ g words with
   |none=>rw[hc]at h;have h:(17:Int)=0:=h;omega
   |some its=>rfl
theorem Gc {Q:Qr}{words:List bI}{len:Nat}:∀(m frm:Nat) (cs oQ:Cs),cs.its.length≤300→AO Q words len m frm cs=some oQ→oQ.its.length≤300
 |0,frm,cs,oQ,h,e=>by obtain rfl:=Option.some.inj e;exact h
 |m+1,frm,cs,oQ,h,e=>by
  rw[GZ (by omega)]at e
  split at e
  ·cases e
  ·rename_i h2;exact Gc m _ _ oQ (by omega) e
theorem Gd {Q:Qr}{words:List bI}:∀(m len:Nat) (cs oQ:Cs),cs.its.length≤300→yp Q words m len cs=some oQ→oQ.its.length≤300
 |0,len,cs,oQ,h,e=>by obtain rfl:=Option.some.inj e;exact h
 |m+1,len,cs,oQ,h,e=>by
  rw[Ga (by omega)]at e;obtain⟨sB,h1,h2⟩:=oT.1 e;exact Gd m _ _ oQ (Gc _ _ _ _ h h1) h2
theorem S1 (its:List kZ):(fU its).length=its.length:=by
 unfold fU;rw[aQ]
 have h:(kM its).length=_:=(jE _ _).length_eq
 rw[h,iJ]
theorem LB (g:ob)(words:List bI):(dI g words).1.1.length≤300:=by
 unfold dI
 split
 ·exact aR _
 ·split
  ·exact aR _
  ·cases hc:AQ g words with
   |none=>exact aR _
   |some its=>
    unfold AQ at hc;obtain⟨cs,h1,rfl⟩:=dG.1 hc
    show(fU cs.its).length≤300
    rw[S1];exact Gd _ _ _ _ (aR _) h1
theorem Vw {g:ob}{words:List bI}{its:List cX}(h:its.map bV=(dI g words).1.1):its.length≤300:=by
 have h2:=LB g words
 rw[←h,aQ]at h2;exact h2
theorem Mm.LC {c:Ctx}(tR tC:TypeId){w:World}:∀(m:Nat) (H:List ao),Mm c H w→Mm c (ax (jY tR tC) (List.replicate m u9)++H) w
 |0,_,h=>h
 |m+1,H,h=>by
  obtain⟨ρ,hm⟩:=(Mm.LC tR tC m H h).out
  have h1:Mm c (row bK.1 tC 7 0 []::(ax (jY tR tC) (List.replicate m u9)++H)) w:=Mm.mk (hm.A4 rfl ⟨rfl,aW _⟩ rfl (aW _) (λ_ _=>rfl) (dZ.2 (World.ownsRow_nil _ _ _ _)) (λb hb=>by rw[dV]at hb;simp[Value.ownBlock]at hb))
  obtain⟨ρ2,pa⟩:=h1.out
  have h2:Mm c (row bK.1 tR 5 0 []::row bK.1 tC 7 0 []::(ax (jY tR tC) (List.replicate m u9)++H)) w:=Mm.mk (pa.A4 rfl ⟨rfl,aW _⟩ rfl (aW _) (λ_ _=>rfl) (dZ.2 (World.ownsRow_nil _ _ _ _)) (λb hb=>by rw[dV]at hb;simp[Value.ownBlock]at hb))
  have h3:=(h2.fact (aI oE []) (λρ _ x hx=>by cases hx)).fact (aI gB []) (λρ _ x hx=>by cases hx)
  obtain⟨ρ3,k3⟩:=h3.out
  exact Mm.mk (k3.perm (jJ (l₁:=[aF (aI gB []),aF (aI oE [])]) (l₂:=[row bK.1 tR 5 0 [],row bK.1 tC 7 0 []])|>.append_right _|>.trans (by
   show([row bK.1 tR 5 0 [],row bK.1 tC 7 0 [],aF (aI gB []),aF (aI oE [])]++_).Perm ([row bK.1 tR 5 0 [],row bK.1 tC 7 0 [],aF (aI oE []),aF (aI gB [])]++_)
   exact List.Perm.append_right _ (((List.Perm.swap _ _ _).cons _).cons _))))
theorem St.LC {n:Nat}{F:Fr}{c:Ctx}{H H':List ao}{T:Act→World→Prop}(tR tC:TypeId)(m:Nat)[t:iU [] (ax (jY tR tC) (List.replicate m u9)) H H'](h:St n F (Mm c H') T):St n F (Mm c H) T:=by
 obtain⟨L,a,b⟩:=t.eq
 refine h.pQ λw hw=> ?_
 rw[a,fj]at hw;obtain⟨ρ,k⟩:=(Mm.LC tR tC m L hw).out;rw[b];exact Mm.mk (k.perm jJ)
theorem JJ (a b:aY)(m:Int):dA Tryz.prog 51 #[.agg #[a.1,iv m,b.1]] [] (.tuple #[a.1,b.1]):=by
 refine dA.jz (args:=[.agg #[a.1,iv m,b.1]]) 8 Tryz.func51 rfl Tryz.ntmps51 rfl (λc=> ?_);refine g2 ?_;refine St.cz (.mk rfl) rfl (λb1=> ?_);refine g5 ?_;refine St.sZ [] mixed (λnp ns=> ?_);refine SW.gd 0 ?_;refine SW.gd 1 ?_;refine SW.gd 2 ?_;refine SW.gd 3 ?_;refine SW.gd 4 ?_;refine SW.gd 5 ?_;refine SW.dn ?_;refine g2 ?_;refine St.rV [_,_] [] ?_;rfl
theorem JK (g:ja)(wv:Value)(words:List bI):xT Tryz.prog 25 #[kC g,wv] ([kW g,sl dY wv words,tz,u8].map aF) (λv H'=>((dI (gG g) words).2.1≠0∧v= .tuple #[.pointer none,(.slice none 0 0),fv (dI (gG g) words).2]∧H'=[])∨((dI (gG g) words).2.1=0∧∃(bl bn:Nat) (rv xv u2 u3:aY) (its:List cX),its.map bV=(dI (gG g) words).1.1∧v= .tuple #[.pointer (some ⟨bl,0,none⟩),u3.1,fv (0,0)]∧H'=aF (sl aL u3.1 (bC (dI (gG g) words).1.2))::aF (fO bl [rv.1,xv.1,u2.1,.slice (some ⟨bn,0,none⟩) its.length its.length])::aF (sl aL rv.1 (g.rules.map dC.weight))::aF (sl aL xv.1 (g.aN.map fN.weight))::aF (sl dX u2.1 its)::aF (aI cW its)::row (.slice (some ⟨bn,0,none⟩) its.length its.length) 194 3 (List.replicate its.length u9).length (rows eG (List.replicate its.length u9))::ax (jY 71 196) (List.replicate its.length u9))):=by
 refine xT.body (args:=[kC g,wv]) 78 Tryz.func25 rfl Tryz.ntmps25 rfl (λc lf=> ?_);refine St.cast (H':=[aF (kW g),aF (sl dY wv words),aF (tz),aF (u8)]) rfl ?_;refine g2 ?_;refine St.cz (.mk rfl) rfl (λb2=> ?_);refine g2 ?_;refine St.al (λb6=> ?_);refine g5 ?_;refine St.slot 17 (kC g) rfl rfl ?_;refine go ?_;refine St.pe lf (Rz g wv words) aiL (.bH rfl rfl) rfl ?_;rintro v19 _ ⟨u2,u3,m,its,rfl,r4,rfl⟩;refine St.wG ?_;refine g2 ?_;refine St.slot 20 (.agg #[u2.1,iv (m:Nat),u3.1]) rfl rfl ?_;refine go ?_;refine St.slot 21 (fv (dI (gG g) words).2) rfl rfl ?_;refine St.al (λb7=> ?_);refine St.al (λb8=> ?_);refine g12 ?_;refine St.cq (λN1=> ?_) (λN1=> ?_)
 ·have hf:(dI (gG g) words).2.1≠0:=N1
  refine go ?_;refine St.sZ [b6] mixed (λnp ns=> ?_);refine SW.gd 0 ?_;refine SW.gd 1 ?_;refine SW.gd 2 ?_;refine SW.t1 3 ?_;refine g3 ?_;refine SW.go ?_;refine SW.dn ?_;refine g3 ?_;refine St.rV [_,_,_] [] ?_;exact .inl ⟨hf,rfl,rfl⟩
 ·have hf:(dI (gG g) words).2.1=0:=by omega
  have rY:=JI (S0 hf)
  have Bw:g.rules.length≤40:=by have h:(g.rules.map mi).length≤40:=rY.rn;rwa[aQ]at h
  have hxn:g.aN.length≤100:=by have h:(g.aN.map rJ).length≤100:=rY.xn;rwa[aQ]at h
  have qQ:its.length≤300:=Vw r4
  have hf2:(dI (gG g) words).2=(0,0):=Gb hf
  refine St.eT (sl cY g.rv.1 g.rules) [kW g] (λρ h=>h (kW g) (aU ..) _ (by simp[Lg])) ?_;refine St.eT (sl eF g.xv.1 g.aN) [kW g] (λρ h=>h (kW g) (aU ..) _ (by simp[Lg])) ?_;refine g5 ?_;refine St.slot 27 (.agg #[u2.1,iv (m:Nat),u3.1]) rfl rfl ?_;refine St.ee (Ev.call (JJ u2 u3 m) aiM (.bB rfl)) ?_;refine g2 ?_;refine St.slot 29 u2.1 rfl rfl ?_;refine go ?_;refine St.slot 30 u3.1 rfl rfl ?_;refine g9 ?_;refine St.ot (Rr:=eG) (g:=u9) (m:=its.length) (sz:=3) rfl (.mk rfl) (.mk rfl) Tryz.underlying125 P8 aeH aeI rfl rfl (by omega) rfl rfl (λMS=> ?_);refine St.aO (.slice (some ⟨MS,0,none⟩) its.length its.length) (show _=(List.replicate its.length u9).length by rw[jI]) rfl ?_;refine St.ee (Ev.build (bF.bH rfl rfl) (λw=>Ho u2.2 rfl w)) ?_;refine St.slot 35 (.agg #[(.slice none 0 0),(.slice none 0 0),u2.1,(.slice (some ⟨MS,0,none⟩) its.length its.length)]) rfl rfl ?_;refine St.cz (.mk rfl) rfl (λSg=> ?_);refine g13 ?_;refine St.dc 3 1 ?_;refine St.aO (.slice none 0 0) (show _=((g.rules.take 0).map dC.weight).length from rfl) (show _=rows aL ((g.rules.take 0).map dC.weight)from rfl) ?_;refine St.lH (ι:=Nat×aY) (λ⟨k,rv⟩ T=>(40,iv k)::T) (λ⟨k,rv⟩=>[row rv.1 3 1 ((g.rules.take k).map dC.weight).length (rows aL ((g.rules.take k).map dC.weight)),aX Sg (.cells [rv.1,(.slice none 0 0),u2.1,(.slice (some ⟨MS,0,none⟩) its.length its.length)].toArray 127 (0,0)),row (.slice (some ⟨MS,0,none⟩) its.length its.length) 194 3 (List.replicate its.length u9).length (rows eG (List.replicate its.length u9)),aF (sl dX u2.1 its),aF (aI cW its),aF (sl aL u3.1 (bC (dI (gG g) words).1.2)),aF (sl cY g.rv.1 g.rules),aF (sl eF g.xv.1 g.aN),aX b2 (.cells (lh g).toArray 32 (0,0)),aX b6 (.cells [iv 0,iv 0].toArray 35 (0,0))]) (λ⟨k,rv⟩=>k≤g.rules.length) (λ⟨k,rv⟩=>g.rules.length-k) ⟨0,bK⟩ (aC.cons 2 rfl (aC.cons 4 rfl (aC.cons 5 rfl (aC.cons 6 rfl (aC.cons 10 rfl (aC.cons 11 rfl (aC.cons 38 rfl (aC.cons 39 rfl aC.nil)))))))) (aR _) ?_;rintro ⟨k,rv⟩ hk
  dsimp only at hk⊢
  have nU:((g.rules.take k).map dC.weight).length=k:=by rw[aQ,e9];omega
  refine g6 ?_;refine St.cq (λFE=> ?_) (λFE=> ?_)
  ·obtain⟨x,hx⟩:=aE (show k<g.rules.length by omega)
   refine g7 ?_;refine St.ee (Ev.jj (.mk rfl) hx sg trivial l7 iY.eq) ?_;refine St.al (λQA=> ?_);refine St.sA (.mk rfl) (.mk rfl) l7 ?_ (h1:=(eO.2 λu hu=>cY.one x u hu));refine g2 ?_;refine St.cx [aX Sg (.cells [rv.1,(.slice none 0 0),u2.1,(.slice (some ⟨MS,0,none⟩) its.length its.length)].toArray 127 (0,0)),row rv.1 3 1 ((g.rules.take k).map dC.weight).length (rows aL ((g.rules.take k).map dC.weight))] mixed (λnp ns=> ?_);refine SW.gd 0 ?_;refine SW.gd 1 ?_;refine SW.gd 2 ?_;refine SW.gd 3 ?_;refine SW.gd 5 ?_;refine SW.gd 6 ?_;refine SW.t2 4 7 ?_ ?_
   focus
    refine g3 ?_;refine SW.go ?_;refine SW.t1 7 ?_;refine St.gb rfl (.bB rfl) cI eJ jA rfl rfl (by simp[Value.cells]) rfl rfl (λRX=> ?_);refine g2 ?_;refine SW.go ?_;refine SW.t1 8 ?_;refine St.aj (.mk rfl) (.mk rfl) cI eJ jA wO (by simp[Value.oneCell',Value.cells]) (by omega) (by omega) rfl rfl rfl rfl (λv52 akV=> ?_);refine St.aO v52 (show _=((g.rules.take (k+1)).map dC.weight).length by rw[hY hx,bA];rfl) (show _=rows aL ((g.rules.take (k+1)).map dC.weight) by rw[hY hx,aw];rfl) ?_;refine St.bS v52 (λSH _=> ?_);refine g2 ?_;refine SW.go ?_;refine SW.gd 9 ?_;refine SW.gd 10 ?_;refine SW.t1 11 ?_;refine St.cO (.mk rfl) (.mk rfl) kY SH (by rfl) ?_;refine g2 ?_;refine SW.go ?_;refine SW.dn ?_
   rotate_left
   focus
    refine St.gb rfl (.bB rfl) cI eJ jA rfl rfl (by simp[Value.cells]) rfl rfl (λRX=> ?_);refine g2 ?_;refine SW.go ?_;refine SW.t1 4 ?_;refine g3 ?_;refine SW.go ?_;refine SW.t1 8 ?_;refine St.aj (.mk rfl) (.mk rfl) cI eJ jA wO (by simp[Value.oneCell',Value.cells]) (by omega) (by omega) rfl rfl rfl rfl (λv52 akV=> ?_);refine St.aO v52 (show _=((g.rules.take (k+1)).map dC.weight).length by rw[hY hx,bA];rfl) (show _=rows aL ((g.rules.take (k+1)).map dC.weight) by rw[hY hx,aw];rfl) ?_;refine St.bS v52 (λSH _=> ?_);refine g2 ?_;refine SW.go ?_;refine SW.gd 9 ?_;refine SW.gd 10 ?_;refine SW.t1 11 ?_;refine St.cO (.mk rfl) (.mk rfl) kY SH (by rfl) ?_;refine g2 ?_;refine SW.go ?_;refine SW.dn ?_
   all_goals
    refine g7 ?_;refine St.aH ⟨k+1,⟨v52,SH⟩⟩ (by dsimp only;omega)
  ·obtain rfl:k=g.rules.length:=by omega
   rw[jy];refine St.bZ rv.1 aL (g.rules.map dC.weight) rfl rfl (λz hz=>by obtain⟨r,hr,rfl⟩:=ct.1 hz;have h:=(rY.rule (mi r) (dq hr)).wt;have h:0≤r.weight∧r.weight≤1000000:=h;show bP _;unfold bP;omega) ?_;refine g15 ?_;refine St.dc 3 1 ?_;refine St.aO (.slice none 0 0) (show _=((g.aN.take 0).map fN.weight).length from rfl) (show _=rows aL ((g.aN.take 0).map fN.weight)from rfl) ?_;refine St.lH (ι:=Nat×aY) (λ⟨k,xv⟩ T=>(59,iv k)::T) (λ⟨k,xv⟩=>[row xv.1 3 1 ((g.aN.take k).map fN.weight).length (rows aL ((g.aN.take k).map fN.weight)),aF (sl aL rv.1 (g.rules.map dC.weight)),aX Sg (.cells [rv.1,xv.1,u2.1,(.slice (some ⟨MS,0,none⟩) its.length its.length)].toArray 127 (0,0)),row (.slice (some ⟨MS,0,none⟩) its.length its.length) 194 3 (List.replicate its.length u9).length (rows eG (List.replicate its.length u9)),aF (sl dX u2.1 its),aF (aI cW its),aF (sl aL u3.1 (bC (dI (gG g) words).1.2)),aF (sl cY g.rv.1 g.rules),aF (sl eF g.xv.1 g.aN),aX b2 (.cells (lh g).toArray 32 (0,0)),aX b6 (.cells [iv 0,iv 0].toArray 35 (0,0))]) (λ⟨k,xv⟩=>k≤g.aN.length) (λ⟨k,xv⟩=>g.aN.length-k) ⟨0,bK⟩ (aC.cons 4 rfl (aC.cons 5 rfl (aC.cons 6 rfl (aC.cons 10 rfl (aC.cons 11 rfl (aC.cons 57 rfl (aC.cons 58 rfl aC.nil))))))) (aR _) ?_;rintro ⟨k,xv⟩ hk
   dsimp only at hk⊢
   have nU:((g.aN.take k).map fN.weight).length=k:=by rw[aQ,e9];omega
   refine g6 ?_;refine St.cq (λSI=> ?_) (λSI=> ?_)
   ·obtain⟨x,hx⟩:=aE (show k<g.aN.length by omega)
    refine g7 ?_;refine St.ee (Ev.jj (.mk rfl) hx yE trivial pq iY.eq) ?_;refine St.al (λIL=> ?_);refine St.sA (.mk rfl) (.mk rfl) pq ?_ (h1:=(eO.2 λu hu=>eF.one x u hu));refine g2 ?_;refine St.cx [aX Sg (.cells [rv.1,xv.1,u2.1,(.slice (some ⟨MS,0,none⟩) its.length its.length)].toArray 127 (0,0)),row xv.1 3 1 ((g.aN.take k).map fN.weight).length (rows aL ((g.aN.take k).map fN.weight))] mixed (λnp ns=> ?_);refine SW.gd 0 ?_;refine SW.gd 1 ?_;refine SW.gd 2 ?_;refine SW.gd 3 ?_;refine SW.gd 5 ?_;refine SW.gd 6 ?_;refine SW.t2 4 7 ?_ ?_
    focus
     refine g3 ?_;refine SW.go ?_;refine SW.t1 7 ?_;refine St.gb rfl (.bB rfl) cI eJ jA rfl rfl (by simp[Value.cells]) rfl rfl (λb70=> ?_);refine g2 ?_;refine SW.go ?_;refine SW.t1 8 ?_;refine St.aj (.mk rfl) (.mk rfl) cI eJ jA wO (by simp[Value.oneCell',Value.cells]) (by omega) (by omega) rfl rfl rfl rfl (λv71 akW=> ?_);refine St.aO v71 (show _=((g.aN.take (k+1)).map fN.weight).length by rw[hY hx,bA];rfl) (show _=rows aL ((g.aN.take (k+1)).map fN.weight) by rw[hY hx,aw];rfl) ?_;refine St.bS v71 (λSZ _=> ?_);refine g2 ?_;refine SW.go ?_;refine SW.gd 9 ?_;refine SW.gd 10 ?_;refine SW.t1 11 ?_;refine St.cO (.mk rfl) (.mk rfl) kY SZ (by rfl) ?_;refine g2 ?_;refine SW.go ?_;refine SW.dn ?_
    rotate_left
    focus
     refine St.gb rfl (.bB rfl) cI eJ jA rfl rfl (by simp[Value.cells]) rfl rfl (λb70=> ?_);refine g2 ?_;refine SW.go ?_;refine SW.t1 4 ?_;refine g3 ?_;refine SW.go ?_;refine SW.t1 8 ?_;refine St.aj (.mk rfl) (.mk rfl) cI eJ jA wO (by simp[Value.oneCell',Value.cells]) (by omega) (by omega) rfl rfl rfl rfl (λv71 akW=> ?_);refine St.aO v71 (show _=((g.aN.take (k+1)).map fN.weight).length by rw[hY hx,bA];rfl) (show _=rows aL ((g.aN.take (k+1)).map fN.weight) by rw[hY hx,aw];rfl) ?_;refine St.bS v71 (λSZ _=> ?_);refine g2 ?_;refine SW.go ?_;refine SW.gd 9 ?_;refine SW.gd 10 ?_;refine SW.t1 11 ?_;refine St.cO (.mk rfl) (.mk rfl) kY SZ (by rfl) ?_;refine g2 ?_;refine SW.go ?_;refine SW.dn ?_
    all_goals
     refine g7 ?_;refine St.aH ⟨k+1,⟨v71,SZ⟩⟩ (by dsimp only;omega)
   ·obtain rfl:k=g.aN.length:=by omega
    rw[jy];refine St.bZ xv.1 aL (g.aN.map fN.weight) rfl rfl (λz hz=>by obtain⟨r,hr,rfl⟩:=ct.1 hz;have h:=(rY.lex (rJ r) (dq hr)).wt;have h:0≤r.weight∧r.weight≤1000000:=h;show bP _;unfold bP;omega) ?_;refine St.Bp Sg ?_;refine St.LC 71 196 its.length ?_;refine g9 ?_;refine St.ee (Ev.build (bF.nil) (λw=>fL w)) ?_;refine g6 ?_;refine St.rV [_,_,_] (aF (sl aL u3.1 (bC (dI (gG g) words).1.2))::aF (fO Sg [rv.1,xv.1,u2.1,(.slice (some ⟨MS,0,none⟩) its.length its.length)])::aF (sl aL rv.1 (g.rules.map dC.weight))::aF (sl aL xv.1 (g.aN.map fN.weight))::aF (sl dX u2.1 its)::aF (aI cW its)::row (.slice (some ⟨MS,0,none⟩) its.length its.length) 194 3 (List.replicate its.length u9).length (rows eG (List.replicate its.length u9))::(ax (jY 71 196) (List.replicate its.length u9))) ?_;exact .inr ⟨hf,Sg,MS,rv,xv,u2,u3,its,r4,rfl,rfl⟩
theorem S2 {α:Type}(l:List α)(a b:α):(l++ [a]).set l.length b=l++ [b]:=by
 rw[kn _ _ (aW _),fJ];rfl
theorem Vx {B:cH}{e:Nat}{k:xK}(h:Fu B e (mJ k)):cJ.wf k.tree∧Af (dN k.tree):=by
 have h2:Us (dN k.tree):=h.rt
 rw[jW]at h2
 have h2: -1≤k.tree.rule∧k.tree.rule≤1000∧0≤k.tree.lex∧k.tree.lex≤1000:=h2
 exact⟨⟨by show bP _;unfold bP;omega,by show bP _;unfold bP;omega⟩,h.thin⟩
theorem JL (bo bm n:Nat)(k:xK)(ov:aY)(outs:List cM)(hw:cJ.wf k.tree)(hth:Af (dN k.tree))(ho:outs.length≤1000)(hn:n≤1000):dt Tryz.prog 27 ([jf k]++ [Value.pointer (some ⟨bo,0,none⟩),Value.pointer (some ⟨bm,0,none⟩)]).toArray ([oE k,oW bm (iv (n:Nat))].map aF++ [aX bo (.cells [ov.1].toArray 44 (0,0)),row ov.1 69 3 (outs).length (rows cJ (outs)),aF (aI bM outs)]) (λv H'=>∃(tY:aY) (t:cM),v= .bool (decide (outs.length+1<n))∧dN t=dN k.tree∧H'=[aX bo (.cells [tY.1].toArray 44 (0,0)),row tY.1 69 3 (outs++ [t]).length (rows cJ (outs++ [t])),aF (aI bM (outs++ [t]))]):=by
 refine dt.body (args:=[jf k]++ [Value.pointer (some ⟨bo,0,none⟩),Value.pointer (some ⟨bm,0,none⟩)]) 17 Tryz.func27 rfl Tryz.ntmps27 rfl (λc=> ?_);refine go ?_;refine St.cast (H':=[aF (oE k),aF (oW bm (iv (n:Nat))),aX bo (.cells [ov.1].toArray 44 (0,0)),row ov.1 69 3 (outs).length (rows cJ (outs)),aF (aI bM outs)]) rfl ?_;refine St.eT (bM k.tree) [oE k] (λρ h=>h (oE k) (aU ..) _ (cE _ (aU ..))) ?_;refine go ?_;refine St.cz (.mk rfl) rfl (λb3=> ?_);refine g4 ?_;refine St.cx [aX bo (.cells [ov.1].toArray 44 (0,0)),row ov.1 69 3 (outs).length (rows cJ (outs))] mixed (λnp ns=> ?_)
 repeat' first
  |with_reducible refine SW.me ?_
   first
    |refine SW.gd 1 ?_
    |refine SW.dd 2 rfl (λ_=>Ev.gh 3 (.mk rfl) HV trivial py rfl rfl) ?_
     refine SW.slot 7 (ny k.tree) rfl rfl ?_
    |refine SW.NX (i:=0) (j:=3) (k:=5) (by decide+kernel) rfl rfl rfl ?_ ?_ ?_
    |refine SW.NX (i:=3) (j:=4) (k:=5) (by decide+kernel) rfl rfl rfl ?_ ?_ ?_
    |refine SW.t2 4 5 ?_ ?_
    |refine SW.t1 5 ?_
    |refine SW.t1 6 ?_
    |refine SW.t2 7 9 ?_ ?_
    |refine SW.t2 8 9 ?_ ?_
    |refine SW.t1 9 ?_
    |refine SW.t1 8 ?_
    |refine SW.t1 7 ?_
    |refine SW.t1 4 ?_
    |refine SW.t2 3 5 ?_ ?_
    |refine SW.t1 3 ?_
    |refine SW.t2 3 4 ?_ ?_
    |refine SW.t2 0 5 ?_ ?_
    |refine SW.t1 0 ?_
    |refine SW.t2 0 3 ?_ ?_
  |with_reducible refine SW.tg 0 ?_
   refine g3 ?_;refine SW.go ?_
  |with_reducible refine SW.tg 3 ?_
   refine St.fE (Iv k.tree hw hth) ad8 (.bB rfl) rfl ?_;rintro v8 _ ⟨t,rfl,ht,rfl⟩;refine St.fk ?_;refine g2 ?_;refine SW.go ?_
  |with_reducible refine SW.tg 4 ?_
   refine g3 ?_;refine SW.go ?_
  |with_reducible refine SW.tg 5 ?_
   refine St.gb rfl (.bB rfl) Cm py Lq rfl rfl (by simp[Value.cells]) rfl rfl (λX2=> ?_);refine g2 ?_;refine SW.go ?_
  |with_reducible refine SW.tg 6 ?_
   refine St.aj (.mk rfl) (.mk rfl) Cm py Lq YV (by intro u hu;exact cJ.one (.mk 0 0 bK []:cM) u hu) (by omega) (by omega) rfl rfl rfl rfl (λv11 ajV=> ?_);refine St.aO v11 (show _=(outs++ [(.mk 0 0 bK []:cM)]).length by rw[bA];rfl) (show _=rows cJ (outs++ [(.mk 0 0 bK []:cM)]) by rw[aw];rfl) ?_;refine St.bS v11 (λKK _=> ?_);refine g2 ?_;refine SW.go ?_
  |with_reducible refine SW.tg 7 ?_
   refine St.ee (Ev.dT (k:=outs.length) (.mk rfl) (.mk rfl) Cm py (by omega) (by rw[bA];exact uH _)) ?_;refine g2 ?_;refine SW.go ?_
  |with_reducible refine SW.tg 8 ?_
   refine St.tF (Rr:=cJ) (show cJ.size=3 from rfl) t (.mk rfl) (.mk rfl) py (by rw[bA];exact uH _) (by rw[bA];exact uH _) ?_;refine St.aO v11 (show _=(outs++ [t]).length by rw[bA,bA];rfl) (show _=rows cJ (outs++ [t]) by rw[S2]) ?_;refine g2 ?_;refine SW.go ?_
  |with_reducible refine SW.tg 9 ?_
   refine St.cO (.mk rfl) (.mk rfl) YW KK (by rfl) ?_;refine g2 ?_;refine SW.go ?_
 all_goals refine SW.dn ?_
 all_goals
  refine g2 ?_;refine St.eT (aI bM (outs++ [t])) [aI bM outs,bM t] (λρ h u hu=>by rcases ba.1 hu with hu|hu;exact h (aI bM outs) (aU ..) u hu;rw[bJ]at hu;subst hu;exact h (bM u) (cE _ (aU ..))) ?_;refine g9 ?_;refine St.rV [_] [aX bo (.cells [v11].toArray 44 (0,0)),row v11 69 3 (outs++ [t]).length (rows cJ (outs++ [t])),aF (aI bM (outs++ [t]))] ?_;exact⟨⟨v11,KK⟩,t,congrArg Value.bool (by rw[bA];show decide (((outs.length+1:Nat):Int)<n)=_;exact decide_eq_decide.2 (by omega)),ht,rfl⟩
theorem qn (get:dJ→Nat→Nat→dJ×Option jH)(ranks:List Nat)(e:Nat)(l:List Nat)(i:Nat)(st:dJ)(b:Option (Nat×jH)):pB get ranks (e::l) i st b=match get st e (ranks.getD i 0)with
 |(st,none)=>pB get ranks l (i+1) st b
 |(st,some x)=>pB get ranks l (i+1) st (match b with
  |none=>some (i,x)
  |some y=>if SY x y.2<0 then some (i,x)else some y):=rfl
def Mt (bi:Int)(bk:xK):Option (Nat×jH):=if bi<0 then none else some (bi.toNat,mJ bk)
theorem CE {bi:Int}(bk:xK)(h:bi<0):Mt bi bk=none:=aB h
theorem vX {bi:Int}(bk:xK)(h:¬bi<0):Mt bi bk=some (bi.toNat,mJ bk):=aA h
theorem LD (i:Nat)(bk:xK):Mt (i:Int) bk=some (i,mJ bk):=by unfold Mt;rw[aA (by omega)];rfl
theorem aa1 {get:dJ→Nat→Nat→dJ×Option jH}{ranks full:List Nat}{i q rr:Nat}{st st2:dJ}{b:Option (Nat×jH)}(hq:full[i]?=some q)(hr:ranks[i]?=some rr)(h:get st q rr=(st2,none)):pB get ranks (full.drop i) i st b=pB get ranks (full.drop (i+1)) (i+1) st2 b:=by
 rw[an hq,qn,show ranks.getD i 0=rr by rw[ak,hr];rfl,h]
theorem Mu {get:dJ→Nat→Nat→dJ×Option jH}{ranks full:List Nat}{i q rr:Nat}{st st2:dJ}{x:jH}(hq:full[i]?=some q)(hr:ranks[i]?=some rr)(h:get st q rr=(st2,some x)):pB get ranks (full.drop i) i st none=pB get ranks (full.drop (i+1)) (i+1) st2 (some (i,x)):=by
 rw[an hq,qn,show ranks.getD i 0=rr by rw[ak,hr];rfl,h]
theorem S3 {get:dJ→Nat→Nat→dJ×Option jH}{ranks full:List Nat}{i q rr:Nat}{st st2:dJ}{x:jH}{y:Nat×jH}(hq:full[i]?=some q)(hr:ranks[i]?=some rr)(h:get st q rr=(st2,some x))(hc:SY x y.2<0):pB get ranks (full.drop i) i st (some y)=pB get ranks (full.drop (i+1)) (i+1) st2 (some (i,x)):=by
 rw[an hq,qn,show ranks.getD i 0=rr by rw[ak,hr];rfl,h]
 dsimp only
 rw[aB hc]
theorem S4 {get:dJ→Nat→Nat→dJ×Option jH}{ranks full:List Nat}{i q rr:Nat}{st st2:dJ}{x:jH}{y:Nat×jH}(hq:full[i]?=some q)(hr:ranks[i]?=some rr)(h:get st q rr=(st2,some x))(hc:¬SY x y.2<0):pB get ranks (full.drop i) i st (some y)=pB get ranks (full.drop (i+1)) (i+1) st2 (some y):=by
 rw[an hq,qn,show ranks.getD i 0=rr by rw[ak,hr];rfl,h]
 dsimp only
 rw[aA hc]
theorem Ge {get:dJ→Nat→Nat→dJ×Option jH}{full ranks:List Nat}{m:Nat}{st st2:dJ}{out:List nu}{i:Nat}{x:jH}{rb:Nat}(hm:0<m)(h:pB get ranks full 0 st none=(st2,some (i,x)))(hr:ranks[i]?=some rb):tm get full m st ranks out=tm get full (m-1) st2 (ranks.set i (rb+1)) (out++ [x.tree]):=by
 obtain⟨k,rfl⟩:∃k,m=k+1:=⟨m-1,by omega⟩
 rw[tm,h]
 dsimp only
 rw[show ranks.getD i 0=rb by rw[ak,hr];rfl];rfl
theorem Vy {get:dJ→Nat→Nat→dJ×Option jH}{full ranks:List Nat}{m:Nat}{st st2:dJ}{out:List nu}(hm:0<m)(h:pB get ranks full 0 st none=(st2,none)):tm get full m st ranks out=out:=by
 obtain⟨k,rfl⟩:∃k,m=k+1:=⟨m-1,by omega⟩
 rw[tm,h]
theorem Mv (bl bn m0 cp:Nat)(rv xv dQ:aY)(R X:List Int)(its:List cX)(hB:oG (⟨its.map bV,R,X⟩:cH))(full:List Nat)(zo:aY)(ag0:∀e∈full,e<its.length)(Ck:full.length≤1000)(bo bm n:Nat)(Sm:0<n)(hn:n≤200)(L:List ir)(ei:jG (⟨its.map bV,R,X⟩:cH) (L.map ek)):
 dt Tryz.prog 26 #[.pointer (some ⟨bl,0,none⟩),zo.1,Value.func (.func 27) #[] #[Value.pointer (some ⟨bo,0,none⟩),Value.pointer (some ⟨bm,0,none⟩)]] ([fO bl [rv.1,xv.1,dQ.1,(.slice (some ⟨bn,0,none⟩) m0 cp)],sl aL rv.1 R,sl aL xv.1 X,sl dX dQ.1 its,aI cW its,sl aL zo.1 (bC full),oW bm (iv (n:Nat))].map aF++(aX bo (.cells [(.slice none 0 0)].toArray 44 (0,0))::row (.slice none 0 0) 69 3 (([]:List cM)).length (rows cJ (([]:List cM)))::aF (aI bM [])::row (.slice (some ⟨bn,0,none⟩) m0 cp) 194 3 (L).length (rows eG (L))::ax (jY 71 196) L)) (λv H'=>∃(tY:aY) (kR:List cM),v= .tuple #[]∧kR.map dN=tm (ej (⟨its.map bV,R,X⟩:cH) 60) full n (L.map ek) (List.replicate full.length 0) []∧(∀t∈kR,cJ.wf t)∧H'=[aX bo (.cells [tY.1].toArray 44 (0,0)),row tY.1 69 3 (kR).length (rows cJ (kR)),aF (aI bM kR)]):=by
 refine dt.body (args:=[.pointer (some ⟨bl,0,none⟩),zo.1,Value.func (.func 27) #[] #[Value.pointer (some ⟨bo,0,none⟩),Value.pointer (some ⟨bm,0,none⟩)]]) 61 Tryz.func26 rfl Tryz.ntmps26 rfl (λc=> ?_);refine go ?_;refine St.cast (H':=(aF (fO bl [rv.1,xv.1,dQ.1,(.slice (some ⟨bn,0,none⟩) m0 cp)])::aF (sl aL rv.1 R)::aF (sl aL xv.1 X)::aF (sl dX dQ.1 its)::aF (aI cW its)::aF (sl aL zo.1 (bC full))::aF (oW bm (iv (n:Nat)))::aX bo (.cells [(.slice none 0 0)].toArray 44 (0,0))::row (.slice none 0 0) 69 3 (([]:List cM)).length (rows cJ (([]:List cM)))::aF (aI bM [])::row (.slice (some ⟨bn,0,none⟩) m0 cp) 194 3 (L).length (rows eG (L))::ax (jY 71 196) L)) rfl ?_
 have gl:(bC full).length=full.length:=cR _
 have Kk:=De hB 60
 refine g3 ?_;refine St.ot (Rr:=aL) (g:=0) (m:=full.length) (sz:=1) rfl (.mk rfl) (.mk rfl) cI eJ jA wO (congrArg _ gl) (congrArg _ gl) (by omega) rfl rfl (λIL=> ?_);refine St.aO (.slice (some ⟨IL,0,none⟩) full.length full.length) (show _=(List.replicate full.length 0).length by rw[jI]) (show _=rows aL (bC (List.replicate full.length 0)) by unfold bC;rw[sN];rfl) ?_;refine g4 ?_;refine St.lH (ι:=Nat×List ir×List Nat×aY×List cM) (λ⟨m,L1,ranks,ov,outs⟩ T=>T) (λ⟨m,L1,ranks,ov,outs⟩=>(row (.slice (some ⟨bn,0,none⟩) m0 cp) 194 3 (L1).length (rows eG (L1))::aF (fO bl [rv.1,xv.1,dQ.1,(.slice (some ⟨bn,0,none⟩) m0 cp)])::aF (sl aL rv.1 R)::aF (sl aL xv.1 X)::aF (sl dX dQ.1 its)::aF (aI cW its)::aF (sl aL zo.1 (bC full))::aF (oW bm (iv (n:Nat)))::row (.slice (some ⟨IL,0,none⟩) full.length full.length) 3 1 ranks.length (rows aL (bC ranks))::aX bo (.cells [ov.1].toArray 44 (0,0))::row ov.1 69 3 (outs).length (rows cJ (outs))::aF (aI bM outs)::(ax (jY 71 196) L1))) (λ⟨m,L1,ranks,ov,outs⟩=>0<m∧outs.length+m=n∧ranks.length=full.length∧(∀r∈ranks,r≤outs.length)∧jG (⟨its.map bV,R,X⟩:cH) (L1.map ek)∧tm (ej (⟨its.map bV,R,X⟩:cH) 60) full m (L1.map ek) ranks (outs.map dN)=tm (ej (⟨its.map bV,R,X⟩:cH) 60) full n (L.map ek) (List.replicate full.length 0) []∧(∀t∈outs,cJ.wf t)) (λ⟨m,L1,ranks,ov,outs⟩=>m) ⟨n,L,List.replicate full.length 0,bK,[]⟩ (aC.cons 0 rfl (aC.cons 1 rfl (aC.cons 2 rfl (aC.cons 6 rfl aC.nil)))) ⟨Sm,gP _,jI,λr hr=>by rw[vZ hr];exact aR _,ei,rfl,λt ht=>by cases ht⟩ ?_;rintro ⟨m,L1,ranks,ov,outs⟩ ⟨Gi,hom,Yv,MZ,Sf,hea,how⟩
 dsimp only at Gi hom Yv MZ Sf hea how⊢
 have hnr:(bC ranks).length=ranks.length:=cR _
 refine g8 ?_;refine St.al (λb8=> ?_);refine g11 ?_;refine St.fq aL ?_;refine St.fact (bM (.mk 0 0 bK [])) (λρ _ _=>qO _ _ _) ?_;refine St.eT (oE Kv) [sl aL (.slice none 0 0) [],bM (.mk 0 0 bK [])] (λρ h=>h) ?_;refine St.rI b8 (L':=[iv Kv.wt,Kv.cv.1,iv Kv.tree.rule,iv Kv.tree.lex,Kv.tree.kv.1]) rfl ?_;refine St.lH (ι:=Nat×List ir×Int×xK) (λ⟨i,L2,bi,bk⟩ T=>(18,iv i)::(7,iv bi)::T) (λ⟨i,L2,bi,bk⟩=>(row (.slice (some ⟨bn,0,none⟩) m0 cp) 194 3 (L2).length (rows eG (L2))::aF (fO bl [rv.1,xv.1,dQ.1,(.slice (some ⟨bn,0,none⟩) m0 cp)])::aF (sl aL rv.1 R)::aF (sl aL xv.1 X)::aF (sl dX dQ.1 its)::aF (aI cW its)::aF (sl aL zo.1 (bC full))::aF (oW bm (iv (n:Nat)))::row (.slice (some ⟨IL,0,none⟩) full.length full.length) 3 1 ranks.length (rows aL (bC ranks))::aX bo (.cells [ov.1].toArray 44 (0,0))::row ov.1 69 3 (outs).length (rows cJ (outs))::aF (aI bM outs)::aX b8 (.cells [iv bk.wt,bk.cv.1,iv bk.tree.rule,iv bk.tree.lex,bk.tree.kv.1].toArray 71 (0,0))::aF (oE bk)::(ax (jY 71 196) L2))) (λ⟨i,L2,bi,bk⟩=>i≤full.length∧jG (⟨its.map bV,R,X⟩:cH) (L2.map ek)∧(-1≤bi∧bi<full.length)∧(¬bi<0→∃e,Fu (⟨its.map bV,R,X⟩:cH) e (mJ bk))∧pB (ej (⟨its.map bV,R,X⟩:cH) 60) ranks (full.drop i) i (L2.map ek) (Mt bi bk)=pB (ej (⟨its.map bV,R,X⟩:cH) 60) ranks full 0 (L1.map ek) none) (λ⟨i,L2,bi,bk⟩=>full.length-i) ⟨0,L1,(-1:Int),Kv⟩ (aC.cons 0 rfl (aC.cons 1 rfl (aC.cons 2 rfl (aC.cons 6 rfl (aC.cons 8 rfl (aC.cons 16 rfl (aC.cons 17 rfl aC.nil))))))) ⟨aR _,Sf,⟨by omega,by omega⟩,λh=>absurd (show(-1:Int)<0 by decide) h,rfl⟩ ?_;rintro ⟨i,L2,bi,bk⟩ ⟨hi,zA,Sd,Wu,Bw⟩
 dsimp only at hi zA Sd Wu Bw⊢
 have Y0:=sJ zA
 refine g6 ?_;refine St.cq (λpc=> ?_) (λpc=> ?_)
 ·obtain⟨q,hq⟩:=aE (show i<full.length by omega)
  obtain⟨rr,sU⟩:=aE (show i<ranks.length by omega)
  have uB:=ag0 q (ab hq)
  have wR:q<(⟨its.map bV,R,X⟩:cH).its.length:=by show q<(its.map bV).length;rw[aQ];exact uB
  have Fe:=MZ rr (ab sU)
  have hht:=hB.ht q wR
  have Ij:=Kk.ok q rr (L2.map ek) wR hht (by omega) zA
  refine g8 ?_;refine St.ee (Ev.ld1 (.mk rfl) (dD hq) eN trivial rfl) ?_;refine g11 ?_;refine St.ee (Ev.cB (.mk rfl) eN trivial (by omega) (kQ (dD sU))) ?_;refine St.pN (ds:=[fO bl [rv.1,xv.1,dQ.1,(.slice (some ⟨bn,0,none⟩) m0 cp)],sl aL rv.1 R,sl aL xv.1 X,sl dX dQ.1 its,aI cW its]) (L:=[row (.slice (some ⟨bn,0,none⟩) m0 cp) 194 3 (L2).length (rows eG (L2))]) (X:=ax (jY 71 196) L2) (post:=λv L' X'=>∃(L3:List ir) (k2:xK) (o:Bool),ej (⟨its.map bV,R,X⟩:cH) 60 (L2.map ek) q rr=(L3.map ek,if o then some (mJ k2)else none)∧v= .tuple #[jf k2,.bool o]∧L'=[row (.slice (some ⟨bn,0,none⟩) m0 cp) 194 3 (L3).length (rows eG (L3)),aF (oE k2)]∧X'=ax (jY 71 196) L3) ((RZ bl bn m0 cp rv xv dQ R X its hB 60 q rr L2 uB hht (by omega) zA).mono (λv H' ⟨L3,k2,o,a1,a2,a3⟩=>⟨[_,_],_,a3,L3,k2,o,a1,a2,rfl,rfl⟩)) aeE (.eZ rfl rfl rfl) rfl ?_;rintro v30 _ _ ⟨L3,k2,o,VQ,rfl,rfl,rfl⟩;refine St.lZ ?_;rw[VQ]at Ij;obtain⟨Vv,_,Ak⟩:=Ij
  have Vv:jG (⟨its.map bV,R,X⟩:cH) (L3.map ek):=Vv
  refine g3 ?_;refine St.al (λpT=> ?_);refine g8 ?_;refine St.split 34 _ rfl (λaa2=> ?_) (λaa2=> ?_)
  ·obtain rfl:o=true:=aa2
   have Ak:=Ak (mJ k2) rfl
   refine St.aa rfl rfl ?_;refine go ?_;refine St.aa rfl rfl ?_;refine go ?_;refine St.aa rfl rfl ?_;refine go ?_;refine St.split 37 _ rfl (λaa3=> ?_) (λaa3=> ?_)
   ·have FO:bi<0:=eS aa3
    rw[CE bk FO,Mu hq sU VQ]at Bw;refine St.ag rfl rfl rfl ?_;refine St.ag rfl rfl rfl ?_;refine St.ag rfl rfl rfl ?_;refine St.ag rfl rfl rfl ?_;refine St.aa rfl rfl ?_;refine St.ee (Ev.eo (.mk rfl) rfl (.mk rfl)) ?_;refine St.ee (Ev.eo (.mk rfl) rfl (.mk rfl)) ?_;refine g2 ?_;refine St.Ax _ rfl rfl ?_;refine St.cx (aX b8 (.cells [iv bk.wt,bk.cv.1,iv bk.tree.rule,iv bk.tree.lex,bk.tree.kv.1].toArray 71 (0,0))::(ax (jY 71 196) L3)) mixed (λnp ns=> ?_);refine SW.gd 0 ?_;refine SW.gd 1 ?_;refine SW.gd 2 ?_;refine SW.t1 3 ?_;refine g3 ?_;refine SW.go ?_;refine SW.dn ?_;refine g7 ?_;refine St.aH ⟨i+1,L3,(i:Int),k2⟩ ⟨by omega,Vv,⟨(by dsimp only;omega),(by dsimp only;omega)⟩,λ_=>⟨q,Ak⟩,by dsimp only;rw[LD];exact Bw⟩
   ·have FO:¬bi<0:=iT aa3
    rw[vX bk FO]at Bw;refine St.eT (sl aL k2.cv.1 k2.code) [oE k2] (λρ h=>h (oE k2) (aU ..) _ (aU ..)) ?_;refine St.eT (sl aL bk.cv.1 bk.code) [oE bk] (λρ h=>h (oE bk) (aU ..) _ (aU ..)) ?_;refine St.aa rfl rfl ?_;refine go ?_;refine St.slot 38 (jf k2) rfl rfl ?_;refine St.aa rfl rfl ?_;refine go ?_;refine St.slot 39 (jf bk) rfl rfl ?_;refine St.aa rfl rfl ?_;refine St.ee (Ev.call (zQ k2 bk) aeA (.bH rfl rfl)) ?_;refine St.aa rfl rfl ?_;refine go ?_;refine St.aa rfl rfl ?_;refine St.ee (Ev.ec (.mk rfl) rfl (.mk rfl)) ?_;refine St.ee (Ev.eo (.mk rfl) rfl (.mk rfl)) ?_;refine g2 ?_;refine St.cond _ rfl (λh43=> ?_) (λh43=> ?_)
    ·skip
     have xi:SY (mJ k2) (mJ bk)<0:=eS h43
     rw[S3 hq sU VQ xi]at Bw;refine St.cx (aX b8 (.cells [iv bk.wt,bk.cv.1,iv bk.tree.rule,iv bk.tree.lex,bk.tree.kv.1].toArray 71 (0,0))::(ax (jY 71 196) L3)) mixed (λnp ns=> ?_);refine SW.gd 0 ?_;refine SW.gd 1 ?_;refine SW.gd 2 ?_;refine SW.t1 3 ?_;refine g3 ?_;refine SW.go ?_;refine SW.dn ?_;refine g7 ?_;refine St.aH ⟨i+1,L3,(i:Int),k2⟩ ⟨by omega,Vv,⟨(by dsimp only;omega),(by dsimp only;omega)⟩,λ_=>⟨q,Ak⟩,by dsimp only;rw[LD];exact Bw⟩
    ·skip
     have xi:¬SY (mJ k2) (mJ bk)<0:=iT h43
     rw[S4 hq sU VQ xi,←vX bk FO]at Bw;refine g8 ?_;refine St.aH ⟨i+1,L3,bi,bk⟩ ⟨by omega,Vv,Sd,Wu,Bw⟩
  ·obtain rfl:o=false:=aa2
   rw[aa1 hq sU VQ]at Bw;refine St.ag rfl rfl rfl ?_;refine St.ag rfl rfl rfl ?_;refine St.ag rfl rfl rfl ?_;refine St.cj rfl rfl rfl ?_;refine St.cj rfl rfl rfl ?_;refine St.cj rfl rfl rfl ?_;refine St.cj rfl rfl rfl ?_;refine St.ag rfl rfl rfl ?_;refine St.ee (Ev.ec (.mk rfl) rfl (.mk rfl)) ?_;refine g2 ?_;refine St.pF _ rfl rfl ?_;refine g8 ?_;refine St.aH ⟨i+1,L3,bi,bk⟩ ⟨by omega,Vv,Sd,Wu,Bw⟩
 ·obtain rfl:i=full.length:=by omega
  rw[List.drop_length]at Bw
  have LF:pB (ej (⟨its.map bV,R,X⟩:cH) 60) ranks full 0 (L1.map ek) none=(L2.map ek,Mt bi bk):=Bw.symm
  refine g11 ?_;refine St.split 49 _ rfl (λaa4=> ?_) (λaa4=> ?_)
  ·have FO:bi<0:=eS aa4
   rw[CE bk FO]at LF;refine St.ag rfl rfl rfl ?_;refine St.ag rfl rfl rfl ?_;refine St.ag rfl rfl rfl ?_;refine St.ag rfl rfl rfl ?_;refine St.ee (Ev.eo (.mk rfl) rfl (.mk rfl)) ?_;refine g2 ?_;refine St.Ax _ rfl rfl ?_;refine g5 ?_;refine St.rV [] [aX bo (.cells [ov.1].toArray 44 (0,0)),row ov.1 69 3 (outs).length (rows cJ (outs)),aF (aI bM (outs))] ?_;exact⟨ov,outs,rfl,(by rw[←hea,Vy Gi LF]),how,rfl⟩
  ·have FO:¬bi<0:=iT aa4
   rw[vX bk FO]at LF;obtain⟨eb,wh⟩:=Wu FO;obtain⟨hw,hth⟩:=Vx wh;obtain⟨rb,w8⟩:=aE (show bi.toNat<ranks.length by omega)
   have ag1:=LF
   refine St.dup (oW bm (iv (n:Nat))) ?_;refine St.aa rfl rfl ?_;refine go ?_;refine St.aa rfl rfl ?_;refine go ?_;refine St.slot 51 (jf bk) rfl rfl ?_;refine St.aa rfl rfl ?_;refine St.j5 (show dt Tryz.prog 27 ([jf bk]++ [Value.pointer (some ⟨bo,0,none⟩),Value.pointer (some ⟨bm,0,none⟩)]).toArray [aF (oE bk),aF (oW bm (iv (n:Nat))),aX bo (.cells [ov.1].toArray 44 (0,0)),row ov.1 69 3 (outs).length (rows cJ (outs)),aF (aI bM outs)] _ from JL bo bm n bk ov outs hw hth (by omega) (by omega)) aiN (.mk rfl) (.bB rfl) rfl ?_;rintro v52 _ ⟨tY,t,rfl,ht,rfl⟩;refine St.wG ?_;refine St.aa rfl rfl ?_;refine go ?_;refine St.ee (Ev.ec (.mk rfl) rfl (.mk rfl)) ?_;refine g2 ?_;refine St.cond _ rfl (λHv=> ?_) (λHv=> ?_)
   ·skip
    have iX:¬outs.length+1<n:=by simpa using Hv
    refine g5 ?_;refine St.rV [] [aX bo (.cells [tY.1].toArray 44 (0,0)),row tY.1 69 3 ((outs++ [t])).length (rows cJ ((outs++ [t]))),aF (aI bM ((outs++ [t])))] ?_;exact⟨tY,(outs++ [t]),rfl,(by rw[←hea,Ge Gi ag1 w8,show m-1=0 by omega,cC,show [t].map dN=[dN t]from rfl,ht];rfl),(λu hu=>by rcases ba.1 hu with hu|hu;exact how u hu;rw[bJ]at hu;subst hu;obtain⟨e1,e2⟩:=zP ht;exact⟨by rw[e1];exact hw.1,by rw[e2];exact hw.2⟩),rfl⟩
   ·skip
    have iX:outs.length+1<n:=by simpa using Hv
    refine g5 ?_;refine St.ee (Ev.dT (k:=bi.toNat) (.mk rfl) (.mk rfl) cI eJ (by omega) (by omega)) ?_;refine St.ee (Ev.cB (.mk rfl) eN trivial (by omega) (kQ (dD w8))) ?_;refine St.ee (Ev.add (.mk rfl) (.mk rfl) (by have:=MZ rb (ab w8);omega)) ?_;refine St.slot 59 (iv ((rb+1:Nat):Int)) rfl (congrArg iv (by push_cast;rfl)) ?_;refine St.ee (Ev.dT (k:=bi.toNat) (.mk rfl) (.mk rfl) cI eJ (by omega) (by omega)) ?_;refine St.bj (.mk rfl) (.mk rfl) eJ rfl (by omega) (by decide) ?_;refine St.aO (.slice (some ⟨IL,0,none⟩) full.length full.length) (show _=(ranks.set bi.toNat (rb+1)).length by rw[cG]) (show _=rows aL (bC (ranks.set bi.toNat (rb+1)))from C5 _ _ _) ?_;refine g3 ?_;refine St.aH ⟨m-1,L2,ranks.set bi.toNat (rb+1),tY,outs++ [t]⟩ ⟨by dsimp only;omega,by dsimp only;rw[bA,lU];omega,by dsimp only;rw[cG];exact Yv,λr hr=>by dsimp only at hr⊢;rw[bA,lU];rcases jx hr with hr|rfl;have:=MZ r hr;omega;have:=MZ rb (ab w8);omega,zA,by dsimp only;rw[←hea,Ge Gi ag1 w8,cC,show [t].map dN=[dN t]from rfl,ht];rfl,λu hu=>(by rcases ba.1 hu with hu|hu;exact how u hu;rw[bJ]at hu;subst hu;obtain⟨e1,e2⟩:=zP ht;exact⟨by rw[e1];exact hw.1,by rw[e2];exact hw.2⟩)⟩
theorem LG {nt nf len:Nat}{Q:Qr}(hQ:qu nt nf Q)(oS:nt≤250)(gl:nf≤250){words:List bI}(hl:1≤len):∀(m frm:Nat) (cs oQ:Cs),frm+m+len≤Q.n+1→nL nt nf Q.n len frm cs→fI Q words cs→AO Q words len m frm cs=some oQ→nL nt nf Q.n len (frm+m) oQ∧fI Q words oQ
 |0,frm,cs,oQ,_,h,hs,e=>by obtain rfl:=Option.some.inj e;exact⟨h,hs⟩
 |m+1,frm,cs,oQ,hm,h,hs,e=>by
  have e2:(if 300<(p6 Q words frm (frm+len) cs).its.length then none else AO Q words len m (frm+1) (p6 Q words frm (frm+len) cs))=some oQ:=e
  by_cases h3:300<(p6 Q words frm (frm+len) cs).its.length
  ·rw[aB h3]at e2;cases e2
  ·rw[aA h3]at e2
   have:=LG hQ oS gl hl m (frm+1) _ oQ (by omega) (Fh hQ hl (by omega) h h3) (L9 hQ oS gl hl (by omega) h hs) e2
   rw[show frm+(m+1)=frm+1+m by omega];exact this
theorem LH {nt nf:Nat}{Q:Qr}(hQ:qu nt nf Q)(oS:nt≤250)(gl:nf≤250){words:List bI}:∀(m len:Nat) (cs oQ:Cs),1≤len→len+m≤Q.n+1→nL nt nf Q.n len 0 cs→fI Q words cs→yp Q words m len cs=some oQ→nL nt nf Q.n (len+m) 0 oQ∧fI Q words oQ
 |0,len,cs,oQ,_,_,h,hs,e=>by obtain rfl:=Option.some.inj e;exact⟨h,hs⟩
 |m+1,len,cs,oQ,hl,hm,h,hs,e=>by
  have e2:((AO Q words len (Q.n+1-len) 0 cs).bind λcs=>yp Q words m (len+1) cs)=some oQ:=e
  obtain⟨sB,h1,h2⟩:=oT.1 e2;obtain⟨a1,a2⟩:=LG hQ oS gl hl _ 0 cs sB (by omega) h hs h1
  have:=LH hQ oS gl m (len+1) sB oQ (by omega) (by omega) (KV a1) a2 h2
  rw[show len+(m+1)=len+1+m by omega];exact this
theorem LI {cs:Cs}{tqo:Nat}:∀(l:List Nat) (a:Nat),jh cs tqo a l→∀k∈l,k<cs.its.length
 |k::l,a,h,q,hq=>by
  rcases cD.1 hq with rfl|hq
  ·exact h.1
  ·exact LI l _ h.2.2 q hq
def X7 (e:p5):Nat:=(e.tqo-e.frm)*4+e.cQ
def Vz (e:p5):Nat:=8*(e.tqo-e.frm)-7+e.cQ
theorem aa5 {cs:Cs}{e:p5}(iX:∀k,k<cs.its.length→(cs.ed k).frm<(cs.ed k).tqo∧(cs.ed k).cQ≤3):∀kids:List Nat,jh cs e.tqo e.frm kids→1≤kids.length→kids.length≤3→e.cQ=agR cs kids→
 (∀k∈kids,X7 (cs.ed k)<X7 e)∧(kids.map λk=>Vz (cs.ed k)).sum+1≤Vz e
 | [k],h,_,_,hc=>by
  obtain⟨h1,h2,h3⟩:=h
  have h3:(cs.ed k).tqo=e.tqo:=h3
  have hk:=iX k h1
  have hc:e.cQ=(cs.ed k).cQ+1:=hc
  unfold X7 Vz;refine⟨λq hq=> ?_,?_⟩
  ·rw[bJ]at hq;subst hq;omega
  ·simp only[List.map_cons,List.map_nil,List.sum_cons,List.sum_nil];omega
 | [k,l],h,_,_,hc=>by
  obtain⟨h1,h2,h3,h4,h5⟩:=h
  have h5:(cs.ed l).tqo=e.tqo:=h5
  have hk:=iX k h1
  have hl:=iX l h3
  have hc:e.cQ=0:=hc
  unfold X7 Vz;refine⟨λq hq=> ?_,?_⟩
  ·simp only[List.mem_cons,List.not_mem_nil,or_false]at hq
   rcases hq with rfl|rfl<;>omega
  ·simp only[List.map_cons,List.map_nil,List.sum_cons,List.sum_nil];omega
 | [k,l,m],h,_,_,hc=>by
  obtain⟨h1,h2,h3,h4,h5,h6,h7⟩:=h
  have h7:(cs.ed m).tqo=e.tqo:=h7
  have hk:=iX k h1
  have hl:=iX l h3
  have hm:=iX m h5
  have hc:e.cQ=0:=hc
  unfold X7 Vz;refine⟨λq hq=> ?_,?_⟩
  ·simp only[List.mem_cons,List.not_mem_nil,or_false]at hq
   rcases hq with rfl|rfl|rfl<;>omega
  ·simp only[List.map_cons,List.map_nil,List.sum_cons,List.sum_nil];omega
 | [],_,h,_,_=>by cases h
 |_::_::_::_::_,_,_,h,_=>by simp only[List.length_cons]at h;omega
theorem zp (its:List kZ):(kM its).Perm (List.range its.length):=jE _ _
theorem Dj (its:List kZ):(kM its).length=its.length:=by rw[(zp its).length_eq,iJ]
theorem aa6 {its:List kZ}{i:Nat}(h:i∈kM its):i<its.length:=cy.1 ((zp its).mem_iff.1 h)
theorem aa7 {its:List kZ}{j:Nat}(h:j<its.length):∃i,i<its.length∧(fU its).getD j fQ=⟨(its.getD i fQ).ed,(its.getD i fQ).bx.map λw=>⟨w.rule,w.lex,w.kids.map (p7 (kM its))⟩,(its.getD i fQ).bN⟩:=by
 have hj:j<(kM its).length:=by rw[Dj];exact h
 refine⟨(kM its)[j],aa6 (gm hj),?_⟩;unfold fU
 rw[ak,bE,bO hj];rfl
theorem LJ {its:List kZ}{k:Nat}(h:k<its.length):p7 (kM its) k<its.length∧((fU its).getD (p7 (kM its) k) fQ).ed=(its.getD k fQ).ed:=by
 have hm:k∈kM its:=(zp its).mem_iff.2 (cy.2 h)
 have hl:(kM its).idxOf k<(kM its).length:=List.idxOf_lt_length_of_mem hm
 refine⟨by unfold p7;rw[←Dj its];exact hl,?_⟩;unfold fU p7
 rw[ak,bE,bO hl,List.getElem_idxOf hl];rfl
theorem zq {cs:Cs}{k:Nat}(h:k<cs.its.length):cs.its.getD k fQ∈cs.its:=by rw[ak,bO h];exact gm h
theorem LK (its:List kZ):(fU its).length=its.length:=by unfold fU;rw[aQ,Dj]
theorem XY {l:List Int}(h:∀x∈l,0≤x∧x≤1000000):∀x∈l,-1000000≤x∧x≤1000000:=λx hx=>by have:=h x hx;omega
theorem aa8 {nt nf len frm:Nat}{Q:Qr}(hQ:qu nt nf Q){words:List bI}{cs:Cs}(h:nL nt nf Q.n len frm cs)(hs:fI Q words cs)(hk:∀r∈Q.rules,1≤r.kids∧r.kids≤3){R X:List Int}(hR:R.length=Q.rules.length)(hX:X.length=Q.aN.length)(M7:∀x∈R,0≤x∧x≤1000000)(hwx:∀x∈X,0≤x∧x≤1000000):
 oG ⟨fU cs.its,R,X⟩:=by
 have hn:=hQ.n
 have Bw:=hQ.rn
 have hxn:=hQ.xn
 have E9:∀k,k<cs.its.length→(cs.ed k).frm<(cs.ed k).tqo∧(cs.ed k).tqo≤Q.n∧(cs.ed k).cQ≤3:=λk nU=>by
  obtain⟨a1,a2,a3,_⟩:=h.ok.gr _ (zq nU);exact⟨a1,a2,a3⟩
 have Bi:∀e,e<(⟨fU cs.its,R,X⟩:cH).its.length→∃i,i<cs.its.length∧((⟨fU cs.its,R,X⟩:cH).its.getD e fQ).ed=cs.ed i∧qy ⟨fU cs.its,R,X⟩ e=(cs.its.getD i fQ).bx.length∧∀w,w<qy ⟨fU cs.its,R,X⟩ e→∃w0∈(cs.its.getD i fQ).bx,(⟨fU cs.its,R,X⟩:cH).fA e w=⟨w0.rule,w0.lex,w0.kids.map (p7 (kM cs.its))⟩:=λe he=>by
  have he:e<(fU cs.its).length:=he
  rw[LK]at he;obtain⟨i,hi,hj⟩:=aa7 he;refine⟨i,hi,by show((fU cs.its).getD e fQ).ed=_;rw[hj];rfl,by unfold qy;show((fU cs.its).getD e fQ).bx.length=_;rw[hj];exact aQ _,λw hw=> ?_⟩
  have hw:w<((fU cs.its).getD e fQ).bx.length:=hw
  rw[hj]at hw
  have Gj:w<(cs.its.getD i fQ).bx.length:=by rwa[show _=(cs.its.getD i fQ).bx.length from aQ _]at hw
  refine⟨_,gm Gj,?_⟩;unfold cH.fA
  show((fU cs.its).getD e fQ).bx.getD w wy0=_
  rw[hj]
  show((cs.its.getD i fQ).bx.map _).getD w wy0=_
  rw[ak,bE,bO Gj];rfl
 have hhe:∀e,k9 ⟨fU cs.its,R,X⟩ e=X7 (((⟨fU cs.its,R,X⟩:cH).its.getD e fQ).ed):=λ_=>rfl
 have wh:∀e,Du ⟨fU cs.its,R,X⟩ e=Vz (((⟨fU cs.its,R,X⟩:cH).its.getD e fQ).ed):=λ_=>rfl
 have yW:∀k,k<cs.its.length→((⟨fU cs.its,R,X⟩:cH).its.getD (p7 (kM cs.its) k) fQ).ed=cs.ed k:=λk nU=>(LJ nU).2
 refine⟨λe w he hw hr=> ?_,λe w he hw hr=> ?_,λe w he hw=> ?_,XY M7,XY hwx,λe he=> ?_,λe he=> ?_,λe he=> ?_⟩
 ·obtain⟨i,hi,AR,_,hws⟩:=Bi e he
  obtain⟨w0,JU,nR⟩:=hws w hw;rw[nR]at hr⊢
  have hg:=E9 i hi
  rcases hs _ (zq hi) w0 JU with⟨b1,b2,b3,b4,j,hj,b5,_⟩|⟨j,hj,b1,_⟩
  ·refine⟨by show w0.kids.map _=[];rw[b2];rfl,by show w0.lex<(X.length:Int);rw[b5,hX];omega,?_⟩
   rw[wh,AR];unfold Vz;omega
  ·have hr:w0.rule<0:=hr
   omega
 ·obtain⟨i,hi,AR,_,hws⟩:=Bi e he
  obtain⟨w0,JU,nR⟩:=hws w hw;rw[nR]at hr⊢
  rcases hs _ (zq hi) w0 JU with⟨b1,_⟩|⟨j,hj,b1,b2,b3,b4,b5,_⟩
  ·have hr:¬w0.rule<0:=hr
   omega
  ·have hkr:=hk _ (show Q.rules.getD j nz∈Q.rules by rw[ak,bO hj];exact gm hj)
   have uD:=LI _ _ b4
   obtain⟨c1,c2⟩:=aa5 (e:=cs.ed i) (λk nU=>⟨(E9 k nU).1,(E9 k nU).2.2⟩) w0.kids b4 (by omega) (by omega) b5;refine⟨by show w0.rule<(R.length:Int);rw[b1,hR];omega,by show(w0.kids.map _).length≤3;rw[aQ];omega,λk hkm=> ?_,?_⟩
   ·obtain⟨q,hq,rfl⟩:=ct.1 (show k∈w0.kids.map (p7 (kM cs.its))from hkm)
    refine⟨by show _<(fU cs.its).length;rw[LK];exact(LJ (uD q hq)).1,?_⟩;rw[hhe,hhe,AR,yW q (uD q hq)];exact c1 q hq
   ·show((w0.kids.map (p7 (kM cs.its))).map (Du ⟨fU cs.its,R,X⟩)).sum+1≤_
    rw[wh,AR,kh,show w0.kids.map (Du ⟨fU cs.its,R,X⟩∘p7 (kM cs.its))=w0.kids.map λk=>Vz (cs.ed k)from Ar λq hq=>by show Du _ _=_;rw[wh,yW q (uD q hq)]];exact c2
 ·obtain⟨i,hi,AR,_,hws⟩:=Bi e he
  obtain⟨w0,JU,nR⟩:=hws w hw;rw[nR]
  show-1≤w0.rule∧w0.rule≤1000∧0≤w0.lex∧w0.lex≤1000
  rcases hs _ (zq hi) w0 JU with⟨b1,_,_,_,j,hj,b5,_⟩|⟨j,hj,b1,b2,_⟩<;>omega
 ·obtain⟨i,hi,AR,_⟩:=Bi e he
  have hg:=E9 i hi
  rw[wh,AR];unfold Vz;omega
 ·obtain⟨i,hi,AR,_⟩:=Bi e he
  have hg:=E9 i hi
  rw[hhe,AR];unfold X7;omega
 ·obtain⟨i,hi,_,hnw,_⟩:=Bi e he
  rw[hnw]
  have:=h.bx _ (zq hi)
  unfold vI at this;omega
theorem aa9 {mt:Nat→Nat→Option Nat}{n:Nat}{start:dF}{its:List kZ}:∀e∈IP mt n start its,e<its.length:=λe he=>cy.1 (List.mem_filter.1 he).1
theorem S5 (g:ob)(words:List bI):(∀e∈(dI g words).1.2,e<(dI g words).1.1.length)∧(dI g words).1.2.length≤300:=by
 have hl:=LB g words
 unfold dI at hl⊢
 split
 ·exact⟨λe he=>(by cases he),aR _⟩
 ·rename_i h1
  rw[aA h1]at hl
  split
  ·exact⟨λe he=>(by cases he),aR _⟩
  ·rename_i h2
   rw[aA h2]at hl
   cases hc:AQ g words with
   |none=>exact⟨λe he=>(by cases he),aR _⟩
   |some its=>
    rw[hc]at hl
    have hl:its.length≤300:=hl
    refine⟨aa9,?_⟩
    show(IP (fg g.types) words.length g.start its).length≤300
    unfold IP;exact eH (List.length_filter_le _ _) (by rw[iJ];exact hl)
theorem abA {g:ob}{words:List bI}{n:Int}(h:(lC g).1≠0):sF g words n=([],lC g):=by unfold sF;rw[aB h]
theorem ag2 {g:ob}{words:List bI}{n:Int}(h:¬(lC g).1≠0)(h2:n<0∨200<n):sF g words n=([],(3,-3)):=by unfold sF;rw[aA h,aB h2]
theorem abB {g:ob}{words:List bI}{n:Int}(h:¬(lC g).1≠0)(h2:¬(n<0∨200<n))(h3:(dI g words).2.1≠0):sF g words n=([],(dI g words).2):=by unfold sF;rw[aA h,aA h2,aB h3]
theorem abC {g:ob}{words:List bI}{n:Int}(h:¬(lC g).1≠0)(h2:¬(n<0∨200<n))(h3:¬(dI g words).2.1≠0):sF g words n=(tm (ej (bsG g (dI g words).1.1) 60) (dI g words).1.2 n.toNat (List.replicate (dI g words).1.1.length nO) (List.replicate (dI g words).1.2.length 0) [],(0,0)):=by unfold sF;rw[aA h,aA h2,aA h3]
theorem abD {B:cH}(hB:oG B):jG B (List.replicate B.its.length nO):=by
 refine⟨jI,λe x hx=> ?_⟩
 have he:e<B.its.length:=by have:=(eD.1 hx).1;rwa[jI]at this
 obtain rfl:=vZ (ab hx);refine⟨λk hk=>(by cases hk),λc hc=>(by cases hc),?_,λ_=>⟨rfl,rfl⟩,aR _⟩
 have:=hB.ht e he
 show 0+k9 B e≤262
 omega
theorem LL (m:Nat):(List.replicate m u9).map ek=List.replicate m nO:=by rw[sN];rfl
theorem Gf (g:ja)(wv:Value)(words:List bI):xT Tryz.prog 25 #[kC g,wv] ([kW g,sl dY wv words,tz,u8].map aF) (λv H'=>∃(pv zo:aY),v= .tuple #[pv.1,zo.1,fv (dI (gG g) words).2]∧((dI (gG g) words).2.1=0→∃(bl bn:Nat) (rv xv u2:aY) (its:List cX),pv.1= .pointer (some ⟨bl,0,none⟩)∧its.map bV=(dI (gG g) words).1.1∧H'=aF (sl aL zo.1 (bC (dI (gG g) words).1.2))::aF (fO bl [rv.1,xv.1,u2.1,.slice (some ⟨bn,0,none⟩) its.length its.length])::aF (sl aL rv.1 (g.rules.map dC.weight))::aF (sl aL xv.1 (g.aN.map fN.weight))::aF (sl dX u2.1 its)::aF (aI cW its)::row (.slice (some ⟨bn,0,none⟩) its.length its.length) 194 3 (List.replicate its.length u9).length (rows eG (List.replicate its.length u9))::ax (jY 71 196) (List.replicate its.length u9))):=
 (JK g wv words).mono λv H' h=>by
  rcases h with⟨hf,rfl,rfl⟩|⟨hf,bl,bn,rv,xv,u2,u3,its,r4,rfl,rfl⟩
  ·exact⟨⟨.pointer none,rfl⟩,bK,rfl,λh=>absurd h hf⟩
  ·exact⟨⟨.pointer (some ⟨bl,0,none⟩),rfl⟩,u3,by rw[Gb hf],λ_=>⟨bl,bn,rv,xv,u2,its,rfl,r4,rfl⟩⟩
theorem JM (g:ja)(wv:Value)(words:List bI)(n:Int)(hbs:(dI (gG g) words).2.1=0→oG (bsG (gG g) (dI (gG g) words).1.1)):xT Tryz.prog 10 #[kC g,wv,iv n] ([kW g,sl dY wv words,tz,u8].map aF) (λv H'=>∃(ov:aY) (outs:List cM),v= .tuple #[ov.1,fv (sF (gG g) words n).2]∧outs.map dN=(sF (gG g) words n).1∧H'=[aF (sl cJ ov.1 outs),aF (aI bM outs)]):=by
 refine xT.body (args:=[kC g,wv,iv n]) 45 Tryz.func10 rfl Tryz.ntmps10 rfl (λc lf=> ?_);refine St.cast (H':=[aF (kW g),aF (sl dY wv words),aF (tz),aF (u8)]) rfl ?_;refine g2 ?_;refine St.cz (.mk rfl) rfl (λb3=> ?_);refine St.NG (.mk rfl) rfl rfl (λb5=> ?_);refine go ?_;refine St.al (λb7=> ?_);refine g6 ?_;refine St.slot 13 (kC g) rfl rfl ?_;refine St.ee (Ev.ni lf (w7 g) adU (.bB rfl)) ?_;refine St.slot 14 (.agg #[iv (lC (gG g)).1,iv (lC (gG g)).2]) rfl rfl ?_;refine St.al (λb8=> ?_);refine g10 ?_;refine St.cq (λSN=> ?_) (λSN=> ?_)
 ·have hb:=abA (words:=words) (n:=n) (show(lC (gG g)).1≠0 from SN)
  refine go ?_;refine St.sZ [b7] mixed (λnp ns=> ?_);refine SW.gd 0 ?_;refine SW.gd 1 ?_;refine SW.t1 2 ?_;refine g3 ?_;refine SW.go ?_;refine SW.dn ?_;refine g3 ?_;refine St.fq cJ ?_;refine St.e8 bM ?_;refine St.rV [_,_] [aF (sl cJ (.slice none 0 0) []),aF (aI bM [])] ?_;exact⟨bK,[],by rw[hb];rfl,by rw[hb];rfl,rfl⟩
 ·have H8:¬(lC (gG g)).1≠0:=by omega
  refine g8 ?_;refine St.gf _ rfl rfl (λhg=>Ev.kU (.mk rfl) eN trivial (by rfl)) rfl ?_;refine St.gf _ rfl rfl (λhg=>Ev.gtr (aZ.gv rfl hg) (.mk rfl)) rfl ?_;refine g3 ?_;refine St.cq (λN1=> ?_) (λN1=> ?_)
  ·have hb:=ag2 (words:=words) H8 (show n<0∨200<n from by omega)
   refine g2 ?_;refine St.ee (Ev.build (bF.bH rfl rfl) (λw=>fB rfl rfl w)) ?_;refine g6 ?_;refine St.fq cJ ?_;refine St.e8 bM ?_;refine St.rV [_,_] [aF (sl cJ (.slice none 0 0) []),aF (aI bM [])] ?_;exact⟨bK,[],by rw[hb];rfl,by rw[hb];rfl,rfl⟩
  ·have SE:¬(n<0∨200<n):=by omega
   refine g5 ?_;refine St.slot 27 (kC g) rfl rfl ?_;refine go ?_;refine St.pe lf (Gf g wv words) aiO (.bH rfl rfl) rfl ?_;rintro v29 H2 ⟨pv,zo,rfl,ei⟩;refine St.perm jJ ?_;refine St.ahS ?_;refine g4 ?_;refine St.slot 32 (fv (dI (gG g) words).2) rfl rfl ?_;refine St.al (λpT=> ?_);refine g13 ?_;refine St.cq (λX8=> ?_) (λX8=> ?_)
   ·have hb:=abB H8 SE (show(dI (gG g) words).2.1≠0 from X8)
    refine go ?_;refine St.cx (aX b7 (.cells [iv 0,iv 0].toArray 35 (0,0))::H2) mixed (λnp ns=> ?_);refine SW.gd 0 ?_;refine SW.gd 1 ?_;refine SW.t1 2 ?_;refine g3 ?_;refine SW.go ?_;refine SW.dn ?_;refine g3 ?_;refine St.fq cJ ?_;refine St.e8 bM ?_;refine St.rV [_,_] [aF (sl cJ (.slice none 0 0) []),aF (aI bM [])] ?_;exact⟨bK,[],by rw[hb];rfl,by rw[hb];rfl,rfl⟩
   ·have hf0:¬(dI (gG g) words).2.1≠0:=by omega
    have hb:=abC H8 SE hf0
    have hB0:=hbs (by omega)
    obtain⟨bl,bn,rv,xv,u2,its,M4,r4,rfl⟩:=ei (by omega)
    obtain⟨nn,rfl⟩:∃nn:Nat,n=nn:=⟨n.toNat,by omega⟩
    refine St.ED b5 ?_;refine St.slot 9 (.pointer (some ⟨bl,0,none⟩)) rfl M4 ?_
    have hBE:bsG (gG g) (dI (gG g) words).1.1=(⟨its.map bV,g.rules.map dC.weight,g.aN.map fN.weight⟩:cH):=by unfold bsG;rw[←r4];show(⟨_,(g.rules.map mi).map _,(g.aN.map rJ).map _⟩:cH)=_;rw[kh,kh];rfl
    rw[hBE]at hB0 hb;rw[show(List.replicate (dI (gG g) words).1.1.length nO)=(List.replicate its.length u9).map ek by rw[LL,←r4,aQ]]at hb
    have SS:jG (⟨its.map bV,g.rules.map dC.weight,g.aN.map fN.weight⟩:cH) ((List.replicate its.length u9).map ek):=by rw[LL];have h:=abD hB0;rwa[show((⟨its.map bV,g.rules.map dC.weight,g.aN.map fN.weight⟩:cH)).its.length=its.length from aQ _]at h
    obtain⟨hfu,Ck⟩:=S5 (gG g) words;rw[←r4,aQ]at hfu
    have hb:sF (gG g) words (nn:Nat)=(tm (ej (⟨its.map bV,g.rules.map dC.weight,g.aN.map fN.weight⟩:cH) 60) (dI (gG g) words).1.2 nn ((List.replicate its.length u9).map ek) (List.replicate (dI (gG g) words).1.2.length 0) [],(0,0)):=hb
    refine g4 ?_;refine St.al (λIA=> ?_);refine g2 ?_;refine St.join (ι:=aY×List cM) (λ⟨ov,outs⟩ T=>T) (λ⟨ov,outs⟩=>[aX IA (.cells [ov.1].toArray 44 (0,0)),row ov.1 69 3 (outs).length (rows cJ (outs)),aF (aI bM outs),aX b7 (.cells [iv 0,iv 0].toArray 35 (0,0))]) (λ⟨ov,outs⟩=>outs.map dN=tm (ej (⟨its.map bV,g.rules.map dC.weight,g.aN.map fN.weight⟩:cH) 60) (dI (gG g) words).1.2 nn ((List.replicate its.length u9).map ek) (List.replicate (dI (gG g) words).1.2.length 0) []∧(∀t∈outs,cJ.wf t)) (aC.cons 6 rfl (aC.cons 7 rfl (aC.cons 12 rfl aC.nil))) ?_ ?_
    ·refine g6 ?_
     refine St.cq (λHu=> ?_) (λHu=> ?_)
     ·have Sm:0<nn:=by omega
      refine St.dc 69 3 ?_;refine St.aO (.slice none 0 0) (show _=([]:List cM).length from rfl) (show _=rows cJ []from rfl) ?_;refine St.e8 bM ?_;refine g3 ?_;refine St.ee (Ev.func (.bH rfl rfl)) ?_;refine St.pN (ds:=[fO bl [rv.1,xv.1,u2.1,.slice (some ⟨bn,0,none⟩) its.length its.length],sl aL rv.1 (g.rules.map dC.weight),sl aL xv.1 (g.aN.map fN.weight),sl dX u2.1 its,aI cW its,sl aL zo.1 (bC (dI (gG g) words).1.2),oW b5 (iv (nn:Nat))]) (L:=[aX IA (.cells [(.slice none 0 0)].toArray 44 (0,0)),row (.slice none 0 0) 69 3 (([]:List cM)).length (rows cJ (([]:List cM))),aF (aI bM []),row (.slice (some ⟨bn,0,none⟩) its.length its.length) 194 3 (List.replicate its.length u9).length (rows eG (List.replicate its.length u9))]) (X:=ax (jY 71 196) (List.replicate its.length u9)) (post:=λv L' X'=>∃(tY:aY) (kR:List cM),v= .tuple #[]∧kR.map dN=tm (ej (⟨its.map bV,g.rules.map dC.weight,g.aN.map fN.weight⟩:cH) 60) (dI (gG g) words).1.2 nn ((List.replicate its.length u9).map ek) (List.replicate (dI (gG g) words).1.2.length 0) []∧(∀t∈kR,cJ.wf t)∧L'=[aX IA (.cells [tY.1].toArray 44 (0,0)),row tY.1 69 3 (kR).length (rows cJ (kR)),aF (aI bM kR)]∧X'=[]) ((Mv bl bn its.length its.length rv xv u2 (g.rules.map dC.weight) (g.aN.map fN.weight) its hB0 (dI (gG g) words).1.2 zo hfu (by omega) IA b5 nn Sm (by omega) (List.replicate its.length u9) SS).mono (λv H' ⟨tY,kR,a1,a2,a3,a4⟩=>⟨[_,_,_],[],a4,tY,kR,a1,a2,a3,rfl,rfl⟩)) aiP (.eZ rfl rfl rfl) rfl ?_;rintro v42 _ _ ⟨tY,kR,rfl,Z6,Gj,rfl,rfl⟩;refine St.wG ?_;refine g2 ?_;refine St.mE ⟨tY,kR⟩ ⟨Z6,Gj⟩
     ·obtain rfl:nn=0:=by omega
      refine St.dc 69 3 ?_;refine St.aO (.slice none 0 0) (show _=([]:List cM).length from rfl) (show _=rows cJ []from rfl) ?_;refine St.e8 bM ?_;refine g2 ?_;refine St.mE ⟨bK,[]⟩ ⟨rfl,λt ht=>by cases ht⟩
    ·rintro ⟨ov,outs⟩ ⟨hou,how⟩
     dsimp only at hou how⊢
     obtain⟨⟨ovv,hov⟩,wU⟩:∃z,z=ov:=⟨ov,rfl⟩
     subst wU;refine St.bZ ovv cJ outs rfl rfl how ?_;refine g3 ?_;refine St.ee (Ev.build (bF.nil) (λw=>fL w)) ?_;refine g5 ?_;refine St.rV [_,_] [aF (sl cJ ovv outs),aF (aI bM outs)] ?_;exact⟨⟨ovv,hov⟩,outs,by rw[hb];rfl,by rw[hb];exact hou,rfl⟩
theorem abE {g:ob}{words:List bI}(h:(dI g words).2.1=0):oG (bsG g (dI g words).1.1):=by
 have H8:=S0 h
 have rY:=JI H8
 unfold dI at h⊢;rw[aA (λh=>h H8)]at h⊢
 by_cases h2:(qt g words).1≠0
 ·rw[aB h2]at h;exact absurd h h2
 ·rw[aA h2]at h⊢
  have hw:=CD (show(qt g words).1=0 by omega)
  cases hc:AQ g words with
  |none=>rw[hc]at h;have h:(17:Int)=0:=h;omega
  |some its=>
   unfold AQ at hc;obtain⟨cs,h1,rfl⟩:=dG.1 hc
   have hQ:qu g.types.length g.bb.length (qrG g words):=⟨hw.2,Bl _,rY.rn,rY.xn,λr hr=>⟨(rY.rule r hr).kids,(rY.rule r hr).gr,(rY.rule r hr).len⟩,λx hx=>⟨(rY.lex x hx).gr,(rY.lex x hx).len⟩⟩
   have hT:=rY.ty.len
   have hF:=rY.ft
   obtain⟨a1,a2⟩:=LH hQ (by omega) (by omega) (words:=words) words.length 1 ⟨[],List.replicate (words.length*(words.length+1)) []⟩ cs (aW _) (by show 1+words.length≤words.length+1;omega) GV (λit hit=>by cases hit) h1;exact aa8 hQ a1 a2 (λr hr=>(rY.rule r hr).kids) (aQ _) (aQ _) (λx hx=>by obtain⟨r,hr,rfl⟩:=ct.1 hx;exact(rY.rule r hr).wt) (λx hx=>by obtain⟨r,hr,rfl⟩:=ct.1 hx;exact(rY.lex r hr).wt)
theorem CF (g:ja)(wv:Value)(words:List bI)(n:Int):xT Tryz.prog 10 #[kC g,wv,iv n] ([kW g,sl dY wv words,tz,u8].map aF) (λv H'=>∃(ov:aY) (outs:List cM),v= .tuple #[ov.1,fv (sF (gG g) words n).2]∧outs.map dN=(sF (gG g) words n).1∧H'=[aF (sl cJ ov.1 outs),aF (aI bM outs)]):=JM g wv words n λh=>abE h
open Go.Lib
def wEv:bI:=[101,118,101,114,121]
def wDo:bI:=[100,111,103]
def wED:bI:=[101,118,101,114,121,32,100,111,103]
theorem W1 {l:List bI}(h:l.all (λw=>decide (w.length≤1000))=true):∀x∈l,dY.wf x:=λx hx=>by
 have h1:=eS (eO.1 h x hx)
 show x.length≤140737488351232
 omega
theorem S6:fx [wEv,wDo]=(wED,0,0):=HS
theorem LM:(gU wED).1.length=2∧(gU wED).2=(0,0):=⟨congrArg Prod.fst BG,congrArg Prod.snd BG⟩
theorem abF {ag3:List Tk0}{words:List bI}(h:ag3.map (λt=>t.2.2.2)=words){k:Nat}{t:Tk0}(ht:ag3[k]?=some t):words[k]?=some t.2.2.2:=by rw[←h,bE,ht];rfl
theorem zr (g:ja)(v1:Value)(words:List bI):iz Tryz.prog 3 #[kC g,v1] [kW g,sl dY v1 words,tz,u8] (.bool true):=by
 refine iz.body (args:=[kC g,v1]) (ds:=[kW g,sl dY v1 words,tz,u8]) 97 Tryz.func3 rfl Tryz.ntmps3 rfl (λc lf=> ?_)
 change St _ _ (Mm c [aF (kW g),aF (sl dY v1 words),aF tz,aF u8]) _
 refine go ?_;refine St.wf v1 (λvh hlen=> ?_);refine go ?_;refine St.cz (.mk rfl) rfl (λb2=> ?_);refine g5 ?_;refine St.gb rfl (.bH rfl rfl) uX TU YK rfl rfl (by simp[Value.cells]) rfl rfl (λFa=> ?_);refine St.bZ (.slice (some ⟨Fa,0,none⟩) 2 2) dY [wEv,wDo] rfl rfl (W1 (by decide)) ?_;refine St.ee (Ev.ni lf (C9 (.slice (some ⟨Fa,0,none⟩) 2 2) [wEv,wDo]) cb7 (.bB rfl)) ?_;refine St.slot 18 (.tuple #[sv wED,fv (0,0)]) rfl (by rw[S6]) ?_;refine g3 ?_;refine St.slot 20 (fv (0,0)) rfl rfl ?_;refine St.al (λb6=> ?_);refine g7 ?_;refine St.pe lf (zi wED (by decide)) cb8 (.bB rfl) rfl ?_;rintro v23 _ ⟨tv,rfl,rfl⟩;refine St.fk ?_;refine g3 ?_;refine St.slot 25 (fv (0,0)) rfl (by rw[LM.2]) ?_;refine St.al (λb8=> ?_);refine g8 ?_;refine St.ee (Ev.build (bF.nil) (λw=>fL w)) ?_;refine St.ee (Ev.lL (.mk rfl) (.mk rfl) Tryz.eqGuardType35 (λw=>yQ _ _ _ _ w)) ?_;refine go ?_;refine St.known 29 _ false rfl rfl ?_;refine St.aa rfl rfl ?_;refine go ?_;refine St.aa rfl rfl ?_;refine St.ee (Ev.build (bF.nil) (λw=>fL w)) ?_;refine St.aa rfl rfl ?_;refine St.ee (Ev.lL (.mk rfl) (.mk rfl) Tryz.eqGuardType35 (λw=>yQ _ _ _ _ w)) ?_;refine St.ee (Ev.ec (.mk rfl) rfl (.mk rfl)) ?_;refine go ?_;refine St.known 34 _ false rfl rfl ?_;refine St.aa rfl rfl ?_;refine go ?_;refine St.aa rfl rfl ?_;refine go ?_;refine St.ee (Ev.ec (.mk rfl) rfl (.mk rfl)) ?_;refine go ?_;refine St.known 38 _ false rfl (by simp[wED]) ?_;refine St.aa rfl rfl ?_;refine go ?_;refine St.aa rfl rfl ?_;refine go ?_;refine St.aa rfl rfl ?_;refine go ?_;refine St.ee (Ev.ec (.mk rfl) rfl (.mk rfl)) ?_;refine g2 ?_;refine St.pF _ rfl (by rw[LM.1];rfl) ?_;refine g5 ?_;refine St.ee (Ev.ni lf (C9 v1 words) cb7 (.bB rfl)) ?_;refine g3 ?_;refine St.slot 47 (fv (fx words).2) rfl rfl ?_;refine g8 ?_;refine St.ee (Ev.build (bF.nil) (λw=>fL w)) ?_;refine St.ee (Ev.lL (.mk rfl) (.mk rfl) Tryz.eqGuardType35 (λw=>yQ _ _ _ _ w)) ?_;refine g2 ?_;refine St.cq (λN0=> ?_) (λN0=> ?_)
 ·refine g7 ?_
  refine St.rV [_] [] ?_;rfl
 ·have hJ:fx words=((fx words).1,0,0):=Prod.ext rfl (Prod.ext (show(fx words).2.1=0 by omega) (show(fx words).2.2=0 by omega))
  obtain⟨kS,kV⟩:=OC hJ
  have LS:=Ms (ws:=words)
  have agZ:=Mr hJ
  have xi:=congrArg List.length kV
  rw[aQ]at xi;refine g5 ?_;refine St.pe lf (zi (fx words).1 (by omega)) cb8 (.bB rfl) rfl ?_;rintro v53 _ ⟨tv2,rfl,rfl⟩;refine St.fk ?_;refine St.wf tv2.1 (λ_ Yh=> ?_);refine g3 ?_;refine St.slot 55 (fv (0,0)) rfl (by rw[kS]) ?_;refine g18 ?_;refine St.dc 9 1 ?_;refine St.aO (.slice none 0 0) (show _=(words.take 0).length from rfl) (show _=rows dY (words.take 0)from rfl) ?_;refine St.lH (ι:=Nat×aY) (λ⟨k,ov⟩ T=>(58,iv k)::(9,ov.1)::T) (λ⟨k,ov⟩=>[row ov.1 9 1 (words.take (k)).length (rows dY (words.take (k))),aX b2 (.cells (lh g).toArray 32 (0,0)),aX b8 (.cells [iv 0,iv 0].toArray 35 (0,0)),aF (sl r5 tv2.1 (gU (fx words).1).1),aF (kW g),aF (sl dY v1 words),aF tz,aF u8]) (λ⟨k,ov⟩=>k≤words.length) (λ⟨k,ov⟩=>words.length-k) ⟨0,bK⟩ (aC.cons 1 rfl (aC.cons 2 rfl (aC.cons 4 rfl (aC.cons 8 rfl (aC.cons 56 rfl (aC.cons 57 rfl aC.nil)))))) (aR _) ?_;rintro ⟨k,ov⟩ hk
  dsimp only at hk⊢
  refine g6 ?_;refine St.cq (λTy=> ?_) (λTy=> ?_)
  ·obtain⟨t,ht⟩:=aE (show k<(gU (fx words).1).1.length by omega)
   have pZ:=abF kV ht
   have nS:=ai pZ
   refine g7 ?_;refine St.ee (Ev.jj (.mk rfl) ht Tryz.underlying42 trivial Ea iY.eq) ?_;refine St.al (λpT=> ?_);refine g7 ?_;refine St.gb rfl (.bB rfl) uX TU YK rfl rfl (by simp[Value.cells]) rfl rfl (λb65=> ?_);refine St.aj (.mk rfl) (.mk rfl) uX TU YK by9 (by simp[Value.oneCell',Value.cells]) (by rw[e9];omega) (by rw[e9];omega) rfl rfl rfl rfl (λv66 akR=> ?_);refine St.aO v66 (show _=(words.take (k+1)).length by rw[nS,bA];rfl) (show _=rows dY (words.take (k+1)) by rw[nS,aw];rfl) ?_;refine St.bS v66 (λh66 _=> ?_);refine g9 ?_;refine St.aH ⟨k+1,⟨v66,h66⟩⟩ (by dsimp only;omega)
  ·obtain rfl:k=words.length:=by omega
   rw[jy];refine St.bZ ov.1 dY words rfl rfl vh ?_;refine g9 ?_;refine St.ee (Ev.build (bF.nil) (λw=>fL w)) ?_;refine St.ee (Ev.lL (.mk rfl) (.mk rfl) Tryz.eqGuardType35 (λw=>yQ _ _ _ _ w)) ?_;refine go ?_;refine St.known 71 _ false rfl rfl ?_;refine St.aa rfl rfl ?_;refine go ?_;refine St.aa rfl rfl ?_;refine go ?_;refine St.aa rfl rfl ?_;refine St.ee (Ev.call (zR ov.1 v1 words words) cb9 (.bH rfl rfl)) ?_;refine St.aa rfl rfl ?_;refine go ?_;refine St.ee (Ev.ec (.mk rfl) rfl (.mk rfl)) ?_;refine g2 ?_;refine St.pF _ rfl (by simp) ?_;refine g5 ?_;refine St.slot 78 (kC g) rfl rfl ?_;refine go ?_;refine St.pe lf (CF g v1 words 3) aeL (.eZ rfl rfl rfl) rfl ?_;rintro v80 _ ⟨o1,ag4,rfl,ho1,rfl⟩;refine St.lZ ?_;refine g3 ?_;refine St.slot 82 (fv (sF (gG g) words 3).2) rfl rfl ?_;refine St.al (λQA=> ?_);refine g7 ?_;refine St.slot 84 (kC g) rfl rfl ?_;refine go ?_;refine St.pe lf (CF g ov.1 words 3) aeL (.eZ rfl rfl rfl) rfl ?_;rintro v86 _ ⟨o2,kR,rfl,Z6,rfl⟩;refine St.lZ ?_;refine g3 ?_;refine St.slot 88 (fv (sF (gG g) words 3).2) rfl rfl ?_;refine St.al (λIL=> ?_);refine g8 ?_;refine St.ee (Ev.LU (.mk rfl) (.mk rfl) Tryz.eqGuardType35 (λw=>yQ _ _ _ _ w)) ?_;refine go ?_;refine St.known 92 _ true rfl (by simp) ?_;refine St.aa rfl rfl ?_;refine go ?_;refine St.aa rfl rfl ?_;refine go ?_;refine St.aa rfl rfl ?_;refine St.ee (Ev.call (Fz o1.1 o2.1 ag4 kR (ho1.trans Z6.symm) (λx y _ _ h=>Uz x y h)) aeM (.bH rfl rfl)) ?_;refine St.ee (Ev.eo (.mk rfl) rfl (.mk rfl)) ?_;refine g4 ?_;refine St.rV [_] [] ?_;rfl
end Go.Proofs.YtblifkgpebebmaaGreatDoor
