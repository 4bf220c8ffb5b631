/-
  Laws of walks through programs, and facts on grammars, trees and queries.
  Conditions: none.
-/
import Derived.Test.YtiefglecbgdaiaaGreatDoorGF10
set_option maxHeartbeats 4000000
set_option maxRecDepth 20000
set_option linter.unusedVariables false
set_option linter.unusedSimpArgs false
namespace Go.Proofs.YtiefglecbgdaiaaGreatDoor
open Go Go.J Tryz
theorem Sk {words:List ab}{k:Nat}{w:ab}(h:words[k]?=some w):xW k (words.drop k)=if isWord w=false then(10,(k:Int))else xW (k+1) (words.drop (k+1)):=by rw[bA h,xW]
theorem WE {words:List ab}{k:Nat}(h:words.length≤k):xW k (words.drop k)=(0,0):=by rw[fS h,xW]
theorem Pa {L:List Eb}{words:List ab}{k:Nat}{w:ab}(h:words[k]?=some w):Ae L k (words.drop k)=if w∈L.map (·.word)then Ae L (k+1) (words.drop (k+1))else(6,(k:Int)):=by rw[bA h,Ae]
theorem Ud {L:List Eb}{words:List ab}{k:Nat}(h:words.length≤k):Ae L k (words.drop k)=(0,0):=by rw[fS h,Ae]
theorem N5 {g:ep}{words:List ab}(h:(sX g words).1=0):0<words.length∧words.length≤12:=by
 unfold sX at h
 by_cases c:words.length=0∨12<words.length
 ·rw[aB c]at h;exact absurd h (by decide)
 ·omega
theorem Mm.Dm {c:Ctx}(a:TypeId){w:World}:∀(m:Nat) (H:List ai),Mm c H w→Mm c (bK (fa a) (List.replicate m (cF,[]))++H) w
 |0,_,h=>h
 |m+1,H,h=>by
  obtain⟨ρ,hm⟩:=(Mm.Dm a m H h).out;exact Mm.mk (hm.GG rfl ⟨rfl,aQ _⟩ rfl (aQ _) (λ_ _=>rfl) (dP.2 (World.ownsRow_nil _ _ _ _)) (λb d=>by rw[dF]at d;simp[Value.ownBlock]at d))
theorem St.Dm {n:Nat}{F:Fr}{c:Ctx}{H H':List ai}{T:Act→World→Prop}(e d:TypeId)(m:Nat)[t:lh [] (bK (eR e d) []++bK (fa d) (List.replicate m (cF,[]))) H H'](h:St n F (Mm c H') T):St n F (Mm c H) T:=by
 obtain⟨L,a,b⟩:=t.eq
 refine h.ny λw hw=> ?_
 rw[a,fV]at hw;obtain⟨ρ,k⟩:=(Mm.Dm d m L hw).out;rw[b];exact Mm.mk (k.perm kB)
theorem St.af9 {n:Nat}{F:Fr}{c:Ctx}{H H':List ai}{T:Act→World→Prop}(X Y:List ai)[t:lh (X++Y) X H H'](h:St n F (Mm c H') T):St n F (Mm c H) T:=by
 obtain⟨L,a,b⟩:=t.eq
 refine h.ny λw hw=> ?_
 rw[a,←cr]at hw;obtain⟨ρ,k⟩:=hw.out;rw[b];exact Mm.mk k.left
theorem VY {f:kQ}{g:ei}{words:List ab}(h:wM f (dG g) (ga (g.types.map cn)))(hk:∀r∈(dG g).rules,r.kids≤3):ju f (g.types.map cn) words.length g=qrG (dG g) words:=by
 unfold qrG ju
 rw[OO h hk];rfl
theorem Zh {g:ei}(h:EZ (dG g)){f:kQ}{n:Nat}(b:n≤12):rK (g.types.map cn).length (g.bh.map gj).length (ju f (g.types.map cn) n g):=
 ⟨b,GB _,h.rn,h.xn,λr a=>⟨(h.rule r a).kids,(h.rule r a).gr,(h.rule r a).len⟩,λx hx=>⟨(h.lex x hx).gr,(h.lex x hx).len⟩⟩
theorem WD {nt nf n len frm:Nat}{Q:Qr}{words:List ab}(a:rK nt nf Q){d:mm}(c:nV nt nf n len frm d.cs)(hd:ff Q words d.cs):∀x∈d.its,x.bb.length≤3000000000000∧∀w∈x.bb,lY.wf w∧w.kids.length≤1000∧∀k∈w.kids,k<d.its.length:=λx hx=>by
 have hm:dW x∈d.cs.its:=di hx
 have h1:=c.bb _ hm
 have g:(dW x).bb.length=x.bb.length:=aR _
 unfold vy at h1;refine⟨by omega,λw hw=> ?_⟩
 have e:uy w∈(dW x).bb:=di hw
 have hk:∀k∈w.kids,k<d.its.length:=λk hk=>by rw[←gw];exact c.ok.kids _ hm _ e k hk
 rcases hd _ hm _ e with⟨b,a2,_,_,i,f,a5,_⟩|⟨i,f,a2,a3,a4,_⟩
 ·have b:w.rule= -1:=b
  have a2:w.kids=[]:=a2
  have a5:w.lex=i:=a5
  have:=a.xn
  exact⟨⟨by rw[b];unfold bR;omega,by rw[a5];unfold bR;omega⟩,by rw[a2];exact aP _,hk⟩
 ·have a2:w.rule=i:=a2
  have a3:w.lex=0:=a3
  have a4:((w.kids.length:Nat):Int)=_:=a4
  have:=a.rn
  have h:=(a.vg f).1.2
  exact⟨⟨by rw[a2];unfold bR;omega,by rw[a3];unfold bR;omega⟩,by omega,hk⟩
theorem Zq {nt nf n:Nat}{cs:Cs}(h:gH nt nf n cs){it:iq}(hit:it∈fH cs.its):it.ed.frm<it.ed.tqo∧it.ed.tqo≤n∧it.ed.cV≤3∧dp nt nf it.ed.gr∧it.ed.gr.length≤60:=by
 unfold fH at hit;obtain⟨i,b,rfl⟩:=cA.1 hit
 have a:i<cs.its.length:=cU.1 ((kK _ _).mem_iff.1 b)
 have e:cs.its.getD i er=cs.its[i]:=by rw[aZ,aj a];rfl
 dsimp only
 rw[e];exact h.gr _ (fq a)
theorem QH {Q:Qr}{words:List ab}{len m frm:Nat}{cs:Cs}(hm:0<m):xP Q words len m frm cs=if 300<(oQ Q words frm (frm+len) cs).its.length then none else xP Q words len (m-1) (frm+1) (oQ Q words frm (frm+len) cs):=by
 obtain⟨k,rfl⟩:∃k,m=k+1:=⟨m-1,by omega⟩
 rfl
theorem OS {Q:Qr}{words:List ab}{len m:Nat}{cs:Cs}(hm:0<m):xH Q words m len cs=(xP Q words len (Q.n+1-len) 0 cs).bind λcs=>xH Q words (m-1) (len+1) cs:=by
 obtain⟨k,rfl⟩:∃k,m=k+1:=⟨m-1,by omega⟩
 rfl
theorem yu {mt:Nat→Nat→Option Nat}{n:Nat}{start:de}{its:List iq}{k:Nat}:((List.range (k+1)).filter λi=>decide ((its.getD i er).ed.frm=0)&&decide ((its.getD i er).ed.tqo=n)&&(dE mt (its.getD i er).ed.gr 0 start).isSome)=
 ((List.range k).filter λi=>decide ((its.getD i er).ed.frm=0)&&decide ((its.getD i er).ed.tqo=n)&&(dE mt (its.getD i er).ed.gr 0 start).isSome)++if(decide ((its.getD k er).ed.frm=0)&&decide ((its.getD k er).ed.tqo=n)&&(dE mt (its.getD k er).ed.gr 0 start).isSome)=true then [k]else []:=by
 rw[mU,List.filter_append,List.filter_cons,List.filter_nil]
theorem QB (g:ei)(wv:Value)(words:List ab):kC prog 114 #[gK g,wv] [sl dT g.xv.1 g.aK,aL eO g.aK,sl bZ wv words,u8] (fv (sX (dG g) words)):=by
 refine kC.body (args:=[gK g,wv]) (ds:=[sl dT g.xv.1 g.aK,aL eO g.aK,sl bZ wv words,u8]) 69 func114 rfl ntmps114 rfl (λc r=> ?_);refine St.cast (H':=[aD (sl dT g.xv.1 g.aK),aD (aL eO g.aK),aD (sl bZ wv words),aD (u8)]) rfl ?_;refine go ?_;refine St.wf wv (λs B=> ?_);refine St.wf g.xv.1 (λC D=> ?_);refine go ?_;refine St.cW (.mk rfl) rfl (λj=> ?_);refine St.al (λl=> ?_);refine g9 ?_;refine St.gf _ rfl rfl (λe=>Ev.move (.mk rfl)) rfl ?_;refine St.gf _ rfl rfl (λe=>Ev.eu (aX.gv rfl e) kZ) rfl ?_;refine St.gf _ rfl rfl (λe=>Ev.gtr (aX.gv rfl e) (.mk rfl)) rfl ?_;refine g3 ?_;refine St.cq (λt=> ?_) (λt=> ?_)
 ·have hk:(sX (dG g) words)=(9,-2):=by unfold sX;rw[aB zE]
  refine g2 ?_;refine St.ee (Ev.build (bC.ah rfl rfl) (λw=>dJ rfl rfl w)) ?_;refine g5 ?_;refine St.rV [_] [] ?_
  rw[hk];rfl
 ·have hk:(sX (dG g) words)=if(xW 0 words).1≠0 then xW 0 words else Ae (g.aK.map qD) 0 words:=by unfold sX;rw[aA zE];rfl
  refine g11 ?_;refine St.lH (ι:=Nat) (λk T=>(25,iv k)::T) (λk=>[tI j (jj g) 32,tI l [iv 0,iv 0] 39,aD (sl dT g.xv.1 g.aK),aD (aL eO g.aK),aD (sl bZ wv words),aD (u8)]) (λk=>k≤words.length∧xW 0 words=xW k (words.drop k)) (λk=>words.length-k) 0 (aC.k5 1 2 4 23 24) ⟨aP _,rfl⟩ ?_;rintro k ⟨v,f⟩;refine g6 ?_;refine St.cq (λy=> ?_) (λy=> ?_)
  ·obtain⟨w,hw⟩:=aF (show k<words.length by omega)
   have z:w.length≤140737488351232:=s w (aa hw)
   have h:=Sk hw
   refine g16 ?_;refine St.ee (Ev.lp r (lO w zE) MV (.ay rfl)) ?_;refine g3 ?_;refine St.cond _ rfl (λn=> ?_) (λn=> ?_)
   ·skip
    rw[aB (show isWord w=false by simpa using n)]at h;rw[f.trans h,aB (show(10:Int)≠0 by decide)]at hk;refine g3 ?_;refine St.ee (Ev.build (bC.ah rfl rfl) (λw=>dJ rfl rfl w)) ?_;refine g9 ?_;refine St.rV [_] [] ?_
    rw[hk];rfl
   ·skip
    rw[aA (show ¬isWord w=false by simpa using n)]at h;refine g8 ?_;refine St.aH (k+1) ⟨by omega,f.trans h⟩
  ·rw[WE zE]at f
   rw[f,aA (by decide)]at hk;refine g7 ?_;refine St.makeMap mkStr rfl (λb=> ?_);refine g13 ?_;refine St.pb (ι:=Nat) (κ:=List (ab×Value)) (λq m T=>(40,iv q)::T) (λq m=>[aU b (df mkStr m),tI j (jj g) 32,tI l [iv 0,iv 0] 39,aD (sl dT g.xv.1 g.aK),aD (aL eO g.aK),aD (sl bZ wv words),aD (u8)]) (λq m=>q≤g.aK.length∧Hq m ((g.aK.take q).map km.word)) (λq m=>g.aK.length-q) 0 [] (aC.k5 1 4 7 38 39) ⟨aP _,Hq.nil⟩ ?_;rintro q m ⟨E,o⟩;refine g6 ?_;refine St.cq (λA=> ?_) (λA=> ?_)
   ·obtain⟨x,hx⟩:=aF (show q<g.aK.length by omega)
    refine g8 ?_;refine St.ee (Ev.j2 (.mk rfl) hx A6 trivial nH gX.eq) ?_;refine St.al (λF=> ?_);refine go ?_;refine St.sA (.mk rfl) (.mk rfl) nH ?_ (h1:=(j8.2 λu hu=>dT.one x u hu));refine g7 ?_;refine St.mapUpdate mkStr (k:=x.word) (.mk rfl) (.mk rfl) (.mk rfl) nL (by exact oc) ?_;refine g8 ?_;refine St.py (q+1) (jP m x.word (iv q)) ⟨by omega,by rw[ec km.word hx];exact o.snoc _ _⟩
   ·obtain rfl:q=g.aK.length:=by omega
    rw[fW]at o;refine g14 ?_;refine St.lH (ι:=Nat) (λk T=>(52,iv k)::T) (λk=>[aU b (df mkStr m),tI j (jj g) 32,tI l [iv 0,iv 0] 39,aD (sl dT g.xv.1 g.aK),aD (aL eO g.aK),aD (sl bZ wv words),aD (u8)]) (λk=>k≤words.length∧Ae (g.aK.map qD) 0 words=Ae (g.aK.map qD) k (words.drop k)) (λk=>words.length-k) 0 (aC.k4 4 7 50 51) ⟨aP _,rfl⟩ ?_;rintro k ⟨v,i⟩;refine g6 ?_;refine St.cq (λp=> ?_) (λp=> ?_)
    ·obtain⟨w,hw⟩:=aF (show k<words.length by omega)
     have d:=Pa (L:=g.aK.map qD) hw
     rw[iX]at d;refine g17 ?_;refine St.ee (Ev.r8 mkStr (k:=w) (.mk rfl) (.mk rfl) nL (by exact oc) jF) ?_;refine g3 ?_;refine St.slot 62 (.bool (decide (w∈g.aK.map km.word))) rfl (congrArg Value.bool (o w)) ?_;refine g10 ?_;refine St.cond _ rfl (λa=> ?_) (λa=> ?_)
     ·skip
      rw[aA (show ¬w∈g.aK.map ((·.word)∘qD)from(by simpa using a:¬w∈g.aK.map km.word))]at d;rw[i.trans d]at hk;refine g3 ?_;refine St.ee (Ev.build (bC.ah rfl rfl) (λw=>dJ rfl rfl w)) ?_;refine g9 ?_;refine St.rV [_] [] ?_
      rw[hk];rfl
     ·skip
      rw[aB (show w∈g.aK.map ((·.word)∘qD)from(by simpa using a:w∈g.aK.map km.word))]at d;refine g8 ?_;refine St.aH (k+1) ⟨by omega,i.trans d⟩
    ·rw[Ud zE]at i
     rw[i]at hk;refine g7 ?_;refine St.ee (Ev.build (bC.nil) (λw=>fC w)) ?_;refine g4 ?_;refine St.rV [_] [] ?_
     rw[hk];rfl
theorem R4 (g:ei)(wv:Value)(words:List ab):AK prog 72 #[gK g,wv] ([eD g,sl bZ wv words,tz,u8].map aD) (λv H'=>∃(p u3:aY) (m:Nat) (d:List cK),v= .tuple #[.agg #[p.1,iv (m:Nat),u3.1],fv (ek (dG g) words).2]∧d.map dW=(ek (dG g) words).1.1∧H'=[aD (sl eE p.1 d),aD (aL dS d),aD (sl aI u3.1 (bx (ek (dG g) words).1.2))]):=by
 refine AK.body (args:=[gK g,wv]) 124 func72 rfl ntmps72 rfl (λc TC=> ?_);refine St.cast (H':=[aD (eD g),aD (sl bZ wv words),aD (tz),aD (u8)]) rfl ?_
 refine St.gG (eD g) (λ_:Unit=>Af g) (λρ h=>⟨(),h⟩) λ_=> ?_
 refine St.cast (H':=[aD (sl pj g.tv.1 g.types),aD (aL wj g.types),aD (sl gD g.fv.1 g.bh),aD (sl bX g.rv.1 g.rules),aD (aL cR g.rules),aD (sl dT g.xv.1 g.aK),aD (aL eO g.aK),aD (aJ g.start),aD (eD g),aD (sl bZ wv words),aD (tz),aD (u8)]) rfl ?_;refine g2 ?_;refine St.cW (.mk rfl) rfl (λU=> ?_);refine St.al (λH=> ?_);refine St.al (λI=> ?_);refine g6 ?_;refine St.slot 17 (gK g) rfl rfl ?_;refine St.ee (Ev.lp TC (wU g) acK (.ay rfl)) ?_;refine St.slot 18 (.agg #[iv (kq (dG g)).1,iv (kq (dG g)).2]) rfl rfl ?_;refine St.al (λb6=> ?_);refine g10 ?_;refine St.cq (λh21=> ?_) (λh21=> ?_)
 ·have l:(ek (dG g) words)=(([],[]),kq (dG g)):=by unfold ek;rw[aB h21]
  refine go ?_;refine St.qe [H,I] mixed (λnp ns=> ?_);refine SW.dd 0 rfl (λ_=>Ev.build (ps:=[]) (bC.nil) (λw=>Cz w)) ?_;refine SW.gd 1 ?_;refine SW.t1 2 ?_;refine g3 ?_;refine SW.go ?_;refine SW.t1 3 ?_;refine g3 ?_;refine SW.go ?_;refine SW.dn ?_;refine g3 ?_;refine St.gb eE ?_;refine St.ea dS ?_;refine St.gb aI ?_;refine St.rV [_,_] [aD (sl eE (.slice none 0 0) []),aD (aL dS []),aD (sl aI (.slice none 0 0) [])] ?_;exact⟨cF,cF,0,[],by rw[l];rfl,by rw[l];rfl,by rw[l];rfl⟩
 ·have hg0:(kq (dG g)).1=0:=by omega
  have s:=Pf hg0
  have Y:iJ (g.types.map cn):=s.ty
  have hTl:=Y.len
  have hFl:(g.bh.map gj).length≤40:=s.ft
  refine g6 ?_;refine St.slot 24 (gK g) rfl rfl ?_;refine go ?_;refine St.ee (Ev.lp TC (QB g wv words) abW (.ah rfl rfl)) ?_;refine St.slot 26 (.agg #[iv (sX (dG g) words).1,iv (sX (dG g) words).2]) rfl rfl ?_;refine St.al (λb7=> ?_);refine g10 ?_;refine St.cq (λh29=> ?_) (λh29=> ?_)
  ·have l:(ek (dG g) words)=(([],[]),(sX (dG g) words)):=by unfold ek;rw[aA (λh=>h hg0),aB h29]
   refine go ?_;refine St.qe [H,I] mixed (λnp ns=> ?_);refine SW.dd 0 rfl (λ_=>Ev.build (ps:=[]) (bC.nil) (λw=>Cz w)) ?_;refine SW.gd 1 ?_;refine SW.t1 2 ?_;refine g3 ?_;refine SW.go ?_;refine SW.t1 3 ?_;refine g3 ?_;refine SW.go ?_;refine SW.dn ?_;refine g3 ?_;refine St.gb eE ?_;refine St.ea dS ?_;refine St.gb aI ?_;refine St.rV [_,_] [aD (sl eE (.slice none 0 0) []),aD (aL dS []),aD (sl aI (.slice none 0 0) [])] ?_;exact⟨cF,cF,0,[],by rw[l];rfl,by rw[l];rfl,by rw[l];rfl⟩
  ·have Z:(sX (dG g) words).1=0:=by omega
   obtain⟨hw0,K⟩:=N5 Z
   have Uz:∀r∈g.rules,(1≤r.kids∧r.kids≤3)∧dp (g.types.map cn).length (g.bh.map gj).length (ao r.graph)∧r.graph.nodes.length≤60:=λr M=>by have h:=s.rule (l8 r) (di M);exact⟨h.kids,h.gr,by rw[←cj];exact h.len⟩
   have Yw:∀x∈g.aK,dp (g.types.map cn).length (g.bh.map gj).length (ao x.graph)∧x.graph.nodes.length≤60:=λx hx=>by have h:=s.lex (qD x) (di hx);exact⟨h.gr,by rw[←cj];exact h.len⟩
   have E:dp (g.types.map cn).length (g.bh.map gj).length (ao g.start)∧g.start.nodes.length≤60:=⟨s.start.1,by rw[←cj];exact s.start.2⟩
   have Hc:∀r∈g.rules,∀k:Int,0≤k→k≤r.kids→0≤rZ (ao r.graph) k:=λr M=>(s.rule (l8 r) (di M)).rZ
   have hrn:g.rules.length≤40:=by have h:(g.rules.map l8).length≤40:=s.rn;rwa[aR]at h
   have hxn:g.aK.length≤100:=by have h:(g.aK.map qD).length≤100:=s.xn;rwa[aR]at h
   refine g7 ?_;refine St.dt (qL g.tv.1 g.types Y) YO (.ay rfl) rfl ?_;rintro v35 _ ⟨a,b,rfl,rfl⟩;refine St.mZ ?_;refine St.al (λV=> ?_);refine g3 ?_;refine St.join (ι:=kQ×aY×Nat×Nat×mm) (λ⟨f,sv,e,y,d0⟩ T=>(9,tW y)::T) (λ⟨f,sv,e,y,d0⟩=>(aD (aL (λx:cK=>aJ x.gr) d0.its)::tI y (ma g a b f words.length d0.fj.1 sv.1 e) 223::aU e (df mkStr d0.m)::row d0.fj.1 229 6 d0.its.length (rows eE d0.its)::row sv.1 35 1 d0.bf.length (rows bU (d0.bf.map Prod.fst))::aD (eY [gm f,sl bX g.rv.1 g.rules,aL cR g.rules,sl dT g.xv.1 g.aK,aL eO g.aK])::aD (eY [sl ax a.1 (dN (g.types.map cn)),sl ax b.1 (dM (g.types.map cn)),tz,sl bZ wv words,aJ g.start])::tI U (jj g) 32::tI H [(.slice none 0 0),iv 0,(.slice none 0 0)] 170::tI I [iv 0,iv 0] 39::tI V [a.1,b.1] 154::(bK (eR 234 3) d0.its++bK (fa 3) d0.bf))) (λ⟨f,sv,e,y,d0⟩=>wM f (dG g) (ga (g.types.map cn))∧d0.nG=sv∧ko d0∧d0.cs=(⟨[],List.replicate (words.length*(words.length+1)) []⟩:Cs)) (aC.k5 1 2 4 5 8) ?_ ?_
   ·refine St.dZ [aD (sl bX g.rv.1 g.rules),aD (aL cR g.rules),aD (sl dT g.xv.1 g.aK),aD (aL eO g.aK),aD (aJ g.start),aD (sl ax a.1 (dN (g.types.map cn))),aD (sl ax b.1 (dM (g.types.map cn))),aD (tz)] mixed (λnp ns=> ?_)
    repeat' first
     |with_reducible refine SW.me ?_
      first
       |refine SW.gd 0 ?_
        refine SW.slot 36 (gK g) rfl rfl ?_
       |refine SW.gd 1 ?_
        refine SW.slot 37 (jc a b) rfl rfl ?_
       |refine SW.gd 2 ?_
        refine SW.slot 38 (gK g) rfl rfl ?_
       |refine SW.gd 3 ?_
        refine SW.slot 39 (jc a b) rfl rfl ?_
       |refine SW.gd 5 ?_
       |refine SW.gd 6 ?_
       |refine SW.dd 9 rfl (λ_=>Ev.build (ps:=[(0,(.tmp 36)),(1,(.tmp 37)),(2,(.tmp 40)),(4,(.tmp 43)),(5,(.tmp 44))]) (bC.ae9 rfl rfl rfl rfl rfl) (λw=>vC rfl w)) ?_
        refine SW.slot 45 (.agg (ma g a b f words.length cF.1 sv.1 e).toArray) rfl rfl ?_
       |refine SW.gd 11 ?_
       |refine SW.t2 4 8 ?_ ?_
       |refine SW.t2 7 8 ?_ ?_
       |refine SW.t1 8 ?_
       |refine SW.t1 10 ?_
       |refine SW.t1 7 ?_
       |refine SW.t1 4 ?_
     |with_reducible refine SW.tg 4 ?_
      refine St.dt (TV g a b (g.types.map cn) Y (g.bh.map gj).length zE hrn hxn Uz Yw E Hc) abX (.ah rfl rfl) rfl ?_;rintro v40 _ ⟨f,rfl,A,rfl⟩;refine St.eZ ?_;refine g2 ?_;refine SW.go ?_
     |with_reducible refine SW.tg 7 ?_
      refine St.call (Ap words.length K (words.length*(words.length+1)) rfl) abY (.ay rfl) rfl ?_;rintro v43 _ ⟨sv,rfl,rfl⟩;refine St.eZ ?_;refine g2 ?_;refine SW.go ?_
     |with_reducible refine SW.tg 8 ?_
      refine St.makeMap mkStr rfl (λe=> ?_);refine g2 ?_;refine SW.go ?_
     |with_reducible refine SW.tg 10 ?_
      refine St.cW (.mk rfl) rfl (λy=> ?_);refine g2 ?_;refine SW.go ?_
    all_goals refine SW.dn ?_
    all_goals
     refine go ?_;refine St.aN sv.1 (show _=(List.replicate (words.length*(words.length+1)) ((cF,[]):aY×List Nat)).length by rw[nO,nO]) (show _=rows bU ((List.replicate (words.length*(words.length+1)) ((cF,[]):aY×List Nat)).map Prod.fst) by rw[uw]) ?_;refine St.dH 229 6 ?_;refine St.aN (.slice none 0 0) (show _=([]:List cK).length from rfl) (show _=rows eE []from rfl) ?_;refine St.ea (λx:cK=>aJ x.gr) ?_;refine St.Dm 234 3 (words.length*(words.length+1)) ?_;refine St.gW (eY [gm f,sl bX g.rv.1 g.rules,aL cR g.rules,sl dT g.xv.1 g.aK,aL eO g.aK]) [gm f,sl bX g.rv.1 g.rules,aL cR g.rules,sl dT g.xv.1 g.aK,aL eO g.aK] (λρ h=>h) ?_;refine St.gW (eY [sl ax a.1 (dN (g.types.map cn)),sl ax b.1 (dM (g.types.map cn)),tz,sl bZ wv words,aJ g.start]) [sl ax a.1 (dN (g.types.map cn)),sl ax b.1 (dM (g.types.map cn)),tz,sl bZ wv words,aJ g.start] (λρ h=>h) ?_;refine St.mE ⟨f,sv,e,y,(⟨cF,[],sv,List.replicate (words.length*(words.length+1)) (cF,[]),[]⟩:mm)⟩ ⟨A,rfl,⟨λ_ h=>(by cases h),xF.nil,.nil⟩,(by show(⟨_,_⟩:Cs)=_;rw[uw];rfl)⟩
   ·rintro ⟨f,sv,e,y,d0⟩ ⟨A,aeH,hp0,hc0⟩
    dsimp only at A aeH hp0 hc0⊢
    refine St.LO [sl ax a.1 (dN (g.types.map cn)),sl ax b.1 (dM (g.types.map cn)),tz,sl bZ wv words,aJ g.start] ?_;refine St.cast (H':=(aD (sl ax a.1 (dN (g.types.map cn)))::aD (sl ax b.1 (dM (g.types.map cn)))::aD (tz)::aD (sl bZ wv words)::aD (aJ g.start)::(aD (aL (λx:cK=>aJ x.gr) d0.its)::tI y (ma g a b f words.length d0.fj.1 sv.1 e) 223::aU e (df mkStr d0.m)::row d0.fj.1 229 6 d0.its.length (rows eE d0.its)::row sv.1 35 1 d0.bf.length (rows bU (d0.bf.map Prod.fst))::aD (eY [gm f,sl bX g.rv.1 g.rules,aL cR g.rules,sl dT g.xv.1 g.aK,aL eO g.aK])::aD (eY [sl ax a.1 (dN (g.types.map cn)),sl ax b.1 (dM (g.types.map cn)),tz,sl bZ wv words,aJ g.start])::tI U (jj g) 32::tI H [(.slice none 0 0),iv 0,(.slice none 0 0)] 170::tI I [iv 0,iv 0] 39::tI V [a.1,b.1] 154::(bK (eR 234 3) d0.its++bK (fa 3) d0.bf)))) rfl ?_;refine St.LO [gm f,sl bX g.rv.1 g.rules,aL cR g.rules,sl dT g.xv.1 g.aK,aL eO g.aK] ?_;refine St.cast (H':=(aD (gm f)::aD (sl bX g.rv.1 g.rules)::aD (aL cR g.rules)::aD (sl dT g.xv.1 g.aK)::aD (aL eO g.aK)::aD (sl ax a.1 (dN (g.types.map cn)))::aD (sl ax b.1 (dM (g.types.map cn)))::aD (tz)::aD (sl bZ wv words)::aD (aJ g.start)::aD (aL (λx:cK=>aJ x.gr) d0.its)::tI y (ma g a b f words.length d0.fj.1 sv.1 e) 223::aU e (df mkStr d0.m)::row d0.fj.1 229 6 d0.its.length (rows eE d0.its)::row sv.1 35 1 d0.bf.length (rows bU (d0.bf.map Prod.fst))::aD (eY [gm f,sl bX g.rv.1 g.rules,aL cR g.rules,sl dT g.xv.1 g.aK,aL eO g.aK])::aD (eY [sl ax a.1 (dN (g.types.map cn)),sl ax b.1 (dM (g.types.map cn)),tz,sl bZ wv words,aJ g.start])::tI U (jj g) 32::tI H [(.slice none 0 0),iv 0,(.slice none 0 0)] 170::tI I [iv 0,iv 0] 39::tI V [a.1,b.1] 154::(bK (eR 234 3) d0.its++bK (fa 3) d0.bf))) rfl ?_
    have hFn:=A.ln (by have:=s.rn;omega) (by have:=s.xn;omega) (λr M=>(s.rule r M).kids.2)
    have hQ:=Zh s (f:=f) K
    have hQs:=VY (words:=words) A (λr M=>(s.rule r M).kids.2)
    have aiO:f.nr=g.rules.length:=by rw[A.nr];exact aR _
    obtain⟨W,hW⟩:∃W,W=xH (ju f (g.types.map cn) words.length g) words words.length 1 (⟨[],List.replicate (words.length*(words.length+1)) []⟩:Cs):=⟨_,rfl⟩
    have aiH:Et (dG g) words=W.map λcs=>fH cs.its:=by unfold Et;rw[←hQs,hW]
    have l:(ek (dG g) words)=match Et (dG g) words with|none=>(([],[]),(17,-2))|some its=>((its,Me (ga (g.types.map cn)) words.length (ao g.start) its),(0,0)):=by unfold ek;rw[aA (λh=>h hg0),aA (λh=>h Z)];rfl
    rw[aiH]at l;refine g7 ?_;refine St.lH (ι:=Nat×mm) (λ⟨i,d1⟩ T=>(10,iv ((i+1:Nat):Int))::T) (λ⟨i,d1⟩=>(aD (aL (λx:cK=>aJ x.gr) d1.its)::tI y (ma g a b f words.length d1.fj.1 sv.1 e) 223::aU e (df mkStr d1.m)::row d1.fj.1 229 6 d1.its.length (rows eE d1.its)::row sv.1 35 1 d1.bf.length (rows bU (d1.bf.map Prod.fst))::aD (gm f)::aD (sl bX g.rv.1 g.rules)::aD (aL cR g.rules)::aD (sl dT g.xv.1 g.aK)::aD (aL eO g.aK)::aD (sl ax a.1 (dN (g.types.map cn)))::aD (sl ax b.1 (dM (g.types.map cn)))::aD (tz)::aD (sl bZ wv words)::aD (aJ g.start)::tI U (jj g) 32::tI H [(.slice none 0 0),iv 0,(.slice none 0 0)] 170::tI I [iv 0,iv 0] 39::tI V [a.1,b.1] 154::(bK (eR 234 3) d1.its++bK (fa 3) d1.bf))) (λ⟨i,d1⟩=>i≤words.length∧d1.nG=sv∧ko d1∧nV (g.types.map cn).length (g.bh.map gj).length words.length (i+1) 0 d1.cs∧ff (ju f (g.types.map cn) words.length g) words d1.cs∧xH (ju f (g.types.map cn) words.length g) words (words.length-i) (i+1) d1.cs=W) (λ⟨i,d1⟩=>words.length-i) ⟨0,d0⟩ (aC.k6 1 2 4 5 8 9) ⟨aP _,aeH,hp0,by rw[hc0];exact Gt,by rw[hc0];exact λit h=>(by cases h),by rw[hc0,hW];rfl⟩ ?_;rintro ⟨i,d1⟩ ⟨hi,Mp,Z1,B,N,vO⟩
    dsimp only at hi Mp Z1 B N vO⊢
    refine g9 ?_;refine St.cq (λh50=> ?_) (λh50=> ?_)
    ·have L0:i<words.length:=by omega
     rw[OS zE,show((ju f (g.types.map cn) words.length g)).n+1-(i+1)=words.length-i from(by show words.length+1-(i+1)=_;omega)]at vO;refine g10 ?_;refine St.lH (ι:=Nat×mm) (λ⟨fr,d2⟩ T=>(11,iv fr)::T) (λ⟨fr,d2⟩=>(aD (aL (λx:cK=>aJ x.gr) d2.its)::tI y (ma g a b f words.length d2.fj.1 sv.1 e) 223::aU e (df mkStr d2.m)::row d2.fj.1 229 6 d2.its.length (rows eE d2.its)::row sv.1 35 1 d2.bf.length (rows bU (d2.bf.map Prod.fst))::aD (gm f)::aD (sl bX g.rv.1 g.rules)::aD (aL cR g.rules)::aD (sl dT g.xv.1 g.aK)::aD (aL eO g.aK)::aD (sl ax a.1 (dN (g.types.map cn)))::aD (sl ax b.1 (dM (g.types.map cn)))::aD (tz)::aD (sl bZ wv words)::aD (aJ g.start)::tI U (jj g) 32::tI H [(.slice none 0 0),iv 0,(.slice none 0 0)] 170::tI I [iv 0,iv 0] 39::tI V [a.1,b.1] 154::(bK (eR 234 3) d2.its++bK (fa 3) d2.bf))) (λ⟨fr,d2⟩=>fr+i≤words.length∧d2.nG=sv∧ko d2∧nV (g.types.map cn).length (g.bh.map gj).length words.length (i+1) fr d2.cs∧ff (ju f (g.types.map cn) words.length g) words d2.cs∧(xP (ju f (g.types.map cn) words.length g) words (i+1) (words.length-i-fr) fr d2.cs).bind (λcs=>xH (ju f (g.types.map cn) words.length g) words (words.length-i-1) (i+1+1) cs)=W) (λ⟨fr,d2⟩=>words.length-fr) ⟨0,d1⟩ (aC.k7 1 2 4 5 8 9 10) ⟨by omega,Mp,Z1,B,N,vO⟩ ?_;rintro ⟨fr,d2⟩ ⟨hfr,Ah,Nz,F,O,hlen⟩
     dsimp only at hfr Ah Nz F O hlen⊢
     refine g6 ?_;refine St.slot 55 (iv ((fr+(i+1):Nat):Int)) rfl (congrArg iv (by push_cast;omega)) ?_;refine g5 ?_;refine St.cq (λh58=> ?_) (λh58=> ?_)
     ·have TD:fr+(i+1)≤words.length:=by omega
      rw[QH zE]at hlen;refine g12 ?_;refine St.slot 66 (iv ((fr+(i+1):Nat):Int)) rfl (congrArg iv (by push_cast;omega)) ?_;refine St.yW (ds:=[gm f,sl bX g.rv.1 g.rules,aL cR g.rules,sl dT g.xv.1 g.aK,aL eO g.aK,sl ax a.1 (dN (g.types.map cn)),sl ax b.1 (dM (g.types.map cn)),tz,sl bZ wv words,aL (λx:cK=>aJ x.gr) d2.its]) (L:=[tI y (ma g a b f words.length d2.fj.1 sv.1 e) 223,aU e (df mkStr d2.m),row d2.fj.1 229 6 d2.its.length (rows eE d2.its),row sv.1 35 1 d2.bf.length (rows bU (d2.bf.map Prod.fst))]) (X:=(bK (eR 234 3) d2.its++bK (fa 3) d2.bf)) (post:=λv L' X'=>∃d3:mm,d3.cs=oQ (ju f (g.types.map cn) words.length g) words fr (fr+(i+1)) d2.cs∧d3.nG=sv∧ko d3∧L'=[aD (aL (λx:cK=>aJ x.gr) d3.its),tI y (ma g a b f words.length d3.fj.1 sv.1 e) 223,aU e (df mkStr d3.m),row d3.fj.1 229 6 d3.its.length (rows eE d3.its),row sv.1 35 1 d3.bf.length (rows bU (d3.bf.map Prod.fst))]∧X'=(bK (eR 234 3) d3.its++bK (fa 3) d3.bf)) ((NW g a b (g.types.map cn) Y (g.bh.map gj).length zE f hFn words.length K y e sv wv words rfl aiO hQ Hc fr (fr+(i+1)) (i+1) zE rfl TD d2 Ah Nz F).mono (λv H' ⟨d3,J,a2,a3,a4⟩=>⟨_,_,a4,d3,J,a2,a3,rfl,rfl⟩)) abZ (.pL rfl rfl rfl rfl) rfl ?_;rintro v67 _ _ ⟨d3,J,a2,a3,rfl,rfl⟩;refine St.yP ?_;refine g12 ?_;refine St.cq (λh73=> ?_) (λh73=> ?_)
      ·rw[aB (by rw[←J,gw];omega)]at hlen
       have hWn:W=none:=hlen.symm
       rw[hWn]at l;refine g2 ?_;refine St.ee (Ev.build (bC.nil) (λw=>Cz w)) ?_;refine St.ee (Ev.build (bC.ah rfl rfl) (λw=>dJ rfl rfl w)) ?_;refine g14 ?_;refine St.gb eE ?_;refine St.ea dS ?_;refine St.gb aI ?_;refine St.rV [_,_] [aD (sl eE (.slice none 0 0) []),aD (aL dS []),aD (sl aI (.slice none 0 0) [])] ?_;exact⟨cF,cF,0,[],by rw[l];rfl,by rw[l];rfl,by rw[l];rfl⟩
      ·have hle:¬300<(oQ (ju f (g.types.map cn) words.length g) words fr (fr+(i+1)) d2.cs).its.length:=by rw[←J,gw];omega
       rw[aA hle,←J]at hlen
       have hs3:=Gv hQ (words:=words) (show 1≤i+1 by omega) TD F hle
       have hn3:=Ld hQ zE zE (show 1≤i+1 by omega) TD F O
       rw[←J]at hs3 hn3;refine g9 ?_;refine St.aH ⟨fr+1,d3⟩ ⟨by omega,a2,a3,hs3,hn3,by dsimp only;rw[show words.length-i-(fr+1)=words.length-i-fr-1 by omega];exact hlen⟩
     ·rw[show words.length-i-fr=0 by omega]at hlen
      have ad3:xH (ju f (g.types.map cn) words.length g) words (words.length-i-1) (i+1+1) d2.cs=W:=hlen
      refine g12 ?_;refine St.aH ⟨i+1,d2⟩ ⟨by omega,Ah,Nz,Lc F,O,by dsimp only;rw[show words.length-(i+1)=words.length-i-1 by omega];exact ad3⟩
    ·obtain rfl:i=words.length:=by omega
     rw[eX]at vO
     have hWs:W=some d1.cs:=vO.symm
     rw[hWs]at l;refine g13 ?_;refine St.ee (Ev.build (bC.ah rfl rfl) (λw=>IB d1.fj.2 rfl w)) ?_;refine St.slot 82 (.agg #[d1.fj.1,iv (words.length:Nat),(.slice none 0 0)]) rfl rfl ?_;refine St.al (λG=> ?_);refine g5 ?_
     have aiK:=B.BW
     rw[gw]at aiK;refine St.af9 (bK (eR 234 3) (d1.its)) (bK (fa 3) d1.bf) ?_;refine St.yW (ds:=[aL (λx:cK=>aJ x.gr) d1.its]) (L:=[tI G [d1.fj.1,iv (words.length:Nat),(.slice none 0 0)] 170,row d1.fj.1 229 6 d1.its.length (rows eE d1.its)]) (X:=bK (eR 234 3) (d1.its)) (post:=λv L' X'=>∃(p:aY) (d:List cK),d.map dW=fH (d1.its.map dW)∧L'=[tI G [p.1,iv (words.length:Nat),(.slice none 0 0)] 170,aD (sl eE p.1 d),aD (aL dS d)]∧X'=[]) ((NV G words.length d1.fj d1.its Z1.nd zE (WD hQ B N)).mono (λv H' ⟨p,d,J,a2⟩=>⟨[_,_,_],[],a2,p,d,J,rfl,rfl⟩)) ab0 (.ay rfl) rfl ?_;rintro v83 _ _ ⟨p,d,F,rfl,rfl⟩;refine St.Tf ?_;refine St.wf p.1 (λ_ hl2=> ?_);refine g12 ?_;refine St.dH 3 1 ?_;refine St.aN (.slice none 0 0) (show _=([]:List Nat).length from rfl) (show _=rows aI (bx [])from rfl) ?_
     have hl3:d.length≤300:=by have h:=congrArg List.length F;rw[aR]at h;unfold fH at h;rw[aR]at h;have h2:(jB (d1.its.map dW)).length=_:=(kK _ _).length_eq;rw[db,aR]at h2;omega
     refine St.lH (ι:=Nat×aY×List Nat) (λ⟨k,C,j⟩ T=>(87,iv k)::T) (λ⟨k,C,j⟩=>(row C.1 3 1 (j).length (rows aI (bx (j)))::tI G [p.1,iv (words.length:Nat),C.1] 170::aD (sl eE p.1 d)::aD (aL dS d)::aD (gm f)::aD (sl bX g.rv.1 g.rules)::aD (aL cR g.rules)::aD (sl dT g.xv.1 g.aK)::aD (aL eO g.aK)::aD (sl ax a.1 (dN (g.types.map cn)))::aD (sl ax b.1 (dM (g.types.map cn)))::aD (tz)::aD (sl bZ wv words)::aD (aJ g.start)::tI U (jj g) 32::tI H [(.slice none 0 0),iv 0,(.slice none 0 0)] 170::tI I [iv 0,iv 0] 39::tI V [a.1,b.1] 154::[])) (λ⟨k,C,j⟩=>k≤d.length∧j=((List.range (k)).filter λi=>decide ((((d.map dW)).getD i er).ed.frm=0)&&decide ((((d.map dW)).getD i er).ed.tqo=words.length)&&(dE (ga (g.types.map cn)) (((d.map dW)).getD i er).ed.gr 0 (ao g.start)).isSome)) (λ⟨k,C,j⟩=>d.length-k) ⟨0,cF,[]⟩ (aC.k7 2 4 5 8 12 85 86) ⟨aP _,rfl⟩ ?_;rintro ⟨k,C,j⟩ ⟨hk,o⟩
     dsimp only at hk o⊢
     have akP:j.length≤k:=by rw[o];exact cz (AJ _ _) (Nat.le_of_eq db)
     refine g6 ?_;refine St.cq (λh88=> ?_) (λh88=> ?_)
     ·obtain⟨x,hx⟩:=aF (show k<d.length by omega)
      have P:(d.map dW).getD k er=dW x:=by rw[aZ,aw,hx];rfl
      obtain⟨_,_,_,Ir,Bd⟩:=Zq B.ok (it:=dW x) (by show _∈fH (d1.its.map dW);rw[←F];exact di (aa hx))
      have Bd:x.gr.nodes.length≤60:=by rw[←cj];exact Bd
      have hsx:=fi (g:=x.gr) Ir zE
      have hss:=fi E.1 zE
      refine St.cN dS d (x:=x) (aa hx) ?_;refine St.gW (aJ x.gr) [dS x] (λρ h=>h (dS x) (aV ..) (aJ x.gr) (aV ..)) ?_;refine g8 ?_;refine St.ee (Ev.N7 (Rr:=eE) (sz:=6) (.mk rfl) hx underlying229 trivial oV (by decide) (by decide)) ?_;refine St.slot 91 (.agg #[iv (x.frm:Nat),iv (x.tqo:Nat),iv (x.cV:Nat),x.gr.nv.1,x.wv.1,x.tv.1]) rfl rfl ?_;refine St.al (λT7=> ?_);refine g11 ?_;refine St.gt _ rfl rfl (λD=>Ev.cB (.mk rfl) tj) rfl ?_;refine St.gt _ rfl rfl (λD=>Ev.Yg (aX.gv rfl D) DR) rfl ?_;refine St.gt _ rfl rfl (λD=>Ev.gh (aX.gv rfl D) eK trivial (by rfl)) rfl ?_;refine St.gt _ rfl rfl (λD=>Ev.cB (.mk rfl) Ue) rfl ?_;refine St.gt _ rfl rfl (λD=>Ev.gh (aX.gv rfl D) eK trivial (by rfl)) rfl ?_;refine St.gt _ rfl rfl (λD=>Ev.eql (aX.gv rfl D) (aX.gv rfl D)) rfl ?_;refine g3 ?_;refine St.cq (λIl=> ?_) (λIl=> ?_)
      ·have e1:(dW x).ed.frm=0:=(show x.frm=0 by omega)
       have e2:(dW x).ed.tqo=words.length:=(show x.tqo=words.length by omega)
       refine g3 ?_;refine St.slot 105 (jc a b) rfl rfl ?_;refine g2 ?_;refine St.ee (Ev.iz 1 (.mk rfl) mh trivial jk rfl rfl) ?_;refine St.slot 108 (au x.gr) rfl rfl ?_;refine go ?_;refine St.ee (Ev.iz 1 (.mk rfl) mh trivial jk rfl rfl) ?_;refine St.slot 110 (au g.start) rfl rfl ?_;refine St.dt (qy a b (g.types.map cn) Y (g.bh.map gj).length zE x.gr g.start Ir E.1 Bd E.2 (λt ht=>by have:=(hsx t ht).2;omega) (λt ht=>by have:=(hss t ht).2;omega) 0 (by have:=Ir.pos;rw[show(dW x).ed.gr=ao x.gr from rfl,cj]at this;exact this)) KU (.pL rfl rfl rfl rfl) rfl ?_;rintro Ni _ ⟨u,rfl,rfl⟩;refine St.eZ ?_;refine St.cY ((dE (ga (g.types.map cn)) (ao x.gr) 0 (ao g.start)).getD []) u (λz hz=> ?_);obtain⟨rfl,hzE⟩:=hz;refine g3 ?_;refine St.al (λb15=> ?_);refine g9 ?_;refine St.cond _ rfl (λYo=> ?_) (λYo=> ?_)
       ·skip
        have Uw:(dE (ga (g.types.map cn)) (dW x).ed.gr 0 (ao g.start)).isSome=true:=Yo
        refine g4 ?_;refine St.hS rfl (.ay rfl) cP eL jF rfl rfl (by simp[Value.cells]) rfl rfl (λakD=> ?_);refine St.aq (.mk rfl) (.mk rfl) cP eL jF vD (by simp[Value.oneCell',Value.cells]) zE zE rfl rfl rfl rfl (λQ aj3=> ?_);refine St.aN Q (show _=(j++ [k]).length by rw[bJ];rfl) (show _=rows aI (bx (j++ [k])) by rw[kG,bB];rfl) ?_;refine St.bQ Q (λadH _=> ?_);refine go ?_;refine St.bL (.mk rfl) (.mk rfl) jm adH (by rfl) ?_;refine g8 ?_;refine St.aH ⟨k+1,⟨Q,adH⟩,j++ [k]⟩ ⟨by omega,by rw[yu,←o,P,dI e1,dI e2,Uw,aB (by decide)]⟩
       ·skip
        have Uw:(dE (ga (g.types.map cn)) (dW x).ed.gr 0 (ao g.start)).isSome=false:=Yo
        refine g8 ?_;refine St.aH ⟨k+1,C,j⟩ ⟨by omega,by rw[yu,←o,P,Uw,Bool.and_false,aA (by decide)];exact(fV _).symm⟩
      ·have TH:(decide ((dW x).ed.frm=0)&&decide ((dW x).ed.tqo=words.length))=false:=by by_cases e1:x.frm=0;rw[e9 (show ¬(dW x).ed.tqo=words.length from(show ¬x.tqo=words.length by omega)),Bool.and_false];rw[e9 (show ¬(dW x).ed.frm=0 from e1),Bool.false_and]
       refine g8 ?_;refine St.aH ⟨k+1,C,j⟩ ⟨by omega,by rw[yu,←o,P,TH,Bool.false_and,aA (by decide)];exact(fV _).symm⟩
     ·obtain rfl:k=d.length:=by omega
      obtain⟨⟨R,hfv⟩,Pz⟩:∃z,z=C:=⟨C,rfl⟩
      subst Pz;refine St.bI R aI (bx j) rfl (du _).symm (λz hz=>by obtain⟨q,hq,rfl⟩:=cA.1 hz;rw[o]at hq;have:=cU.1 (po.1 hq).1;show bR (q:Int);unfold bR;omega) ?_
      have S:(ek (dG g) words)=((d.map dW,j),(0,0)):=by rw[l];show((fH d1.cs.its,Me (ga (g.types.map cn)) words.length (ao g.start) (fH d1.cs.its)),((0:Int),(0:Int)))=_;rw[show fH d1.cs.its=d.map dW from F.symm,o];unfold Me;rw[aR]
      refine g8 ?_;refine St.ee (Ev.build (bC.nil) (λw=>fC w)) ?_;refine St.sA (.mk rfl) (.mk rfl) S0 ?_ (h1:=(by simp only[List.all_cons,List.all_nil,Bool.and_true,Bool.and_eq_true];exact⟨p.2,rfl,hfv⟩));refine g4 ?_;refine St.rV [_,_] [aD (sl eE p.1 d),aD (aL dS d),aD (sl aI R (bx j))] ?_;exact⟨p,⟨R,hfv⟩,words.length,d,by rw[S];rfl,by rw[S],by rw[S]⟩
theorem Rc {α:Type}{l:List α}{i:Nat}{x:α}(h:l[i]?=some x):l.set i x=l:=by
 obtain⟨a,rfl⟩:=eh.1 h;exact List.set_getElem_self a
mutual
theorem Ri {g:ep}(hx:g.aK.length≤1000):∀t:dA,B3 g t=true→WS g t=true→HY t
 | .mk r l ks,h,k=>by
  rw[B3]at h;rw[WS]at k
  by_cases c:r<0
  ·rw[aB c]at h k
   simp only[Bool.and_eq_true,decide_eq_true_eq]at h k
   obtain⟨h1,a⟩:=h;obtain⟨⟨b,d⟩,k3⟩:=k;obtain rfl:=List.length_eq_zero_iff.1 k3;exact .mk zE (λt ht=>by cases ht)
  ·rw[aA c]at h k
   simp only[Bool.and_eq_true,decide_eq_true_eq]at h k
   obtain⟨h1,a⟩:=h;obtain⟨⟨⟨b,d⟩,k3⟩,e⟩:=k;exact .mk zE (Lb hx ks a e)
theorem Lb {g:ep}(hx:g.aK.length≤1000):∀l:List dA,ub g l=true→I6 g l=true→∀t∈l,HY t
 | [],_,_,t,ht=>by cases ht
 |s::l,h,k,t,ht=>by
  rw[ub,pV]at h;rw[I6,pV]at k
  rcases bT.1 ht with e|ht
  ·rw[e];exact Ri hx s h.1 k.1
  ·exact Lb hx l h.2 k.2 t ht
end
abbrev CmT (G:ep)(t:dA):Prop:=B3 G t=true∧qE t≤1000∧HY t∧px t
theorem ZK (e:Nat)(c:ei)(uv f g:aY)(hw:T6 (dG c)){outs:List bH}(i:∀t∈outs,CmT (dG c) (aM t)):∀a∈outs,∀b∈outs,
 cX prog 79 ([Value.agg (bP.cells a).toArray,Value.agg (bP.cells b).toArray]++ [tW e]).toArray [ir e [c.tv.1,c.fv.1,c.rv.1,c.xv.1,c.start.nv.1,uv.1,f.1,g.1],eD c,aL ae outs] (.int .i64 (xR (dG c) (aM a) (aM b))):=λa j b l=>by
 obtain⟨m,a2,a3,a4⟩:=i a j;obtain⟨n,o,p,q⟩:=i b l
 have h:cX prog 79 ([eG a,eG b]++ [tW e]).toArray [ir e [c.tv.1,c.fv.1,c.rv.1,c.xv.1,c.start.nv.1,uv.1,f.1,g.1],eD c,ae a,ae b] (iv (xR (dG c) (aM a) (aM b))):=(yJ e c uv f g hw a b m n a2 o a3 p a4 q).mono λv H k=>k.1
 refine h.ny λρ k d hd=> ?_
 simp only[List.mem_cons,List.not_mem_nil,or_false]at hd
 rcases hd with rfl|rfl|rfl|rfl
 ·exact k _ (by simp)
 ·exact k _ (by simp)
 ·exact k (aL ae outs) (by simp) a j
 ·exact k (aL ae outs) (by simp) b l
def allI (its:List cK)(full:List Nat):List dA:=full.flatMap (s9 its)
def H9 (G:ep)(its:List cK)(full:List Nat):List dA×(Int×Int):=if 200<(allI its full).length then([],(17,-1))else(Gw (xR G) (allI its full),(0,0))
theorem Eg {its:List cK}{full:List Nat}{k q:Nat}(h:full[k]?=some q):allI its (full.take (k+1))=allI its (full.take k)++s9 its q:=by unfold allI;rw[aO h,pk];simp
theorem YB {its:List cK}{full:List Nat}(k:Nat):(allI its (full.take k)).length≤(allI its full).length:=by
 have h:allI its full=allI its (full.take k)++allI its (full.drop k):=by unfold allI;rw[←pk,jN]
 rw[h,bJ];omega
theorem Jl (b:Nat)(a:ei)(uv d e c:aY)(hw:T6 (dG a)){outs:List bH}(g:∀t∈outs,CmT (dG a) (aM t))(h:outs.length≤1000):
 dR prog 78 [c.1,.func (.func 79) #[] [tW b].toArray].toArray ([ir b [a.tv.1,a.fv.1,a.rv.1,a.xv.1,a.start.nv.1,uv.1,d.1,e.1],eD a,aL ae outs].map aD++ [row c.1 51 3 outs.length (rows bP outs)])
  (λu H'=>u= .tuple #[]∧∃f:List bH,f.Perm outs∧f.map aM=Gw (xR (dG a)) (outs.map aM)∧H'=[row c.1 51 3 outs.length (rows bP f)]):=
 Ax Tryz.xO bP Tryz.isAgg51 Tryz.sizeOf51 aM (xR (dG a)) (zS _) 79 ahO [tW b] [ir b [a.tv.1,a.fv.1,a.rv.1,a.xv.1,a.start.nv.1,uv.1,d.1,e.1],eD a,aL ae outs] outs (ZK b a uv d e hw g) c.1 51 zE
theorem EY (a:ei)(uv f j:aY)(its:List cK)(full C:List Nat)(R X:List Int)(E:qG ⟨its.map dW,R,X⟩)(hw:mq (its.map dW))(U:its.length≤300)(V:xD its C)(W:∀i,i<its.length→C[i]?=some (p8 its i))(y:∀i∈full,i<its.length)(Y:T6 (dG a))(F:∀e,e<its.length→∀t∈s9 its e,CmT (dG a) t):
 dR prog 36 #[.agg #[a.tv.1,a.fv.1,a.rv.1,a.xv.1,a.start.nv.1,uv.1,f.1,j.1]] ([sl eE uv.1 its,aL dS its,sl aI f.1 (bx full),sl aI j.1 (bx C),eD a].map aD) (λv H'=>∃(d:aY) (outs:List bH),v= .tuple #[d.1,fv (H9 (dG a) its full).2]∧outs.map aM=(H9 (dG a) its full).1∧H'=[aD (sl bP d.1 outs),aD (aL ae outs)]):=by
 refine dR.body (args:=[.agg #[a.tv.1,a.fv.1,a.rv.1,a.xv.1,a.start.nv.1,uv.1,f.1,j.1]]) 44 func36 rfl ntmps36 rfl (λc=> ?_);refine go ?_;refine St.cast (H':=[aD (sl eE uv.1 its),aD (aL dS its),aD (sl aI f.1 (bx full)),aD (sl aI j.1 (bx C)),aD (eD a)]) rfl ?_;refine St.wf f.1 (λ_ TD=> ?_)
 have Pu:=du full
 have Z:dU=1099511627776:=rfl
 have hct:UK its full=min (allI its full).length dU:=UL E hw full y
 refine go ?_;refine St.cW (.mk rfl) rfl (λA=> ?_);refine go ?_;refine St.al (λM=> ?_);refine g6 ?_;refine St.slot 8 (.agg #[a.tv.1,a.fv.1,a.rv.1,a.xv.1,a.start.nv.1,uv.1,f.1,j.1]) rfl rfl ?_;refine St.ee (Ev.call (Hk a uv f j its full C V W y) ahM (.ay rfl)) ?_;refine g3 ?_;refine St.cq (λh10=> ?_) (λh10=> ?_)
 ·have s:(H9 (dG a) its full)=([],(17,-1)):=by unfold H9;rw[aB zE]
  refine g2 ?_;refine St.ee (Ev.build (bC.ah rfl rfl) (λw=>dJ rfl rfl w)) ?_;refine g6 ?_;refine St.gb bP ?_;refine St.ea ae ?_;refine St.rV [_,_] [aD (sl bP (.slice none 0 0) []),aD (aL ae [])] ?_;exact⟨cF,[],by rw[s];rfl,by rw[s];rfl,rfl⟩
 ·have hal:(allI its full).length≤200:=by omega
  have s:(H9 (dG a) its full)=(Gw (xR (dG a)) (allI its full),(0,0)):=by unfold H9;rw[aA zE]
  refine g17 ?_;refine St.dH 51 3 ?_;refine St.aN (.slice none 0 0) (show _=([]:List bH).length from rfl) (show _=rows bP []from rfl) ?_;refine St.ea ae ?_;refine St.lH (ι:=Nat×aY×List bH) (λ⟨k,d,outs⟩ T=>(15,iv k)::(4,d.1)::T) (λ⟨k,d,outs⟩=>[row d.1 51 3 (outs).length (rows bP (outs)),aD (aL ae outs),tI A [a.tv.1,a.fv.1,a.rv.1,a.xv.1,a.start.nv.1,uv.1,f.1,j.1] 109,tI M [iv 0,iv 0] 39,aD (sl eE uv.1 its),aD (aL dS its),aD (sl aI f.1 (bx full)),aD (sl aI j.1 (bx C)),aD (eD a)]) (λ⟨k,d,outs⟩=>k≤full.length∧outs.map aM=allI its (full.take k)∧∀t∈outs,bP.wf t) (λ⟨k,d,outs⟩=>full.length-k) ⟨0,cF,[]⟩ (aC.k5 1 2 3 13 14) ⟨aP _,rfl,λt ht=>by cases ht⟩ ?_;rintro ⟨k,d,outs⟩ ⟨hk,p,n⟩
  dsimp only at hk p n⊢
  have N:=congrArg List.length p
  rw[aR]at N;refine g6 ?_;refine St.cq (λh16=> ?_) (λh16=> ?_)
  ·obtain⟨q,B⟩:=aF (show k<full.length by omega)
   have O:=y q (aa B)
   have hle:=YB (its:=its) (full:=full) (k+1)
   rw[Eg B,bJ]at hle;refine g7 ?_;refine St.ee (Ev.ld1 (.mk rfl) (iZ B) eK trivial rfl) ?_;refine g6 ?_;refine St.slot 20 (.agg #[a.tv.1,a.fv.1,a.rv.1,a.xv.1,a.start.nv.1,uv.1,f.1,j.1]) rfl rfl ?_;refine go ?_;refine St.dt (N8 a uv f j its R X E hw U 60 q O (E.ht q (by show q<(its.map dW).length;rw[aR];exact O)) zE) ac2 (.ah rfl rfl) rfl ?_;rintro v22 _ ⟨lv,ls,rfl,P,rfl⟩;refine St.mZ ?_;refine St.wf lv.1 (λG _=> ?_)
   have hll:=congrArg List.length P
   rw[aR]at hll;refine St.oA (.mk rfl) (.mk rfl) ug mP EO Ou (mJ _ _) zE zE rfl rfl trivial rfl (λv23 ak9=> ?_);refine St.XX v23 3 rfl ?_;refine St.aN v23 (show _=(outs++ls).length by rw[bJ]) (show _=rows bP (outs++ls) by unfold rows;rw[pk]) ?_;refine St.bQ v23 (λh23 _=> ?_);refine St.gW (aL ae (outs++ls)) [aL ae outs,aL ae ls] (λρ h z hz=>(cI.1 hz).elim (h (aL ae outs) (aV ..) z) (h (aL ae ls) (bV _ (aV ..)) z)) ?_;refine g9 ?_;refine St.aH ⟨k+1,⟨v23,h23⟩,outs++ls⟩ ⟨by dsimp only;omega,by dsimp only;rw[cL,p,P,Eg B],λt ht=>(cI.1 ht).elim (n t) (G t)⟩
  ·obtain rfl:k=full.length:=by omega
   rw[fW]at p N
   have Q:∀t∈outs,CmT (dG a) (aM t):=λt ht=>by
    have hm:aM t∈allI its full:=by rw[←p];exact di ht
    obtain⟨e,he,h⟩:=List.mem_flatMap.1 hm;exact F e (y e he) _ h
   refine St.vb A ?_;refine g8 ?_;refine St.ee (Ev.func (.ay rfl)) ?_;refine St.IH (ds:=[ir A [a.tv.1,a.fv.1,a.rv.1,a.xv.1,a.start.nv.1,uv.1,f.1,j.1],eD a,aL ae outs]) (L:=[row d.1 51 3 (outs).length (rows bP (outs))]) (Jl A a uv f j d Y Q zE) ahN (.ah rfl rfl) rfl ?_;rintro v27 _ ⟨rfl,l,D,u,rfl⟩;refine St.eZ ?_;rw[p]at u
   have H:=D.length_eq
   refine St.aN d.1 (show _=l.length from H.symm) (show _=rows bP l from rfl) ?_;refine St.gW (aL ae l) [aL ae outs] (λρ h z hz=>h (aL ae outs) (aV ..) z (D.mem_iff.1 hz)) ?_
   have I:∀t∈l,bP.wf t:=λt ht=>n t (D.mem_iff.1 ht)
   have J:∀t∈l,px (aM t):=λt ht=>(Q t (D.mem_iff.1 ht)).2.2.2
   refine g11 ?_;refine St.lH (ι:=Nat×List bH) (λ⟨i,b⟩ T=>(30,iv i)::T) (λ⟨i,b⟩=>[row d.1 51 3 (b).length (rows bP (b)),aD (aL ae b),tI M [iv 0,iv 0] 39]) (λ⟨i,b⟩=>i≤b.length∧b.map aM=l.map aM∧b.length=l.length∧(∀t∈b,bP.wf t)∧∀t∈b,px (aM t)) (λ⟨i,b⟩=>l.length-i) ⟨0,l⟩ (aC.k4 2 3 4 29) ⟨aP _,rfl,rfl,I,J⟩ ?_;rintro ⟨i,b⟩ ⟨hi,K,S,g,m⟩
   dsimp only at hi K S g m⊢
   refine g6 ?_;refine St.cq (λh31=> ?_) (λh31=> ?_)
   ·obtain⟨x,hx⟩:=aF (show i<b.length by omega)
    have r:=aa hx
    refine St.cN ae b (x:=x) r ?_;refine g16 ?_;refine St.ee (Ev.J7 (Rr:=bP) (sz:=3) (.mk rfl) hx A9 trivial mP zE (by decide) (by decide)) ?_;refine St.slot 38 (eG x) rfl rfl ?_;refine St.dt (EX x (g x r) (m x r)) ac3 (.ay rfl) rfl ?_;rintro v39 _ ⟨z,rfl,hz,rfl⟩;refine St.eZ ?_;refine go ?_;refine St.Gx (Rr:=bP) (show bP.size=3 from rfl) z (.mk rfl) (.mk rfl) mP zE zE ?_;refine St.aN d.1 (show _=(b.set i z).length from eC.symm) (show _=rows bP (b.set i z)from rfl) ?_;refine St.gW (aL ae (b.set i z)) [aL ae b,ae z] (λρ h t ht=>(nP ht).elim (h (aL ae b) (aV ..) t) (λe=>by rw[e];exact h (ae z) (bV _ (aV ..)))) ?_;refine g8 ?_;refine St.aH ⟨i+1,b.set i z⟩ ⟨by dsimp only;rw[eC];omega,by dsimp only;rw[k9,hz,←K];exact Rc (by rw[aw,hx];rfl),by dsimp only;rw[eC];exact S,λt ht=>(nP ht).elim (g t) (λh=>by rw[h];exact⟨by rw[(A4 hz).1];exact(g x r).1,by rw[(A4 hz).2];exact(g x r).2⟩),λt ht=>(nP ht).elim (m t) (λh=>by rw[h,hz];exact m x r)⟩
   ·obtain⟨⟨o,hov⟩,Pz⟩:∃z,z=d:=⟨d,rfl⟩
    subst Pz;refine St.bI o bP b rfl rfl g ?_;refine g8 ?_;refine St.ee (Ev.build (bC.nil) (λw=>fC w)) ?_;refine g5 ?_;refine St.rV [_,_] [aD (sl bP o b),aD (aL ae b)] ?_;exact⟨⟨o,hov⟩,b,by rw[s];rfl,by rw[s,K,u],rfl⟩
theorem Ho (a b:aY)(m:Int):cX prog 74 #[.agg #[a.1,iv m,b.1]] [] (.tuple #[a.1,b.1]):=by
 refine cX.l5 (args:=[.agg #[a.1,iv m,b.1]]) 8 func74 rfl ntmps74 rfl (λc=> ?_);refine g2 ?_;refine St.cW (.mk rfl) rfl (λd=> ?_);refine g5 ?_;refine St.qe [] mixed (λe f=> ?_);refine SW.gd 0 ?_;refine SW.gd 1 ?_;refine SW.gd 2 ?_;refine SW.gd 3 ?_;refine SW.gd 4 ?_;refine SW.gd 5 ?_;refine SW.dn ?_;refine g2 ?_;refine St.rV [_,_] [] ?_;rfl
theorem ac9 {g:ei}{words:List ab}{its:List cK}(c:(ek (dG g) words).2.1=0)(d:its.map dW=(ek (dG g) words).1.1):∃R X:List Int,qG ⟨its.map dW,R,X⟩∧mq (its.map dW)∧its.length≤300∧(∀i∈(ek (dG g) words).1.2,i<its.length)∧EZ (dG g)∧∀e,e<its.length→∀t∈s9 its e,Y2 (dG g) t:=by
 have a:=(Dx c).1
 rw[←d]at a
 have b:(its.map dW).length=its.length:=aR _
 refine⟨_,_,a.bs,a.bb,by rw[←b];exact a.BW,λi f=>by rw[←b];exact(a.ful i f).1,a.gd,λe he t ht=>Pb a 60 (by rw[b];exact he) ht⟩
theorem UN (its:List cK):xD its (List.replicate its.length 0):=⟨nO,λi c a=> .inl (List.eq_of_mem_replicate (aa a))⟩
theorem NF (m:Nat):bx (List.replicate m 0)=List.replicate m 0:=by rw[bx,uw];rfl
theorem ac6 {R X:List Int}{its:List cK}{C:List Nat}(d:qG ⟨its.map dW,R,X⟩)(hw:mq (its.map dW))(h:xD its C):∀z∈bx C,aI.wf z:=λz hz=>by
 obtain⟨c,e,rfl⟩:=cA.1 hz;obtain⟨i,a⟩:=List.mem_iff_getElem?.1 e
 have b:=ag a
 rw[h.len]at b
 have g:=DB d hw b
 have f:dU=1099511627776:=rfl
 show bR (c:Int)
 unfold bR
 rcases h.ok i c a with h1|h1<;>omega
theorem UM {its:List cK}{C C3:List Nat}{k:Nat}(a:∀i,i<k→C[i]?=some (p8 its i))(hle:tG C C3)(b:C3[k]?=some (p8 its k))(c:∀i,i<k→p8 its i≠0):∀i,i<k+1→C3[i]?=some (p8 its i):=λi d=>by
 rcases cJ i k with h|h
 ·exact hle i _ (a i h) (c i h)
 ·obtain rfl:i=k:=by omega
  exact b
abbrev foV (a:ei)(uv b c:aY):Value:= .agg #[a.tv.1,a.fv.1,a.rv.1,a.xv.1,a.start.nv.1,uv.1,b.1,c.1]
theorem Hh (g:ei)(wv:Value)(words:List ab):AK prog 35 #[gK g,wv] ([eD g,sl bZ wv words,tz,u8].map aD) (λv H'=>∃(s:ei) (uv t u:aY),v= .tuple #[foV s uv t u,fv (ek (dG g) words).2]∧((ek (dG g) words).2.1=0→∃(rv xv:aY) (its:List cK) (C:List Nat),s=(Dc g rv xv)∧its.map dW=(ek (dG g) words).1.1∧xD its C∧(∀i,i<its.length→C[i]?=some (p8 its i))∧H'=[aD (sl eE uv.1 its),aD (aL dS its),aD (sl aI t.1 (bx (ek (dG g) words).1.2)),aD (sl aI u.1 (bx C)),aD (eD (Dc g rv xv))])):=by
 refine AK.body (args:=[gK g,wv]) 47 func35 rfl ntmps35 rfl (λc D=> ?_);refine St.cast (H':=[aD (eD g),aD (sl bZ wv words),aD (tz),aD (u8)]) rfl ?_;refine g2 ?_;refine St.cW (.mk rfl) rfl (λQ=> ?_);refine St.al (λx=> ?_);refine St.al (λy=> ?_);refine g5 ?_;refine St.slot 11 (gK g) rfl rfl ?_;refine go ?_;refine St.p7 D (R4 g wv words) ahJ (.ah rfl rfl) rfl ?_;rintro E H2 ⟨a,b,m,its,rfl,z,rfl⟩;refine St.Tf ?_;refine g3 ?_;refine St.al (λS=> ?_);refine St.al (λU=> ?_);refine g12 ?_;refine St.cq (λA=> ?_) (λA=> ?_)
 ·refine go ?_
  refine St.qe [x,y] mixed (λV W=> ?_);refine SW.dd 0 rfl (λ_=>Ev.build (ps:=[]) (bC.nil) (λw=>Tm w)) ?_;refine SW.gd 1 ?_;refine SW.slot 20 (fv (ek (dG g) words).2) rfl rfl ?_;refine SW.t1 2 ?_;refine g3 ?_;refine SW.go ?_;refine SW.t1 3 ?_;refine g3 ?_;refine SW.go ?_;refine SW.dn ?_;refine g3 ?_;refine St.rV [_,_] [] ?_;exact⟨⟨cF,[],cF,[],cF,[],cF,[],⟨cF,[]⟩⟩,cF,cF,cF,rfl,λh=>absurd h A⟩
 ·have e:(ek (dG g) words).2.1=0:=by omega
  obtain⟨F,n,G⟩:=Dx e;obtain⟨R,X,j,hw,H,I,B,J⟩:=ac9 e z
  have K:g.rules.length≤40:=by have h:(g.rules.map l8).length≤40:=B.rn;rwa[aR]at h
  have o:g.aK.length≤100:=by have h:(g.aK.map qD).length≤100:=B.xn;rwa[aR]at h
  refine g5 ?_;refine St.slot 21 (gK g) rfl rfl ?_;refine St.dt (EL g K o) ahK (.ay rfl) rfl ?_;rintro v22 _ ⟨rv,xv,rfl,rfl⟩;refine St.eZ ?_;refine St.slot 22 (.agg #[(.slice none 0 0),(.slice none 0 0),rv.1,xv.1,(.slice none 0 0)]) rfl rfl ?_;refine St.ee (Ev.build (bC.ay rfl) (λw=>Oe w)) ?_;refine St.al (λl=> ?_);refine g6 ?_;refine St.slot 25 (.agg #[a.1,iv (m:Nat),b.1]) rfl rfl ?_;refine St.ee (Ev.call (Ho a b m) ahL (.ay rfl)) ?_;refine g4 ?_;refine St.bL (.mk rfl) (.mk rfl) Lj a.2 (by rfl) ?_;refine go ?_;refine St.bL (.mk rfl) (.mk rfl) jm b.2 (by rfl) ?_;refine g7 ?_;refine St.kr (m:=its.length) (.mk rfl) (.mk rfl) cP eL jF vD rfl rfl zE rfl rfl (λd=> ?_);refine St.aN (tO d its.length its.length) (show _=its.length from rfl) (show _=rows aI (bx (List.replicate its.length 0)) by rw[NF,ez,uw]) ?_;refine go ?_;refine St.bL (.mk rfl) (.mk rfl) jm (by rfl) (by rfl) ?_;refine St.vb l ?_;refine g6 ?_;refine St.ee (Ev.u9 (.mk rfl) oX trivial rfl) ?_;refine g5 ?_;refine St.lH (ι:=Nat×List Nat) (λ⟨k,C⟩ T=>(39,iv k)::T) (λ⟨k,C⟩=>[row (tO d its.length its.length) 3 1 its.length (rows aI (bx C)),aD (ir l [(.slice none 0 0),(.slice none 0 0),rv.1,xv.1,(.slice none 0 0),a.1,b.1,tO d its.length its.length]),aD (sl eE a.1 its),aD (aL dS its),aD (sl aI b.1 (bx (ek (dG g) words).1.2)),aD (eD (Dc g rv xv)),tI x [(.slice none 0 0),(.slice none 0 0),(.slice none 0 0),(.slice none 0 0),(.slice none 0 0),(.slice none 0 0),(.slice none 0 0),(.slice none 0 0)] 109,tI y [iv 0,iv 0] 39]) (λ⟨k,C⟩=>k≤its.length∧xD its C∧∀i,i<k→C[i]?=some (p8 its i)) (λ⟨k,C⟩=>its.length-k) ⟨0,List.replicate its.length 0⟩ (aC.k4 4 5 8 38) ⟨aP _,UN its,λi M=>by omega⟩ ?_;rintro ⟨k,C⟩ ⟨hk,f,p⟩
  dsimp only at hk f p⊢
  refine g6 ?_;refine St.cq (λN=> ?_) (λN=> ?_)
  ·refine g12 ?_
   refine St.IH (ds:=[ir l [(.slice none 0 0),(.slice none 0 0),rv.1,xv.1,(.slice none 0 0),a.1,b.1,tO d its.length its.length],sl eE a.1 its,aL dS its]) (L:=[row (tO d its.length its.length) 3 1 its.length (rows aI (bx C))]) (FB l (Dc g rv xv) a b ⟨tO d its.length its.length,rfl⟩ its R X j hw H 60 k C zE (j.ht k (by show k<(its.map dW).length;rw[aR];omega)) f) ac1 (.ah rfl rfl) rfl ?_;rintro O _ ⟨C3,rfl,q,r,P,rfl⟩;refine St.eZ ?_;refine g8 ?_;refine St.aH ⟨k+1,C3⟩ ⟨by dsimp only;omega,q,UM p r P (λi M=>by have:=DB j hw (show i<its.length by omega);omega)⟩
  ·obtain rfl:k=its.length:=by omega
   refine St.bI (tO d its.length its.length) aI (bx C) rfl (by rw[du,f.len]) (ac6 j hw f) ?_;refine g7 ?_;refine St.ee (Ev.J6 (.mk rfl) underlying109 trivial (by exact Rz)) ?_;refine St.slot 45 (foV (Dc g rv xv) a b ⟨tO d its.length its.length,rfl⟩) rfl rfl ?_;refine St.ee (Ev.build (bC.nil) (λw=>fC w)) ?_;refine g5 ?_;refine St.rV [_,_] [aD (sl eE a.1 its),aD (aL dS its),aD (sl aI b.1 (bx (ek (dG g) words).1.2)),aD (sl aI (tO d its.length its.length) (bx C)),aD (eD (Dc g rv xv))] ?_;exact⟨(Dc g rv xv),a,b,⟨tO d its.length its.length,rfl⟩,by rw[n];rfl,λ_=>⟨rv,xv,its,C,rfl,z,f,p,rfl⟩⟩
theorem wO (g:ei)(wv:Value)(words:List ab):AK prog 7 #[gK g,wv] ([eD g,sl bZ wv words,tz,u8].map aD) (λv H'=>∃(b:aY) (outs:List bH),v= .tuple #[b.1,fv (lG (dG g) words).2]∧outs.map aM=(lG (dG g) words).1∧H'=[aD (sl bP b.1 outs),aD (aL ae outs)]):=by
 refine AK.body (args:=[gK g,wv]) 22 func7 rfl ntmps7 rfl (λc q=> ?_);refine St.cast (H':=[aD (eD g),aD (sl bZ wv words),aD (tz),aD (u8)]) rfl ?_;refine g2 ?_;refine St.cW (.mk rfl) rfl (λD=> ?_);refine go ?_;refine St.al (λr=> ?_);refine g5 ?_;refine St.slot 9 (gK g) rfl rfl ?_;refine go ?_;refine St.p7 q (Hh g wv words) ag3 (.ah rfl rfl) rfl ?_;rintro v11 H2 ⟨E,uv,l,m,rfl,s⟩;refine St.perm kB ?_;refine St.YD ?_;refine g3 ?_;refine St.al (λF=> ?_);refine St.al (λG=> ?_);refine g12 ?_;refine St.cq (λn=> ?_) (λn=> ?_)
 ·have d:(lG (dG g) words)=([],(ek (dG g) words).2):=by unfold lG;rw[aB (show(ek (dG g) words).2.1≠0 from n)]
  refine go ?_;refine St.dZ (tI r [iv 0,iv 0] 39::H2) mixed (λH I=> ?_);refine SW.gd 0 ?_;refine SW.slot 17 (fv (ek (dG g) words).2) rfl rfl ?_;refine SW.gd 1 ?_;refine SW.t1 2 ?_;refine g3 ?_;refine SW.go ?_;refine SW.dn ?_;refine g3 ?_;refine St.gb bP ?_;refine St.ea ae ?_;refine St.rV [_,_] [aD (sl bP (.slice none 0 0) []),aD (aL ae [])] ?_;exact⟨cF,[],by rw[d];rfl,by rw[d];rfl,rfl⟩
 ·have f:(ek (dG g) words).2.1=0:=by omega
  obtain⟨rv,xv,its,C,rfl,o,u,w,rfl⟩:=s f;obtain⟨R,X,x,hw,y,i,p,j⟩:=ac9 f o
  have a:=adC g rv xv
  have z:T6 (dG (Dc g rv xv)):=by rw[a];exact aaQ p
  have k:∀e,e<its.length→∀t∈s9 its e,CmT (dG (Dc g rv xv)) t:=λe he t ht=>by
   have h:=j e he t ht
   exact⟨by rw[a,SH];exact h.tr,cz h.nn (by decide),Ri (cz p.xn (by decide)) t h.tr h.ar,h.thin⟩
  have d:(lG (dG g) words)=H9 (dG (Dc g rv xv)) its (ek (dG g) words).1.2:=by
   unfold lG H9;rw[aA (show ¬(ek (dG g) words).2.1≠0 by omega),a]
   show(if 200<(OQ (ek (dG g) words).1.1 (ek (dG g) words).1.2).length then _ else _)=_
   rw[←o];rfl
  refine g5 ?_;refine St.slot 18 (foV (Dc g rv xv) uv l m) rfl rfl ?_;refine St.dt (EY (Dc g rv xv) uv l m its (ek (dG g) words).1.2 C R X x hw y u w i z k) ag4 (.ay rfl) rfl ?_;rintro A _ ⟨b,outs,rfl,B,rfl⟩;refine St.mZ ?_;refine g7 ?_;refine St.rV [_,_] [aD (sl bP b.1 outs),aD (aL ae outs)] ?_;exact⟨b,outs,by rw[d];rfl,by rw[d];exact B,rfl⟩
theorem yn (v0 v1:Value)(a b:List ab):cX prog 16 #[v0,v1] [sl bZ v0 a,sl bZ v1 b] (.bool (decide (a=b))):=by
 refine cX.lj (args:=[v0,v1]) 26 func16 rfl ntmps16 rfl (λc=> ?_);refine go ?_;refine St.wf v0 (λf l=> ?_);refine St.wf v1 (λg m=> ?_);refine g14 ?_;refine St.cq (λh=> ?_) (λh=> ?_)
 ·refine g7 ?_
  refine St.rV [_] [] ?_;exact be (by rw[eq_comm,wH];rintro rfl;omega)
 ·refine g11 ?_
  refine St.lS (ι:=Nat) (λk T=>(13,iv k)::T) (λk=>k≤a.length∧a.take k=b.take k) (λk=>a.length-k) 0 (aC.k3 0 1 12) ⟨aP _,rfl⟩ ?_;intro k i;obtain⟨hk,d⟩:=i;refine g6 ?_;refine St.cq (λj=> ?_) (λj=> ?_)
  ·obtain⟨x,hx⟩:=aF (show k<a.length by omega)
   obtain⟨y,hy⟩:=aF (show k<b.length by omega);refine g11 ?_;refine St.rq mixed (by kernel_rfl) (Mm.drawn _ _) ?_;refine g11 ?_;refine St.cond _ rfl (λe=> ?_) (λe=> ?_)
   ·skip
    refine g11 ?_;refine St.rV [_] [] ?_;exact be (by rw[eq_comm,wH];rintro rfl;rw[hx]at hy;simp only[Option.some.injEq]at hy;simp[hy]at e)
   ·skip
    refine g8 ?_;refine St.aS (k+1) ⟨by omega,by rw[aO hx,aO hy,d,show x=y by simpa using e]⟩
  ·refine g11 ?_
   refine St.rV [_] [] ?_;exact be (by rw[eq_comm,eJ];rw[dV zE,dV zE]at d;exact d)
def Nk:ab:=[114,101,120]
def wE:ab:=[98,97,114,107,115]
def N2:List ab:=[Nk,wE]
theorem QC:rP [N2]=(0,0):=by decide+kernel
theorem V7:ow [N2]:=(DG (by rw[QC])).2
theorem ZB:ZY [N2]=[N2]:=LN (by rw[QC])
theorem QD:ak [N2]=[wE,Nk]:=by
 refine zt (nN _) (by unfold OG;decide) λw=> ?_
 rw[qt]
 simp only[N2,List.mem_cons,List.not_mem_nil,or_false]
 constructor
 ·rintro ⟨s,rfl,hw⟩
  simp only[List.mem_cons,List.not_mem_nil,or_false]at hw
  exact hw.symm
 ·intro h
  exact⟨_,rfl,by simp only[List.mem_cons,List.not_mem_nil,or_false];exact h.symm⟩
theorem wf5 {X:List ab}(h:∀x∈X,x.length≤5):∀x∈X,bZ.wf x:=λx hx=>by have:=h x hx;show x.length≤140737488351232;omega
theorem WA {w:ab}(h:bZ.wf w):∀x∈[jx [97] w],ui.wf x:=λx hx=>by
 rw[bN.1 hx];exact⟨by show(1:Nat)≤140737488351232;omega,by show bR 3;unfold bR;omega,h⟩
theorem Nn {w:ab}(h:(od [w]).1=0):isWord w=true:=by
 cases c:isWord w with
 |true=>rfl
 |false=>
  unfold od at h;rw[aA (by simp),j5,if_neg (by rw[c];decide)]at h;exact absurd h (by decide)
theorem Pj {l:List (List ab)}{w:ab}{i:Nat}{s:List ab}(a:l[i]?=some s):hasAll l [w] i=decide (w∈s):=by
 unfold hasAll;rw[List.all_cons,List.all_nil,Bool.and_true];exact PM a
theorem N1:dR prog 15 #[] ([].map aD) (λv H'=>∃b:Nat,v= tO b 2 2∧H'=[aD (sl bZ v N2)]):=by
 refine dR.body (args:=[]) 2 func15 rfl ntmps15 rfl (λc=> ?_);refine St.cast (H':=[]) rfl ?_;refine g7 ?_;refine St.hS rfl (.ah rfl rfl) kZ CH Xp rfl rfl (by simp[Value.cells]) rfl rfl (λa=> ?_);refine St.bI (tO a 2 2) bZ N2 rfl rfl (wf5 (by decide)) ?_;refine g4 ?_;refine St.rV [_] [aD (sl bZ (tO a 2 2) N2)] ?_;exact⟨_,rfl,rfl⟩
theorem Al (g:ei)(lv:Value)(l:List (List ab))(w:ab)(Z4:bZ.wf w):kC prog 4 #[gK g,lv,sv w] [eD g,Aq bZ lv l,tz,u8] (.bool true):=by
 refine kC.body (args:=[gK g,lv,sv w]) (ds:=[eD g,Aq bZ lv l,tz,u8]) 124 func4 rfl ntmps4 rfl (λc p=> ?_);refine St.cast (H':=[aD (eD g),aD (Aq bZ lv l),aD (tz),aD (u8)]) rfl ?_;refine g2 ?_;refine St.cW (.mk rfl) rfl (λy=> ?_);refine g5 ?_;refine St.dt N1 agX (.nil) rfl ?_;rintro v19 _ ⟨J,rfl,rfl⟩;refine St.eZ ?_;refine St.hS rfl (.ay rfl) K4 Jt aaU rfl rfl (by simp[Value.cells]) rfl rfl (λK=> ?_);refine St.bI (tO K 1 1) bU [⟨(tO J 2 2),rfl⟩] rfl rfl (λ_ _=>trivial) ?_;refine St.sd bZ ?_;refine St.Dz [] ⟨(tO J 2 2),rfl⟩ (x:=N2) rfl ?_
 simp only[List.nil_append]
 refine St.JF (Rr:=bZ) (l:=[N2]) (tO K 1 1) (vs:=[⟨(tO J 2 2),rfl⟩]) rfl ?_;refine St.p7 p (wK (tO K 1 1) [N2]) ab3 (.ay rfl) rfl ?_;rintro v21 _ ⟨vl,L,M,e,N,rfl,O,P,Q,R,S,rfl⟩;refine St.eZ ?_;rw[QC,ZB];refine g3 ?_;refine St.al (λb7=> ?_);refine St.al (λb8=> ?_);refine St.sA (.mk rfl) (.mk rfl) S1 ?_ (h1:=(by simp[O,P,Q,R,S]));refine g10 ?_;refine St.known 27 _ false rfl (by rfl) ?_;refine St.cZ rfl rfl ?_;refine go ?_;refine St.cZ rfl rfl ?_;refine St.dt (I3 vl L M e N [N2] V7) agZ (.ay rfl) rfl ?_;rintro v29 _ ⟨h29,rfl⟩;refine St.eZ ?_;rw[QD];refine St.bI v29 bZ [wE,Nk] rfl rfl (wf5 (by decide)) ?_;refine St.cZ rfl rfl ?_;refine St.hS rfl (.ah rfl rfl) kZ CH Xp rfl rfl (by simp[Value.cells]) rfl rfl (λA=> ?_);refine St.bI (tO A 2 2) bZ [wE,Nk] rfl rfl (wf5 (by decide)) ?_;refine St.cZ rfl rfl ?_;refine St.ee (Ev.call (yn v29 (tO A 2 2) [wE,Nk] [wE,Nk]) agY (.ah rfl rfl)) ?_;refine St.cZ rfl rfl ?_;refine go ?_;refine St.ee (Ev.mI (.mk rfl) rfl (.mk rfl)) ?_;refine g2 ?_;refine St.BS _ rfl (by simp) ?_;refine g5 ?_;refine St.p7 p (wK lv l) ab3 (.ay rfl) rfl ?_;rintro v36 _ ⟨vl,L,M,e,N,rfl,O,P,Q,R,S,rfl⟩;refine St.eZ ?_
 have U:=Qo l
 refine g3 ?_;refine St.sA (.mk rfl) (.mk rfl) S1 ?_ (h1:=(by simp[O,P,Q,R,S]));refine g11 ?_;refine St.cq (λh41=> ?_) (λh41=> ?_)
 ·refine g7 ?_
  refine St.rV [_] [] ?_;exact be rfl
 ·have V:(rP l).1=0:=by omega
  rw[LN V]at U⊢
  have adZ:=U.len
  refine g6 ?_;refine St.hS rfl (.ay rfl) kZ CH Xp rfl rfl (by simp[Value.cells]) rfl rfl (λB=> ?_);refine St.bI (tO B 1 1) bZ [w] rfl rfl (λx hx=>by rw[bN.1 hx];exact Z4) ?_;refine St.p7 p (MM vl L M e N (tO B 1 1) l [w] U) ag0 (.ah rfl rfl) rfl ?_;rintro v46 _ ⟨C,rfl,hov,rfl⟩;refine St.eZ ?_;refine g15 ?_;refine St.cq (λh51=> ?_) (λh51=> ?_)
  ·refine g7 ?_
   refine St.rV [_] [] ?_;exact be rfl
  ·have D:(od [w]).1=0:=by omega
   have X:=Nn D
   rw[M5 D]
   obtain⟨q,hq⟩:∃q,q=hasAll l [w]:=⟨_,rfl⟩
   rw[←hq]
   obtain⟨W,F⟩:∃W,W=(List.range l.length).filter q:=⟨_,rfl⟩
   rw[←F]
   have L0:=bO W
   have Y:∀i s,l[i]?=some s→q i=decide (w∈s):=λi s I=>by rw[hq];exact Pj I
   have hWl:W.length≤l.length:=by rw[F];exact filter_le q l.length
   refine St.Ds lv (λvs hvl=> ?_);refine g14 ?_;refine St.lH (ι:=Nat) (λi T=>(11,iv i)::(10,iv (nZ q i:Nat))::T) (λi=>[tI y (jj g) 32,aD (sl aI C (ints W)),aD (sl bU lv vs),aD (pf bZ vs l),aD (eD g),aD tz,aD u8]) (λi=>i≤l.length) (λi=>l.length-i) 0 (aC.k4 1 2 3 9) (aP _) ?_;intro i Mn;refine g9 ?_;refine St.cq (λZ=> ?_) (λZ=> ?_)
   ·obtain⟨s,I⟩:=aF (show i<l.length by omega)
    obtain⟨r,hu⟩:=aF (show i<vs.length by omega);refine St.pf (vs:=vs) i hu I ?_
    have hqs:=Y i s I
    have Ny:=DC q (show i≤l.length by omega)
    have akV:nZ q l.length=W.length:=by rw[F];rfl
    have TA:=Ub (q:=q) (i:=i) (n:=l.length) zE
    rw[←F]at TA;refine g11 ?_;refine St.gt _ rfl rfl (λa=>Ev.move (.mk rfl)) rfl ?_;refine St.gt _ rfl rfl (λa=>Ev.move (.mk rfl)) rfl ?_;refine St.gt _ rfl rfl (λa=>Ev.cM (k:=nZ q i) (aX.gv rfl a) (aX.gv rfl a) cP eL (by first|omega|(simp only[bj]at a;omega)) (by first|omega|(simp only[bj]at a;omega))) rfl ?_;refine St.gt _ rfl rfl (λa=>Ev.ld1 (aX.gv rfl a) (Tj (by first|omega|(simp only[bj]at a;omega))) eK trivial rfl) rfl ?_;refine St.gt _ rfl rfl (λa=>Ev.move (.mk rfl)) rfl ?_;refine St.gt _ rfl rfl (λa=>Ev.eql (aX.gv rfl a) (aX.gv rfl a)) rfl ?_;refine g2 ?_;refine St.slot 12 (.bool (q i)) rfl (by rw[←TA,L0];refine congrArg Value.bool ?_;rw[rh];simp only[bj];omega) ?_;refine g2 ?_;refine St.join (ι:=Unit) (λu T=>(10,iv (nZ q (i+1):Nat))::T) (λu=>[aD (sl bZ r.1 s),tI y (jj g) 32,aD (sl aI C (ints W)),aD (sl bU lv vs),aD (pf bZ vs l),aD (eD g),aD tz,aD u8]) (λu=>True) (aC.k6 1 2 3 9 11 12) ?_ ?_
    ·refine g5 ?_
     refine St.cond _ rfl (λh70=> ?_) (λh70=> ?_)
     ·skip
      refine g6 ?_;refine St.slot 10 (iv ((nZ q (i+1):Nat):Int)) rfl (congrArg (λz=>iv z) (by rw[r0,aB h70];omega)) ?_;refine St.mE () trivial
     ·skip
      refine g2 ?_;refine St.slot 10 (iv ((nZ q (i+1):Nat):Int)) rfl (congrArg (λz=>iv z) (by rw[r0,aA (by rw[h70];decide)];omega)) ?_;refine St.mE () trivial
    ·intro u Mn
     refine St.join (ι:=aY×List bH×Nat) (λ⟨t9,outs,d⟩ T=>(13,t9.1)::(14,tW d)::T) (λ⟨t9,outs,d⟩=>[tI d [iv (lG (dG g) s).2.1,iv (lG (dG g) s).2.2] 39,aD (sl bP t9.1 outs),aD (aL ae outs),aD (sl bZ r.1 s),tI y (jj g) 32,aD (sl aI C (ints W)),aD (sl bU lv vs),aD (pf bZ vs l),aD (eD g),aD tz,aD u8]) (λ⟨t9,outs,d⟩=>outs.map aM=(lG (dG g) s).1) (aC.k7 1 2 3 9 10 11 12) ?_ ?_
     ·refine St.dZ [] mixed (λnp ns=> ?_)
      refine SW.gd 0 ?_;refine SW.slot 74 (gK g) rfl rfl ?_;refine SW.gd 1 ?_;refine SW.gd 2 ?_;refine SW.gd 3 ?_;refine SW.gd 4 ?_;refine SW.t2 5 9 ?_ ?_
      focus
       refine St.p7 p (wO g r.1 s) cb7 (.ah rfl rfl) rfl ?_;rintro v79 _ ⟨t9,outs,rfl,G,rfl⟩;refine St.mZ ?_;refine g2 ?_;refine SW.go ?_;refine SW.gd 6 ?_;refine SW.gd 7 ?_;refine SW.gd 8 ?_;refine SW.slot 81 (.agg #[iv (lG (dG g) s).2.1,iv (lG (dG g) s).2.2]) rfl rfl ?_;refine SW.t1 9 ?_;refine St.al (λd=> ?_);refine g2 ?_;refine SW.go ?_;refine SW.gd 10 ?_;refine SW.t1 11 ?_;refine g3 ?_;refine SW.go ?_;refine SW.dn ?_
      rotate_left
      focus
       refine St.al (λd=> ?_);refine g2 ?_;refine SW.go ?_;refine SW.t1 5 ?_;refine St.p7 p (wO g r.1 s) cb7 (.ah rfl rfl) rfl ?_;rintro v79 _ ⟨t9,outs,rfl,G,rfl⟩;refine St.mZ ?_;refine g2 ?_;refine SW.go ?_;refine SW.gd 6 ?_;refine SW.gd 7 ?_;refine SW.gd 8 ?_;refine SW.slot 81 (.agg #[iv (lG (dG g) s).2.1,iv (lG (dG g) s).2.2]) rfl rfl ?_;refine SW.gd 10 ?_;refine SW.t1 11 ?_;refine g3 ?_;refine SW.go ?_;refine SW.dn ?_
      all_goals
       refine go ?_;refine St.mE ⟨t9,outs,d⟩ G
     ·rintro ⟨t9,outs,d⟩ G
      refine go ?_;refine St.wf t9.1 (λhow _=> ?_)
      have hol:=congrArg List.length G
      rw[aR]at hol
      have aiL:=Ui (dG g) s
      refine g5 ?_;refine St.lH (ι:=Nat) (λm T=>(15,iv m)::T) (λm=>[tI d [iv (lG (dG g) s).2.1,iv (lG (dG g) s).2.2] 39,aD (sl bP t9.1 outs),aD (aL ae outs),aD (sl bZ r.1 s),tI y (jj g) 32,aD (sl aI C (ints W)),aD (sl bU lv vs),aD (pf bZ vs l),aD (eD g),aD tz,aD u8]) (λm=>m≤outs.length) (λm=>outs.length-m) 0 (aC.k9 1 2 3 9 10 11 12 13 14) (aP _) ?_;intro m Mn;refine g7 ?_;refine St.gt _ rfl rfl (λa=>Ev.move (.mk rfl)) rfl ?_;refine St.gt _ rfl rfl (λa=>Ev.move (.mk rfl)) rfl ?_;refine St.gt _ rfl rfl (λa=>Ev.eu (aX.gv rfl a) ug) rfl ?_;refine St.gt _ rfl rfl (λa=>Ev.lss (aX.gv rfl a) (aX.gv rfl a)) rfl ?_;refine g2 ?_;refine St.gt _ rfl rfl (λa=>Ev.move (.mk rfl)) rfl ?_;refine St.gt _ rfl rfl (λa=>Ev.lss (aX.gv rfl a) (.mk rfl)) rfl ?_;refine g3 ?_;refine St.cq (λh94=> ?_) (λh94=> ?_)
      ·have hmo:m<outs.length:=by omega
       obtain⟨o,ho⟩:=aF hmo
       have f:=aa ho
       refine St.cN ae outs (x:=o) f ?_
       have Yz:aM o∈(lG (dG g) s).1:=by rw[←G];exact di f
       obtain⟨E,hE,hE5,hEw⟩:=Md Yz X;refine g4 ?_;refine St.join (ι:=aY×List aY×Nat) (λ⟨e,b,j⟩ T=>(16,e.1)::(17,tW j)::T) (λ⟨e,b,j⟩=>[tI j [iv 0,iv 0] 39,aD (sl bU e.1 b),tI d [iv (lG (dG g) s).2.1,iv (lG (dG g) s).2.2] 39,aD (sl bP t9.1 outs),aD (aL ae outs),aD (sl bZ r.1 s),tI y (jj g) 32,aD (sl aI C (ints W)),aD (sl bU lv vs),aD (pf bZ vs l),aD (eD g),aD tz,aD u8]) (λ⟨e,b,j⟩=>b.length=E.length) (aC.k10 1 2 3 9 10 11 12 13 14 15) ?_ ?_
       ·refine St.dZ [] mixed (λnp ns=> ?_)
        repeat' first
         |with_reducible refine SW.me ?_
          first
           |refine SW.gd 0 ?_
            refine SW.slot 98 (gK g) rfl rfl ?_
           |refine SW.gd 1 ?_
           |refine SW.dd 2 rfl (λ_=>Ev.build (ps:=[(0,(.const (.string ⟨#[97]⟩))),(1,(.const (.int .i64 3))),(2,(.tmp 99))]) (bC.fk rfl rfl rfl) (λw=>Ei rfl rfl rfl w)) ?_
           |refine SW.gd 5 ?_
           |refine SW.gd 6 ?_
           |refine SW.gd 7 ?_
           |refine SW.dd 8 rfl (λ_=>Ev.j2 (.mk rfl) ho A9 trivial mP gX.eq) ?_
            refine SW.slot 106 (eG o) rfl rfl ?_
           |refine SW.dd 4 rfl (λ_=>Ev.build (ps:=[(0,(.tmp 101))]) (bC.ay rfl) (λw=>Tq rfl w)) ?_
           |refine SW.gd 10 ?_
           |refine SW.gd 11 ?_
           |refine SW.gd 12 ?_
           |refine SW.gd 14 ?_
           |refine SW.t2 3 13 ?_ ?_
           |refine SW.t2 9 13 ?_ ?_
           |refine SW.t1 13 ?_
           |refine SW.t1 15 ?_
           |refine SW.t1 9 ?_
           |refine SW.t1 3 ?_
         |with_reducible refine SW.tg 3 ?_
          refine St.hS rfl (.ay rfl) HK NZ ajZ rfl rfl (by simp[Value.cells]) rfl rfl (λt=> ?_);refine St.bI (tO t 1 1) ui [jx [97] w] rfl rfl (WA Z4) ?_;refine St.gb vc ?_;refine St.gW (nh ⟨⟨(tO t 1 1),rfl⟩,[jx [97] w],⟨(.slice none 0 0),rfl⟩,[]⟩) [sl ui (tO t 1 1) [jx [97] w],sl vc (.slice none 0 0) []] (λρ h=>h) ?_;refine g2 ?_;refine SW.go ?_
         |with_reducible refine SW.tg 9 ?_
          refine St.p7 p (Hu g (⟨⟨(tO t 1 1),rfl⟩,[jx [97] w],⟨(.slice none 0 0),rfl⟩,[]⟩:Cn) o (how o f)) ag1 (.fk rfl rfl rfl) rfl ?_;rintro v107 _ ⟨H,rfl,ai4,rfl⟩;refine St.eZ ?_;rw[show G8 (dG g) (⟨⟨(tO t 1 1),rfl⟩,[jx [97] w],⟨(.slice none 0 0),rfl⟩,[]⟩:Cn).vars (⟨⟨(tO t 1 1),rfl⟩,[jx [97] w],⟨(.slice none 0 0),rfl⟩,[]⟩:Cn).aW (aM o)=(E,(0,0))from hE];refine St.Ds H (λb v=> ?_);rw[aR]at v
          replace v:b.length=E.length:=v
          refine g2 ?_;refine SW.go ?_
         |with_reducible refine SW.tg 13 ?_
          refine St.al (λj=> ?_);refine g2 ?_;refine SW.go ?_
         |with_reducible refine SW.tg 15 ?_
          refine g3 ?_;refine SW.go ?_
        all_goals refine SW.dn ?_
        all_goals
         refine go ?_;refine St.mE ⟨⟨H,ai4⟩,b,j⟩ v
       ·rintro ⟨e,b,j⟩ v
        refine g6 ?_;refine St.gf _ rfl rfl (λa=>Ev.move (.mk rfl)) rfl ?_;refine St.gf _ rfl rfl (λa=>Ev.eu (aX.gv rfl a) B9) rfl ?_;refine St.gf _ rfl rfl (λa=>Ev.gtr (aX.gv rfl a) (.mk rfl)) rfl ?_;refine St.gf _ rfl rfl (λa=>Ev.move (.mk rfl)) rfl ?_;refine St.gf _ rfl rfl (λa=>Ev.D1 (aX.gv rfl a) (aX.gv rfl a) K3) rfl ?_;refine g3 ?_;refine St.BS _ rfl (by rw[hqs,←hEw,v];simp[fv]) ?_;refine g9 ?_;refine St.aH (m+1) zE
      ·refine g12 ?_
       refine St.aH (i+1) zE
   ·obtain rfl:i=l.length:=by omega
    refine g15 ?_;refine St.rV [_] [] ?_;exact be (by rw[L0,F];simp[nZ])
end Go.Proofs.YtiefglecbgdaiaaGreatDoor
