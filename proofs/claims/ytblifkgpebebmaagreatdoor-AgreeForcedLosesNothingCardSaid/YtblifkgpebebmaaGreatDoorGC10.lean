/-
  Laws of walks through programs, and facts on grammars, trees and queries.
  Conditions: none.
-/
import Derived.Test.YtblifkgpebebmaaGreatDoorGC9
set_option maxHeartbeats 2000000
set_option maxRecDepth 20000
set_option linter.unusedVariables false
set_option linter.unusedSimpArgs false
namespace Go.Proofs.YtblifkgpebebmaaGreatDoor
open Go Go.J Tryz
theorem JG {nt nf len:Nat}{Q:Qr}(b:qp nt nf Q)(g:nt≤250)(i:nf≤250){words:List ax}(c:1≤len):∀(m frm:Nat) (cs a:Cs),frm+m+len≤Q.n+1→ng nt nf Q.n len frm cs→gD Q words cs→Al Q words len m frm cs=some a→ng nt nf Q.n len (frm+m) a∧gD Q words a
 |0,frm,cs,a,_,h,d,e=>by obtain rfl:=Option.some.inj e;exact⟨h,d⟩
 |m+1,frm,cs,a,hm,h,d,e=>by
  have e2:(if 300<(pL Q words frm (frm+len) cs).its.length then none else Al Q words len m (frm+1) (pL Q words frm (frm+len) cs))=some a:=e
  by_cases f:300<(pL Q words frm (frm+len) cs).its.length
  ·rw[aC f]at e2;cases e2
  ·rw[aA f]at e2
   have:=JG b g i c m (frm+1) _ a (by omega) (Fq b c (by omega) h f) (Ji b g i c (by omega) h d) e2
   rw[show frm+(m+1)=frm+1+m by omega];exact this
theorem CY {nt nf:Nat}{Q:Qr}(c:qp nt nf Q)(d:nt≤250)(f:nf≤250){words:List ax}:∀(m len:Nat) (cs a:Cs),1≤len→len+m≤Q.n+1→ng nt nf Q.n len 0 cs→gD Q words cs→yR Q words m len cs=some a→ng nt nf Q.n (len+m) 0 a∧gD Q words a
 |0,len,cs,a,_,_,h,b,e=>by obtain rfl:=Option.some.inj e;exact⟨h,b⟩
 |m+1,len,cs,a,i,hm,h,b,e=>by
  have e2:((Al Q words len (Q.n+1-len) 0 cs).bind λcs=>yR Q words m (len+1) cs)=some a:=e
  obtain⟨g,h1,j⟩:=pQ.1 e2;obtain⟨k,a2⟩:=JG c d f i _ 0 cs g (by omega) h b h1
  have:=CY c d f m (len+1) g a (by omega) (by omega) (Jh k) a2 j
  rw[show len+(m+1)=len+1+m by omega];exact this
theorem Jg {cs:Cs}{tqo:Nat}:∀(l:List Nat) (a:Nat),kM cs tqo a l→∀k∈l,k<cs.its.length
 |k::l,a,h,q,b=>by
  rcases cJ.1 b with rfl|b
  ·exact h.1
  ·exact Jg l _ h.2.2 q b
def Qd (e:om):Nat:=(e.tqo-e.frm)*4+e.cx
def R5 (e:om):Nat:=8*(e.tqo-e.frm)-7+e.cx
theorem YA {cs:Cs}{e:om}(c:∀k,k<cs.its.length→(cs.ed k).frm<(cs.ed k).tqo∧(cs.ed k).cx≤3):∀kids:List Nat,kM cs e.tqo e.frm kids→1≤kids.length→kids.length≤3→e.cx=aaC cs kids→
 (∀k∈kids,Qd (cs.ed k)<Qd e)∧(kids.map λk=>R5 (cs.ed k)).sum+1≤R5 e
 | [k],h,_,_,a=>by
  obtain⟨h1,g,d⟩:=h
  have d:(cs.ed k).tqo=e.tqo:=d
  have hk:=c k h1
  have a:e.cx=(cs.ed k).cx+1:=a
  unfold Qd R5;refine⟨λq b=> ?_,?_⟩
  ·rw[bO]at b;subst b;omega
  ·simp only[List.map_cons,List.map_nil,List.sum_cons,List.sum_nil];omega
 | [k,l],h,_,_,a=>by
  obtain⟨h1,g,d,j,f⟩:=h
  have f:(cs.ed l).tqo=e.tqo:=f
  have hk:=c k h1
  have n:=c l d
  have a:e.cx=0:=a
  unfold Qd R5;refine⟨λq b=> ?_,?_⟩
  ·simp only[List.mem_cons,List.not_mem_nil,or_false]at b
   rcases b with rfl|rfl<;>omega
  ·simp only[List.map_cons,List.map_nil,List.sum_cons,List.sum_nil];omega
 | [k,l,m],h,_,_,a=>by
  obtain⟨h1,g,d,j,f,o,i⟩:=h
  have i:(cs.ed m).tqo=e.tqo:=i
  have hk:=c k h1
  have n:=c l d
  have hm:=c m f
  have a:e.cx=0:=a
  unfold Qd R5;refine⟨λq b=> ?_,?_⟩
  ·simp only[List.mem_cons,List.not_mem_nil,or_false]at b
   rcases b with rfl|rfl|rfl<;>omega
  ·simp only[List.map_cons,List.map_nil,List.sum_cons,List.sum_nil];omega
 | [],_,h,_,_=>by cases h
 |_::_::_::_::_,_,_,h,_=>by simp only[List.length_cons]at h;omega
theorem zM (its:List lM):(lA its).Perm (List.range its.length):=jg _ _
theorem DL (its:List lM):(lA its).length=its.length:=by rw[(zM its).length_eq,jT]
theorem XW {its:List lM}{i:Nat}(h:i∈lA its):i<its.length:=dt.1 ((zM its).mem_iff.1 h)
theorem Xo {its:List lM}{j:Nat}(h:j<its.length):∃i,i<its.length∧(gm its).getD j gg=⟨(its.getD i gg).ed,(its.getD i gg).cW.map λw=>⟨w.rule,w.lex,w.kids.map (pD (lA its))⟩,(its.getD i gg).ba⟩:=by
 have a:j<(lA its).length:=by rw[DL];exact h
 refine⟨(lA its)[j],XW (gy a),?_⟩;unfold gm
 rw[ar,bP,bU a];rfl
theorem Jk {its:List lM}{k:Nat}(h:k<its.length):pD (lA its) k<its.length∧((gm its).getD (pD (lA its) k) gg).ed=(its.getD k gg).ed:=by
 have hm:k∈lA its:=(zM its).mem_iff.2 (dt.2 h)
 have a:(lA its).idxOf k<(lA its).length:=List.idxOf_lt_length_of_mem hm
 refine⟨by unfold pD;rw[←DL its];exact a,?_⟩;unfold gm pD
 rw[ar,bP,bU a,List.getElem_idxOf a];rfl
theorem yn {cs:Cs}{k:Nat}(h:k<cs.its.length):cs.its.getD k gg∈cs.its:=by rw[ar,bU h];exact gy h
theorem Jj (its:List lM):(gm its).length=its.length:=by unfold gm;rw[aO,DL]
theorem VI {l:List Int}(h:∀x∈l,0≤x∧x≤1000000):∀x∈l,-1000000≤x∧x≤1000000:=λx hx=>by have:=h x hx;omega
theorem Xp {nt nf len frm:Nat}{Q:Qr}(A:qp nt nf Q){words:List ax}{cs:Cs}(h:ng nt nf Q.n len frm cs)(B:gD Q words cs)(hk:∀r∈Q.rules,1≤r.kids∧r.kids≤3){R X:List Int}(L:R.length=Q.rules.length)(M:X.length=Q.aL.length)(N:∀x∈R,0≤x∧x≤1000000)(C:∀x∈X,0≤x∧x≤1000000):
 oA ⟨gm cs.its,R,X⟩:=by
 have U:=A.n
 have V:=A.rn
 have O:=A.xn
 have s:∀k,k<cs.its.length→(cs.ed k).frm<(cs.ed k).tqo∧(cs.ed k).tqo≤Q.n∧(cs.ed k).cx≤3:=λk m=>by
  obtain⟨P,a2,a3,_⟩:=h.ok.gr _ (yn m);exact⟨P,a2,a3⟩
 have o:∀e,e<(⟨gm cs.its,R,X⟩:ct).its.length→∃i,i<cs.its.length∧((⟨gm cs.its,R,X⟩:ct).its.getD e gg).ed=cs.ed i∧rN ⟨gm cs.its,R,X⟩ e=(cs.its.getD i gg).cW.length∧∀w,w<rN ⟨gm cs.its,R,X⟩ e→∃a∈(cs.its.getD i gg).cW,(⟨gm cs.its,R,X⟩:ct).fx e w=⟨a.rule,a.lex,a.kids.map (pD (lA cs.its))⟩:=λe he=>by
  have he:e<(gm cs.its).length:=he
  rw[Jj]at he;obtain⟨i,b,c⟩:=Xo he;refine⟨i,b,by show((gm cs.its).getD e gg).ed=_;rw[c];rfl,by unfold rN;show((gm cs.its).getD e gg).cW.length=_;rw[c];exact aO _,λw hw=> ?_⟩
  have hw:w<((gm cs.its).getD e gg).cW.length:=hw
  rw[c]at hw
  have I:w<(cs.its.getD i gg).cW.length:=by rwa[show _=(cs.its.getD i gg).cW.length from aO _]at hw
  refine⟨_,gy I,?_⟩;unfold ct.fx
  show((gm cs.its).getD e gg).cW.getD w wy0=_
  rw[c]
  show((cs.its.getD i gg).cW.map _).getD w wy0=_
  rw[ar,bP,bU I];rfl
 have g:∀e,l7 ⟨gm cs.its,R,X⟩ e=Qd (((⟨gm cs.its,R,X⟩:ct).its.getD e gg).ed):=λ_=>rfl
 have y:∀e,Dq ⟨gm cs.its,R,X⟩ e=R5 (((⟨gm cs.its,R,X⟩:ct).its.getD e gg).ed):=λ_=>rfl
 have J:∀k,k<cs.its.length→((⟨gm cs.its,R,X⟩:ct).its.getD (pD (lA cs.its) k) gg).ed=cs.ed k:=λk m=>(Jk m).2
 refine⟨λe w he hw l=> ?_,λe w he hw l=> ?_,λe w he hw=> ?_,VI N,VI C,λe he=> ?_,λe he=> ?_,λe he=> ?_⟩
 ·obtain⟨i,b,f,_,d⟩:=o e he
  obtain⟨a,t,u⟩:=d w hw;rw[u]at l⊢
  have K:=s i b
  rcases B _ (yn b) a t with⟨p,D,S,E,j,c,z,_⟩|⟨j,c,p,_⟩
  ·refine⟨by show a.kids.map _=[];rw[D];rfl,by show a.lex<(X.length:Int);rw[z,M];omega,?_⟩
   rw[y,f];unfold R5;omega
  ·have l:a.rule<0:=l
   omega
 ·obtain⟨i,b,f,_,d⟩:=o e he
  obtain⟨a,t,u⟩:=d w hw;rw[u]at l⊢
  rcases B _ (yn b) a t with⟨p,_⟩|⟨j,c,p,D,S,E,z,_⟩
  ·have l:¬a.rule<0:=l
   omega
  ·have T:=hk _ (show Q.rules.getD j oS∈Q.rules by rw[ar,bU c];exact gy c)
   have F:=Jg _ _ E
   obtain⟨c1,c2⟩:=YA (e:=cs.ed i) (λk m=>⟨(s k m).1,(s k m).2.2⟩) a.kids E (by omega) (by omega) z;refine⟨by show a.rule<(R.length:Int);rw[p,L];omega,by show(a.kids.map _).length≤3;rw[aO];omega,λk G=> ?_,?_⟩
   ·obtain⟨q,v,rfl⟩:=cz.1 (show k∈a.kids.map (pD (lA cs.its))from G)
    refine⟨by show _<(gm cs.its).length;rw[Jj];exact(Jk (F q v)).1,?_⟩;rw[g,g,f,J q (F q v)];exact c1 q v
   ·show((a.kids.map (pD (lA cs.its))).map (Dq ⟨gm cs.its,R,X⟩)).sum+1≤_
    rw[y,f,kG,show a.kids.map (Dq ⟨gm cs.its,R,X⟩∘pD (lA cs.its))=a.kids.map λk=>R5 (cs.ed k)from CF λq v=>by show Dq _ _=_;rw[y,J q (F q v)]];exact c2
 ·obtain⟨i,b,f,_,d⟩:=o e he
  obtain⟨a,t,u⟩:=d w hw;rw[u]
  show-1≤a.rule∧a.rule≤1000∧0≤a.lex∧a.lex≤1000
  rcases B _ (yn b) a t with⟨p,_,_,_,j,c,z,_⟩|⟨j,c,p,D,_⟩<;>omega
 ·obtain⟨i,b,f,_⟩:=o e he
  have K:=s i b
  rw[y,f];unfold R5;omega
 ·obtain⟨i,b,f,_⟩:=o e he
  have K:=s i b
  rw[g,f];unfold Qd;omega
 ·obtain⟨i,b,_,H,_⟩:=o e he
  rw[H]
  have:=h.cW _ (yn b)
  unfold vm at this;omega
theorem WL {mt:Nat→Nat→Option Nat}{n:Nat}{start:e8}{its:List lM}:∀e∈H5 mt n start its,e<its.length:=λe he=>dt.1 (qh.1 he).1
theorem FQ (g:fj)(words:List ax):(∀e∈(dT g words).1.2,e<(dT g words).1.1.length)∧(dT g words).1.2.length≤300:=by
 have a:=JV g words
 unfold dT at a⊢
 split
 ·exact⟨λe he=>(by cases he),aP _⟩
 ·rename_i h1
  rw[aA h1]at a
  split
  ·exact⟨λe he=>(by cases he),aP _⟩
  ·rename_i b
   rw[aA b]at a
   cases c:xD g words with
   |none=>exact⟨λe he=>(by cases he),aP _⟩
   |some its=>
    rw[c]at a
    have a:its.length≤300:=a
    refine⟨WL,?_⟩
    show(H5 (gz g.types) words.length g.start its).length≤300
    unfold H5;exact dS (CD _ _) (by rw[jT];exact a)
theorem Vq {g:fj}{words:List ax}{n:Int}(h:(jL g).1≠0):lO g words n=([],jL g):=by unfold lO;rw[aC h]
theorem Z9 {g:fj}{words:List ax}{n:Int}(h:¬(jL g).1≠0)(a:n<0∨200<n):lO g words n=([],(3,-3)):=by unfold lO;rw[aA h,aC a]
theorem Vs {g:fj}{words:List ax}{n:Int}(h:¬(jL g).1≠0)(a:¬(n<0∨200<n))(b:(dT g words).2.1≠0):lO g words n=([],(dT g words).2):=by unfold lO;rw[aA h,aA a,aC b]
theorem Vr {g:fj}{words:List ax}{n:Int}(h:¬(jL g).1≠0)(a:¬(n<0∨200<n))(b:¬(dT g words).2.1≠0):lO g words n=(tQ (fh (YK g (dT g words).1.1) 60) (dT g words).1.2 n.toNat (List.replicate (dT g words).1.1.length nz) (List.replicate (dT g words).1.2.length 0) [],(0,0)):=by unfold lO;rw[aA h,aA a,aA b]
theorem XN {B:ct}(a:oA B):jl B (List.replicate B.its.length nz):=by
 refine⟨kF,λe x hx=> ?_⟩
 have he:e<B.its.length:=by have:=(fA.1 hx).1;rwa[kF]at this
 obtain rfl:=wm (ae hx);refine⟨λk hk=>(by cases hk),λc b=>(by cases b),?_,λ_=>⟨rfl,rfl⟩,aP _⟩
 have:=a.ht e he
 show 0+l7 B e≤262
 omega
theorem JN (m:Nat):(List.replicate m uB).map fi=List.replicate m nz:=by rw[sB];rfl
theorem Fu (g:gQ)(wv:Value)(words:List ax):sm prog 25 #[fG g,wv] ([er g,sl bI wv words,tz,u8].map aB) (λv H'=>∃(pv e:aV),v= .tuple #[pv.1,e.1,fv (dT (cE g) words).2]∧((dT (cE g) words).2.1=0→∃(a b:Nat) (rv xv c:aV) (its:List dL),pv.1= .pointer (some ⟨a,0,none⟩)∧its.map cF=(dT (cE g) words).1.1∧H'=aB (sl aJ e.1 (bW (dT (cE g) words).1.2))::aB (fP a [rv.1,xv.1,c.1,.slice (some ⟨b,0,none⟩) its.length its.length])::aB (sl aJ rv.1 (g.rules.map ca.weight))::aB (sl aJ xv.1 (g.aL.map eY.weight))::aB (sl eE c.1 its)::aB (aF cj its)::row (.slice (some ⟨b,0,none⟩) its.length its.length) 194 3 (List.replicate its.length uB).length (rows fO (List.replicate its.length uB))::bE (kK 71 196) (List.replicate its.length uB))):=
 (I8 g wv words).mono λv H' h=>by
  rcases h with⟨d,rfl,rfl⟩|⟨d,a,b,rv,xv,c,f,its,i,rfl,rfl⟩
  ·exact⟨⟨.pointer none,rfl⟩,bR,rfl,λh=>absurd h d⟩
  ·exact⟨⟨.pointer (some ⟨a,0,none⟩),rfl⟩,f,by rw[FT d],λ_=>⟨a,b,rv,xv,c,its,rfl,i,rfl⟩⟩
theorem Gb (g:gQ)(wv:Value)(words:List ax)(n:Int)(o:(dT (cE g) words).2.1=0→oA (YK (cE g) (dT (cE g) words).1.1)):sm prog 10 #[fG g,wv,iv n] ([er g,sl bI wv words,tz,u8].map aB) (λv H'=>∃(b:aV) (outs:List dE),v= .tuple #[b.1,fv (lO (cE g) words n).2]∧outs.map cy=(lO (cE g) words n).1∧H'=[aB (sl dC b.1 outs),aB (aF br outs)]):=by
 refine sm.body (args:=[fG g,wv,iv n]) 45 func10 rfl ntmps10 rfl (λc D=> ?_);refine St.cast (H':=[aB (er g),aB (sl bI wv words),aB (tz),aB (u8)]) rfl ?_;refine g2 ?_;refine St.dJ (.mk rfl) rfl (λZ=> ?_);refine St.Mf (.mk rfl) rfl rfl (λp=> ?_);refine go ?_;refine St.al (λq=> ?_);refine g6 ?_;refine St.slot 13 (fG g) rfl rfl ?_;refine St.ee (Ev.mQ D (qJ g) Vx (.au rfl)) ?_;refine St.slot 14 (.agg #[iv (jL (cE g)).1,iv (jL (cE g)).2]) rfl rfl ?_;refine St.al (λb8=> ?_);refine g10 ?_;refine St.cq (λE=> ?_) (λE=> ?_)
 ·have a:=Vq (words:=words) (n:=n) (show(jL (cE g)).1≠0 from E)
  refine go ?_;refine St.pC [q] mixed (λJ K=> ?_);refine SW.gd 0 ?_;refine SW.gd 1 ?_;refine SW.t1 2 ?_;refine g3 ?_;refine SW.go ?_;refine SW.dn ?_;refine g3 ?_;refine St.fm dC ?_;refine St.dN br ?_;refine St.rV [_,_] [aB (sl dC (.slice none 0 0) []),aB (aF br [])] ?_;exact⟨bR,[],by rw[a];rfl,by rw[a];rfl,rfl⟩
 ·have r:¬(jL (cE g)).1≠0:=by omega
  refine g8 ?_;refine St.gf _ rfl rfl (λF=>Ev.ke (.mk rfl) gV trivial (by rfl)) rfl ?_;refine St.gf _ rfl rfl (λF=>Ev.gtr (ai.gv rfl F) (.mk rfl)) rfl ?_;refine g3 ?_;refine St.cq (λM=> ?_) (λM=> ?_)
  ·have a:=Z9 (words:=words) r (show n<0∨200<n from by omega)
   refine g2 ?_;refine St.ee (Ev.build (bF.aX rfl rfl) (λw=>gi rfl rfl w)) ?_;refine g6 ?_;refine St.fm dC ?_;refine St.dN br ?_;refine St.rV [_,_] [aB (sl dC (.slice none 0 0) []),aB (aF br [])] ?_;exact⟨bR,[],by rw[a];rfl,by rw[a];rfl,rfl⟩
  ·have G:¬(n<0∨200<n):=by omega
   refine g5 ?_;refine St.slot 27 (fG g) rfl rfl ?_;refine go ?_;refine St.lP D (Fu g wv words) ahE (.aX rfl rfl) rfl ?_;rintro N H2 ⟨pv,H,rfl,O⟩;refine St.perm jV ?_;refine St.afU ?_;refine g4 ?_;refine St.slot 32 (fv (dT (cE g) words).2) rfl rfl ?_;refine St.al (λYJ=> ?_);refine g13 ?_;refine St.cq (λj=> ?_) (λj=> ?_)
   ·have a:=Vs r G (show(dT (cE g) words).2.1≠0 from j)
    refine go ?_;refine St.dc (aW q (.cells [iv 0,iv 0].toArray 35 (0,0))::H2) mixed (λJ K=> ?_);refine SW.gd 0 ?_;refine SW.gd 1 ?_;refine SW.t1 2 ?_;refine g3 ?_;refine SW.go ?_;refine SW.dn ?_;refine g3 ?_;refine St.fm dC ?_;refine St.dN br ?_;refine St.rV [_,_] [aB (sl dC (.slice none 0 0) []),aB (aF br [])] ?_;exact⟨bR,[],by rw[a];rfl,by rw[a];rfl,rfl⟩
   ·have P:¬(dT (cE g) words).2.1≠0:=by omega
    have a:=Vr r G P
    have e:=o (by omega)
    obtain⟨s,u,rv,xv,x,its,Q,y,rfl⟩:=O (by omega)
    obtain⟨nn,rfl⟩:∃nn:Nat,n=nn:=⟨n.toNat,by omega⟩
    refine St.FW p ?_;refine St.slot 9 (.pointer (some ⟨s,0,none⟩)) rfl Q ?_
    have A:YK (cE g) (dT (cE g) words).1.1=(⟨its.map cF,g.rules.map ca.weight,g.aL.map eY.weight⟩:ct):=by unfold YK;rw[←y];show(⟨_,(g.rules.map lL).map _,(g.aL.map oh).map _⟩:ct)=_;rw[kG,kG];rfl
    rw[A]at e a;rw[show(List.replicate (dT (cE g) words).1.1.length nz)=(List.replicate its.length uB).map fi by rw[JN,←y,aO]]at a
    have R:jl (⟨its.map cF,g.rules.map ca.weight,g.aL.map eY.weight⟩:ct) ((List.replicate its.length uB).map fi):=by rw[JN];have h:=XN e;rwa[show((⟨its.map cF,g.rules.map ca.weight,g.aL.map eY.weight⟩:ct)).its.length=its.length from aO _]at h
    obtain⟨I,SE⟩:=FQ (cE g) words;rw[←y,aO]at I
    have a:lO (cE g) words (nn:Nat)=(tQ (fh (⟨its.map cF,g.rules.map ca.weight,g.aL.map eY.weight⟩:ct) 60) (dT (cE g) words).1.2 nn ((List.replicate its.length uB).map fi) (List.replicate (dT (cE g) words).1.2.length 0) [],(0,0)):=a
    refine g4 ?_;refine St.al (λm=> ?_);refine g2 ?_;refine St.join (ι:=aV×List dE) (λ⟨b,outs⟩ T=>T) (λ⟨b,outs⟩=>[aW m (.cells [b.1].toArray 44 (0,0)),row b.1 69 3 (outs).length (rows dC (outs)),aB (aF br outs),aW q (.cells [iv 0,iv 0].toArray 35 (0,0))]) (λ⟨b,outs⟩=>outs.map cy=tQ (fh (⟨its.map cF,g.rules.map ca.weight,g.aL.map eY.weight⟩:ct) 60) (dT (cE g) words).1.2 nn ((List.replicate its.length uB).map fi) (List.replicate (dT (cE g) words).1.2.length 0) []∧(∀t∈outs,dC.wf t)) (aD.cons 6 rfl (aD.cons 7 rfl (aD.cons 12 rfl aD.nil))) ?_ ?_
    ·refine g6 ?_
     refine St.cq (λS=> ?_) (λS=> ?_)
     ·have U:0<nn:=by omega
      refine St.dw 69 3 ?_;refine St.aM (.slice none 0 0) (show _=([]:List dE).length from rfl) (show _=rows dC []from rfl) ?_;refine St.dN br ?_;refine g3 ?_;refine St.ee (Ev.func (.aX rfl rfl)) ?_;refine St.pS (ds:=[fP s [rv.1,xv.1,x.1,.slice (some ⟨u,0,none⟩) its.length its.length],sl aJ rv.1 (g.rules.map ca.weight),sl aJ xv.1 (g.aL.map eY.weight),sl eE x.1 its,aF cj its,sl aJ H.1 (bW (dT (cE g) words).1.2),pf p (iv (nn:Nat))]) (L:=[aW m (.cells [(.slice none 0 0)].toArray 44 (0,0)),row (.slice none 0 0) 69 3 (([]:List dE)).length (rows dC (([]:List dE))),aB (aF br []),row (.slice (some ⟨u,0,none⟩) its.length its.length) 194 3 (List.replicate its.length uB).length (rows fO (List.replicate its.length uB))]) (X:=bE (kK 71 196) (List.replicate its.length uB)) (post:=λv L' X'=>∃(i:aV) (d:List dE),v= .tuple #[]∧d.map cy=tQ (fh (⟨its.map cF,g.rules.map ca.weight,g.aL.map eY.weight⟩:ct) 60) (dT (cE g) words).1.2 nn ((List.replicate its.length uB).map fi) (List.replicate (dT (cE g) words).1.2.length 0) []∧(∀t∈d,dC.wf t)∧L'=[aW m (.cells [i.1].toArray 44 (0,0)),row i.1 69 3 (d).length (rows dC (d)),aB (aF br d)]∧X'=[]) ((Kh s u its.length its.length rv xv x (g.rules.map ca.weight) (g.aL.map eY.weight) its e (dT (cE g) words).1.2 H I (by omega) m p nn U (by omega) (List.replicate its.length uB) R).mono (λv H' ⟨i,d,V,a2,a3,a4⟩=>⟨[_,_,_],[],a4,i,d,V,a2,a3,rfl,rfl⟩)) ahF (.ej rfl rfl rfl) rfl ?_;rintro v42 _ _ ⟨i,d,rfl,B,W,rfl,rfl⟩;refine St.iP ?_;refine g2 ?_;refine St.mE ⟨i,d⟩ ⟨B,W⟩
     ·obtain rfl:nn=0:=by omega
      refine St.dw 69 3 ?_;refine St.aM (.slice none 0 0) (show _=([]:List dE).length from rfl) (show _=rows dC []from rfl) ?_;refine St.dN br ?_;refine g2 ?_;refine St.mE ⟨bR,[]⟩ ⟨rfl,λt ht=>by cases ht⟩
    ·rintro ⟨b,outs⟩ ⟨k,l⟩
     dsimp only at k l⊢
     obtain⟨⟨f,C⟩,Y⟩:∃z,z=b:=⟨b,rfl⟩
     subst Y;refine St.bS f dC outs rfl rfl l ?_;refine g3 ?_;refine St.ee (Ev.build (bF.nil) (λw=>jX w)) ?_;refine g5 ?_;refine St.rV [_,_] [aB (sl dC f outs),aB (aF br outs)] ?_;exact⟨⟨f,C⟩,outs,by rw[a];rfl,by rw[a];exact k,rfl⟩
theorem XZ {g:fj}{words:List ax}(h:(dT g words).2.1=0):oA (YK g (dT g words).1.1):=by
 have e:=D6 h
 have a:=vH e
 unfold dT at h⊢;rw[aA (λh=>h e)]at h⊢
 by_cases c:(pj g words).1≠0
 ·rw[aC c]at h;exact absurd h c
 ·rw[aA c]at h⊢
  have hw:=vO (show(pj g words).1=0 by omega)
  cases d:xD g words with
  |none=>rw[d]at h;have h:(17:Int)=0:=h;omega
  |some its=>
   unfold xD at d;obtain⟨cs,h1,rfl⟩:=dp.1 d
   have f:qp g.types.length g.cB.length (qrG g words):=⟨hw.2,zJ _,a.rn,a.xn,λr b=>⟨(a.rule r b).kids,(a.rule r b).gr,(a.rule r b).len⟩,λx hx=>⟨(a.lex x hx).gr,(a.lex x hx).len⟩⟩
   have j:=a.ty.len
   have k:=a.ft
   obtain⟨i,a2⟩:=CY f (by omega) (by omega) (words:=words) words.length 1 ⟨[],List.replicate (words.length*(words.length+1)) []⟩ cs (aR _) (by show 1+words.length≤words.length+1;omega) zk (λit hit=>by cases hit) h1;exact Xp f i a2 (λr b=>(a.rule r b).kids) (aO _) (aO _) (λx hx=>by obtain⟨r,b,rfl⟩:=cz.1 hx;exact(a.rule r b).wt) (λx hx=>by obtain⟨r,b,rfl⟩:=cz.1 hx;exact(a.lex r b).wt)
theorem KY (g:gQ)(wv:Value)(words:List ax)(n:Int):sm prog 10 #[fG g,wv,iv n] ([er g,sl bI wv words,tz,u8].map aB) (λv H'=>∃(a:aV) (outs:List dE),v= .tuple #[a.1,fv (lO (cE g) words n).2]∧outs.map cy=(lO (cE g) words n).1∧H'=[aB (sl dC a.1 outs),aB (aF br outs)]):=Gb g wv words n λh=>XZ h
def dX:List (List ax)→List (List ax)
 | []=>[[]]
 |s::ss=>s.flatMap λw=>(dX ss).map λc=>w::c
theorem yk:∀{ss:List (List ax)} {c:List ax},c∈dX ss→c.length=ss.length
 | [],c,h=>by rw[dX,bO]at h;subst h;rfl
 |s::ss,c,h=>by
  rw[dX,List.mem_flatMap]at h;obtain⟨w,_,h⟩:=h;obtain⟨d,hd,rfl⟩:=cz.1 h;rw[fB,yk hd,fB]
theorem BM:∀{ss:List (List ax)} {c:List ax},c∈dX ss→∀i,i<ss.length→c.getD i []∈ss.getD i []
 | [],_,_,_,h=>by cases h
 |s::ss,c,h,i,a=>by
  rw[dX,List.mem_flatMap]at h;obtain⟨w,hw,h⟩:=h;obtain⟨d,hd,rfl⟩:=cz.1 h
  cases i with
  |zero=>exact hw
  |succ i=>rw[CB,CB];exact BM hd i (by rw[fB]at a;omega)
def lQ (p:Nat→ax→Bool):Nat→List (List ax)→List (List ax)
 |_,[]=>[]
 |i,s::ss=>s.filter (p i)::lQ p (i+1) ss
def AY (p:Nat→ax→Bool):Nat→List ax→Bool
 |_,[]=>true
 |i,w::c=>p i w&&AY p (i+1) c
theorem jw (p:Nat→ax→Bool):∀(i:Nat) (ss:List (List ax)),(lQ p i ss).length=ss.length
 |_,[]=>rfl
 |i,s::ss=>by rw[lQ,fB,jw p (i+1) ss,fB]
theorem J1 (p:Nat→ax→Bool):∀(ss:List (List ax)) (i k:Nat),k<ss.length→(lQ p i ss).getD k []=(ss.getD k []).filter (p (i+k))
 | [],_,_,h=>by cases h
 |s::ss,i,0,_=>rfl
 |s::ss,i,k+1,h=>by
  rw[lQ,CB,CB,J1 p ss (i+1) k (by rw[fB]at h;omega),show i+1+k=i+(k+1) by omega]
theorem yj (p:Nat→ax→Bool):∀(ss:List (List ax)) (i:Nat),dX (lQ p i ss)=(dX ss).filter (AY p i)
 | [],_=>rfl
 |s::ss,i=>by
  rw[lQ,dX,dX,yj p ss (i+1)]
  induction s with
  |nil=>rfl
  |cons w s a=>
   rw[jS,List.filter_append,←a,List.filter_map]
   cases h:p i w with
   |true=>
    rw[List.filter_cons_of_pos h,jS]
    congr 2
    refine List.filter_congr λc _=> ?_
    show AY p (i+1) c=AY p i (w::c)
    rw[AY,h,IY]
   |false=>
    rw[List.filter_cons_of_neg (by rw[h];decide)]
    have:∀l:List (List ax),l.filter ((AY p i)∘ λc=>w::c)=[]:=λl=>by
     rw[List.filter_eq_nil_iff];intro c _
     show ¬AY p i (w::c)=true
     rw[AY,h,Bool.false_and];exact Bool.false_ne_true
    rw[this,lI,AF]
theorem E7 (p:Nat→ax→Bool):∀(c:List ax) (i:Nat),AY p i c=true↔∀k,k<c.length→p (i+k) (c.getD k [])=true
 | [],_=>⟨λ_ _ h=>(by cases h),λ_=>rfl⟩
 |w::c,i=>by
  rw[AY,qi,E7 p c (i+1)]
  constructor
  ·rintro ⟨a,b⟩ k hk
   cases k with
   |zero=>exact a
   |succ k=>rw[CB,show i+(k+1)=i+1+k by omega];exact b k (by rw[fB]at hk;omega)
  ·intro h
   refine⟨h 0 (by simp),λk hk=> ?_⟩
   have:=h (k+1) (by rw[fB];omega)
   rwa[CB,show i+(k+1)=i+1+k by omega]at this
def mj (i:Nat):List ax→List ax→Int×Int
 |_,[]=>(0,0)
 |p,w::l=>if isWord w=false then(10,i)else if w∈p then(7,i)else mj i (p++ [w]) l
def jb:Nat→List (List ax)→Int×Int
 |_,[]=>(0,0)
 |i,l::s=>if l.length=0∨5<l.length then(9,i)else if(mj i [] l).1≠0 then mj i [] l else jb (i+1) s
def kR (s:List (List ax)):Nat:=s.foldl (λn l=>n*l.length) 1
def l5 (g:fj)(s:List (List ax)):Int×Int:=
 if(jL g).1≠0 then jL g else if s.length=0∨12<s.length then(9,-2)else if(jb 0 s).1≠0 then jb 0 s else if 60<kR s then(17,0)else(0,0)
def mZ (g:fj)(c:List ax):Bool:=decide ((dT g c).2.1=17)
def kZ (g:fj)(c:List ax):Bool:=decide ((dT g c).2.1=0)&&decide (0<(dT g c).1.2.length)
def dy (g:fj)(s:List (List ax)):List (List ax)×(Int×Int):=if(dX s).any (mZ g)then([],(17,-2))else((dX s).filter (kZ g),(0,0))
def je (g:fj)(s:List (List ax)):List (List ax)×(Int×Int):=if(l5 g s).1≠0 then([],l5 g s)else dy g s
def ik (l:List (List ax))(i:Nat)(w:ax):Bool:=l.any λc=>c.getD i []==w
def xH (g:fj)(s:List (List ax)):List (List ax)×(Int×Int):=
 if(l5 g s).1≠0 then([],l5 g s)else if(dy g s).2.1≠0 then([],(dy g s).2)else(lQ (ik (dy g s).1) 0 s,(0,0))
structure MD (l:List ax):Prop where
 pos:0<l.length
 xY:l.length≤5
 word:∀w∈l,isWord w=true
 nodup:l.Nodup
theorem DX (i:Nat):∀(l p:List ax),(mj i p l).1=0↔(∀w∈l,isWord w=true∧w∉p)∧l.Nodup
 | [],p=>⟨λ_=>⟨λ_ h=>(by cases h),List.nodup_nil⟩,λ_=>rfl⟩
 |w::l,p=>by
  rw[mj]
  by_cases h1:isWord w=false
  ·rw[aC h1]
   exact⟨λh=>absurd h (by simp),λh=>absurd (h.1 w (by simp)).1 (by rw[h1];decide)⟩
  rw[aA h1]
  by_cases d:w∈p
  ·rw[aC d]
   exact⟨λh=>absurd h (by simp),λh=>absurd d (h.1 w (by simp)).2⟩
  rw[aA d,DX i l (p++ [w]),List.nodup_cons]
  constructor
  ·rintro ⟨a,b⟩
   refine⟨λx hx=> ?_,λhw=>(a w hw).2 (by simp),b⟩
   rcases cJ.1 hx with rfl|hx
   ·exact⟨by simpa using h1,d⟩
   ·exact⟨(a x hx).1,λhp=>(a x hx).2 (by simp[hp])⟩
  ·rintro ⟨a,b,c⟩
   refine⟨λx hx=>⟨(a x (by simp[hx])).1,λhp=> ?_⟩,c⟩
   rcases cD.1 hp with hp|hp
   ·exact(a x (by simp[hx])).2 hp
   ·rw[bO.1 hp]at hx;exact b hx
theorem zg:∀(s:List (List ax)) (i:Nat),(jb i s).1=0↔∀l∈s,MD l
 | [],_=>⟨λ_ _ h=>(by cases h),λ_=>rfl⟩
 |l::s,i=>by
  rw[jb]
  by_cases h1:l.length=0∨5<l.length
  ·rw[aC h1]
   exact⟨λh=>absurd h (by simp),λh=>by have:=h l (by simp);have:=this.pos;have:=(h l (by simp)).xY;omega⟩
  rw[aA h1]
  by_cases a:(mj i [] l).1≠0
  ·rw[aC a]
   refine⟨λh=>absurd h a,λh=>absurd ((DX i l []).2 ⟨λw hw=>⟨(h l (by simp)).word w hw,by simp⟩,(h l (by simp)).nodup⟩) a⟩
  rw[aA a,zg s (i+1)]
  have b:=(DX i l []).1 (ez.1 a)
  constructor
  ·intro h x hx
   rcases cJ.1 hx with rfl|hx
   ·exact⟨by omega,by omega,λw hw=>(b.1 w hw).1,b.2⟩
   ·exact h x hx
  ·exact λh x hx=>h x (by simp[hx])
structure Dt (g:fj)(s:List (List ax)):Prop where
 grm:(jL g).1=0
 pos:0<s.length
 xY:s.length≤12
 aN:∀l∈s,MD l
 prod:kR s≤60
theorem uw {g:fj}{s:List (List ax)}:(l5 g s).1=0↔Dt g s:=by
 unfold l5
 by_cases h1:(jL g).1≠0
 ·rw[aC h1];exact⟨λh=>absurd h h1,λh=>absurd h.grm h1⟩
 rw[aA h1]
 by_cases b:s.length=0∨12<s.length
 ·rw[aC b];exact⟨λh=>absurd h (by simp),λh=>by have:=h.pos;have:=h.xY;omega⟩
 rw[aA b]
 by_cases a:(jb 0 s).1≠0
 ·rw[aC a];exact⟨λh=>absurd h a,λh=>absurd ((zg s 0).2 h.aN) a⟩
 rw[aA a]
 by_cases c:60<kR s
 ·rw[aC c];exact⟨λh=>absurd h (by simp),λh=>by have:=h.prod;omega⟩
 rw[aA c];exact⟨λ_=>⟨ez.1 h1,by omega,by omega,(zg s 0).1 (ez.1 a),by omega⟩,λ_=>rfl⟩
theorem WH {g:fj}{s:List (List ax)}:(dy g s).2.1=0↔∀c∈dX s,mZ g c=false:=by
 unfold dy
 by_cases h:(dX s).any (mZ g)=true
 ·rw[aC h]
  refine⟨λh=>absurd h (by simp),λk=> ?_⟩;obtain⟨c,b,a⟩:=nb.1 h
  rw[k c b]at a;cases a
 ·rw[aA h]
  refine⟨λ_ c b=> ?_,λ_=>rfl⟩
  cases a:mZ g c with
  |false=>rfl
  |true=>exact absurd (nb.2 ⟨c,b,a⟩) h
theorem xZ {g:fj}{s:List (List ax)}(h:∀c∈dX s,mZ g c=false):dy g s=((dX s).filter (kZ g),(0,0)):=by
 unfold dy;rw[aA];intro k;obtain⟨c,b,a⟩:=nb.1 k
 rw[h c b]at a;cases a
theorem Rt {g:fj}{s:List (List ax)}(h:(je g s).2.1=0):Dt g s∧(∀c∈dX s,mZ g c=false)∧je g s=((dX s).filter (kZ g),(0,0)):=by
 unfold je at h⊢
 by_cases h1:(l5 g s).1≠0
 ·rw[aC h1]at h;exact absurd h h1
 rw[aA h1]at h⊢
 have a:=WH.1 h
 exact⟨uw.1 (ez.1 h1),a,xZ a⟩
theorem S1 {g:fj}{s:List (List ax)}(b:∀c∈dX s,mZ g c=false){l:List (List ax)}(el:l=(dX s).filter (kZ g)):
 (∀c∈dX (lQ (ik l) 0 s),mZ g c=false)∧(dX (lQ (ik l) 0 s)).filter (kZ g)=l:=by
 rw[yj];refine⟨λc a=>b c (qh.1 a).1,?_⟩;rw[List.filter_filter,el]
 refine List.filter_congr λc a=> ?_
 cases d:kZ g c with
 |false=>rfl
 |true=>
  rw[IY];rw[E7];intro k hk;rw[hP];unfold ik;exact nb.2 ⟨c,qh.2 ⟨a,d⟩,by simp⟩
theorem FP (p:Nat→ax→Bool):∀(s:List (List ax)) (i a b:Nat),a≤b→(lQ p i s).foldl (λn l=>n*l.length) a≤s.foldl (λn l=>n*l.length) b
 | [],_,_,_,h=>h
 |l::s,i,a,b,h=>by
  rw[lQ,s6,s6];exact FP p s (i+1) _ _ (Nat.mul_le_mul h (CD _ _))
theorem LF {g:fj}{s:List (List ax)}(h1:(je g s).2.1=0)(d:(je g s).1≠ []):(xH g s).2.1=0∧je g (xH g s).1=((je g s).1,(0,0)):=by
 obtain⟨b,f,i⟩:=Rt h1;rw[i]at d⊢
 dsimp only at d⊢
 have e2:xH g s=(lQ (ik ((dX s).filter (kZ g))) 0 s,(0,0)):=by
  unfold xH;rw[aA (λx=>x (uw.2 b)),xZ f];rfl
 rw[e2];refine⟨rfl,?_⟩
 dsimp only
 obtain⟨f1,f2⟩:=S1 f (l:=(dX s).filter (kZ g)) rfl
 have j:Dt g (lQ (ik ((dX s).filter (kZ g))) 0 s):=by
  refine⟨b.grm,by rw[jw];exact b.pos,by rw[jw];exact b.xY,λl hm=> ?_,dS (FP _ s 0 1 1 (aR _)) b.prod⟩;obtain⟨k,hk,rfl⟩:=List.getElem_of_mem hm;rw[jw]at hk
  have m:(lQ (ik ((dX s).filter (kZ g))) 0 s)[k]'(by rw[jw];exact hk)=(s.getD k []).filter (ik ((dX s).filter (kZ g)) k):=by
   have:=J1 (ik ((dX s).filter (kZ g))) s 0 k hk
   rw[hP]at this;rw[←this,ar,bU (by rw[jw];exact hk),Option.getD_some]
  rw[m]
  have e:=b.aN (s.getD k []) (by rw[ar,bU hk,Option.getD_some];exact gy _)
  obtain⟨c,h⟩:=List.exists_mem_of_ne_nil _ d
  have n:=(qh.1 h).1
  refine⟨?_,dS (CD _ _) e.xY,λw hw=>e.word w (qh.1 hw).1,e.nodup.filter _⟩;refine List.length_pos_iff.2 (List.ne_nil_of_mem (a:=c.getD k []) (qh.2 ⟨BM n k hk,?_⟩));unfold ik;exact nb.2 ⟨c,h,by simp⟩
 unfold je;rw[aA (λx=>x (uw.2 j)),xZ f1,f2]
theorem ZR:aI prog 105:=⟨_,func105,rfl,by kernel_rfl⟩
theorem Kf:aI prog 66:=⟨_,func66,rfl,by kernel_rfl⟩
theorem B1:(prog.info? 33).map (·.size)=some 1:=by kernel_rfl
instance:type_of%(pd.mk B1):=⟨B1⟩
theorem ahR:aI prog 68:=⟨_,func68,rfl,by kernel_rfl⟩
theorem VN:(prog.info? 183).bind (·.zero)=some (Value.agg #[.int .i64 0,.int .i64 0,.int .i64 0,.slice none 0 0]):=by kernel_rfl
theorem ZF:(prog.info? 183).map (·.bytes)=some 48:=by kernel_rfl
theorem ahU:aI prog 71:=⟨_,func71,rfl,by kernel_rfl⟩
theorem QW:(prog.info? 33).bind (·.zero)=some (Value.slice none 0 0):=by kernel_rfl
theorem ZK:(prog.info? 33).map (·.bytes)=some 24:=by kernel_rfl
theorem al4:(prog.info? 49).map (·.size)=some 1:=by kernel_rfl
theorem ahT:aI prog 70:=⟨_,func70,rfl,by kernel_rfl⟩
theorem by9:(prog.info? 9).map (·.bytes)=some 16:=by kernel_rfl
theorem ahS:aI prog 69:=⟨_,func69,rfl,by kernel_rfl⟩
instance:rI prog 49 #[.slice none 0 0]:=⟨by kernel_rfl⟩
theorem Vz:aI prog 33:=⟨_,func33,rfl,by kernel_rfl⟩
theorem Vy:aI prog 32:=⟨_,func32,rfl,by kernel_rfl⟩
theorem Zy:aI prog 65:=⟨_,func65,rfl,by kernel_rfl⟩
theorem ahV:aI prog 72:=⟨_,func72,rfl,by kernel_rfl⟩
theorem ahK:aI prog 36:=⟨_,func36,rfl,by kernel_rfl⟩
instance:rI prog 9 #[.string ⟨#[]⟩]:=⟨by kernel_rfl⟩
theorem ahJ:aI prog 35:=⟨_,func35,rfl,by kernel_rfl⟩
theorem ahA:aI prog 10:=⟨_,func10,rfl,by kernel_rfl⟩
theorem U1:(prog.info? 77).bind (λi=>i.zero.map Value.cells)=some #[.slice none 0 0,.int .i64 0]:=by kernel_rfl
instance:type_of%(rI.mk U1):=⟨U1⟩
theorem ae0 (w:World):cw prog 77 w= .ok #[(0,1),(1,1)] w:=by kernel_rfl
instance:pd prog 77 2:=⟨by kernel_rfl⟩
theorem NI:bf prog 77 1=some 1:=by kernel_rfl
theorem ahI:aI prog 34:=⟨_,func34,rfl,by kernel_rfl⟩
theorem Vw:aI prog 13:=⟨_,func13,rfl,by kernel_rfl⟩
theorem ahH:aI prog 31:=⟨_,func31,rfl,by kernel_rfl⟩
theorem Zu:aI prog 30:=⟨_,func30,rfl,by kernel_rfl⟩
theorem Zl:aI prog 16:=⟨_,func16,rfl,by kernel_rfl⟩
theorem WK:bf prog 77 0=some 0:=by kernel_rfl
theorem ahD:aI prog 15:=⟨_,func15,rfl,by kernel_rfl⟩
theorem ahB:aI prog 12:=⟨_,func12,rfl,by kernel_rfl⟩
theorem ahC:aI prog 14:=⟨_,func14,rfl,by kernel_rfl⟩
theorem Md (w:World):(Instr.build 77 #[]).run prog w= .ok (.agg #[.slice none 0 0,.int .i64 0]) w:=
 bM U1 (ae0 w) (by simp[Instr.fill,J.bK])
theorem Ka {a b:Value}(c:a.oneCell'=true)(h1:b.oneCell'=true)(w:World):(Instr.build 77 #[(0,a),(1,b)]).run prog w= .ok (.agg #[a,b]) w:=
 bM U1 (ae0 w) (by simp[Instr.fill,J.bK,J.cells_one c,J.cells_one h1])
theorem Ld {i k:Nat}{p l:List ax}{w:ax}(h:l[k]?=some w):mj i p (l.drop k)=if isWord w=false then(10,(i:Int))else if w∈p then(7,(i:Int))else mj i (p++ [w]) (l.drop (k+1)):=by rw[bN h,mj]
theorem PR {i k:Nat}{p l:List ax}(h:l.length≤k):mj i p (l.drop k)=(0,0):=by rw[j4 h,mj]
theorem I1 {i:Nat}{s:List (List ax)}{l:List ax}(h:s[i]?=some l):jb i (s.drop i)=if l.length=0∨5<l.length then(9,(i:Int))else if(mj i [] l).1≠0 then mj i [] l else jb (i+1) (s.drop (i+1)):=by rw[bN h,jb]
theorem Le {i:Nat}{s:List (List ax)}(h:s.length≤i):jb i (s.drop i)=(0,0):=by rw[j4 h,jb]
theorem Be {s:List (List ax)}{i:Nat}{l:List ax}(h:s[i]?=some l):kR (s.take (i+1))=kR (s.take i)*l.length:=by
 unfold kR
 rw[wu,h,wo];rfl
theorem vX {s:List (List ax)}(a:∀l∈s,l.length≤5):∀i,kR (s.take i)≤5^i
 |0=>aR _
 |i+1=>by
  cases h:s[i]? with
  |none=>
   have c:s.length≤i:=by rwa[List.getElem?_eq_none_iff]at h
   have b:=vX a i
   rw[fF c]at b;rw[fF (by omega)];exact dS b (si (by decide) (by omega))
  |some l=>
   rw[Be h,Nat.pow_succ];exact Nat.mul_le_mul (vX a i) (a l (ae h))
theorem Dy (v0:Value)(xs:List ax)(y:ax):eC prog 105 #[v0,sv y] [sl bI v0 xs] (iv (ix (λx=>decide (y=x)) xs)):=by
 refine eC.nJ (args:=[v0,sv y]) 19 func105 rfl ntmps105 rfl (λc=> ?_);refine go ?_;refine St.wf v0 (λf hlen=> ?_);refine g13 ?_;refine St.lS (ι:=Nat) (λk T=>(8,iv k)::T) (λk=>k≤xs.length∧(xs.take k).all (λx=> !decide (y=x))=true) (λk=>xs.length-k) 0 (aD.cons 0 rfl (aD.cons 1 rfl (aD.cons 7 rfl aD.nil))) ⟨aP _,rfl⟩ ?_;intro k d;obtain⟨hk,a⟩:=d;refine g6 ?_;refine St.cq (λe=> ?_) (λe=> ?_)
 ·obtain⟨x,hx⟩:=aE (show k<xs.length by omega)
  refine g20 ?_;refine St.cq (λb=> ?_) (λb=> ?_)
  ·refine g12 ?_
   refine St.rV [_] [] ?_;exact ie (tm a hx (by simpa using b)).symm
  ·refine g8 ?_
   refine St.aS (k+1) ⟨by omega,kr a hx (by simpa using b)⟩
 ·refine g11 ?_
  refine St.rV [_] [] ?_;exact ie (xu a (by omega)).symm
theorem yD (v0:Value)(xs:List ax)(y:ax):eC prog 68 #[v0,sv y] [sl bI v0 xs] (.bool (xs.any (λx=>decide (y=x)))):=by
 refine eC.nJ (args:=[v0,sv y]) 9 func68 rfl ntmps68 rfl (λc=> ?_);refine g9 ?_;refine St.ee (Ev.call (Dy v0 xs y) ZR (.aX rfl rfl)) ?_;refine g5 ?_;refine St.rV [_] [] ?_;exact be (qx _ _)
theorem iG (a b:Int):eC prog 66 #[iv a,iv b] [] (fv (a,b)):=by
 refine eC.qC (args:=[iv a,iv b]) 8 func66 rfl ntmps66 rfl (λc=> ?_);refine g2 ?_;refine St.al (λd=> ?_);refine g6 ?_;refine St.ee (Ev.build (bF.aX rfl rfl) (λw=>gi rfl rfl w)) ?_;refine g4 ?_;refine St.rV [_] [] ?_;rfl
theorem Oo {s:List (List ax)}{i:Nat}(h:∀l∈s.take i,l.length≤5)(a:i≤12):kR (s.take i)≤244140625:=by
 have:=vX (s:=s.take i) h i
 rw[List.take_take,Nat.min_self]at this;exact dS this (si (by decide) a)
theorem Ic {l:List ax}{w:ax}:l.any (λx=>decide (w=x))=true↔w∈l:=by
 rw[nb];exact⟨λ⟨x,hx,h⟩=>by rw[fM h];exact hx,λh=>⟨w,h,eB rfl⟩⟩
theorem sN (g:gQ)(wv:Value)(aN:List (List ax)):kW prog 32 #[fG g,wv] [er g,o3 bI wv aN,tz,u8] (fv (l5 (cE g) aN)):=by
 refine kW.body (args:=[fG g,wv]) (ds:=[er g,o3 bI wv aN,tz,u8]) 72 func32 rfl ntmps32 rfl (λc A=> ?_);refine St.cast (H':=[aB (er g),aB (o3 bI wv aN),aB (tz),aB (u8)]) rfl ?_;refine go ?_;refine St.ma wv (λvs E=> ?_);refine St.JY vs E (λo=> ?_);refine go ?_;refine St.dJ (.mk rfl) rfl (λI=> ?_);refine St.al (λJ=> ?_);refine g6 ?_;refine St.slot 11 (fG g) rfl rfl ?_;refine St.ee (Ev.mQ A (qJ g) Vx (.au rfl)) ?_;refine St.slot 12 (.agg #[iv (jL (cE g)).1,iv (jL (cE g)).2]) rfl rfl ?_;refine St.al (λK=> ?_);refine g10 ?_;refine St.cq (λB=> ?_) (λB=> ?_)
 ·have hk:(l5 (cE g) aN)=jL (cE g):=by unfold l5;rw[aC B]
  refine g8 ?_;refine St.rV [_] [] ?_
  rw[hk];rfl
 ·have hk:(l5 (cE g) aN)=if aN.length=0∨12<aN.length then(9,-2)else if(jb 0 aN).1≠0 then jb 0 aN else if 60<kR aN then(17,0)else(0,0):=by unfold l5;rw[aA (λh=>h (by omega))]
  refine g9 ?_;refine St.gf _ rfl rfl (λa=>Ev.move (.mk rfl)) rfl ?_;refine St.gf _ rfl rfl (λa=>Ev.fk (ai.gv rfl a) sf) rfl ?_;refine St.gf _ rfl rfl (λa=>Ev.gtr (ai.gv rfl a) (.mk rfl)) rfl ?_;refine g3 ?_;refine St.cq (λF=> ?_) (λF=> ?_)
  ·rw[aC (by omega)]at hk
   refine g2 ?_;refine St.ee (Ev.call (iG 9 (-2)) Kf (.aX rfl rfl)) ?_;refine g5 ?_;refine St.rV [_] [] ?_
   rw[hk];rfl
  ·rw[aA (by omega)]at hk
   have G:aN.length≤12:=by omega
   refine g16 ?_;refine St.lS (ι:=Nat) (λi T=>(28,iv i)::(6,iv (kR (aN.take i):Nat))::T) (λi=>i≤aN.length∧jb 0 aN=jb i (aN.drop i)∧(∀l∈aN.take i,l.length≤5)) (λi=>aN.length-i) 0 (aD.cons 4 rfl (aD.cons 26 rfl (aD.cons 27 rfl aD.nil))) ⟨aP _,rfl,λl d=>by rw[sg]at d;cases d⟩ ?_;rintro i ⟨L,j,C⟩
   have D:=Oo C (by omega)
   refine g6 ?_;refine St.cq (λq=> ?_) (λq=> ?_)
   ·obtain⟨l,d⟩:=aE (show i<aN.length by omega)
    obtain⟨u,hu⟩:=aE (show i<vs.length by omega);refine St.jr (vs:=vs) i hu d ?_
    have b:=I1 d
    have r:=o l (ae d)
    have s:=Be d
    refine St.wf u.1 (λ_ M=> ?_);refine g20 ?_;refine St.gf _ rfl rfl (λa=>Ev.move (.mk rfl)) rfl ?_;refine St.gf _ rfl rfl (λa=>Ev.fk (ai.gv rfl a) pM) rfl ?_;refine St.gf _ rfl rfl (λa=>Ev.gtr (ai.gv rfl a) (.mk rfl)) rfl ?_;refine g3 ?_;refine St.cq (λH=> ?_) (λH=> ?_)
    ·rw[aC (by omega)]at b
     rw[j.trans b,aC (show(9:Int)≠0 by decide)]at hk;refine g3 ?_;refine St.ee (Ev.call (iG 9 (i:Int)) Kf (.aX rfl rfl)) ?_;refine g10 ?_;refine St.rV [_] [] ?_
     rw[hk];rfl
    ·rw[aA (by omega)]at b
     have t:l.length≤5:=by omega
     refine g11 ?_;refine St.lS (ι:=Nat) (λk T=>(45,iv k)::T) (λk=>k≤l.length∧mj i [] l=mj i (l.take k) (l.drop k)) (λk=>l.length-k) 0 (aD.cons 4 rfl (aD.cons 6 rfl (aD.cons 7 rfl (aD.cons 8 rfl (aD.cons 26 rfl (aD.cons 27 rfl (aD.cons 28 rfl (aD.cons 43 rfl (aD.cons 44 rfl aD.nil))))))))) ⟨aP _,rfl⟩ ?_;rintro k ⟨N,m⟩;refine g6 ?_;refine St.cq (λv=> ?_) (λv=> ?_)
     ·obtain⟨w,hw⟩:=aE (show k<l.length by omega)
      have O:w.length≤140737488351232:=r w (ae hw)
      have f:=Ld (i:=i) (p:=l.take k) hw
      refine g17 ?_;refine St.ee (Ev.mQ A (ui w (by omega)) W5 (.au rfl)) ?_;refine g3 ?_;refine St.cond _ rfl (λy=> ?_) (λy=> ?_)
      ·skip
       rw[aC (show isWord w=false by simpa using y)]at f;rw[m.trans f,aC (show(10:Int)≠0 by decide)]at b;rw[j.trans b,aC (show(10:Int)≠0 by decide)]at hk;refine g3 ?_;refine St.ee (Ev.call (iG 10 (i:Int)) Kf (.aX rfl rfl)) ?_;refine g15 ?_;refine St.rV [_] [] ?_
       rw[hk];rfl
      ·skip
       rw[aA (show ¬isWord w=false by simpa using y)]at f;refine g3 ?_;refine St.part u.1 0 k (aP _) (by omega) ?_;rw[show bI.size=1 from rfl,show(l.drop 0).take (k-0)=l.take k by rw[List.drop_zero,Nat.sub_zero]];refine g3 ?_;refine St.ee (Ev.Lc (h:=k) (.mk rfl) (.mk rfl) pM M3 (by omega) (by omega)) ?_;refine go ?_;refine St.ee (Ev.call (yD (pJ u.1 1 0 k) (l.take k) w) ahR (.aX rfl rfl)) ?_;refine g2 ?_;refine St.cond _ rfl (λn=> ?_) (λn=> ?_)
       ·skip
        rw[aC (Ic.1 n)]at f;rw[m.trans f,aC (show(7:Int)≠0 by decide)]at b;rw[j.trans b,aC (show(7:Int)≠0 by decide)]at hk;refine g3 ?_;refine St.ee (Ev.call (iG 7 (i:Int)) Kf (.aX rfl rfl)) ?_;refine g14 ?_;refine St.rV [_] [] ?_
        rw[hk];rfl
       ·skip
        rw[aA (λh=>by rw[Ic.2 h]at n;cases n)]at f;refine g8 ?_;refine St.aS (k+1) ⟨by omega,by rw[m,f,wu,hw];rfl⟩
     ·obtain rfl:k=l.length:=by omega
      rw[PR (aR _)]at m;rw[m,aA (by decide)]at b;refine g9 ?_;refine St.ee (Ev.mul (.mk rfl) (.mk rfl) (by have P:kR (aN.take i)*l.length≤244140625*5:=Nat.mul_le_mul D t;have e:((kR (aN.take i):Nat):Int)*((l.length:Nat):Int)=((kR (aN.take i)*l.length:Nat):Int):=(Int.natCast_mul _ _).symm;omega)) ?_;refine St.slot 66 (iv (kR (aN.take (i+1)):Nat)) rfl (congrArg iv (by rw[s];exact(Int.natCast_mul _ _).symm)) ?_;refine g9 ?_;refine St.aS (i+1) ⟨by omega,j.trans b,λx hx=>by rw[wu,d]at hx;rcases cD.1 hx with hx|hx;exact C x hx;rw[bO.1 hx];omega⟩
   ·obtain rfl:i=aN.length:=by omega
    rw[Le (aR _)]at j;rw[j,aA (by decide)]at hk;rw[kH]at D⊢;refine g12 ?_;refine St.cq (λz=> ?_) (λz=> ?_)
    ·rw[aC (by omega)]at hk
     refine g2 ?_;refine St.ee (Ev.call (iG 17 0) Kf (.aX rfl rfl)) ?_;refine g5 ?_;refine St.rV [_] [] ?_
     rw[hk];rfl
    ·rw[aA (by omega)]at hk
     refine g4 ?_;refine St.ee (Ev.build (bF.nil) (λw=>jX w)) ?_;refine g4 ?_;refine St.rV [_] [] ?_
     rw[hk];rfl
def fU:List (List ax)→List Nat→List ax
 |s::ss,a::az=>s.getD a []::fU ss az
 |_,_=>[]
def pV:List (List ax)→List Nat→List (List ax)
 |s::ss,a::az=>((pV ss az).map λc=>s.getD a []::c)++(s.drop (a+1)).flatMap λw=>(dX ss).map λc=>w::c
 |_,_=>[[]]
def rO:List (List ax)→List Nat→Option (List Nat)
 |s::ss,a::az=>match rO ss az with
  |some bs=>some (a::bs)
  |none=>if a+1<s.length then some ((a+1)::List.replicate ss.length 0)else none
 |_,_=>none
def tA:List (List ax)→List Nat→Prop
 | [],[]=>True
 |s::ss,a::az=>a<s.length∧tA ss az
 |_,_=>False
theorem tA.len:∀{ss:List (List ax)} {az:List Nat},tA ss az→az.length=ss.length
 | [],[],_=>rfl
 |s::ss,a::az,h=>by rw[fB,fB,h.2.len]
 | [],_::_,h=>h.elim
 |_::_,[],h=>h.elim
theorem tA.at:∀{ss:List (List ax)} {az:List Nat},tA ss az→∀{i a:Nat} {s:List ax},az[i]?=some a→ss[i]?=some s→a<s.length
 | [],[],_,i,a,s,h,_=>by simp at h
 |s::ss,a::az,h,0,b,t,h1,c=>by
  obtain rfl:=Option.some.inj h1;obtain rfl:=Option.some.inj c;exact h.1
 |s::ss,a::az,h,i+1,b,t,h1,c=>h.2.at (i:=i) h1 c
 | [],_::_,h,_,_,_,_,_=>h.elim
 |_::_,[],h,_,_,_,_,_=>h.elim
theorem vV:∀{ss:List (List ax)},(∀s∈ss,0<s.length)→tA ss (List.replicate ss.length 0)
 | [],_=>trivial
 |s::ss,h=>⟨h s (by simp),vV λt ht=>h t (by simp[ht])⟩
theorem vc:∀{ss:List (List ax)},(∀s∈ss,0<s.length)→pV ss (List.replicate ss.length 0)=dX ss
 | [],_=>rfl
 |s::ss,h=>by
  have a:=h s (by simp)
  show((pV ss (List.replicate ss.length 0)).map λc=>s.getD 0 []::c)++(s.drop 1).flatMap (λw=>(dX ss).map λc=>w::c)=s.flatMap λw=>(dX ss).map λc=>w::c
  rw[vc λt ht=>h t (by simp[ht])]
  cases s with
  |nil=>simp at a
  |cons w s=>rfl
theorem r5:∀{ss:List (List ax)} {az:List Nat},(∀s∈ss,0<s.length)→tA ss az→pV ss az=fU ss az::match rO ss az with|none=>[]|some bs=>pV ss bs
 | [],[],_,_=>rfl
 |s::ss,a::az,hp,h=>by
  have b:∀t∈ss,0<t.length:=λt ht=>hp t (by simp[ht])
  have d:=r5 b h.2
  show((pV ss az).map λc=>s.getD a []::c)++(s.drop (a+1)).flatMap (λw=>(dX ss).map λc=>w::c)=(s.getD a []::fU ss az)::match(match rO ss az with|some bs=>some (a::bs)|none=>if a+1<s.length then some ((a+1)::List.replicate ss.length 0)else none)with|none=>[]|some bs=>pV (s::ss) bs
  rw[d]
  cases e:rO ss az with
  |some bs=>rfl
  |none=>
   dsimp only
   by_cases h1:a+1<s.length
   ·rw[aC h1]
    dsimp only
    show _=_::(((pV ss (List.replicate ss.length 0)).map λc=>s.getD (a+1) []::c)++(s.drop (a+1+1)).flatMap (λw=>(dX ss).map λc=>w::c))
    rw[vc b,fN,lI,List.drop_eq_getElem_cons h1,jS,ar (l:=s) (i:=a+1),bU h1];rfl
   ·rw[aA h1,j4 (by omega)]
    rfl
 | [],_::_,_,h=>h.elim
 |_::_,[],_,h=>h.elim
theorem OW:∀{ss:List (List ax)} {az bs:List Nat},(∀s∈ss,0<s.length)→tA ss az→rO ss az=some bs→tA ss bs
 | [],[],bs,_,_,e=>by cases e
 |s::ss,a::az,bs,hp,h,e=>by
  have c:∀t∈ss,0<t.length:=λt ht=>hp t (by simp[ht])
  have e:(match rO ss az with|some bs=>some (a::bs)|none=>if a+1<s.length then some ((a+1)::List.replicate ss.length 0)else none)=some bs:=e
  cases b:rO ss az with
  |some cs=>
   rw[b]at e;obtain rfl:=Option.some.inj e;exact⟨h.1,OW c h.2 b⟩
  |none=>
   rw[b]at e
   by_cases h1:a+1<s.length
   ·dsimp only at e
    rw[aC h1]at e;obtain rfl:=Option.some.inj e;exact⟨h1,vV c⟩
   ·dsimp only at e
    rw[aA h1]at e;cases e
 | [],_::_,_,_,h,_=>h.elim
 |_::_,[],_,_,h,_=>h.elim
def B9 (ss:List (List ax))(az:List Nat)(m:Nat):Prop:=∀j a s,m≤j→az[j]?=some a→ss[j]?=some s→a+1=s.length
theorem zL:∀{ss:List (List ax)} {az:List Nat},tA ss az→B9 ss az 0→rO ss az=none
 | [],[],_,_=>rfl
 |s::ss,a::az,h,c=>by
  have h1:rO ss az=none:=zL h.2 λj b t e d e2=>c (j+1) b t (by omega) d e2
  have f:=c 0 a s (aR _) rfl rfl
  show(match rO ss az with|some bs=>some (a::bs)|none=>if a+1<s.length then some ((a+1)::List.replicate ss.length 0)else none)=none
  rw[h1]
  dsimp only
  rw[aA (by omega)]
 | [],_::_,h,_=>h.elim
 |_::_,[],h,_=>h.elim
theorem OV:∀{ss:List (List ax)} {az:List Nat} {i a:Nat} {s:List ax},tA ss az→az[i]?=some a→ss[i]?=some s→B9 ss az (i+1)→a+1<s.length→rO ss az=some (az.take i++(a+1)::List.replicate (ss.length-(i+1)) 0)
 | [],[],_,_,_,_,e,_,_,_=>by simp at e
 |s::ss,a::az,0,b,t,h,c,e2,d,f=>by
  obtain rfl:=Option.some.inj c;obtain rfl:=Option.some.inj e2
  have h1:rO ss az=none:=zL h.2 λj b t g c e2=>d (j+1) b t (by omega) c e2
  show(match rO ss az with|some bs=>some (a::bs)|none=>if a+1<s.length then some ((a+1)::List.replicate ss.length 0)else none)=_
  rw[h1]
  dsimp only
  rw[aC f];rfl
 |s::ss,a::az,i+1,b,t,h,c,e2,d,f=>by
  have h1:=OV (i:=i) h.2 c e2 (λj b t g c e2=>d (j+1) b t (by omega) c e2) f
  show(match rO ss az with|some bs=>some (a::bs)|none=>if a+1<s.length then some ((a+1)::List.replicate ss.length 0)else none)=_
  rw[h1,fB,show ss.length+1-(i+1+1)=ss.length-(i+1) by omega];rfl
 | [],_::_,_,_,_,h,_,_,_,_=>h.elim
 |_::_,[],_,_,_,h,_,_,_,_=>h.elim
theorem FJ:∀{ss:List (List ax)} {az:List Nat},tA ss az→(fU ss az).length=ss.length
 | [],[],_=>rfl
 |s::ss,a::az,h=>by rw[fU,fB,fB,FJ h.2]
 | [],_::_,h=>h.elim
 |_::_,[],h=>h.elim
theorem JR:∀{ss:List (List ax)} {az:List Nat} {i a:Nat} {s:List ax} {w:ax},az[i]?=some a→ss[i]?=some s→s[a]?=some w→(fU ss az)[i]?=some w
 | [],_,i,_,_,_,_,e,_=>by simp at e
 |_::_,[],i,_,_,_,e,_,_=>by simp at e
 |s::ss,a::az,0,b,t,w,c,e2,d=>by
  obtain rfl:=Option.some.inj c;obtain rfl:=Option.some.inj e2
  rw[fU,ar,d];rfl
 |s::ss,a::az,i+1,b,t,w,c,e2,d=>JR (i:=i) (ss:=ss) (az:=az) c e2 d
theorem FK:∀{ss:List (List ax)} {az:List Nat},tA ss az→∀w∈fU ss az,∃s∈ss,w∈s
 | [],[],_,_,h=>by cases h
 |s::ss,a::az,h,w,hw=>by
  rw[fU]at hw
  rcases cJ.1 hw with rfl|hw
  ·refine⟨s,by simp,?_⟩
   rw[ar,bU h.1];exact gy _
  ·obtain⟨t,ht,b⟩:=FK h.2 w hw
   exact⟨t,by simp[ht],b⟩
 | [],_::_,h,_,_=>h.elim
 |_::_,[],h,_,_=>h.elim
theorem sO:∀(s:List (List ax)) (a:Nat),s.foldl (λn l=>n*l.length) a=a*s.foldl (λn l=>n*l.length) 1
 | [],a=>(gW a).symm
 |l::s,a=>by rw[s6,s6,sO s (a*l.length),sO s (1*l.length),Nat.one_mul,Nat.mul_assoc]
theorem wQ {α β:Type}(f:α→List β)(m:Nat):∀(l:List α),(∀x∈l,(f x).length=m)→(l.flatMap f).length=l.length*m
 | [],_=>(Nat.zero_mul m).symm
 |x::l,h=>by rw[jS,bQ,h x (by simp),wQ f m l (λy hy=>h y (by simp[hy])),fB,Nat.succ_mul,Nat.add_comm]
theorem wO:∀(ss:List (List ax)),(dX ss).length=kR ss
 | []=>rfl
 |s::ss=>by
  rw[dX,wQ _ (kR ss) s (λw _=>by rw[aO,wO ss])];unfold kR;rw[s6,sO ss (1*s.length),Nat.one_mul]
structure yF (g:fj)(ss:List (List ax))(az:List Nat)(outs:List (List ax)):Prop where
 ok:tA ss az
 done:∃l,dX ss=l++pV ss az∧(∀c∈l,mZ g c=false)∧outs=l.filter (kZ g)
theorem H6 {g:fj}{ss:List (List ax)}(hp:∀s∈ss,0<s.length):yF g ss (List.replicate ss.length 0) []:=⟨vV hp,[],by rw[vc hp];rfl,λ_ h=>(by cases h),rfl⟩
theorem Rv {g:fj}{c:List ax}(h:mZ g c=true):kZ g c=false:=by
 have h:(dT g c).2.1=17:=fM h
 unfold kZ
 rw[fL (by omega)];rfl
theorem NN {g:fj}{ss:List (List ax)}(hp:∀s∈ss,0<s.length){az:List Nat}{outs:List (List ax)}(h:yF g ss az outs)(a:mZ g (fU ss az)=true):dy g ss=([],(17,-2)):=by
 obtain⟨l,e,_,_⟩:=h.done;unfold dy;rw[aC];refine nb.2 ⟨fU ss az,?_,a⟩;rw[e,r5 hp h.ok];exact mz _ (aQ ..)
def rJ (g:fj)(outs:List (List ax))(c:List ax):List (List ax):=if kZ g c=true then outs++ [c]else outs
theorem wK {g:fj}{l:List (List ax)}{c:List ax}:rJ g (l.filter (kZ g)) c=(l++ [c]).filter (kZ g):=by
 unfold rJ;rw[List.filter_append]
 by_cases h:kZ g c=true
 ·rw[aC h,List.filter_cons_of_pos h];rfl
 ·rw[aA h,List.filter_cons_of_neg h];exact(gx _).symm
theorem NL {g:fj}{ss:List (List ax)}(hp:∀s∈ss,0<s.length){az:List Nat}{outs:List (List ax)}(h:yF g ss az outs)(b:mZ g (fU ss az)=false)(d:rO ss az=none):dy g ss=(rJ g outs (fU ss az),(0,0)):=by
 obtain⟨l,e,h1,rfl⟩:=h.done;rw[r5 hp h.ok,d]at e;rw[xZ (λc a=>by rw[e]at a;rcases cD.1 a with a|a;exact h1 c a;rw[bO.1 a];exact b),wK,e]
theorem Kn {g:fj}{ss:List (List ax)}(hp:∀s∈ss,0<s.length){az bs:List Nat}{outs:List (List ax)}(h:yF g ss az outs)(d:mZ g (fU ss az)=false)(b:rO ss az=some bs):yF g ss bs (rJ g outs (fU ss az))∧(pV ss bs).length<(pV ss az).length:=by
 obtain⟨l,e,h1,rfl⟩:=h.done
 have e2:=r5 hp h.ok
 rw[b]at e2
 dsimp only at e2
 refine⟨⟨OW hp h.ok b,l++ [fU ss az],by rw[e,e2,dq];rfl,λc a=> ?_,wK⟩,by rw[e2];exact pP _⟩
 rcases cD.1 a with a|a
 ·exact h1 c a
 ·rw[bO.1 a];exact d
theorem NM {g:fj}{ss:List (List ax)}{az:List Nat}{outs:List (List ax)}(h:yF g ss az outs):outs.length≤kR ss:=by
 obtain⟨l,e,_,rfl⟩:=h.done;rw[←wO,e,bQ];exact dS (CD _ _) (Nat.le_add_right _ _)
def oB (az:List Nat)(n m:Nat):List Nat:=az.take m++List.replicate (n-m) 0
theorem MR {az:List Nat}:oB az az.length az.length=az:=by unfold oB;rw[kH,ff];exact gx _
theorem Ig {az:List Nat}{n m i:Nat}(h:az.length=n)(a:i<m)(hm:m≤n):(oB az n m)[i]?=az[i]?:=by
 unfold oB;rw[oc (by rw[eX];omega),List.getElem?_take_of_lt a]
theorem EB {az:List Nat}{n m:Nat}(h:az.length=n)(hm:m<n)(a:Nat):(oB az n (m+1)).set m a=az.take m++a::List.replicate (n-(m+1)) 0:=by
 unfold oB;rw[wu,bU (by omega),dq,lK _ _ (by rw[eX];omega),eX,ko (by omega),ff];rfl
theorem KU {az:List Nat}{n m:Nat}(h:az.length=n)(hm:m<n):(oB az n (m+1)).set m 0=oB az n m:=by
 rw[EB h hm];unfold oB;rw[show n-m=(n-(m+1))+1 by omega,List.replicate_succ]
end Go.Proofs.YtblifkgpebebmaaGreatDoor
namespace Go.J
open Go
section
variable {P:Program}{n:Nat}{F:Fr}{c:Ctx}{H R:List ak}{Q:Exit→Act→World→Prop}{ops:Array Oper}{rest:List Oper}{d:Nat}{ty:TypeId}{pos:String}{after:Array Edge}
theorem Mm.J0 {c:Ctx}{w:World}{ds:List du}{L:List ak}[a:kX ds H][tk:eT L H R](hw:Mm c H w):Mm c ((ds.map aB++L)++R) w:=by
 obtain⟨_,k⟩:=(hw.mq (ds:=ds)).out;refine Mm.mk (k.perm ?_);rw[dq];exact GH _ tk.perm
theorem St.Vu {dr:Prop}{f:FuncId}{xs:List Operand}{g:Array TypeId}{vs:List Value}{ds:List du}{L:List ak}{post:Value→List ak→Prop}(i:c.dr→dr)
 (j:Dv dr P f vs.toArray (ds.map aB++L) post) (k:aI P f) (hx:bF F xs vs) (hd:Nat.ble (d+1) n=true) [l:kX ds H] [tk:eT L H R]
 (h:∀v H',post v H'→St n ((d,v)::F) (Mm c (H'++R)) (wpList P ops Q rest)):
 St n F (Mm c H) (wpList P ops Q ({dst:=some d,op:= .call {callee:= .value (.func f),args:=xs.toArray,argTypes:=g},type:=ty,pos:=pos,after:=after,guard:=none}::rest)):=by
 intro a w b hw;refine gB rfl (gG (caps:=[]) k (bF.cons (ai.mk rfl) hx) b w ?_)
 simp only[List.append_nil]
 refine(Mm.wL j i (Mm.J0 (ds:=ds) (L:=L) hw)).mono ?_;rintro e w' ⟨u,H',rfl,hp,hm⟩;exact⟨u,rfl,h u H' hp _ w' (b.put (dR hd) u) hm⟩
theorem St.Vv {f:FuncId}{xs:List Operand}{a:Array TypeId}{vs:List Value}{ds:List du}{L:List ak}{post:Value→List ak→Prop}(b:¬c.dr)
 (e:sm P f vs.toArray (ds.map aB++L) post) (g:aI P f) (hx:bF F xs vs) (hd:Nat.ble (d+1) n=true) [i:kX ds H] [tk:eT L H R]
 (h:∀v H',post v H'→St n ((d,v)::F) (Mm c (H'++R)) (wpList P ops Q rest)):
 St n F (Mm c H) (wpList P ops Q ({dst:=some d,op:= .call {callee:= .value (.func f),args:=xs.toArray,argTypes:=a},type:=ty,pos:=pos,after:=after,guard:=none}::rest)):=
 St.Vu (λh=>absurd h b) e g hx hd h
theorem St.RE {dr:Prop}{f:FuncId}{x:Operand}{xs:List Operand}{g:Array TypeId}{vs caps:List Value}{ds:List du}{L:List ak}{post:Value→List ak→Prop}(i:c.dr→dr)
 (j:Dv dr P f (vs++caps).toArray (ds.map aB++L) post) (k:aI P f) (l:ai F x (.func (.func f) #[] caps.toArray)) (hx:bF F xs vs) (hd:Nat.ble (d+1) n=true) [m:kX ds H] [tk:eT L H R]
 (h:∀v H',post v H'→St n ((d,v)::F) (Mm c (H'++R)) (wpList P ops Q rest)):
 St n F (Mm c H) (wpList P ops Q ({dst:=some d,op:= .call {callee:= .value x,args:=xs.toArray,argTypes:=g},type:=ty,pos:=pos,after:=after,guard:=none}::rest)):=by
 intro a w b hw;refine gB rfl (gG k (bF.cons l hx) b w ?_);refine(Mm.wL j i (Mm.J0 (ds:=ds) (L:=L) hw)).mono ?_;rintro e w' ⟨u,H',rfl,hp,hm⟩;exact⟨u,rfl,h u H' hp _ w' (b.put (dR hd) u) hm⟩
theorem St.RF {f:FuncId}{x:Operand}{xs:List Operand}{a:Array TypeId}{vs caps:List Value}{ds:List du}{L:List ak}{post:Value→List ak→Prop}(b:¬c.dr)
 (e:sm P f (vs++caps).toArray (ds.map aB++L) post) (g:aI P f) (i:ai F x (.func (.func f) #[] caps.toArray)) (hx:bF F xs vs) (hd:Nat.ble (d+1) n=true) [j:kX ds H] [tk:eT L H R]
 (h:∀v H',post v H'→St n ((d,v)::F) (Mm c (H'++R)) (wpList P ops Q rest)):
 St n F (Mm c H) (wpList P ops Q ({dst:=some d,op:= .call {callee:= .value x,args:=xs.toArray,argTypes:=a},type:=ty,pos:=pos,after:=after,guard:=none}::rest)):=
 St.RE (λh=>absurd h b) e g i hx hd h
end
end Go.J
namespace Go.Proofs.YtblifkgpebebmaaGreatDoor
open Go Go.J Tryz
theorem Xa {g:fj}{words:List ax}(h:(dT g words).2.1=0):∀it∈(dT g words).1.1,e9 g.types.length g.cB.length it.ed.gr∧it.ed.gr.length≤60:=by
 have e:=D6 h
 have a:=vH e
 unfold dT at h⊢;rw[aA (λh=>h e)]at h⊢
 by_cases b:(pj g words).1≠0
 ·rw[aC b]at h;exact absurd h b
 ·rw[aA b]at h⊢
  have hw:=vO (show(pj g words).1=0 by omega)
  cases c:xD g words with
  |none=>rw[c]at h;have h:(17:Int)=0:=h;omega
  |some its=>
   unfold xD at c;obtain⟨cs,h1,rfl⟩:=dp.1 c
   have f:qp g.types.length g.cB.length (qrG g words):=⟨hw.2,zJ _,a.rn,a.xn,λr d=>⟨(a.rule r d).kids,(a.rule r d).gr,(a.rule r d).len⟩,λx hx=>⟨(a.lex x hx).gr,(a.lex x hx).len⟩⟩
   have j:=a.ty.len
   have k:=a.ft
   obtain⟨i,a2⟩:=CY f (by omega) (by omega) (words:=words) words.length 1 ⟨[],List.replicate (words.length*(words.length+1)) []⟩ cs (aR _) (by show 1+words.length≤words.length+1;omega) zk (λit hit=>by cases hit) h1
   exact λit hit=>(PU i.ok hit).2.2.2
theorem CU {g:fj}{outs:List (List ax)}{c:List ax}(h:kZ g c=false):rJ g outs c=outs:=by unfold rJ;rw[h,aA (by decide)]
theorem MJ {g:fj}{outs:List (List ax)}{c:List ax}(h:kZ g c=true):rJ g outs c=outs++ [c]:=by unfold rJ;rw[aC h]
def Z4 (b:Bool):List Value:=bif b then [iv 17,iv (-2)]else [iv 0,iv 0]
theorem O5 (ss:List (List ax)){az:List Nat}(h:az.length=ss.length):B9 ss az ss.length:=λj a s c b _=>absurd (ah b) (by omega)
theorem LD {ss:List (List ax)}{az:List Nat}{q a:Nat}{s:List ax}(h:B9 ss az (q+1))(f:az[q]?=some a)(g:ss[q]?=some s)(e:a+1=s.length):B9 ss az q:=λj b t i c e2=>by
 rcases eO q j with d|d
 ·exact h j b t d c e2
 ·obtain rfl:j=q:=by omega
  rw[f]at c;rw[g]at e2
  obtain rfl:=Option.some.inj c;obtain rfl:=Option.some.inj e2
  exact e
theorem NC {g:fj}{s:List (List ax)}(h:(dy g s).2.1=0):(dy g s).2=(0,0):=by
 unfold dy at h⊢
 by_cases c:(dX s).any (mZ g)=true
 ·rw[aC c]at h;exact absurd h (by decide)
 ·rw[aA c]
theorem Rs {g:fj}{s:List (List ax)}(b:(dy g s).2.1=0):∀c∈(dy g s).1,c.length=s.length:=λc a=>by
 unfold dy at a
 by_cases k:(dX s).any (mZ g)=true
 ·rw[aC k]at a;cases a
 ·rw[aA k]at a;exact yk (qh.1 a).1
theorem NB {g:fj}{s:List (List ax)}(h:(dy g s).2.1≠0):(dy g s).1=[]:=by
 unfold dy at h⊢
 by_cases c:(dX s).any (mZ g)=true
 ·rw[aC c]
 ·rw[aA c]at h;exact absurd rfl h
theorem AU (b d:aV)(m:Nat)(its:List dL)(full:List Nat)(nt nf:Nat)(g:nf≤100)(i:∀x∈its,e9 nt nf (ay x.gr)∧x.gr.nodes.length≤60)(j:∀e∈full,e<its.length)(A:full.length≤1000):
 dz prog 71 #[.agg #[b.1,iv (m:Nat),d.1]] ([sl eE b.1 its,aF cj its,sl aJ d.1 (bW full)].map aB) (λv H'=>∃(a:aV) (cs:List Value),v=a.1∧H'=[row a.1 183 4 full.length cs]):=by
 refine dz.body (args:=[.agg #[b.1,iv (m:Nat),d.1]]) 30 func71 rfl ntmps71 rfl (λc=> ?_);refine St.cast (H':=[aB (sl eE b.1 its),aB (aF cj its),aB (sl aJ d.1 (bW full))]) rfl ?_;refine go ?_
 have l:(bW full).length=full.length:=dY _
 refine go ?_;refine St.dJ (.mk rfl) rfl (λn=> ?_);refine g18 ?_;refine St.dw 183 4 ?_;refine St.aM (.slice none 0 0) (show _=0 from rfl) (show _=([]:List Value)from rfl) ?_;refine St.lH (ι:=Nat×aV×List Value) (λ⟨k,a,cs⟩ T=>(10,iv k)::(3,a.1)::T) (λ⟨k,a,cs⟩=>[row a.1 183 4 k cs,aW n (.cells [b.1,iv (m:Nat),d.1].toArray 120 (0,0)),aB (sl eE b.1 its),aB (aF cj its),aB (sl aJ d.1 (bW full))]) (λ⟨k,a,cs⟩=>k≤full.length) (λ⟨k,a,cs⟩=>full.length-k) ⟨0,bR,[]⟩ (aD.cons 1 rfl (aD.cons 2 rfl (aD.cons 8 rfl (aD.cons 9 rfl aD.nil)))) (aP _) ?_;rintro ⟨k,a,cs⟩ hk
 dsimp only at hk⊢
 refine g6 ?_;refine St.cq (λo=> ?_) (λo=> ?_)
 ·obtain⟨q,f⟩:=aE (show k<full.length by omega)
  have p:=j q (ae f)
  obtain⟨x,hx⟩:=aE p;obtain⟨r,B⟩:=i x (ae hx);refine St.cK cj its (x:=x) (ae hx) ?_;refine St.eZ (aG x.gr) [cj x] (λρ h=>h (cj x) (aQ ..) (aG x.gr) (aQ ..)) ?_;refine g7 ?_;refine St.ee (Ev.ld1 (.mk rfl) (gO f) gV trivial rfl) ?_;refine g10 ?_;refine St.ee (Ev.El (Rr:=eE) (sz:=4) (.mk rfl) hx G6 trivial zt (by decide) (by decide)) ?_;refine St.slot 19 (.agg #[iv (x.frm:Nat),iv (x.tqo:Nat),iv (x.cx:Nat),x.gr.nv.1]) rfl rfl ?_;refine St.al (λs=> ?_);refine g6 ?_;refine St.ee (Ev.iT 1 (.mk rfl) mo trivial jR rfl rfl) ?_;refine St.slot 21 (bA x.gr) rfl rfl ?_;refine St.ag (qE x.gr nt nf g r (by omega)) UG (.au rfl) rfl ?_;rintro v22 _ rfl;refine St.ao ?_;refine St.bL (gj (ay x.gr) 0) v22 (λy hy=> ?_);obtain⟨rfl,C⟩:=hy;refine go ?_;refine St.Fv (ai.mk rfl) (ai.mk rfl) jR y.nv.2 rfl rfl ?_;refine St.mP s (L':=[iv (x.frm:Nat),iv (x.tqo:Nat),iv (x.cx:Nat),y.nv.1]) rfl ?_;refine g5 ?_;refine St.slot 25 (.agg #[iv (x.frm:Nat),iv (x.tqo:Nat),iv (x.cx:Nat),y.nv.1]) rfl rfl ?_;refine St.gX rfl (.au rfl) underlying148 zt VN rfl rfl (by simp[Value.cells]) rfl rfl (λt=> ?_);refine St.aj (.mk rfl) (.mk rfl) underlying148 zt VN ZF (by intro u hu;have hu:u∈[iv (x.frm:Nat),iv (x.tqo:Nat),iv (x.cx:Nat),y.nv.1]:=hu;rcases cJ.1 hu with rfl|hu;rfl;rcases cJ.1 hu with rfl|hu;rfl;rcases cJ.1 hu with rfl|hu;rfl;rw[bO.1 hu];exact y.nv.2) (by omega) (by omega) rfl rfl rfl rfl (λv27 w=> ?_);refine St.aM v27 (show _=k+1 from rfl) (show _=cs++ [iv (x.frm:Nat),iv (x.tqo:Nat),iv (x.cx:Nat),y.nv.1]from rfl) ?_;refine St.bZ v27 (λz _=> ?_);refine g9 ?_;refine St.aH ⟨k+1,⟨v27,z⟩,cs++ [iv (x.frm:Nat),iv (x.tqo:Nat),iv (x.cx:Nat),y.nv.1]⟩ (by dsimp only;omega)
 ·obtain rfl:k=full.length:=by omega
  refine g12 ?_;refine St.rV [_] [row a.1 183 4 full.length cs] ?_;exact⟨a,cs,rfl,rfl⟩
theorem Ac (bg d f:Nat)(g:gQ)(wv:aV)(words:List ax)(a:aV)(us:List aV)(outs:List (List ax))(j:us.length=outs.length)(H:outs.length≤1000):
 sm prog 70 ([wv.1]++ [Value.pointer (some ⟨bg,0,none⟩),Value.pointer (some ⟨d,0,none⟩),Value.pointer (some ⟨f,0,none⟩)]).toArray ([fP bg (jD g),er g,sl bI wv.1 words,tz,u8].map aB++ [aW d (.cells ([iv 0,iv 0]).toArray 35 (0,0)),aW f (.cells [a.1].toArray 49 (0,0)),row a.1 33 1 (us).length (rows bT (us)),aB (jr bI (us) (outs))]) (λv H'=>∃(p:aV) (l:List aV),v= .bool (!mZ (cE g) words)∧l.length=(rJ (cE g) outs words).length∧H'=[aW d (.cells (Z4 (mZ (cE g) words)).toArray 35 (0,0)),aW f (.cells [p.1].toArray 49 (0,0)),row p.1 33 1 (l).length (rows bT (l)),aB (jr bI (l) (rJ (cE g) outs words))]):=by
 refine sm.body (args:=[wv.1]++ [Value.pointer (some ⟨bg,0,none⟩),Value.pointer (some ⟨d,0,none⟩),Value.pointer (some ⟨f,0,none⟩)]) 31 func70 rfl ntmps70 rfl (λc z=> ?_);refine go ?_;refine St.cast (H':=[aB (fP bg (jD g)),aB (er g),aB (sl bI wv.1 words),aB (tz),aB (u8),aW d (.cells ([iv 0,iv 0]).toArray 35 (0,0)),aW f (.cells [a.1].toArray 49 (0,0)),row a.1 33 1 (us).length (rows bT (us)),aB (jr bI (us) (outs))]) rfl ?_;refine g6 ?_;refine St.ee (Ev.HS (.mk rfl) Y2 trivial (by exact Tg)) ?_;refine St.slot 9 (fG g) rfl rfl ?_;refine go ?_;refine St.lP z (FR g wv.1 words) Zv (.aX rfl rfl) rfl ?_;rintro v11 _ ⟨q,r,m,s,rfl,t,rfl⟩;refine St.iP ?_;refine g3 ?_;refine St.slot 13 (fv (dT (cE g) words).2) rfl rfl ?_;refine St.al (λI=> ?_);refine St.al (λK=> ?_);refine g12 ?_;refine St.cq (λn=> ?_) (λn=> ?_)
 ·have e:mZ (cE g) words=true:=eB n
  have b:=CU (outs:=outs) (Rv e)
  refine g2 ?_;refine St.ee (Ev.call (iG 17 (-2)) Kf (.aX rfl rfl)) ?_;refine go ?_;refine St.mP d (L':=[iv 17,iv (-2)]) rfl ?_;refine g9 ?_;refine St.rV [_] [aW d (.cells ([iv 17,iv (-2)]).toArray 35 (0,0)),aW f (.cells [a.1].toArray 49 (0,0)),row a.1 33 1 (us).length (rows bT (us)),aB (jr bI (us) (outs))] ?_;exact⟨a,us,by rw[e];rfl,by rw[b];exact j,by rw[e,b];rfl⟩
 ·have e:mZ (cE g) words=false:=fL n
  refine g9 ?_;refine St.split 21 _ rfl (λi=> ?_) (λi=> ?_)
  ·have o:(dT (cE g) words).2.1=0:=fM i
   obtain⟨u,L⟩:=FQ (cE g) words;rw[←t,aO]at u
   have A:=Xa o
   have B:(cE g).cB.length≤100:=by have:=(vH (D6 o)).ft;omega
   have C:∀x∈s,e9 (cE g).types.length (cE g).cB.length (ay x.gr)∧x.gr.nodes.length≤60:=λx hx=>by have h:=A (cF x) (by rw[←t];exact eP hx);exact⟨h.1,by have w:=h.2;rw[show(cF x).ed.gr=ay x.gr from rfl,dA]at w;exact w⟩
   refine St.cG rfl rfl ?_;refine go ?_;refine St.slot 22 (.agg #[q.1,iv (m:Nat),r.1]) rfl rfl ?_;refine St.cG rfl rfl ?_;refine St.ag (AU q r m s (dT (cE g) words).1.2 (cE g).types.length (cE g).cB.length B C u (by omega)) ahU (.au rfl) rfl ?_;rintro v23 _ ⟨ev,D,rfl,rfl⟩;refine St.ao ?_;refine St.cG rfl rfl ?_;refine go ?_;refine St.cG rfl rfl ?_;refine go ?_;refine St.ee (Ev.gZ (.mk rfl) rfl (.mk rfl)) ?_;refine g2 ?_;refine St.cq (λE=> ?_) (λE=> ?_)
   ·have k:kZ (cE g) words=true:=by unfold kZ;rw[eB o,eB (show 0<(dT (cE g) words).1.2.length by omega)];rfl
    have b:=MJ (outs:=outs) k
    refine g3 ?_;refine St.gX rfl (.au rfl) sf B1 QW rfl rfl (by simp[J.cells_one wv.2]) rfl rfl (λF=> ?_);refine St.aj (.mk rfl) (.mk rfl) sf B1 QW ZK (by simp[J.cells_one wv.2,wv.2]) (by omega) (by omega) rfl rfl rfl rfl (λv30 G=> ?_);refine St.aM v30 (show _=(us++ [wv]).length by rw[bQ];rfl) (show _=rows bT (us++ [wv]) by rw[bB];simp[J.cells_one wv.2];rfl) ?_;refine St.bZ v30 (λy _=> ?_);refine St.cH (.mk rfl) (.mk rfl) al4 y (by rfl) ?_;refine St.JX us wv j ?_;refine g8 ?_;refine St.rV [_] [aW d (.cells ([iv 0,iv 0]).toArray 35 (0,0)),aW f (.cells [v30].toArray 49 (0,0)),row v30 33 1 (us++ [wv]).length (rows bT (us++ [wv])),aB (jr bI (us++ [wv]) (outs++ [words]))] ?_;exact⟨⟨v30,y⟩,us++ [wv],by rw[e];rfl,by rw[b,bQ,bQ,j];rfl,by rw[e,b];rfl⟩
   ·have k:kZ (cE g) words=false:=by unfold kZ;rw[fL (show ¬0<(dT (cE g) words).1.2.length by omega),Bool.and_false]
    have b:=CU (outs:=outs) k
    refine g8 ?_;refine St.rV [_] [aW d (.cells ([iv 0,iv 0]).toArray 35 (0,0)),aW f (.cells [a.1].toArray 49 (0,0)),row a.1 33 1 (us).length (rows bT (us)),aB (jr bI (us) (outs))] ?_;exact⟨a,us,by rw[e];rfl,by rw[b];exact j,by rw[e,b];rfl⟩
  ·have k:kZ (cE g) words=false:=by unfold kZ;rw[fL (iV i)];rfl
   have b:=CU (outs:=outs) k
   refine St.bq rfl rfl rfl ?_;refine St.bq rfl rfl rfl ?_;refine St.bq rfl rfl rfl ?_;refine St.bq rfl rfl rfl ?_;refine St.ee (Ev.kQ (.mk rfl) rfl (.mk rfl)) ?_;refine g2 ?_;refine St.ri _ rfl rfl ?_;refine g8 ?_;refine St.rV [_] [aW d (.cells ([iv 0,iv 0]).toArray 35 (0,0)),aW f (.cells [a.1].toArray 49 (0,0)),row a.1 33 1 (us).length (rows bT (us)),aB (jr bI (us) (outs))] ?_;exact⟨a,us,by rw[e];rfl,by rw[b];exact j,by rw[e,b];rfl⟩
theorem Gy (bg f i:Nat)(g:gQ)(v0:Value)(vs:List aV)(aN:List (List ax))(K:vs.length=aN.length)(A:Dt (cE g) aN)(O:∀xs∈aN,∀x∈xs,bI.wf x):
 sm prog 69 #[v0,Value.func (.func 70) #[] #[Value.pointer (some ⟨bg,0,none⟩),Value.pointer (some ⟨f,0,none⟩),Value.pointer (some ⟨i,0,none⟩)]] ([sl bT v0 vs,jr bI vs aN,fP bg (jD g),er g,tz,u8].map aB++ [aW f (.cells ([iv 0,iv 0]).toArray 35 (0,0)),aW i (.cells [(.slice none 0 0)].toArray 49 (0,0)),row (.slice none 0 0) 33 1 (([]:List aV)).length (rows bT (([]:List aV))),aB (jr bI (([]:List aV)) (([]:List (List ax))))]) (λv H'=>∃(j:aV) (d:List aV) (E:List (List ax)),v= .tuple #[]∧d.length=E.length∧((dy (cE g) aN).2.1=0→E=(dy (cE g) aN).1)∧H'=[aW f (.cells ([iv (dy (cE g) aN).2.1,iv (dy (cE g) aN).2.2]).toArray 35 (0,0)),aW i (.cells [j.1].toArray 49 (0,0)),row j.1 33 1 (d).length (rows bT (d)),aB (jr bI (d) (E))]):=by
 refine sm.body (args:=[v0,Value.func (.func 70) #[] #[Value.pointer (some ⟨bg,0,none⟩),Value.pointer (some ⟨f,0,none⟩),Value.pointer (some ⟨i,0,none⟩)]]) 65 func69 rfl ntmps69 rfl (λc P=> ?_);refine go ?_;refine St.cast (H':=[aB (sl bT v0 vs),aB (jr bI vs aN),aB (fP bg (jD g)),aB (er g),aB (tz),aB (u8),aW f (.cells ([iv 0,iv 0]).toArray 35 (0,0)),aW i (.cells [(.slice none 0 0)].toArray 49 (0,0)),row (.slice none 0 0) 33 1 (([]:List aV)).length (rows bT (([]:List aV))),aB (jr bI (([]:List aV)) (([]:List (List ax))))]) rfl ?_
 have hp:∀s∈aN,0<s.length:=λs e=>(A.aN s e).pos
 have Q:=A.xY
 have hn0:=A.pos
 have R:=A.prod
 refine g3 ?_;refine St.nO (Rr:=aJ) (g:=0) (m:=aN.length) (sz:=1) rfl (.mk rfl) (.mk rfl) bJ dK eS xW (congrArg _ K) (congrArg _ K) (by omega) rfl rfl (λp=> ?_);refine St.aM (.slice (some ⟨p,0,none⟩) aN.length aN.length) (show _=aN.length from rfl) (show _=rows aJ (bW (List.replicate aN.length 0)) by unfold bW;rw[sB];rfl) ?_;refine g4 ?_;refine St.lH (ι:=List Nat×aV×List aV×List (List ax)) (λ⟨az,n,us,outs⟩ T=>T) (λ⟨az,n,us,outs⟩=>[row (.slice (some ⟨p,0,none⟩) aN.length aN.length) 3 1 aN.length (rows aJ (bW (az))),aW f (.cells ([iv 0,iv 0]).toArray 35 (0,0)),aW i (.cells [n.1].toArray 49 (0,0)),row n.1 33 1 (us).length (rows bT (us)),aB (jr bI (us) (outs)),aB (sl bT v0 vs),aB (jr bI vs aN),aB (fP bg (jD g)),aB (er g),aB (tz),aB (u8)]) (λ⟨az,n,us,outs⟩=>yF (cE g) aN az outs∧us.length=outs.length) (λ⟨az,n,us,outs⟩=>(pV aN az).length) ⟨List.replicate aN.length 0,bR,[],[]⟩ (aD.cons 0 rfl (aD.cons 1 rfl (aD.cons 4 rfl aD.nil))) ⟨H6 hp,rfl⟩ ?_;rintro ⟨az,n,us,outs⟩ ⟨l,M⟩
 dsimp only at l M⊢
 have t:=l.ok.len
 have S:=FJ l.ok
 have U:=NM l
 have F:oB az aN.length aN.length=az:=by have:=MR (az:=az);rwa[t]at this
 refine g15 ?_;refine St.dw 9 1 ?_;refine St.aM (.slice none 0 0) (show _=((fU aN az).take 0).length from rfl) (show _=rows bI ((fU aN az).take 0)from rfl) ?_;refine St.lH (ι:=Nat×aV) (λ⟨k,wv⟩ T=>(14,iv k)::(5,wv.1)::T) (λ⟨k,wv⟩=>[row wv.1 9 1 ((fU aN az).take (k)).length (rows bI ((fU aN az).take (k))),row (.slice (some ⟨p,0,none⟩) aN.length aN.length) 3 1 aN.length (rows aJ (bW (az))),aW f (.cells ([iv 0,iv 0]).toArray 35 (0,0)),aW i (.cells [n.1].toArray 49 (0,0)),row n.1 33 1 (us).length (rows bT (us)),aB (jr bI (us) (outs)),aB (sl bT v0 vs),aB (jr bI vs aN),aB (fP bg (jD g)),aB (er g),aB (tz),aB (u8)]) (λ⟨k,wv⟩=>k≤aN.length) (λ⟨k,wv⟩=>aN.length-k) ⟨0,bR⟩ (aD.cons 0 rfl (aD.cons 1 rfl (aD.cons 4 rfl (aD.cons 12 rfl (aD.cons 13 rfl aD.nil))))) (aP _) ?_;rintro ⟨k,wv⟩ hk
 dsimp only at hk⊢
 have htk:((fU aN az).take k).length≤12:=by rw[eX];omega
 refine g6 ?_;refine St.cq (λV=> ?_) (λV=> ?_)
 ·obtain⟨a,o⟩:=aE (show k<az.length by omega)
  obtain⟨s,e⟩:=aE (show k<aN.length by omega);obtain⟨u,hu⟩:=aE (show k<vs.length by omega);refine St.jr (vs:=vs) k hu e ?_
  have N:=l.ok.at o e
  obtain⟨w,hw⟩:=aE N
  have B:=JR o e hw
  refine g8 ?_;refine St.ee (Ev.cu (.mk rfl) gV trivial (by omega) (oO (gO o))) ?_;refine g13 ?_;refine St.gX rfl (.au rfl) pM M3 VP rfl rfl (by simp[Value.cells]) rfl rfl (λb27=> ?_);refine St.aj (.mk rfl) (.mk rfl) pM M3 VP by9 (by simp[Value.oneCell',Value.cells]) (by omega) (by omega) rfl rfl rfl rfl (λv28 W=> ?_);refine St.aM v28 (show _=((fU aN az).take (k+1)).length by rw[aa B,bQ];rfl) (show _=rows bI ((fU aN az).take (k+1)) by rw[aa B,bB];rfl) ?_;refine St.bZ v28 (λX _=> ?_);refine g9 ?_;refine St.aH ⟨k+1,⟨v28,X⟩⟩ (by dsimp only;omega)
 ·obtain rfl:k=aN.length:=by omega
  rw[fF (Nat.le_of_eq S)];refine St.bS wv.1 bI (fU aN az) rfl rfl (λw hw=>by obtain⟨s,e,G⟩:=FK l.ok w hw;exact O s e w G) ?_;refine g10 ?_;refine St.RF (ds:=[fP bg (jD g),er g,sl bI wv.1 (fU aN az),tz,u8]) (L:=[aW f (.cells ([iv 0,iv 0]).toArray 35 (0,0)),aW i (.cells [n.1].toArray 49 (0,0)),row n.1 33 1 (us).length (rows bT (us)),aB (jr bI (us) (outs))]) (caps:=[Value.pointer (some ⟨bg,0,none⟩),Value.pointer (some ⟨f,0,none⟩),Value.pointer (some ⟨i,0,none⟩)]) P (Ac bg f i g wv (fU aN az) n us outs M (by omega)) ahT (.mk rfl) (.au rfl) rfl ?_;rintro v32 _ ⟨j,d,rfl,r,rfl⟩;refine St.Yx ?_;refine g3 ?_;refine St.cond _ rfl (λH=> ?_) (λH=> ?_)
  ·skip
   have y:mZ (cE g) (fU aN az)=true:=by simpa using H
   have C:=NN hp l y
   refine g5 ?_;refine St.rV [] [aW f (.cells (Z4 (mZ (cE g) (fU aN az))).toArray 35 (0,0)),aW i (.cells [j.1].toArray 49 (0,0)),row j.1 33 1 (d).length (rows bT (d)),aB (jr bI (d) (rJ (cE g) outs (fU aN az)))] ?_;exact⟨j,d,_,rfl,r,λh=>by rw[C]at h;exact absurd h (by decide),by rw[C,y];rfl⟩
  ·skip
   have y:mZ (cE g) (fU aN az)=false:=by simpa using H
   refine St.mP f (L':=[iv 0,iv 0]) (by rw[y];rfl) ?_;refine g12 ?_;refine St.aM (.slice (some ⟨p,0,none⟩) aN.length aN.length) (show _=aN.length from rfl) (show _=rows aJ (bW (oB az aN.length aN.length)) by rw[F]) ?_;refine St.lH (ι:=Nat) (λm T=>(8,iv ((m:Int)-1))::T) (λm=>[row (.slice (some ⟨p,0,none⟩) aN.length aN.length) 3 1 aN.length (rows aJ (bW (oB az aN.length m))),aW f (.cells ([iv 0,iv 0]).toArray 35 (0,0)),aW i (.cells [j.1].toArray 49 (0,0)),row j.1 33 1 (d).length (rows bT (d)),aB (jr bI (d) (rJ (cE g) outs (fU aN az))),aB (sl bT v0 vs),aB (jr bI vs aN),aB (fP bg (jD g)),aB (er g),aB (tz),aB (u8)]) (λm=>m≤aN.length∧B9 aN az m) (λm=>m) aN.length (aD.cons 0 rfl (aD.cons 1 rfl (aD.cons 4 rfl aD.nil))) ⟨aR _,O5 aN t⟩ ?_;rintro m ⟨hm,I⟩;obtain⟨a,o⟩:=aE (show m-1<az.length by omega);obtain⟨s,e⟩:=aE (show m-1<aN.length by omega);obtain⟨u,hu⟩:=aE (show m-1<vs.length by omega);refine St.jr (vs:=vs) (m-1) hu e ?_
   have N:=l.ok.at o e
   have Y:=(A.aN s (ae e)).xY
   refine g2 ?_;refine St.rq mixed (by kernel_rfl) (Mm.drawn _ _) ?_;refine g3 ?_;refine Sq.gt _ rfl rfl (λb=>Ev.move (.mk rfl)) rfl ?_;refine Sq.gt _ rfl rfl (λb=>Ev.move (.mk rfl)) rfl ?_;refine Sq.gt _ rfl rfl (λb=>Ev.dZ (k:=m-1) (ai.gv rfl b) (ai.gv rfl b) bJ dK (by first|omega|(simp only[fJ]at b;omega)) (by simp only[decide_eq_true_eq]at b;omega)) rfl ?_;refine Sq.gt _ rfl rfl (λb=>Ev.cu (ai.gv rfl b) gV trivial (by simp only[decide_eq_true_eq]at b;omega) (oO (gO ((Ig t (by simp only[decide_eq_true_eq]at b;omega) hm).trans o)))) rfl ?_;refine Sq.gt _ rfl rfl (λb=>Ev.add (ai.gv rfl b) (.mk rfl) (by first|omega|(simp only[fJ]at b;omega))) rfl ?_;refine Sq.gt _ rfl rfl (λb=>Ev.move (.mk rfl)) rfl ?_;refine Sq.gt _ rfl rfl (λb=>Ev.move (.mk rfl)) rfl ?_;refine Sq.gt _ rfl rfl (λb=>Ev.cM (k:=m-1) (ai.gv rfl b) (ai.gv rfl b) sf B1 (by first|omega|(simp only[fJ]at b;omega)) (by simp only[decide_eq_true_eq]at b;omega)) rfl ?_;refine Sq.gt _ rfl rfl (λb=>Ev.ld1 (ai.gv rfl b) hu pM trivial rfl) rfl ?_;refine Sq.gt _ rfl rfl (λb=>Ev.fk (ai.gv rfl b) pM) rfl ?_;refine Sq.gt _ rfl rfl (λb=>Ev.eql (ai.gv rfl b) (ai.gv rfl b)) rfl ?_;refine g3 ?_;refine St.cq (λZ=> ?_) (λZ=> ?_)
   ·obtain⟨q,rfl⟩:∃q,m=q+1:=⟨m-1,by omega⟩
    rw[Nat.add_sub_cancel]at o e hu;refine g7 ?_;refine St.ee (Ev.dZ (k:=q) (.mk rfl) (.mk rfl) bJ dK (by omega) (by omega)) ?_;refine St.cI (.mk rfl) (.mk rfl) dK rfl (by omega) (by decide) ?_;refine St.aM (.slice (some ⟨p,0,none⟩) aN.length aN.length) (show _=aN.length from rfl) (show _=rows aJ (bW (oB az aN.length q)) by rw[←KU (m:=q) t (by omega)];exact r8 _ _ _) ?_;refine g9 ?_;refine St.sL q ⟨by omega,LD I o e (by omega)⟩ (pP q) (by repeat(first|exact Sub.nil|refine Sub.cons (by first|rfl|exact congrArg (λz=>some (iv z)) (by first|omega|(dsimp only;omega))|exact congrArg (λz=>some (Value.bool z)) (by first|assumption|exact iZ (by assumption))) ?_)) (λ_ hw=>hw.sub)
   ·refine g12 ?_
    refine St.cq (λJ=> ?_) (λJ=> ?_)
    ·obtain rfl:m=0:=by omega
     have C:=NL hp l y (zL l.ok I)
     refine g5 ?_;refine St.rV [] [aW f (.cells ([iv 0,iv 0]).toArray 35 (0,0)),aW i (.cells [j.1].toArray 49 (0,0)),row j.1 33 1 (d).length (rows bT (d)),aB (jr bI (d) (rJ (cE g) outs (fU aN az)))] ?_;exact⟨j,d,_,rfl,r,λ_=>by rw[C],by rw[C]⟩
    ·obtain⟨q,rfl⟩:∃q,m=q+1:=⟨m-1,by omega⟩
     rw[Nat.add_sub_cancel]at o e hu
     have YR:a+1<s.length:=by omega
     have D:=Kn hp l y (OV l.ok o e I YR)
     refine g5 ?_;refine St.ee (Ev.dZ (k:=q) (.mk rfl) (.mk rfl) bJ dK (by omega) (by omega)) ?_;refine St.ee (Ev.cu (.mk rfl) gV trivial (by omega) (oO (gO ((Ig t (pP q) hm).trans o)))) ?_;refine go ?_;refine St.slot 63 (iv ((a+1:Nat):Int)) rfl (congrArg iv (by push_cast;rfl)) ?_;refine St.ee (Ev.dZ (k:=q) (.mk rfl) (.mk rfl) bJ dK (by omega) (by omega)) ?_;refine St.cI (.mk rfl) (.mk rfl) dK rfl (by omega) (by decide) ?_;refine St.aM (.slice (some ⟨p,0,none⟩) aN.length aN.length) (show _=aN.length from rfl) (show _=rows aJ (bW (az.take q++(a+1)::List.replicate (aN.length-(q+1)) 0)) by rw[←EB t (by omega)];exact r8 _ _ _) ?_;refine g3 ?_;refine St.sL ⟨az.take q++(a+1)::List.replicate (aN.length-(q+1)) 0,j,d,rJ (cE g) outs (fU aN az)⟩ ⟨D.1,r⟩ D.2 (by repeat(first|exact Sub.nil|refine Sub.cons (by first|rfl|exact congrArg (λz=>some (iv z)) (by first|omega|(dsimp only;omega))|exact congrArg (λz=>some (Value.bool z)) (by first|assumption|exact iZ (by assumption))) ?_)) (λ_ hw=>hw.sub)
theorem vD (g:gQ)(v0:Value)(aN:List (List ax))(k:Dt (cE g) aN):sm prog 33 #[fG g,v0] ([er g,o3 bI v0 aN,tz,u8].map aB) (λv H'=>∃a:aV,v= .tuple #[a.1,fv (dy (cE g) aN).2]∧H'=[aB (o3 bI a.1 (dy (cE g) aN).1)]):=by
 refine sm.body (args:=[fG g,v0]) 17 func33 rfl ntmps33 rfl (λc m=> ?_);refine St.cast (H':=[aB (er g),aB (o3 bI v0 aN),aB (tz),aB (u8)]) rfl ?_;refine go ?_;refine St.ma v0 (λvs h=> ?_);refine St.JY vs h (λn=> ?_);refine go ?_;refine St.dJ (.mk rfl) rfl (λe=> ?_);refine go ?_;refine St.al (λo=> ?_);refine g4 ?_;refine St.al (λi=> ?_);refine g4 ?_;refine St.al (λj=> ?_);refine g3 ?_;refine St.vZ e ?_;refine St.dw 33 1 ?_;refine St.aM (.slice none 0 0) (show _=([]:List aV).length from rfl) (show _=rows bT []from rfl) ?_;refine St.Ot bI ?_;refine g2 ?_;refine St.ee (Ev.func (.ej rfl rfl rfl)) ?_;refine St.Vv (ds:=[sl bT v0 vs,jr bI vs aN,fP e (jD g),er g,tz,u8]) (L:=[aW j (.cells ([iv 0,iv 0]).toArray 35 (0,0)),aW i (.cells [(.slice none 0 0)].toArray 49 (0,0)),row (.slice none 0 0) 33 1 (([]:List aV)).length (rows bT (([]:List aV))),aB (jr bI (([]:List aV)) (([]:List (List ax))))]) m (Gy e j i g v0 vs aN h k n) ahS (.aX rfl rfl) rfl ?_;rintro v10 _ ⟨a,us,outs,rfl,p,b,rfl⟩;refine St.Yx ?_;refine g10 ?_;refine St.cq (λd=> ?_) (λd=> ?_)
 ·have q:=NB (g:=cE g) (s:=aN) d
  refine St.DI (Rr:=bI) ?_;refine St.LH (Rr:=bI) (l:=[]) (.slice none 0 0) (vs:=[]) rfl ?_;refine go ?_;refine St.pC [o] mixed (λr t=> ?_);refine SW.gd 0 ?_;refine SW.gd 1 ?_;refine SW.t1 2 ?_;refine g3 ?_;refine SW.go ?_;refine SW.dn ?_;refine g3 ?_;refine St.rV [_,_] [aB (o3 bI (.slice none 0 0) [])] ?_;exact⟨bR,rfl,by rw[q]⟩
 ·have b:=b (by omega)
  subst b;refine St.bS a.1 bT us rfl rfl (λ_ _=>trivial) ?_;refine St.LH (Rr:=bI) a.1 p ?_
  have f:=NC (g:=cE g) (s:=aN) (by omega)
  refine g5 ?_;refine St.ee (Ev.build (bF.nil) (λw=>jX w)) ?_;refine g5 ?_;refine St.rV [_,_] [aB (o3 bI a.1 (dy (cE g) aN).1)] ?_;exact⟨a,by rw[f];rfl,rfl⟩
theorem ug (g:gQ)(v0:Value)(aN:List (List ax)):sm prog 13 #[fG g,v0] ([er g,o3 bI v0 aN,tz,u8].map aB) (λv H'=>∃a:aV,v= .tuple #[a.1,fv (je (cE g) aN).2]∧H'=[aB (o3 bI a.1 (je (cE g) aN).1)]):=by
 refine sm.body (args:=[fG g,v0]) 19 func13 rfl ntmps13 rfl (λc d=> ?_);refine St.cast (H':=[aB (er g),aB (o3 bI v0 aN),aB (tz),aB (u8)]) rfl ?_;refine g2 ?_;refine St.dJ (.mk rfl) rfl (λk=> ?_);refine go ?_;refine St.al (λf=> ?_);refine g6 ?_;refine St.slot 7 (fG g) rfl rfl ?_;refine go ?_;refine St.ee (Ev.mQ d (sN g v0 aN) Vy (.aX rfl rfl)) ?_;refine St.slot 9 (.agg #[iv (l5 (cE g) aN).1,iv (l5 (cE g) aN).2]) rfl rfl ?_;refine St.al (λm=> ?_);refine g10 ?_;refine St.cq (λe=> ?_) (λe=> ?_)
 ·have b:(je (cE g) aN)=([],(l5 (cE g) aN)):=by unfold je;rw[aC e]
  refine St.DI (Rr:=bI) ?_;refine St.LH (Rr:=bI) (l:=[]) (.slice none 0 0) (vs:=[]) rfl ?_;refine go ?_;refine St.pC [f] mixed (λn o=> ?_);refine SW.gd 0 ?_;refine SW.gd 1 ?_;refine SW.t1 2 ?_;refine g3 ?_;refine SW.go ?_;refine SW.dn ?_;refine g3 ?_;refine St.rV [_,_] [aB (o3 bI (.slice none 0 0) [])] ?_;exact⟨bR,by rw[b];rfl,by rw[b]⟩
 ·have i:=uw.1 (show(l5 (cE g) aN).1=0 by omega)
  have b:(je (cE g) aN)=(dy (cE g) aN):=by unfold je;rw[aA (λh=>h (by omega))]
  refine g5 ?_;refine St.slot 14 (fG g) rfl rfl ?_;refine go ?_;refine St.lP d (vD g v0 aN i) Vz (.aX rfl rfl) rfl ?_;rintro j _ ⟨a,rfl,rfl⟩;refine St.ao ?_;refine g2 ?_;refine St.slot 18 (fv (dy (cE g) aN).2) rfl rfl ?_;refine g5 ?_;refine St.rV [_,_] [aB (o3 bI a.1 (dy (cE g) aN).1)] ?_;exact⟨a,by rw[b];rfl,by rw[b]⟩
mutual
def pt (g:fj):jW→Int
 | .mk r l ks=>if r<0 then((g.aL.map (·.weight))[l.toNat]?).getD 0 else((g.rules.map (·.weight))[r.toNat]?).getD 0+jA g ks
def jA (g:fj):List jW→Int
 | []=>0
 |t::l=>pt g t+jA g l
end
mutual
def Xz (g:fj):jW→Bool
 | .mk r l ks=>if r<0 then decide (0≤l)&&decide (l<g.aL.length)else decide (r<g.rules.length)&&Pq g ks
def Pq (g:fj):List jW→Bool
 | []=>true
 |t::l=>Xz g t&&Pq g l
end
mutual
def Qi:jW→Nat
 | .mk _ _ ks=>1+pn ks
def pn:List jW→Nat
 | []=>0
 |t::l=>Qi t+pn l
end
theorem Tf (g:fj)(r l:Int)(ks:List jW):pt g (.mk r l ks)=if r<0 then((g.aL.map (·.weight))[l.toNat]?).getD 0 else((g.rules.map (·.weight))[r.toNat]?).getD 0+jA g ks:=by rw[pt]
theorem Y0 (g:fj)(r l:Int)(ks:List jW):Xz g (.mk r l ks)=if r<0 then decide (0≤l)&&decide (l<g.aL.length)else decide (r<g.rules.length)&&Pq g ks:=by rw[Xz]
theorem XR (r l:Int)(ks:List jW):Qi (.mk r l ks)=1+pn ks:=by rw[Qi]
theorem Bo (g:fj):∀(a b:List jW),jA g (a++b)=jA g a+jA g b
 | [],b=>by rw[AF,jA,Int.zero_add]
 |t::a,b=>by rw[wj,jA,jA,Bo g a b,Int.add_assoc]
theorem FC:∀(a b:List jW),pn (a++b)=pn a+pn b
 | [],b=>by rw[AF,pn,hP]
 |t::a,b=>by rw[wj,pn,pn,FC a b,qg]
theorem G1 {g:fj}:∀{l:List jW},Pq g l=true→∀t∈l,Xz g t=true
 | [],_,_,h=>by cases h
 |x::l,h,t,ht=>by
  rw[Pq,qi]at h
  rcases cJ.1 ht with rfl|ht
  ·exact h.1
  ·exact G1 h.2 t ht
theorem FE:∀{l:List jW} {t:jW},t∈l→Qi t≤pn l
 | [],_,h=>by cases h
 |x::l,t,h=>by
  rw[pn]
  rcases cJ.1 h with rfl|h
  ·exact Nat.le_add_right _ _
  ·exact dS (FE h) (Nat.le_add_left _ _)
theorem FD:∀(l:List jW),l.length≤pn l
 | []=>aP _
 |x::l=>by
  cases x with
  |mk r w ks=>
   rw[pn,Qi,fB]
   have:=FD l
   omega
theorem LK {l:List jW}(k:Nat):pn (l.take k)≤pn l:=by
 have h:=FC (l.take k) (l.drop k)
 rw[qk]at h;omega
structure WtG (g:fj):Prop where
 r:∀x∈g.rules,0≤x.weight∧x.weight≤1000000
 x:∀x∈g.aL,0≤x.weight∧x.weight≤1000000
theorem J6 {l:List Int}(h:∀x∈l,0≤x∧x≤1000000)(i:Nat):0≤(l[i]?).getD 0∧(l[i]?).getD 0≤1000000:=by
 rcases eO i l.length with a|a
 ·rw[bU a];exact h _ (gy a)
 ·rw[ib a];exact⟨Int.le_refl _,by decide⟩
mutual
theorem Jm {g:fj}(h:WtG g):∀t:jW,0≤pt g t∧pt g t≤1000000*(Qi t:Int)
 | .mk r l ks=>by
  rw[pt,Qi]
  have h1:=J6 (l:=g.aL.map (·.weight)) (λx hx=>by obtain⟨y,hy,rfl⟩:=cz.1 hx;exact h.x y hy) l.toNat
  have a:=J6 (l:=g.rules.map (·.weight)) (λx hx=>by obtain⟨y,hy,rfl⟩:=cz.1 hx;exact h.r y hy) r.toNat
  have b:=zq h ks
  split
  ·push_cast;omega
  ·push_cast;omega
theorem zq {g:fj}(h:WtG g):∀l:List jW,0≤jA g l∧jA g l≤1000000*(pn l:Int)
 | []=>by rw[jA,pn];exact⟨Int.le_refl _,by decide⟩
 |t::l=>by
  rw[jA,pn]
  have h1:=Jm h t
  have a:=zq h l
  push_cast;omega
end
theorem IA {g:fj}{l:List jW}{k:Nat}{t:jW}(h:l[k]?=some t):jA g (l.take (k+1))=jA g (l.take k)+pt g t:=by
 rw[wu,h,Bo];show _+(jA g [t])=_;rw[jA,jA,Int.add_zero]
def zm (g:fj)(o:Option (List ax×Int))(w:List ax):Option (List ax×Int):=
 match(lO g w 1).1 with
 | []=>o
 |t::_=>match o with
  |none=>some (w,pt g t)
  |some p=>if pt g t<p.2 then some (w,pt g t)else some p
def bsF (g:fj)(l:List (List ax)):Option (List ax×Int):=l.foldl (zm g) none
def qA (g:fj)(s:List (List ax)):Option (List ax×Int)×(Int×Int):=
 if(l5 g s).1≠0 then(none,l5 g s)else if(dy g s).2.1≠0 then(none,(dy g s).2)else(bsF g (dy g s).1,(0,0))
def oW (o:Option (List ax×Int)):List ax:=(o.map Prod.fst).getD []
def oN (o:Option (List ax×Int)):Int:=(o.map Prod.snd).getD 0
theorem Kc {g:fj}{w:List ax}{n:Int}(h:(lO g w n).2.1≠0):(lO g w n).1=[]:=by
 unfold lO at h⊢
 by_cases c1:(jL g).1≠0
 ·rw[aC c1]
 rw[aA c1]at h⊢
 by_cases c2:n<0∨200<n
 ·rw[aC c2]
 rw[aA c2]at h⊢
 by_cases c3:(dT g w).2.1≠0
 ·rw[aC c3]
 rw[aA c3]at h;exact absurd rfl h
theorem Tc {g:fj}{o:Option (List ax×Int)}{w:List ax}(h:(lO g w 1).1=[]):zm g o w=o:=by unfold zm;rw[h]
theorem Tb {g:fj}{o:Option (List ax×Int)}{w:List ax}{t:jW}{r:List jW}(h:(lO g w 1).1=t::r)(a:o.isSome=false∨pt g t<oN o):zm g o w=some (w,pt g t):=by
 unfold zm;rw[h]
 cases o with
 |none=>rfl
 |some p=>
  rcases a with a|a
  ·cases a
  ·exact aC a
theorem Td {g:fj}{o:Option (List ax×Int)}{w:List ax}{t:jW}{r:List jW}(h:(lO g w 1).1=t::r)(h1:o.isSome=true)(a:¬pt g t<oN o):zm g o w=o:=by
 unfold zm;rw[h]
 cases o with
 |none=>cases h1
 |some p=>exact aA a
theorem Kl {g:fj}{l:List (List ax)}{k:Nat}{w:List ax}(h:l[k]?=some w):(l.take (k+1)).foldl (zm g) none=zm g ((l.take k).foldl (zm g) none) w:=by
 rw[wu,h,wo];rfl
theorem J2 {p:Nat→ax→Bool}:∀{ss:List (List ax)} {i k:Nat} {s:List ax},ss[k]?=some s→(lQ p i ss)[k]?=some (s.filter (p (i+k)))
 | [],_,_,_,h=>by simp at h
 |t::ss,i,0,s,h=>by obtain rfl:=Option.some.inj h;rfl
 |t::ss,i,k+1,s,h=>by
  have:=J2 (p:=p) (ss:=ss) (i:=i+1) (k:=k) h
  rw[show i+(k+1)=i+1+k by omega];exact this
theorem YE {g:fj}(h:M8 g):WtG g:=⟨λx hx=>(h.rule x hx).wt,λx hx=>(h.lex x hx).wt⟩
theorem TE (l:List (List ax))(i:Nat)(w:ax):l.any (λc=>decide (c.getD i []=w))=ik l i w:=by
 unfold ik
 congr 1
 funext c
 rw[B7,fy,beq_iff_eq]
theorem MF (g:gQ)(hw:WtG (cE g)):∀x:dE,Xz (cE g) (cy x)=true→Qi (cy x)≤1000→eC prog 65 #[fG g,uQ x] [er g,br x] (iv (pt (cE g) (cy x))):=by
 intro x
 induction x using dE.ind
 rename_i x q
 intro i j;refine eC.nK (args:=[fG g,uQ x]) 39 func65 rfl ntmps65 rfl (λc=> ?_);refine go ?_
 refine St.jN (er g) (λ_:Unit=>H8 g) (λρ h=>⟨(),h⟩) λ_=> ?_
 refine St.cast (H':=[aB (sl n5 g.tv.1 g.types),aB (aF ry g.types),aB (sl gY g.fv.1 g.cB),aB (sl cT g.rv.1 g.rules),aB (aF bx g.rules),aB (sl e7 g.xv.1 g.aL),aB (aF eQ g.aL),aB (aG g.start),aB (er g),aB (br x)]) rfl ?_;refine St.FH x ?_
 have a:cy x= .mk x.rule x.lex (x.kids.map cy):=lD x
 have b:=Tf (cE g) x.rule x.lex (x.kids.map cy)
 rw[←a]at b;rw[a,Y0]at i;rw[a,XR]at j
 have s:(cE g).rules.length=g.rules.length:=aO _
 have t:(cE g).aL.length=g.aL.length:=aO _
 have u:=FD (x.kids.map cy)
 rw[aO]at u;refine go ?_;refine St.dJ (.mk rfl) rfl (λv=> ?_);refine St.dJ (.mk rfl) rfl (λw=> ?_);refine g11 ?_;refine St.cq (λe=> ?_) (λe=> ?_)
 ·rw[aC e,qi,fy,fy,t]at i
  rw[aC e]at b;obtain⟨y,hy⟩:=aE (show x.lex.toNat<g.aL.length by omega)
  have m:((g.aL.map oh).map (·.weight))[x.lex.toNat]?=some y.weight:=by rw[bP,bP,hy];rfl
  rw[show(cE g).aL=g.aL.map oh from rfl,m]at b;refine g6 ?_;refine St.ee (Ev.cM (k:=x.lex.toNat) (.mk rfl) (.mk rfl) IK nW (by omega) (by omega)) ?_;refine g7 ?_;refine St.rV [_] [] ?_;exact ie (by rw[b];rfl)
 ·rw[aA (Int.not_lt.2 e),qi,fy,s]at i
  rw[aA (Int.not_lt.2 e)]at b;obtain⟨y,hy⟩:=aE (show x.rule.toNat<g.rules.length by omega)
  have m:((g.rules.map lL).map (·.weight))[x.rule.toNat]?=some y.weight:=by rw[bP,bP,hy];rfl
  rw[show(cE g).rules=g.rules.map lL from rfl,m]at b
  have A:0≤y.weight∧y.weight≤1000000:=hw.r (lL y) (eP (ae hy))
  have n:=G1 i.2
  refine g8 ?_;refine St.ee (Ev.cM (k:=x.rule.toNat) (.mk rfl) (.mk rfl) Pu kU (by omega) (by omega)) ?_;refine g15 ?_;refine St.slot 5 (iv (y.weight+jA (cE g) ((x.kids.map cy).take 0))) rfl (congrArg iv (by rw[sg,jA,Int.add_zero])) ?_;refine St.lH (ι:=Nat) (λk T=>(28,iv k)::(5,iv (y.weight+jA (cE g) ((x.kids.map cy).take k)))::T) (λk=>[aB (er g),aB (br x),aB (sl dC x.kv.1 x.kids),aB (aF br x.kids),aB (sl cT g.rv.1 g.rules),aW v (.cells (jD g).toArray 32 (0,0)),aW w (.cells (Jt x).toArray 69 (0,0))]) (λk=>k≤x.kids.length) (λk=>x.kids.length-k) 0 (aD.cons 2 rfl (aD.cons 4 rfl (aD.cons 26 rfl (aD.cons 27 rfl aD.nil)))) (aP _) ?_;intro k hk
  have B:=zq hw ((x.kids.map cy).take k)
  have C:=LK (l:=x.kids.map cy) k
  refine g6 ?_;refine St.cq (λo=> ?_) (λo=> ?_)
  ·obtain⟨z,hz⟩:=aE (show k<x.kids.length by omega)
   have f:=ae hz
   refine St.cK br x.kids (x:=z) f ?_
   have d:(x.kids.map cy)[k]?=some (cy z):=by rw[bP,hz];rfl
   have D:=IA (g:=cE g) d
   have E:=FE (ae d)
   have p:=n (cy z) (ae d)
   have F:=Jm hw (cy z)
   refine g7 ?_;refine St.ee (Ev.jq (.mk rfl) hz IM trivial pw j5.eq) ?_;refine St.al (λG=> ?_);refine g6 ?_;refine St.slot 33 (fG g) rfl rfl ?_;refine go ?_;refine St.slot 34 (uQ z) rfl rfl ?_;refine St.ee (Ev.call (q z f p (by omega)) Zy (.aX rfl rfl)) ?_;refine go ?_;refine St.slot 36 (iv (y.weight+jA (cE g) ((x.kids.map cy).take (k+1)))) rfl (congrArg iv (by rw[D,Int.add_assoc])) ?_;refine g9 ?_;refine St.aH (k+1) (by omega)
  ·obtain rfl:k=x.kids.length:=by omega
   rw[show(x.kids.map cy).take x.kids.length=x.kids.map cy from fF (by rw[aO];exact aR _)];refine g12 ?_;refine St.rV [_] [] ?_;exact ie (by rw[b];rfl)
theorem AV (v0:Value)(us:List aV)(l:List (List ax))(j:us.length=l.length)(a:FuncId)(f:aI prog a)(caps:List Value)(ds:List du)(b:List ax→Bool)(g:∀(k:Nat) (u:aV) (c:List ax),us[k]?=some u→l[k]?=some c→eC prog a ([u.1]++caps).toArray ds (.bool (b c))):
 eC prog 72 #[v0,.func (.func a) #[] caps.toArray] (sl bT v0 us::ds) (iv (ix b l)):=by
 refine eC.Ck (args:=[v0,.func (.func a) #[] caps.toArray]) 19 func72 rfl ntmps72 rfl (λc=> ?_);refine go ?_;refine St.wf v0 (λm hlen=> ?_);refine g13 ?_;refine St.lS (ι:=Nat) (λk T=>(8,iv k)::T) (λk=>k≤l.length∧(l.take k).all (λy=> !b y)=true) (λk=>l.length-k) 0 (aD.cons 0 rfl (aD.cons 1 rfl (aD.cons 7 rfl aD.nil))) ⟨aP _,rfl⟩ ?_;intro k h;obtain⟨hk,d⟩:=h;refine g6 ?_;refine St.cq (λi=> ?_) (λi=> ?_)
 ·obtain⟨p,hp⟩:=aE (show k<l.length by omega)
  obtain⟨u,hu⟩:=aE (show k<us.length by omega);refine g17 ?_;refine St.ee (Ev.eh (g k u p hu hp) f (.mk rfl) (.au rfl)) ?_;refine g2 ?_;refine St.cond _ rfl (λe=> ?_) (λe=> ?_)
  ·skip
   refine g12 ?_;refine St.DR [_] _ results72 ⟨rfl,trivial⟩ ?_ (λ_ hw=>hw);exact ie (tm d hp e).symm
  ·skip
   refine g8 ?_;refine St.Ge (k+1) ⟨by omega,kr d hp (by simpa using e)⟩ (by first|omega|(dsimp only;omega)) (by repeat(first|exact Sub.nil|refine Sub.cons (by first|rfl|exact congrArg (λz=>some (iv z)) (by first|omega|(dsimp only;omega))|exact congrArg (λz=>some (Value.bool z)) (by first|assumption|exact iZ (by assumption))) ?_)) (λ_ hw=>hw)
 ·refine g11 ?_
  refine St.DR [_] _ results72 ⟨rfl,trivial⟩ ?_ (λ_ hw=>hw);exact ie (xu d (by omega)).symm
theorem ue (v0:Value)(us:List aV)(l:List (List ax))(d:us.length=l.length)(a:FuncId)(e:aI prog a)(caps:List Value)(ds:List du)(b:List ax→Bool)(f:∀(k:Nat) (u:aV) (c:List ax),us[k]?=some u→l[k]?=some c→eC prog a ([u.1]++caps).toArray ds (.bool (b c))):
 eC prog 35 #[v0,.func (.func a) #[] caps.toArray] (sl bT v0 us::ds) (.bool (l.any b)):=by
 refine eC.Ck (args:=[v0,.func (.func a) #[] caps.toArray]) 9 func35 rfl ntmps35 rfl (λc=> ?_);refine g9 ?_;refine St.ee (Ev.call (AV v0 us l d a e caps ds b f) ahV (.aX rfl rfl)) ?_;refine g5 ?_;refine St.DR [_] _ results35 ⟨rfl,trivial⟩ ?_ (λ_ hw=>hw);exact be (qx _ _)
theorem CO (bi bw i:Nat)(w:ax)(us:List aV)(l:List (List ax))(k:Nat)(u:aV)(c:List ax)(hu:us[k]?=some u)(a:l[k]?=some c)(b:i<c.length):eC prog 36 ([u.1]++ [Value.pointer (some ⟨bi,0,none⟩),Value.pointer (some ⟨bw,0,none⟩)]).toArray [jr bI us l,pf bi (iv (i:Nat)),pf bw (sv w)] (.bool (decide (c.getD i []=w))):=by
 refine eC.UA (args:=[u.1]++ [Value.pointer (some ⟨bi,0,none⟩),Value.pointer (some ⟨bw,0,none⟩)]) 11 func36 rfl ntmps36 rfl (λe=> ?_);refine go ?_;refine St.jr (vs:=us) k hu a ?_;obtain⟨x,hx⟩:=aE b
 have d:c.getD i []=x:=by rw[ar,hx];rfl
 refine g5 ?_;refine St.rq mixed (by kernel_rfl) (Mm.drawn _ _) ?_;refine g10 ?_;refine St.rV [_] [] ?_;exact be (by rw[d,B7];simp)
theorem Dw (g:gQ)(v0:Value)(aN:List (List ax)):sm prog 15 #[fG g,v0] ([er g,o3 bI v0 aN,tz,u8].map aB) (λv H'=>∃a:aV,v= .tuple #[a.1,fv (xH (cE g) aN).2]∧H'=[aB (o3 bI a.1 (xH (cE g) aN).1)]):=by
 refine sm.body (args:=[fG g,v0]) 60 func15 rfl ntmps15 rfl (λc C=> ?_);refine St.cast (H':=[aB (er g),aB (o3 bI v0 aN),aB (tz),aB (u8)]) rfl ?_;refine go ?_;refine St.ma v0 (λvs E=> ?_);refine St.JY vs E (λF=> ?_);refine go ?_;refine St.dJ (.mk rfl) rfl (λU=> ?_);refine go ?_;refine St.al (λn=> ?_);refine g6 ?_;refine St.slot 15 (fG g) rfl rfl ?_;refine go ?_;refine St.ee (Ev.mQ C (sN g v0 aN) Vy (.aX rfl rfl)) ?_;refine St.slot 17 (.agg #[iv (l5 (cE g) aN).1,iv (l5 (cE g) aN).2]) rfl rfl ?_;refine St.al (λV=> ?_);refine g10 ?_;refine St.cq (λf=> ?_) (λf=> ?_)
 ·have b:(xH (cE g) aN)=([],(l5 (cE g) aN)):=by unfold xH;rw[aC f]
  refine go ?_;refine St.pC [n] mixed (λG H=> ?_);refine SW.gd 0 ?_;refine SW.gd 1 ?_;refine SW.t1 2 ?_;refine g3 ?_;refine SW.go ?_;refine SW.dn ?_;refine g3 ?_;refine St.DI (Rr:=bI) ?_;refine St.LH (Rr:=bI) (l:=[]) (.slice none 0 0) (vs:=[]) rfl ?_;refine St.rV [_,_] [aB (o3 bI (.slice none 0 0) [])] ?_;exact⟨bR,by rw[b];rfl,by rw[b]⟩
 ·have q:=uw.1 (show(l5 (cE g) aN).1=0 by omega)
  have b:(xH (cE g) aN)=if(dy (cE g) aN).2.1≠0 then([],(dy (cE g) aN).2)else(lQ (ik (dy (cE g) aN).1) 0 aN,(0,0)):=by unfold xH;rw[aA (λh=>h (by omega))]
  refine g5 ?_;refine St.slot 23 (fG g) rfl rfl ?_;refine go ?_;refine St.lP C (vD g v0 aN q) Vz (.aX rfl rfl) rfl ?_;rintro v25 _ ⟨lv,rfl,rfl⟩;refine St.ao ?_;refine St.ma lv.1 (λus I=> ?_);refine g3 ?_;refine St.slot 27 (fv (dy (cE g) aN).2) rfl rfl ?_;refine St.al (λW=> ?_);refine g12 ?_;refine St.cq (λr=> ?_) (λr=> ?_)
  ·rw[aC r]at b
   refine go ?_;refine St.pC [n] mixed (λG H=> ?_);refine SW.gd 0 ?_;refine SW.gd 1 ?_;refine SW.t1 2 ?_;refine g3 ?_;refine SW.go ?_;refine SW.dn ?_;refine g3 ?_;refine St.DI (Rr:=bI) ?_;refine St.LH (Rr:=bI) (l:=[]) (.slice none 0 0) (vs:=[]) rfl ?_;refine St.rV [_,_] [aB (o3 bI (.slice none 0 0) [])] ?_;exact⟨bR,by rw[b];rfl,by rw[b]⟩
  ·rw[aA (λh=>h r)]at b
   have K:=(Rs (g:=cE g) (s:=aN) (by omega))
   have L:=q.xY
   refine g16 ?_;refine St.dw 33 1 ?_;refine St.aM (.slice none 0 0) (show _=([]:List aV).length from rfl) (show _=rows bT []from rfl) ?_;refine St.Ot bI ?_;refine St.cast (H':=_::_) (show aB (jr bI [] [])::_=aB (jr bI [] ((lQ (ik (dy (cE g) aN).1) 0 aN).take (0)))::_ from rfl) ?_;refine St.lH (ι:=Nat×aV×List aV) (λ⟨i,a,ws⟩ T=>(34,iv i)::(9,a.1)::T) (λ⟨i,a,ws⟩=>[row a.1 33 1 (ws).length (rows bT (ws)),aB (jr bI ws ((lQ (ik (dy (cE g) aN).1) 0 aN).take (i))),aB (er g),aB (o3 bI v0 aN),aB (tz),aB (u8),aB (sl bT v0 vs),aB (jr bI vs aN),aB (sl bT lv.1 us),aB (jr bI us (dy (cE g) aN).1),aW n (.cells [iv 0,iv 0].toArray 35 (0,0))]) (λ⟨i,a,ws⟩=>i≤aN.length∧ws.length=i) (λ⟨i,a,ws⟩=>aN.length-i) ⟨0,bR,[]⟩ (aD.cons 4 rfl (aD.cons 5 rfl (aD.cons 7 rfl (aD.cons 32 rfl (aD.cons 33 rfl aD.nil))))) ⟨aP _,rfl⟩ ?_;rintro ⟨i,a,ws⟩ ⟨M,t⟩
   dsimp only at M t⊢
   refine g6 ?_;refine St.cq (λx=> ?_) (λx=> ?_)
   ·obtain⟨s,o⟩:=aE (show i<aN.length by omega)
    obtain⟨u,hu⟩:=aE (show i<vs.length by omega);refine St.jr (vs:=vs) i hu o ?_
    have N:=(q.aN s (ae o)).xY
    have j:=J2 (p:=ik (dy (cE g) aN).1) (i:=0) o
    rw[hP]at j;refine g9 ?_;refine St.al (λm=> ?_);refine St.cH (.mk rfl) (.mk rfl) dK rfl (by rfl) ?_;refine g17 ?_;refine St.FW m ?_;refine St.dw 9 1 ?_;refine St.aM (.slice none 0 0) (show _=((s.take (0)).filter (ik (dy (cE g) aN).1 i)).length from rfl) (show _=rows bI ((s.take (0)).filter (ik (dy (cE g) aN).1 i))from rfl) ?_;refine St.lH (ι:=Nat×aV) (λ⟨k,wv⟩ T=>(41,iv k)::(12,wv.1)::T) (λ⟨k,wv⟩=>[row wv.1 9 1 ((s.take (k)).filter (ik (dy (cE g) aN).1 i)).length (rows bI ((s.take (k)).filter (ik (dy (cE g) aN).1 i))),row a.1 33 1 (ws).length (rows bT (ws)),aB (jr bI ws ((lQ (ik (dy (cE g) aN).1) 0 aN).take (i))),aB (sl bI u.1 s),aB (pf m (iv (i:Nat))),aB (er g),aB (o3 bI v0 aN),aB (tz),aB (u8),aB (sl bT v0 vs),aB (jr bI vs aN),aB (sl bT lv.1 us),aB (jr bI us (dy (cE g) aN).1),aW n (.cells [iv 0,iv 0].toArray 35 (0,0))]) (λ⟨k,wv⟩=>k≤s.length) (λ⟨k,wv⟩=>s.length-k) ⟨0,bR⟩ (aD.cons 4 rfl (aD.cons 5 rfl (aD.cons 7 rfl (aD.cons 9 rfl (aD.cons 10 rfl (aD.cons 32 rfl (aD.cons 33 rfl (aD.cons 34 rfl (aD.cons 39 rfl (aD.cons 40 rfl aD.nil)))))))))) (aP _) ?_;rintro ⟨k,wv⟩ hk
    dsimp only at hk⊢
    have O:((s.take (k)).filter (ik (dy (cE g) aN).1 i)).length≤5:=dS (CD _ _) (by rw[eX];omega)
    refine g6 ?_;refine St.cq (λy=> ?_) (λy=> ?_)
    ·obtain⟨w,hw⟩:=aE (show k<s.length by omega)
     have e:((s.take (k+1)).filter (ik (dy (cE g) aN).1 i))=((s.take (k)).filter (ik (dy (cE g) aN).1 i))++if ik (dy (cE g) aN).1 i w=true then [w]else []:=by rw[aa hw,List.filter_append,List.filter_cons,List.filter_nil]
     refine g8 ?_;refine St.al (λz=> ?_);refine St.cH (.mk rfl) (.mk rfl) M3 rfl (by rfl) ?_;refine g5 ?_;refine St.ee (Ev.func (.aX rfl rfl)) ?_;refine St.ee (Ev.wM (ue lv.1 us (dy (cE g) aN).1 I 36 ahK [Value.pointer (some ⟨m,0,none⟩),Value.pointer (some ⟨z,0,none⟩)] [jr bI us (dy (cE g) aN).1,pf m (iv (i:Nat)),pf z (sv w)] (λc=>decide (c.getD i []=w)) (λk u c hu D=>CO m z i w us (dy (cE g) aN).1 k u c hu D (by rw[K c (ae D)];omega))) ahJ (.aX rfl rfl) (dW.aB (dW.aB (dW.aB (dW.aW dW.nil))))) ?_;refine St.slot 47 (.bool (ik (dy (cE g) aN).1 i w)) rfl (congrArg Value.bool (TE _ _ _)) ?_;refine g2 ?_;refine St.cond _ rfl (λd=> ?_) (λd=> ?_)
     ·skip
      rw[aC d]at e;refine g3 ?_;refine St.gX rfl (.au rfl) pM M3 VP rfl rfl (by simp[Value.cells]) rfl rfl (λX=> ?_);refine St.aj (.mk rfl) (.mk rfl) pM M3 VP by9 (by simp[Value.oneCell',Value.cells]) (by omega) (by omega) rfl rfl rfl rfl (λv51 P=> ?_);refine St.aM v51 (show _=((s.take (k+1)).filter (ik (dy (cE g) aN).1 i)).length by rw[e,bQ];rfl) (show _=rows bI ((s.take (k+1)).filter (ik (dy (cE g) aN).1 i)) by rw[e,bB];rfl) ?_;refine St.bZ v51 (λQ _=> ?_);refine g9 ?_;refine St.aH ⟨k+1,⟨v51,Q⟩⟩ (by dsimp only;omega)
     ·skip
      rw[d,aA (by decide),gx]at e;refine St.aM wv.1 (show _=((s.take (k+1)).filter (ik (dy (cE g) aN).1 i)).length by rw[e]) (show _=rows bI ((s.take (k+1)).filter (ik (dy (cE g) aN).1 i)) by rw[e]) ?_;refine g8 ?_;refine St.aH ⟨k+1,wv⟩ (by dsimp only;omega)
    ·obtain rfl:k=s.length:=by omega
     rw[kH];refine St.bS wv.1 bI (s.filter (ik (dy (cE g) aN).1 i)) rfl rfl (λw hw=>F s (ae o) w (qh.1 hw).1) ?_;refine g8 ?_;refine St.gX rfl (.au rfl) sf B1 QW rfl rfl (by simp[J.cells_one wv.2]) rfl rfl (λR=> ?_);refine St.aj (.mk rfl) (.mk rfl) sf B1 QW ZK (by simp[J.cells_one wv.2,wv.2]) (by omega) (by omega) rfl rfl rfl rfl (λA S=> ?_);refine St.aM A (show _=(ws++ [wv]).length by rw[bQ];rfl) (show _=rows bT (ws++ [wv]) by rw[bB];simp[J.cells_one wv.2];rfl) ?_;refine St.bZ A (λB _=> ?_);refine St.JX ws wv (show ws.length=((lQ (ik (dy (cE g) aN).1) 0 aN).take (i)).length by rw[eX,jw];omega) ?_;rw[←aa j];refine g9 ?_;refine St.aH ⟨i+1,⟨A,B⟩,ws++ [wv]⟩ ⟨by omega,by dsimp only;rw[bQ,t];rfl⟩
   ·obtain rfl:i=aN.length:=by omega
    rw[show((lQ (ik (dy (cE g) aN).1) 0 aN).take (aN.length))=lQ (ik (dy (cE g) aN).1) 0 aN from fF (Nat.le_of_eq (jw _ _ _))];refine St.bS a.1 bT ws rfl rfl (λ_ _=>trivial) ?_;refine St.LH (Rr:=bI) (l:=lQ (ik (dy (cE g) aN).1) 0 aN) a.1 (by rw[jw];exact t) ?_;refine g8 ?_;refine St.ee (Ev.build (bF.nil) (λw=>jX w)) ?_;refine g5 ?_;refine St.rV [_,_] [aB (o3 bI a.1 (lQ (ik (dy (cE g) aN).1) 0 aN))] ?_;exact⟨a,by rw[b];rfl,by rw[b]⟩
theorem KG (g:gQ)(v0:Value)(aN:List (List ax))(E:∀w∈(dy (cE g) aN).1,∀t∈(lO (cE g) w 1).1,Xz (cE g) t=true∧Qi t≤1000):
 sm prog 31 #[fG g,v0] ([er g,o3 bI v0 aN,tz,u8].map aB) (λv H'=>∃wv:aV,v= .tuple #[.agg #[wv.1,iv (oN (qA (cE g) aN).1)],.bool (qA (cE g) aN).1.isSome,fv (qA (cE g) aN).2]∧H'=[aB (sl bI wv.1 (oW (qA (cE g) aN).1))]):=by
 refine sm.body (args:=[fG g,v0]) 76 func31 rfl ntmps31 rfl (λc n=> ?_);refine St.cast (H':=[aB (er g),aB (o3 bI v0 aN),aB (tz),aB (u8)]) rfl ?_;refine g2 ?_;refine St.dJ (.mk rfl) rfl (λF=> ?_);refine St.al (λp=> ?_);refine go ?_;refine St.al (λq=> ?_);refine g6 ?_;refine St.slot 17 (fG g) rfl rfl ?_;refine go ?_;refine St.ee (Ev.mQ n (sN g v0 aN) Vy (.aX rfl rfl)) ?_;refine St.slot 19 (.agg #[iv (l5 (cE g) aN).1,iv (l5 (cE g) aN).2]) rfl rfl ?_;refine St.al (λQ=> ?_);refine g10 ?_;refine St.cq (λB=> ?_) (λB=> ?_)
 ·have f:(qA (cE g) aN)=(none,(l5 (cE g) aN)):=by unfold qA;rw[aC B]
  refine go ?_;refine St.pC [p,q] mixed (λG H=> ?_);refine SW.dd 0 rfl (λ_=>Ev.build (ps:=[]) (bF.nil) (λw=>Md w)) ?_;refine SW.gd 1 ?_;refine SW.t1 2 ?_;refine g3 ?_;refine SW.go ?_;refine SW.gd 3 ?_;refine SW.t1 4 ?_;refine g3 ?_;refine SW.go ?_;refine SW.dn ?_;refine g3 ?_;refine St.fm bI ?_;refine St.rV [_,_,_] [aB (sl bI (.slice none 0 0) [])] ?_;exact⟨bR,by rw[f];rfl,by rw[f];rfl⟩
 ·have I:(l5 (cE g) aN).1=0:=by omega
  have C:=uw.1 I
  have f:(qA (cE g) aN)=if(dy (cE g) aN).2.1≠0 then(none,(dy (cE g) aN).2)else(bsF (cE g) (dy (cE g) aN).1,(0,0)):=by unfold qA;rw[aA (λh=>h (by omega))]
  have J:=YE (vH C.grm)
  refine g5 ?_;refine St.slot 26 (fG g) rfl rfl ?_;refine go ?_;refine St.lP n (vD g v0 aN C) Vz (.aX rfl rfl) rfl ?_;rintro v28 _ ⟨lv,rfl,rfl⟩;refine St.ao ?_;refine St.ma lv.1 (λus K=> ?_);refine St.wf lv.1 (λ_ R=> ?_);refine g3 ?_;refine St.slot 30 (fv (dy (cE g) aN).2) rfl rfl ?_;refine St.al (λS=> ?_);refine g12 ?_;refine St.cq (λr=> ?_) (λr=> ?_)
  ·rw[aC r]at f
   refine go ?_;refine St.pC [p,q] mixed (λG H=> ?_);refine SW.dd 0 rfl (λ_=>Ev.build (ps:=[]) (bF.nil) (λw=>Md w)) ?_;refine SW.gd 1 ?_;refine SW.t1 2 ?_;refine g3 ?_;refine SW.go ?_;refine SW.gd 3 ?_;refine SW.t1 4 ?_;refine g3 ?_;refine SW.go ?_;refine SW.dn ?_;refine g3 ?_;refine St.fm bI ?_;refine St.rV [_,_,_] [aB (sl bI (.slice none 0 0) [])] ?_;exact⟨bR,by rw[f];rfl,by rw[f];rfl⟩
  ·rw[aA (λh=>h r)]at f
   refine g4 ?_;refine St.al (λs=> ?_);refine g16 ?_;refine St.fm bI ?_;refine St.cast (H':=_::_) (show aB (sl bI (.slice none 0 0) [])::_=aB (sl bI bR.1 (oW none))::_ from rfl) ?_;refine St.mP s (L':=[bR.1,iv (oN none)]) rfl ?_;refine St.lH (ι:=Nat×aV×Option (List ax×Int)) (λ⟨k,wv,o⟩ T=>(38,iv k)::(11,.bool o.isSome)::T) (λ⟨k,wv,o⟩=>[aW s (.cells [wv.1,iv (oN o)].toArray 77 (0,0)),aB (sl bI wv.1 (oW o)),aW F (.cells (jD g).toArray 32 (0,0)),aB (er g),aB (tz),aB (u8),aB (sl bT lv.1 us),aB (jr bI us (dy (cE g) aN).1),aW p (.cells [(.slice none 0 0),iv 0].toArray 77 (0,0)),aW q (.cells [iv 0,iv 0].toArray 35 (0,0))]) (λ⟨k,wv,o⟩=>k≤us.length∧((dy (cE g) aN).1.take k).foldl (zm (cE g)) none=o) (λ⟨k,wv,o⟩=>us.length-k) ⟨0,bR,none⟩ (aD.cons 2 rfl (aD.cons 4 rfl (aD.cons 5 rfl (aD.cons 6 rfl (aD.cons 10 rfl (aD.cons 36 rfl (aD.cons 37 rfl aD.nil))))))) ⟨aP _,rfl⟩ ?_;rintro ⟨k,wv,o⟩ ⟨hk,m⟩
   dsimp only at hk m⊢
   refine g6 ?_;refine St.cq (λL=> ?_) (λL=> ?_)
   ·obtain⟨u,hu⟩:=aE (show k<us.length by omega)
    obtain⟨w,hw⟩:=aE (show k<(dy (cE g) aN).1.length by omega);refine St.jr (vs:=us) k hu hw ?_
    have i:=Kl (g:=cE g) hw
    rw[m]at i
    have M:=E w (ae hw)
    refine g14 ?_;refine St.slot 43 (fG g) rfl rfl ?_;refine go ?_;refine St.lP n (KY g u.1 w 1) ahA (.ej rfl rfl rfl) rfl ?_;rintro v45 _ ⟨tv,outs,rfl,D,rfl⟩;refine St.dQ ?_;refine g3 ?_;refine St.slot 47 (fv (lO (cE g) w 1).2) rfl rfl ?_;refine St.al (λU=> ?_);refine g11 ?_;refine St.gf _ rfl rfl (λd=>Ev.move (.mk rfl)) rfl ?_;refine St.gf _ rfl rfl (λd=>Ev.fk (ai.gv rfl d) A4) rfl ?_;refine St.gf _ rfl rfl (λd=>Ev.eql (ai.gv rfl d) (.mk rfl)) rfl ?_;refine g3 ?_;refine St.cond _ rfl (λj=> ?_) (λj=> ?_)
    ·skip
     have N:(lO (cE g) w 1).1=[]:=by rcases Bool.or_eq_true_iff.1 j with h|h;exact Kc (by simpa using h);rw[←D,lG (show outs.length=0 by have:=fM h;omega)];rfl
     rw[Tc N]at i;refine g9 ?_;refine St.aH ⟨k+1,wv,o⟩ ⟨by omega,i⟩
    ·skip
     have O:¬(outs.length:Int)=0:=iV (Bool.or_eq_false_iff.1 j).2
     obtain⟨t,ht⟩:=aE (show 0<outs.length by omega)
     obtain⟨rs,y⟩:∃rs,(lO (cE g) w 1).1=cy t::rs:=by rw[←D];cases outs with|nil=>cases ht|cons a b=>obtain rfl:=Option.some.inj ht;exact⟨_,rfl⟩
     obtain⟨z,A⟩:=M (cy t) (by rw[y];exact aQ ..)
     have P:=ae ht
     refine St.cK br outs (x:=t) P ?_;refine g3 ?_;refine St.rq mixed (by kernel_rfl) (Mm.drawn _ _) ?_;refine go ?_;refine Sq.slot 56 (fG g) rfl rfl ?_;refine go ?_;refine Sq.ee (Ev.cM (k:=0) (.mk rfl) (.mk rfl) A4 pw rfl (by omega)) ?_;refine Sq.ee (Ev.jq (.mk rfl) ht IM trivial pw j5.eq) ?_;refine Sq.slot 59 (uQ t) rfl rfl ?_;refine Sq.ee (Ev.call (MF g J t z A) Zy (.aX rfl rfl)) ?_;refine g8 ?_;refine St.gf _ rfl rfl (λd=>Ev.move (.mk rfl)) rfl ?_;refine St.gf _ rfl rfl (λd=>Ev.da (.mk rfl) NI) rfl ?_;refine St.gf _ rfl rfl (λd=>Ev.ke (ai.gv rfl d) gV trivial (by rfl)) rfl ?_;refine St.gf _ rfl rfl (λd=>Ev.lss (ai.gv rfl d) (ai.gv rfl d)) rfl ?_;refine g3 ?_;refine St.cond _ rfl (λe=> ?_) (λe=> ?_)
     ·skip
      rw[Tb y (show o.isSome=false∨pt (cE g) (cy t)<oN o by rcases Bool.or_eq_true_iff.1 e with h|h;exact .inl (by simpa using h);exact .inr (by simpa using h))]at i;refine g3 ?_;refine St.ee (Ev.build (bF.aX rfl rfl) (λw=>Ka u.2 rfl w)) ?_;refine g10 ?_;refine St.mP s (L':=[u.1,iv (oN (some (w,pt (cE g) (cy t))))]) rfl ?_;refine St.eZ (sl bI u.1 (oW (some (w,pt (cE g) (cy t))))) [sl bI u.1 w] (λρ h=>h _ (aQ ..)) ?_;refine St.aH ⟨k+1,u,some (w,pt (cE g) (cy t))⟩ ⟨by omega,i⟩
     ·skip
      rw[Td y (by simpa using (Bool.or_eq_false_iff.1 e).1) (by simpa using (Bool.or_eq_false_iff.1 e).2)]at i;refine g8 ?_;refine St.aH ⟨k+1,wv,o⟩ ⟨by omega,i⟩
   ·obtain rfl:k=us.length:=by omega
    rw[K,kH]at m
    have l:(qA (cE g) aN)=(o,(0,0)):=by rw[f];unfold bsF;rw[m]
    refine g9 ?_;refine St.ee (Ev.build (bF.nil) (λw=>jX w)) ?_;refine g6 ?_;refine St.rV [_,_,_] [aB (sl bI wv.1 (oW o))] ?_;exact⟨wv,by rw[l];rfl,by rw[l]⟩
abbrev e0:ig:= .mk sE []
abbrev t0:ig:= .mk sT []
abbrev an (a b:ig):ig:= .mk [] [a,b]
abbrev aY (i:Int):jI:= .mk 2 [] i S0 []
abbrev aK (a b:jI):jI:= .mk 4 [] 0 S0 [a,b]
abbrev bC (s:ig)(t:jI):jI:= .mk 3 [] 0 s [t]
abbrev bV (n:ax)(s:ig):jI:= .mk 1 n 0 s []
abbrev p0:ig:=an e0 t0
abbrev ae2 (q c:ax):jI:=aK (bV q (an p0 t0)) (bC e0 (aK (aK (bV c (an t0 (an t0 t0))) (aK (aY 2) (aY 0))) (aK (aY 1) (aY 0))))
abbrev alN:ax:=[110,111,116]
def mf (q c:ax)(no:Bool):jI:=bC p0 (bC p0 (if no then aK (bV alN (an t0 t0)) (ae2 q c)else ae2 q c))
theorem lR (q cc:ax)(no:Bool)(h:nD q)(i:nD cc):dz prog 60 #[sv q,sv cc,.bool no] ([].map aB) (λv H'=>H'=[aB (isTerm (mf q cc no) v)]):=by
 refine dz.body (args:=[sv q,sv cc,.bool no]) 51 func60 rfl ntmps60 rfl (λc=> ?_);refine St.cast (H':=[]) rfl ?_;refine g2 ?_;refine St.al (λU=> ?_);refine g4 ?_;refine St.ag (mG [101] (by decide)) Ke (.au rfl) rfl ?_;rintro v11 _ rfl;refine St.ao ?_;refine St.db e0 v11 (λg z=> ?_);obtain⟨A,B,C⟩:=z;subst A;refine St.ag (mG [116] (by decide)) Ke (.au rfl) rfl ?_;rintro v12 _ rfl;refine St.ao ?_;refine St.db t0 v12 (λb D=> ?_);obtain⟨E,F,G⟩:=D;subst E;refine St.al (λV=> ?_);refine St.al (λW=> ?_);refine g8 ?_;refine St.ag (fI (aU g) (aU b) e0 t0) qG (.aX rfl rfl) rfl ?_;rintro j _ rfl;refine St.ao ?_;refine St.db p0 j (λd k=> ?_);obtain⟨H,I,J⟩:=k;subst H;refine St.al (λX=> ?_);refine g4 ?_;refine St.ag6 23 24 16 [10] (⟨16,[],λu=>cU u ((sv q))⟩::⟨17,[],λu=>cU u ((aU d))⟩::⟨18,[],λu=>cU u ((aU b))⟩::⟨19,[1,2],λu=>db (an p0 t0) u⟩::⟨20,[0,3],λu=>isTerm (bV q (an p0 t0)) u⟩::⟨21,[],λu=>cU u ((aU g))⟩::⟨22,[],λu=>cU u ((sv cc))⟩::⟨23,[],λu=>cU u ((aU b))⟩::⟨24,[],λu=>cU u ((aU b))⟩::⟨25,[],λu=>cU u ((aU b))⟩::⟨26,[8,9],λu=>db (an t0 t0) u⟩::⟨27,[7,10],λu=>db (an t0 (an t0 t0)) u⟩::⟨28,[6,11],λu=>isTerm (bV cc (an t0 (an t0 t0))) u⟩::⟨29,[],λu=>isTerm (aY 2) u⟩::⟨30,[],λu=>isTerm (aY 0) u⟩::⟨31,[13,14],λu=>isTerm (aK (aY 2) (aY 0)) u⟩::⟨32,[12,15],λu=>isTerm (aK (bV cc (an t0 (an t0 t0))) (aK (aY 2) (aY 0))) u⟩::⟨33,[],λu=>isTerm (aY 1) u⟩::⟨34,[],λu=>isTerm (aY 0) u⟩::⟨35,[17,18],λu=>isTerm (aK (aY 1) (aY 0)) u⟩::⟨36,[16,19],λu=>isTerm (aK (aK (bV cc (an t0 (an t0 t0))) (aK (aY 2) (aY 0))) (aK (aY 1) (aY 0))) u⟩::⟨37,[5,20],λu=>isTerm (bC e0 (aK (aK (bV cc (an t0 (an t0 t0))) (aK (aY 2) (aY 0))) (aK (aY 1) (aY 0)))) u⟩::⟨38,[4,21],λu=>isTerm (aK (bV q (an p0 t0)) (bC e0 (aK (aK (bV cc (an t0 (an t0 t0))) (aK (aY 2) (aY 0))) (aK (aY 1) (aY 0))))) u⟩::⟨10,[],λu=>cU u u⟩::[]) ((16,[])::(17,[])::(18,[])::(19,[1,2])::(20,[0,3])::(21,[])::(22,[])::(23,[])::(24,[])::(25,[])::(26,[8,9])::(27,[7,10])::(28,[6,11])::(29,[])::(30,[])::(31,[13,14])::(32,[12,15])::(33,[])::(34,[])::(35,[17,18])::(36,[16,19])::(37,[5,20])::(38,[4,21])::(10,[])::[]) [23,22] rfl rfl A9 rfl (by kernel_rfl) rfl rfl mixed (by kernel_rfl) (by kernel_rfl) (by rfl) (λe=>[(10,e 23),(38,e 22)]) (λe=>[aB (cU (e 23) (e 23)),aB (isTerm (aK (bV q (an p0 t0)) (bC e0 (aK (aK (bV cc (an t0 (an t0 t0))) (aK (aY 2) (aY 0))) (aK (aY 1) (aY 0))))) (e 22))]) (λ_=>rfl) (λ_=>rfl) ?_ (λe l m=> ?_)
 ·refine ab.c0 (λc e a=> ?_) ?_
  ·refine St.aK ?_
   refine go ?_;refine St.fact (cU ((sv q)) ((sv q))) (λ_ _ _=>rfl) ?_;exact St.bg _
  refine ab.c0 (λc e a=> ?_) ?_
  ·refine St.aK ?_
   refine go ?_;refine St.fact (cU ((aU d)) ((aU d))) (λ_ _ _=>rfl) ?_;exact St.bg _
  refine ab.c0 (λc e a=> ?_) ?_
  ·refine St.aK ?_
   refine go ?_;refine St.fact (cU ((aU b)) ((aU b))) (λ_ _ _=>rfl) ?_;exact St.bg _
  refine ab.cc (λe=>[(17,e 1),(18,e 2)]) (λe=>[aB (cU (e 1) ((aU d))),aB (cU (e 2) ((aU b)))]) (λc e a=> ?_) ?_
  ·refine St.dQ ?_
   refine St.bX (P:=prog) 17 (e 1) ((aU d)) rfl ?_;refine St.bX (P:=prog) 18 (e 2) ((aU b)) rfl ?_;refine St.ag (fI (aU d) (aU b) p0 t0) qG (.aX rfl rfl) rfl ?_;rintro K _ rfl;refine St.ao ?_;exact St.bg _
  refine ab.cc (λe=>[(16,e 0),(19,e 3)]) (λe=>[aB (cU (e 0) ((sv q))),aB (db (an p0 t0) (e 3))]) (λc e a=> ?_) ?_
  ·refine St.dQ ?_
   refine St.bX (P:=prog) 16 (e 0) ((sv q)) rfl ?_;refine St.ag (eL q h (e 3) (an p0 t0)) nq (.aX rfl rfl) rfl ?_;rintro v20 _ rfl;refine St.ao ?_;exact St.bg _
  refine ab.c0 (λc e a=> ?_) ?_
  ·refine St.aK ?_
   refine go ?_;refine St.fact (cU ((aU g)) ((aU g))) (λ_ _ _=>rfl) ?_;exact St.bg _
  refine ab.c0 (λc e a=> ?_) ?_
  ·refine St.aK ?_
   refine go ?_;refine St.fact (cU ((sv cc)) ((sv cc))) (λ_ _ _=>rfl) ?_;exact St.bg _
  refine ab.c0 (λc e a=> ?_) ?_
  ·refine St.aK ?_
   refine go ?_;refine St.fact (cU ((aU b)) ((aU b))) (λ_ _ _=>rfl) ?_;exact St.bg _
  refine ab.c0 (λc e a=> ?_) ?_
  ·refine St.aK ?_
   refine go ?_;refine St.fact (cU ((aU b)) ((aU b))) (λ_ _ _=>rfl) ?_;exact St.bg _
  refine ab.c0 (λc e a=> ?_) ?_
  ·refine St.aK ?_
   refine go ?_;refine St.fact (cU ((aU b)) ((aU b))) (λ_ _ _=>rfl) ?_;exact St.bg _
  refine ab.cc (λe=>[(24,e 8),(25,e 9)]) (λe=>[aB (cU (e 8) ((aU b))),aB (cU (e 9) ((aU b)))]) (λc e a=> ?_) ?_
  ·refine St.dQ ?_
   refine St.bX (P:=prog) 24 (e 8) ((aU b)) rfl ?_;refine St.bX (P:=prog) 25 (e 9) ((aU b)) rfl ?_;refine St.ag (fI (aU b) (aU b) t0 t0) qG (.aX rfl rfl) rfl ?_;rintro v26 _ rfl;refine St.ao ?_;exact St.bg _
  refine ab.cc (λe=>[(23,e 7),(26,e 10)]) (λe=>[aB (cU (e 7) ((aU b))),aB (db (an t0 t0) (e 10))]) (λc e a=> ?_) ?_
  ·refine St.dQ ?_
   refine St.bX (P:=prog) 23 (e 7) ((aU b)) rfl ?_;refine St.ag (fI (aU b) (e 10) t0 (an t0 t0)) qG (.aX rfl rfl) rfl ?_;rintro v27 _ rfl;refine St.ao ?_;exact St.bg _
  refine ab.cc (λe=>[(22,e 6),(27,e 11)]) (λe=>[aB (cU (e 6) ((sv cc))),aB (db (an t0 (an t0 t0)) (e 11))]) (λc e a=> ?_) ?_
  ·refine St.dQ ?_
   refine St.bX (P:=prog) 22 (e 6) ((sv cc)) rfl ?_;refine St.ag (eL cc i (e 11) (an t0 (an t0 t0))) nq (.aX rfl rfl) rfl ?_;rintro v28 _ rfl;refine St.ao ?_;exact St.bg _
  refine ab.c0 (λc e a=> ?_) ?_
  ·refine St.aK ?_
   refine St.ag (cg 2 (by unfold aZ;decide)) mS (.au rfl) rfl ?_;rintro L _ rfl;refine St.ao ?_;exact St.bg _
  refine ab.c0 (λc e a=> ?_) ?_
  ·refine St.aK ?_
   refine St.ag (cg 0 (by unfold aZ;decide)) mS (.au rfl) rfl ?_;rintro v30 _ rfl;refine St.ao ?_;exact St.bg _
  refine ab.cc (λe=>[(29,e 13),(30,e 14)]) (λe=>[aB (isTerm (aY 2) (e 13)),aB (isTerm (aY 0) (e 14))]) (λc e a=> ?_) ?_
  ·refine St.dQ ?_
   refine St.ag (ef (e 13) (e 14) (aY 2) (aY 0)) oy (.aX rfl rfl) rfl ?_;rintro v31 _ rfl;refine St.ao ?_;exact St.bg _
  refine ab.cc (λe=>[(28,e 12),(31,e 15)]) (λe=>[aB (isTerm (bV cc (an t0 (an t0 t0))) (e 12)),aB (isTerm (aK (aY 2) (aY 0)) (e 15))]) (λc e a=> ?_) ?_
  ·refine St.dQ ?_
   refine St.ag (ef (e 12) (e 15) (bV cc (an t0 (an t0 t0))) (aK (aY 2) (aY 0))) oy (.aX rfl rfl) rfl ?_;rintro v32 _ rfl;refine St.ao ?_;exact St.bg _
  refine ab.c0 (λc e a=> ?_) ?_
  ·refine St.aK ?_
   refine St.ag (cg 1 (by unfold aZ;decide)) mS (.au rfl) rfl ?_;rintro v33 _ rfl;refine St.ao ?_;exact St.bg _
  refine ab.c0 (λc e a=> ?_) ?_
  ·refine St.aK ?_
   refine St.ag (cg 0 (by unfold aZ;decide)) mS (.au rfl) rfl ?_;rintro M _ rfl;refine St.ao ?_;exact St.bg _
  refine ab.cc (λe=>[(33,e 17),(34,e 18)]) (λe=>[aB (isTerm (aY 1) (e 17)),aB (isTerm (aY 0) (e 18))]) (λc e a=> ?_) ?_
  ·refine St.dQ ?_
   refine St.ag (ef (e 17) (e 18) (aY 1) (aY 0)) oy (.aX rfl rfl) rfl ?_;rintro v35 _ rfl;refine St.ao ?_;exact St.bg _
  refine ab.cc (λe=>[(32,e 16),(35,e 19)]) (λe=>[aB (isTerm (aK (bV cc (an t0 (an t0 t0))) (aK (aY 2) (aY 0))) (e 16)),aB (isTerm (aK (aY 1) (aY 0)) (e 19))]) (λc e a=> ?_) ?_
  ·refine St.dQ ?_
   refine St.ag (ef (e 16) (e 19) (aK (bV cc (an t0 (an t0 t0))) (aK (aY 2) (aY 0))) (aK (aY 1) (aY 0))) oy (.aX rfl rfl) rfl ?_;rintro v36 _ rfl;refine St.ao ?_;exact St.bg _
  refine ab.cc (λe=>[(21,e 5),(36,e 20)]) (λe=>[aB (cU (e 5) ((aU g))),aB (isTerm (aK (aK (bV cc (an t0 (an t0 t0))) (aK (aY 2) (aY 0))) (aK (aY 1) (aY 0))) (e 20))]) (λc e a=> ?_) ?_
  ·refine St.dQ ?_
   refine St.bX (P:=prog) 21 (e 5) ((aU g)) rfl ?_;refine St.ag (eA (aU g) (e 20) e0 (aK (aK (bV cc (an t0 (an t0 t0))) (aK (aY 2) (aY 0))) (aK (aY 1) (aY 0)))) mR (.aX rfl rfl) rfl ?_;rintro v37 _ rfl;refine St.ao ?_;exact St.bg _
  refine ab.cc (λe=>[(20,e 4),(37,e 21)]) (λe=>[aB (isTerm (bV q (an p0 t0)) (e 4)),aB (isTerm (bC e0 (aK (aK (bV cc (an t0 (an t0 t0))) (aK (aY 2) (aY 0))) (aK (aY 1) (aY 0)))) (e 21))]) (λc e a=> ?_) ?_
  ·refine St.dQ ?_
   refine St.ag (ef (e 4) (e 21) (bV q (an p0 t0)) (bC e0 (aK (aK (bV cc (an t0 (an t0 t0))) (aK (aY 2) (aY 0))) (aK (aY 1) (aY 0))))) oy (.aX rfl rfl) rfl ?_;rintro v38 _ rfl;refine St.ao ?_;exact St.bg _
  refine ab.c0 (λc e a=> ?_) ?_
  ·refine St.aK ?_
   refine St.al (λl=> ?_);refine St.fact (cU (.pointer (some ⟨l,0,none⟩)) (.pointer (some ⟨l,0,none⟩))) (λ_ _ _=>rfl) ?_;exact St.bg _
  exact ab.nil
 refine St.dQ ?_;refine St.slot 10 _ rfl m ?_;refine St.isTerm (aK (bV q (an p0 t0)) (bC e0 (aK (aK (bV cc (an t0 (an t0 t0))) (aK (aY 2) (aY 0))) (aK (aY 1) (aY 0))))) (e 22) (λf N=> ?_);obtain⟨n,O,Q⟩:=N;rw[n];refine g9 ?_;refine St.cond _ rfl (λo=> ?_) (λo=> ?_)
 ·skip
  refine St.U9 6 40 [] (⟨40,[],λu=>cU u ((aU b))⟩::⟨41,[],λu=>cU u ((aU b))⟩::⟨42,[0,1],λu=>db (an t0 t0) u⟩::⟨43,[2],λu=>isTerm (bV [110,111,116] (an t0 t0)) u⟩::⟨44,[],λu=>cU u ((cN f))⟩::⟨45,[3,4],λu=>isTerm (aK (bV [110,111,116] (an t0 t0)) (aK (bV q (an p0 t0)) (bC e0 (aK (aK (bV cc (an t0 (an t0 t0))) (aK (aY 2) (aY 0))) (aK (aY 1) (aY 0)))))) u⟩::[]) ((40,[])::(41,[])::(42,[0,1])::(43,[2])::(44,[])::(45,[3,4])::[]) [5] rfl rfl mixed (by kernel_rfl) (by kernel_rfl) (by rfl) (λe=>[(45,e 5)]) (λe=>[aB (isTerm (aK (bV [110,111,116] (an t0 t0)) (aK (bV q (an p0 t0)) (bC e0 (aK (aK (bV cc (an t0 (an t0 t0))) (aK (aY 2) (aY 0))) (aK (aY 1) (aY 0)))))) (e 5))]) (λ_=>rfl) (λ_=>rfl) ?_ (λe=> ?_)
  ·refine ab.c0 (λc e a=> ?_) ?_
   ·refine St.aK ?_
    refine go ?_;refine St.fact (cU ((aU b)) ((aU b))) (λ_ _ _=>rfl) ?_;exact St.bg _
   refine ab.c0 (λc e a=> ?_) ?_
   ·refine St.aK ?_
    refine go ?_;refine St.fact (cU ((aU b)) ((aU b))) (λ_ _ _=>rfl) ?_;exact St.bg _
   refine ab.cc (λe=>[(40,e 0),(41,e 1)]) (λe=>[aB (cU (e 0) ((aU b))),aB (cU (e 1) ((aU b)))]) (λc e a=> ?_) ?_
   ·refine St.dQ ?_
    refine St.bX (P:=prog) 40 (e 0) ((aU b)) rfl ?_;refine St.bX (P:=prog) 41 (e 1) ((aU b)) rfl ?_;refine St.ag (fI (aU b) (aU b) t0 t0) qG (.aX rfl rfl) rfl ?_;rintro v42 _ rfl;refine St.ao ?_;exact St.bg _
   refine ab.cc (λe=>[(42,e 2)]) (λe=>[aB (db (an t0 t0) (e 2))]) (λc e a=> ?_) ?_
   ·refine St.ao ?_
    refine St.ag (eL [110,111,116] (by decide) (e 2) (an t0 t0)) nq (.aX rfl rfl) rfl ?_;rintro R _ rfl;refine St.ao ?_;exact St.bg _
   refine ab.c0 (λc e a=> ?_) ?_
   ·refine St.aK ?_
    refine go ?_;refine St.fact (cU ((cN f)) ((cN f))) (λ_ _ _=>rfl) ?_;exact St.bg _
   refine ab.cc (λe=>[(43,e 3),(44,e 4)]) (λe=>[aB (isTerm (bV [110,111,116] (an t0 t0)) (e 3)),aB (cU (e 4) ((cN f)))]) (λc e a=> ?_) ?_
   ·refine St.dQ ?_
    refine St.bX (P:=prog) 44 (e 4) ((cN f)) rfl ?_;refine St.ag (ef (e 3) (cN f) (bV [110,111,116] (an t0 t0)) (aK (bV q (an p0 t0)) (bC e0 (aK (aK (bV cc (an t0 (an t0 t0))) (aK (aY 2) (aY 0))) (aK (aY 1) (aY 0)))))) oy (.aX rfl rfl) rfl ?_;rintro v45 _ rfl;refine St.ao ?_;exact St.bg _
   exact ab.nil
  refine St.ao ?_;refine St.isTerm (aK (bV [110,111,116] (an t0 t0)) (aK (bV q (an p0 t0)) (bC e0 (aK (aK (bV cc (an t0 (an t0 t0))) (aK (aY 2) (aY 0))) (aK (aY 1) (aY 0)))))) (e 5) (λxn p=> ?_);obtain⟨r,S,T⟩:=p;rw[r];refine g4 ?_;refine St.U9 5 46 [] (⟨46,[],λu=>cU u ((aU d))⟩::⟨47,[],λu=>cU u ((aU d))⟩::⟨48,[],λu=>cU u ((cN xn))⟩::⟨49,[1,2],λu=>isTerm (bC p0 (aK (bV [110,111,116] (an t0 t0)) (aK (bV q (an p0 t0)) (bC e0 (aK (aK (bV cc (an t0 (an t0 t0))) (aK (aY 2) (aY 0))) (aK (aY 1) (aY 0))))))) u⟩::⟨50,[0,3],λu=>isTerm (bC p0 (bC p0 (aK (bV [110,111,116] (an t0 t0)) (aK (bV q (an p0 t0)) (bC e0 (aK (aK (bV cc (an t0 (an t0 t0))) (aK (aY 2) (aY 0))) (aK (aY 1) (aY 0)))))))) u⟩::[]) ((46,[])::(47,[])::(48,[])::(49,[1,2])::(50,[0,3])::[]) [4] rfl rfl mixed (by kernel_rfl) (by kernel_rfl) (by rfl) (λe=>[(50,e 4)]) (λe=>[aB (isTerm (bC p0 (bC p0 (aK (bV [110,111,116] (an t0 t0)) (aK (bV q (an p0 t0)) (bC e0 (aK (aK (bV cc (an t0 (an t0 t0))) (aK (aY 2) (aY 0))) (aK (aY 1) (aY 0)))))))) (e 4))]) (λ_=>rfl) (λ_=>rfl) ?_ (λe=> ?_)
  ·refine ab.c0 (λc e a=> ?_) ?_
   ·refine St.aK ?_
    refine go ?_;refine St.fact (cU ((aU d)) ((aU d))) (λ_ _ _=>rfl) ?_;exact St.bg _
   refine ab.c0 (λc e a=> ?_) ?_
   ·refine St.aK ?_
    refine go ?_;refine St.fact (cU ((aU d)) ((aU d))) (λ_ _ _=>rfl) ?_;exact St.bg _
   refine ab.c0 (λc e a=> ?_) ?_
   ·refine St.aK ?_
    refine go ?_;refine St.fact (cU ((cN xn)) ((cN xn))) (λ_ _ _=>rfl) ?_;exact St.bg _
   refine ab.cc (λe=>[(47,e 1),(48,e 2)]) (λe=>[aB (cU (e 1) ((aU d))),aB (cU (e 2) ((cN xn)))]) (λc e a=> ?_) ?_
   ·refine St.dQ ?_
    refine St.bX (P:=prog) 47 (e 1) ((aU d)) rfl ?_;refine St.bX (P:=prog) 48 (e 2) ((cN xn)) rfl ?_;refine St.ag (eA (aU d) (cN xn) p0 (aK (bV [110,111,116] (an t0 t0)) (aK (bV q (an p0 t0)) (bC e0 (aK (aK (bV cc (an t0 (an t0 t0))) (aK (aY 2) (aY 0))) (aK (aY 1) (aY 0))))))) mR (.aX rfl rfl) rfl ?_;rintro v49 _ rfl;refine St.ao ?_;exact St.bg _
   refine ab.cc (λe=>[(46,e 0),(49,e 3)]) (λe=>[aB (cU (e 0) ((aU d))),aB (isTerm (bC p0 (aK (bV [110,111,116] (an t0 t0)) (aK (bV q (an p0 t0)) (bC e0 (aK (aK (bV cc (an t0 (an t0 t0))) (aK (aY 2) (aY 0))) (aK (aY 1) (aY 0))))))) (e 3))]) (λc e a=> ?_) ?_
   ·refine St.dQ ?_
    refine St.bX (P:=prog) 46 (e 0) ((aU d)) rfl ?_;refine St.ag (eA (aU d) (e 3) p0 (bC p0 (aK (bV [110,111,116] (an t0 t0)) (aK (bV q (an p0 t0)) (bC e0 (aK (aK (bV cc (an t0 (an t0 t0))) (aK (aY 2) (aY 0))) (aK (aY 1) (aY 0)))))))) mR (.aX rfl rfl) rfl ?_;rintro v50 _ rfl;refine St.ao ?_;exact St.bg _
   exact ab.nil
  refine St.ao ?_;refine St.isTerm (bC p0 (bC p0 (aK (bV [110,111,116] (an t0 t0)) (aK (bV q (an p0 t0)) (bC e0 (aK (aK (bV cc (an t0 (an t0 t0))) (aK (aY 2) (aY 0))) (aK (aY 1) (aY 0)))))))) (e 4) (λs t=> ?_);obtain⟨w,x,y⟩:=t;rw[w];refine g4 ?_
  have h:(bC p0 (bC p0 (aK (bV [110,111,116] (an t0 t0)) (aK (bV q (an p0 t0)) (bC e0 (aK (aK (bV cc (an t0 (an t0 t0))) (aK (aY 2) (aY 0))) (aK (aY 1) (aY 0))))))))=mf q cc no:=by rw[o];rfl
  rw[h];refine St.rV [_] [aB (isTerm (mf q cc no) (cN s))] ?_;rfl
 ·skip
  refine g3 ?_;refine St.U9 5 46 [] (⟨46,[],λu=>cU u ((aU d))⟩::⟨47,[],λu=>cU u ((aU d))⟩::⟨48,[],λu=>cU u ((cN f))⟩::⟨49,[1,2],λu=>isTerm (bC p0 (aK (bV q (an p0 t0)) (bC e0 (aK (aK (bV cc (an t0 (an t0 t0))) (aK (aY 2) (aY 0))) (aK (aY 1) (aY 0)))))) u⟩::⟨50,[0,3],λu=>isTerm (bC p0 (bC p0 (aK (bV q (an p0 t0)) (bC e0 (aK (aK (bV cc (an t0 (an t0 t0))) (aK (aY 2) (aY 0))) (aK (aY 1) (aY 0))))))) u⟩::[]) ((46,[])::(47,[])::(48,[])::(49,[1,2])::(50,[0,3])::[]) [4] rfl rfl mixed (by kernel_rfl) (by kernel_rfl) (by rfl) (λe=>[(50,e 4)]) (λe=>[aB (isTerm (bC p0 (bC p0 (aK (bV q (an p0 t0)) (bC e0 (aK (aK (bV cc (an t0 (an t0 t0))) (aK (aY 2) (aY 0))) (aK (aY 1) (aY 0))))))) (e 4))]) (λ_=>rfl) (λ_=>rfl) ?_ (λe=> ?_)
  ·refine ab.c0 (λc e a=> ?_) ?_
   ·refine St.aK ?_
    refine go ?_;refine St.fact (cU ((aU d)) ((aU d))) (λ_ _ _=>rfl) ?_;exact St.bg _
   refine ab.c0 (λc e a=> ?_) ?_
   ·refine St.aK ?_
    refine go ?_;refine St.fact (cU ((aU d)) ((aU d))) (λ_ _ _=>rfl) ?_;exact St.bg _
   refine ab.c0 (λc e a=> ?_) ?_
   ·refine St.aK ?_
    refine go ?_;refine St.fact (cU ((cN f)) ((cN f))) (λ_ _ _=>rfl) ?_;exact St.bg _
   refine ab.cc (λe=>[(47,e 1),(48,e 2)]) (λe=>[aB (cU (e 1) ((aU d))),aB (cU (e 2) ((cN f)))]) (λc e a=> ?_) ?_
   ·refine St.dQ ?_
    refine St.bX (P:=prog) 47 (e 1) ((aU d)) rfl ?_;refine St.bX (P:=prog) 48 (e 2) ((cN f)) rfl ?_;refine St.ag (eA (aU d) (cN f) p0 (aK (bV q (an p0 t0)) (bC e0 (aK (aK (bV cc (an t0 (an t0 t0))) (aK (aY 2) (aY 0))) (aK (aY 1) (aY 0)))))) mR (.aX rfl rfl) rfl ?_;rintro v49 _ rfl;refine St.ao ?_;exact St.bg _
   refine ab.cc (λe=>[(46,e 0),(49,e 3)]) (λe=>[aB (cU (e 0) ((aU d))),aB (isTerm (bC p0 (aK (bV q (an p0 t0)) (bC e0 (aK (aK (bV cc (an t0 (an t0 t0))) (aK (aY 2) (aY 0))) (aK (aY 1) (aY 0)))))) (e 3))]) (λc e a=> ?_) ?_
   ·refine St.dQ ?_
    refine St.bX (P:=prog) 46 (e 0) ((aU d)) rfl ?_;refine St.ag (eA (aU d) (e 3) p0 (bC p0 (aK (bV q (an p0 t0)) (bC e0 (aK (aK (bV cc (an t0 (an t0 t0))) (aK (aY 2) (aY 0))) (aK (aY 1) (aY 0))))))) mR (.aX rfl rfl) rfl ?_;rintro v50 _ rfl;refine St.ao ?_;exact St.bg _
   exact ab.nil
  refine St.ao ?_;refine St.isTerm (bC p0 (bC p0 (aK (bV q (an p0 t0)) (bC e0 (aK (aK (bV cc (an t0 (an t0 t0))) (aK (aY 2) (aY 0))) (aK (aY 1) (aY 0))))))) (e 4) (λs t=> ?_);obtain⟨w,x,y⟩:=t;rw[w];refine g4 ?_
  have h:(bC p0 (bC p0 (aK (bV q (an p0 t0)) (bC e0 (aK (aK (bV cc (an t0 (an t0 t0))) (aK (aY 2) (aY 0))) (aK (aY 1) (aY 0)))))))=mf q cc no:=by rw[o];rfl
  rw[h];refine St.rV [_] [aB (isTerm (mf q cc no) (cN s))] ?_;rfl
end Go.Proofs.YtblifkgpebebmaaGreatDoor
