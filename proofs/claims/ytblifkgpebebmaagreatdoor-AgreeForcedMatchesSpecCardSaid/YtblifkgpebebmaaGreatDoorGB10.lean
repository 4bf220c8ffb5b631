/-
  Laws of walks through programs, and facts on grammars, trees and queries.
  Conditions: none.
-/
import Derived.Test.YtblifkgpebebmaaGreatDoorGB9
set_option maxHeartbeats 2000000
set_option maxRecDepth 20000
set_option linter.unusedVariables false
set_option linter.unusedSimpArgs false
namespace Go.Proofs.YtblifkgpebebmaaGreatDoor
open Go Go.J Tryz
theorem J7 {nt nf len:Nat}{Q:Qr}(b:qo nt nf Q)(g:nt≤250)(i:nf≤250){words:List bC}(c:1≤len):∀(m frm:Nat) (cs a:Cs),frm+m+len≤Q.n+1→nZ nt nf Q.n len frm cs→gH Q words cs→Ad Q words len m frm cs=some a→nZ nt nf Q.n len (frm+m) a∧gH Q words a
 |0,frm,cs,a,_,h,d,e=>by obtain rfl:=Option.some.inj e;exact⟨h,d⟩
 |m+1,frm,cs,a,hm,h,d,e=>by
  have e2:(if 300<(pJ Q words frm (frm+len) cs).its.length then none else Ad Q words len m (frm+1) (pJ Q words frm (frm+len) cs))=some a:=e
  by_cases f:300<(pJ Q words frm (frm+len) cs).its.length
  ·rw[aC f]at e2;cases e2
  ·rw[aA f]at e2
   have:=J7 b g i c m (frm+1) _ a (by omega) (Fa b c (by omega) h f) (JZ b g i c (by omega) h d) e2
   rw[show frm+(m+1)=frm+1+m by omega];exact this
theorem CN {nt nf:Nat}{Q:Qr}(c:qo nt nf Q)(d:nt≤250)(f:nf≤250){words:List bC}:∀(m len:Nat) (cs a:Cs),1≤len→len+m≤Q.n+1→nZ nt nf Q.n len 0 cs→gH Q words cs→yM Q words m len cs=some a→nZ nt nf Q.n (len+m) 0 a∧gH Q words a
 |0,len,cs,a,_,_,h,b,e=>by obtain rfl:=Option.some.inj e;exact⟨h,b⟩
 |m+1,len,cs,a,i,hm,h,b,e=>by
  have e2:((Ad Q words len (Q.n+1-len) 0 cs).bind λcs=>yM Q words m (len+1) cs)=some a:=e
  obtain⟨g,h1,j⟩:=pN.1 e2;obtain⟨k,a2⟩:=J7 c d f i _ 0 cs g (by omega) h b h1
  have:=CN c d f m (len+1) g a (by omega) (by omega) (JY k) a2 j
  rw[show len+(m+1)=len+1+m by omega];exact this
theorem JX {cs:Cs}{tqo:Nat}:∀(l:List Nat) (a:Nat),kO cs tqo a l→∀k∈l,k<cs.its.length
 |k::l,a,h,q,b=>by
  rcases cK.1 b with rfl|b
  ·exact h.1
  ·exact JX l _ h.2.2 q b
def QV (e:og):Nat:=(e.tqo-e.frm)*4+e.cw
def Qw (e:og):Nat:=8*(e.tqo-e.frm)-7+e.cw
theorem Y2 {cs:Cs}{e:og}(c:∀k,k<cs.its.length→(cs.ed k).frm<(cs.ed k).tqo∧(cs.ed k).cw≤3):∀kids:List Nat,kO cs e.tqo e.frm kids→1≤kids.length→kids.length≤3→e.cw=Zu cs kids→
 (∀k∈kids,QV (cs.ed k)<QV e)∧(kids.map λk=>Qw (cs.ed k)).sum+1≤Qw e
 | [k],h,_,_,a=>by
  obtain⟨h1,g,d⟩:=h
  have d:(cs.ed k).tqo=e.tqo:=d
  have hk:=c k h1
  have a:e.cw=(cs.ed k).cw+1:=a
  unfold QV Qw;refine⟨λq b=> ?_,?_⟩
  ·rw[bP]at b;subst b;omega
  ·simp only[List.map_cons,List.map_nil,List.sum_cons,List.sum_nil];omega
 | [k,l],h,_,_,a=>by
  obtain⟨h1,g,d,j,f⟩:=h
  have f:(cs.ed l).tqo=e.tqo:=f
  have hk:=c k h1
  have n:=c l d
  have a:e.cw=0:=a
  unfold QV Qw;refine⟨λq b=> ?_,?_⟩
  ·simp only[List.mem_cons,List.not_mem_nil,or_false]at b
   rcases b with rfl|rfl<;>omega
  ·simp only[List.map_cons,List.map_nil,List.sum_cons,List.sum_nil];omega
 | [k,l,m],h,_,_,a=>by
  obtain⟨h1,g,d,j,f,o,i⟩:=h
  have i:(cs.ed m).tqo=e.tqo:=i
  have hk:=c k h1
  have n:=c l d
  have hm:=c m f
  have a:e.cw=0:=a
  unfold QV Qw;refine⟨λq b=> ?_,?_⟩
  ·simp only[List.mem_cons,List.not_mem_nil,or_false]at b
   rcases b with rfl|rfl|rfl<;>omega
  ·simp only[List.map_cons,List.map_nil,List.sum_cons,List.sum_nil];omega
 | [],_,h,_,_=>by cases h
 |_::_::_::_::_,_,_,h,_=>by simp only[List.length_cons]at h;omega
theorem zG (its:List lL):(l9 its).Perm (List.range its.length):=ji _ _
theorem DC (its:List lL):(l9 its).length=its.length:=by rw[(zG its).length_eq,jV]
theorem XO {its:List lL}{i:Nat}(h:i∈l9 its):i<its.length:=dt.1 ((zG its).mem_iff.1 h)
theorem Xg {its:List lL}{j:Nat}(h:j<its.length):∃i,i<its.length∧(gn its).getD j gh=⟨(its.getD i gh).ed,(its.getD i gh).cW.map λw=>⟨w.rule,w.lex,w.kids.map (pB (l9 its))⟩,(its.getD i gh).bf⟩:=by
 have a:j<(l9 its).length:=by rw[DC];exact h
 refine⟨(l9 its)[j],XO (iG a),?_⟩;unfold gn
 rw[aw,bQ,bU a];rfl
theorem Jb {its:List lL}{k:Nat}(h:k<its.length):pB (l9 its) k<its.length∧((gn its).getD (pB (l9 its) k) gh).ed=(its.getD k gh).ed:=by
 have hm:k∈l9 its:=(zG its).mem_iff.2 (dt.2 h)
 have a:(l9 its).idxOf k<(l9 its).length:=List.idxOf_lt_length_of_mem hm
 refine⟨by unfold pB;rw[←DC its];exact a,?_⟩;unfold gn pB
 rw[aw,bQ,bU a,List.getElem_idxOf a];rfl
theorem yf {cs:Cs}{k:Nat}(h:k<cs.its.length):cs.its.getD k gh∈cs.its:=by rw[aw,bU h];exact iG h
theorem Ja (its:List lL):(gn its).length=its.length:=by unfold gn;rw[aO,DC]
theorem VA {l:List Int}(h:∀x∈l,0≤x∧x≤1000000):∀x∈l,-1000000≤x∧x≤1000000:=λx hx=>by have:=h x hx;omega
theorem Xh {nt nf len frm:Nat}{Q:Qr}(A:qo nt nf Q){words:List bC}{cs:Cs}(h:nZ nt nf Q.n len frm cs)(B:gH Q words cs)(hk:∀r∈Q.rules,1≤r.kids∧r.kids≤3){R X:List Int}(L:R.length=Q.rules.length)(M:X.length=Q.aN.length)(N:∀x∈R,0≤x∧x≤1000000)(C:∀x∈X,0≤x∧x≤1000000):
 o7 ⟨gn cs.its,R,X⟩:=by
 have U:=A.n
 have V:=A.rn
 have O:=A.xn
 have p:∀k,k<cs.its.length→(cs.ed k).frm<(cs.ed k).tqo∧(cs.ed k).tqo≤Q.n∧(cs.ed k).cw≤3:=λk l=>by
  obtain⟨P,a2,a3,_⟩:=h.ok.gr _ (yf l);exact⟨P,a2,a3⟩
 have m:∀e,e<(⟨gn cs.its,R,X⟩:cr).its.length→∃i,i<cs.its.length∧((⟨gn cs.its,R,X⟩:cr).its.getD e gh).ed=cs.ed i∧rO ⟨gn cs.its,R,X⟩ e=(cs.its.getD i gh).cW.length∧∀w,w<rO ⟨gn cs.its,R,X⟩ e→∃a∈(cs.its.getD i gh).cW,(⟨gn cs.its,R,X⟩:cr).fz e w=⟨a.rule,a.lex,a.kids.map (pB (l9 cs.its))⟩:=λe he=>by
  have he:e<(gn cs.its).length:=he
  rw[Ja]at he;obtain⟨i,b,c⟩:=Xg he;refine⟨i,b,by show((gn cs.its).getD e gh).ed=_;rw[c];rfl,by unfold rO;show((gn cs.its).getD e gh).cW.length=_;rw[c];exact aO _,λw hw=> ?_⟩
  have hw:w<((gn cs.its).getD e gh).cW.length:=hw
  rw[c]at hw
  have I:w<(cs.its.getD i gh).cW.length:=by rwa[show _=(cs.its.getD i gh).cW.length from aO _]at hw
  refine⟨_,iG I,?_⟩;unfold cr.fz
  show((gn cs.its).getD e gh).cW.getD w wy0=_
  rw[c]
  show((cs.its.getD i gh).cW.map _).getD w wy0=_
  rw[aw,bQ,bU I];rfl
 have f:∀e,l6 ⟨gn cs.its,R,X⟩ e=QV (((⟨gn cs.its,R,X⟩:cr).its.getD e gh).ed):=λ_=>rfl
 have y:∀e,Df ⟨gn cs.its,R,X⟩ e=Qw (((⟨gn cs.its,R,X⟩:cr).its.getD e gh).ed):=λ_=>rfl
 have J:∀k,k<cs.its.length→((⟨gn cs.its,R,X⟩:cr).its.getD (pB (l9 cs.its) k) gh).ed=cs.ed k:=λk l=>(Jb l).2
 refine⟨λe w he hw g=> ?_,λe w he hw g=> ?_,λe w he hw=> ?_,VA N,VA C,λe he=> ?_,λe he=> ?_,λe he=> ?_⟩
 ·obtain⟨i,b,d,_,s⟩:=m e he
  obtain⟨a,t,u⟩:=s w hw;rw[u]at g⊢
  have K:=p i b
  rcases B _ (yf b) a t with⟨o,D,S,E,j,c,z,_⟩|⟨j,c,o,_⟩
  ·refine⟨by show a.kids.map _=[];rw[D];rfl,by show a.lex<(X.length:Int);rw[z,M];omega,?_⟩
   rw[y,d];unfold Qw;omega
  ·have g:a.rule<0:=g
   omega
 ·obtain⟨i,b,d,_,s⟩:=m e he
  obtain⟨a,t,u⟩:=s w hw;rw[u]at g⊢
  rcases B _ (yf b) a t with⟨o,_⟩|⟨j,c,o,D,S,E,z,_⟩
  ·have g:¬a.rule<0:=g
   omega
  ·have T:=hk _ (show Q.rules.getD j oP∈Q.rules by rw[aw,bU c];exact iG c)
   have F:=JX _ _ E
   obtain⟨c1,c2⟩:=Y2 (e:=cs.ed i) (λk l=>⟨(p k l).1,(p k l).2.2⟩) a.kids E (by omega) (by omega) z;refine⟨by show a.rule<(R.length:Int);rw[o,L];omega,by show(a.kids.map _).length≤3;rw[aO];omega,λk G=> ?_,?_⟩
   ·obtain⟨q,v,rfl⟩:=dC.1 (show k∈a.kids.map (pB (l9 cs.its))from G)
    refine⟨by show _<(gn cs.its).length;rw[Ja];exact(Jb (F q v)).1,?_⟩;rw[f,f,d,J q (F q v)];exact c1 q v
   ·show((a.kids.map (pB (l9 cs.its))).map (Df ⟨gn cs.its,R,X⟩)).sum+1≤_
    rw[y,d,kH,show a.kids.map (Df ⟨gn cs.its,R,X⟩∘pB (l9 cs.its))=a.kids.map λk=>Qw (cs.ed k)from C1 λq v=>by show Df _ _=_;rw[y,J q (F q v)]];exact c2
 ·obtain⟨i,b,d,_,s⟩:=m e he
  obtain⟨a,t,u⟩:=s w hw;rw[u]
  show-1≤a.rule∧a.rule≤1000∧0≤a.lex∧a.lex≤1000
  rcases B _ (yf b) a t with⟨o,_,_,_,j,c,z,_⟩|⟨j,c,o,D,_⟩<;>omega
 ·obtain⟨i,b,d,_⟩:=m e he
  have K:=p i b
  rw[y,d];unfold Qw;omega
 ·obtain⟨i,b,d,_⟩:=m e he
  have K:=p i b
  rw[f,d];unfold QV;omega
 ·obtain⟨i,b,_,H,_⟩:=m e he
  rw[H]
  have:=h.cW _ (yf b)
  unfold vf at this;omega
theorem WC {mt:Nat→Nat→Option Nat}{n:Nat}{start:e8}{its:List lL}:∀e∈Gw mt n start its,e<its.length:=λe he=>dt.1 (wj.1 he).1
theorem FE (g:fj)(words:List bC):(∀e∈(dS g words).1.2,e<(dS g words).1.1.length)∧(dS g words).1.2.length≤300:=by
 have a:=JN g words
 unfold dS at a⊢
 split
 ·exact⟨λe he=>(by cases he),aP _⟩
 ·rename_i h1
  rw[aA h1]at a
  split
  ·exact⟨λe he=>(by cases he),aP _⟩
  ·rename_i b
   rw[aA b]at a
   cases c:xB g words with
   |none=>exact⟨λe he=>(by cases he),aP _⟩
   |some its=>
    rw[c]at a
    have a:its.length≤300:=a
    refine⟨WC,?_⟩
    show(Gw (hC g.types) words.length g.start its).length≤300
    unfold Gw;exact dW (G9 _ _) (by rw[jV];exact a)
theorem Vh {g:fj}{words:List bC}{n:Int}(h:(jO g).1≠0):lN g words n=([],jO g):=by unfold lN;rw[aC h]
theorem Z1 {g:fj}{words:List bC}{n:Int}(h:¬(jO g).1≠0)(a:n<0∨200<n):lN g words n=([],(3,-3)):=by unfold lN;rw[aA h,aC a]
theorem Vj {g:fj}{words:List bC}{n:Int}(h:¬(jO g).1≠0)(a:¬(n<0∨200<n))(b:(dS g words).2.1≠0):lN g words n=([],(dS g words).2):=by unfold lN;rw[aA h,aA a,aC b]
theorem Vi {g:fj}{words:List bC}{n:Int}(h:¬(jO g).1≠0)(a:¬(n<0∨200<n))(b:¬(dS g words).2.1≠0):lN g words n=(tP (fk (YC g (dS g words).1.1) 60) (dS g words).1.2 n.toNat (List.replicate (dS g words).1.1.length nq) (List.replicate (dS g words).1.2.length 0) [],(0,0)):=by unfold lN;rw[aA h,aA a,aA b]
theorem XF {B:cr}(a:o7 B):jn B (List.replicate B.its.length nq):=by
 refine⟨kG,λe x hx=> ?_⟩
 have he:e<B.its.length:=by have:=(fA.1 hx).1;rwa[kG]at this
 obtain rfl:=wg (aZ hx);refine⟨λk hk=>(by cases hk),λc b=>(by cases b),?_,λ_=>⟨rfl,rfl⟩,aP _⟩
 have:=a.ht e he
 show 0+l6 B e≤262
 omega
theorem JE (m:Nat):(List.replicate m uA).map fm=List.replicate m nq:=by rw[sC];rfl
theorem Fc (g:gW)(wv:Value)(words:List bC):sk prog 25 #[fG g,wv] ([eu g,sl bE wv words,tz,u8].map aB) (λv H'=>∃(pv e:aV),v= .tuple #[pv.1,e.1,fv (dS (bZ g) words).2]∧((dS (bZ g) words).2.1=0→∃(a b:Nat) (rv xv c:aV) (its:List dL),pv.1= .pointer (some ⟨a,0,none⟩)∧its.map cH=(dS (bZ g) words).1.1∧H'=aB (sl aJ e.1 (bW (dS (bZ g) words).1.2))::aB (fM a [rv.1,xv.1,c.1,.slice (some ⟨b,0,none⟩) its.length its.length])::aB (sl aJ rv.1 (g.rules.map ca.weight))::aB (sl aJ xv.1 (g.aN.map eZ.weight))::aB (sl eD c.1 its)::aB (aF cj its)::row (.slice (some ⟨b,0,none⟩) its.length its.length) 194 3 (List.replicate its.length uA).length (rows fL (List.replicate its.length uA))::bF (kK 71 196) (List.replicate its.length uA))):=
 (I0 g wv words).mono λv H' h=>by
  rcases h with⟨d,rfl,rfl⟩|⟨d,a,b,rv,xv,c,f,its,i,rfl,rfl⟩
  ·exact⟨⟨.pointer none,rfl⟩,bT,rfl,λh=>absurd h d⟩
  ·exact⟨⟨.pointer (some ⟨a,0,none⟩),rfl⟩,f,by rw[FG d],λ_=>⟨a,b,rv,xv,c,its,rfl,i,rfl⟩⟩
theorem GU (g:gW)(wv:Value)(words:List bC)(n:Int)(o:(dS (bZ g) words).2.1=0→o7 (YC (bZ g) (dS (bZ g) words).1.1)):sk prog 10 #[fG g,wv,iv n] ([eu g,sl bE wv words,tz,u8].map aB) (λv H'=>∃(b:aV) (outs:List dE),v= .tuple #[b.1,fv (lN (bZ g) words n).2]∧outs.map cx=(lN (bZ g) words n).1∧H'=[aB (sl dB b.1 outs),aB (aF bx outs)]):=by
 refine sk.body (args:=[fG g,wv,iv n]) 45 func10 rfl ntmps10 rfl (λc D=> ?_);refine St.cast (H':=[aB (eu g),aB (sl bE wv words),aB (tz),aB (u8)]) rfl ?_;refine g2 ?_;refine St.dJ (.mk rfl) rfl (λZ=> ?_);refine St.MY (.mk rfl) rfl rfl (λp=> ?_);refine go ?_;refine St.al (λq=> ?_);refine g6 ?_;refine St.slot 13 (fG g) rfl rfl ?_;refine St.ee (Ev.mO D (qL g) Vo (.ar rfl)) ?_;refine St.slot 14 (.agg #[iv (jO (bZ g)).1,iv (jO (bZ g)).2]) rfl rfl ?_;refine St.al (λb8=> ?_);refine g10 ?_;refine St.cq (λE=> ?_) (λE=> ?_)
 ·have a:=Vh (words:=words) (n:=n) (show(jO (bZ g)).1≠0 from E)
  refine go ?_;refine St.pA [q] mixed (λJ K=> ?_);refine SW.gd 0 ?_;refine SW.gd 1 ?_;refine SW.t1 2 ?_;refine g3 ?_;refine SW.go ?_;refine SW.dn ?_;refine g3 ?_;refine St.fp dB ?_;refine St.dN bx ?_;refine St.rV [_,_] [aB (sl dB (.slice none 0 0) []),aB (aF bx [])] ?_;exact⟨bT,[],by rw[a];rfl,by rw[a];rfl,rfl⟩
 ·have r:¬(jO (bZ g)).1≠0:=by omega
  refine g8 ?_;refine St.gf _ rfl rfl (λF=>Ev.ke (.mk rfl) gD trivial (by rfl)) rfl ?_;refine St.gf _ rfl rfl (λF=>Ev.gtr (ah.gv rfl F) (.mk rfl)) rfl ?_;refine g3 ?_;refine St.cq (λM=> ?_) (λM=> ?_)
  ·have a:=Z1 (words:=words) r (show n<0∨200<n from by omega)
   refine g2 ?_;refine St.ee (Ev.build (bH.aX rfl rfl) (λw=>gj rfl rfl w)) ?_;refine g6 ?_;refine St.fp dB ?_;refine St.dN bx ?_;refine St.rV [_,_] [aB (sl dB (.slice none 0 0) []),aB (aF bx [])] ?_;exact⟨bT,[],by rw[a];rfl,by rw[a];rfl,rfl⟩
  ·have G:¬(n<0∨200<n):=by omega
   refine g5 ?_;refine St.slot 27 (fG g) rfl rfl ?_;refine go ?_;refine St.mP D (Fc g wv words) ag6 (.aX rfl rfl) rfl ?_;rintro N H2 ⟨pv,H,rfl,O⟩;refine St.perm jX ?_;refine St.afN ?_;refine g4 ?_;refine St.slot 32 (fv (dS (bZ g) words).2) rfl rfl ?_;refine St.al (λYB=> ?_);refine g13 ?_;refine St.cq (λj=> ?_) (λj=> ?_)
   ·have a:=Vj r G (show(dS (bZ g) words).2.1≠0 from j)
    refine go ?_;refine St.dc (aW q (.cells [iv 0,iv 0].toArray 35 (0,0))::H2) mixed (λJ K=> ?_);refine SW.gd 0 ?_;refine SW.gd 1 ?_;refine SW.t1 2 ?_;refine g3 ?_;refine SW.go ?_;refine SW.dn ?_;refine g3 ?_;refine St.fp dB ?_;refine St.dN bx ?_;refine St.rV [_,_] [aB (sl dB (.slice none 0 0) []),aB (aF bx [])] ?_;exact⟨bT,[],by rw[a];rfl,by rw[a];rfl,rfl⟩
   ·have P:¬(dS (bZ g) words).2.1≠0:=by omega
    have a:=Vi r G P
    have e:=o (by omega)
    obtain⟨s,u,rv,xv,x,its,Q,y,rfl⟩:=O (by omega)
    obtain⟨nn,rfl⟩:∃nn:Nat,n=nn:=⟨n.toNat,by omega⟩
    refine St.FK p ?_;refine St.slot 9 (.pointer (some ⟨s,0,none⟩)) rfl Q ?_
    have A:YC (bZ g) (dS (bZ g) words).1.1=(⟨its.map cH,g.rules.map ca.weight,g.aN.map eZ.weight⟩:cr):=by unfold YC;rw[←y];show(⟨_,(g.rules.map lK).map _,(g.aN.map oe).map _⟩:cr)=_;rw[kH,kH];rfl
    rw[A]at e a;rw[show(List.replicate (dS (bZ g) words).1.1.length nq)=(List.replicate its.length uA).map fm by rw[JE,←y,aO]]at a
    have R:jn (⟨its.map cH,g.rules.map ca.weight,g.aN.map eZ.weight⟩:cr) ((List.replicate its.length uA).map fm):=by rw[JE];have h:=XF e;rwa[show((⟨its.map cH,g.rules.map ca.weight,g.aN.map eZ.weight⟩:cr)).its.length=its.length from aO _]at h
    obtain⟨I,S7⟩:=FE (bZ g) words;rw[←y,aO]at I
    have a:lN (bZ g) words (nn:Nat)=(tP (fk (⟨its.map cH,g.rules.map ca.weight,g.aN.map eZ.weight⟩:cr) 60) (dS (bZ g) words).1.2 nn ((List.replicate its.length uA).map fm) (List.replicate (dS (bZ g) words).1.2.length 0) [],(0,0)):=a
    refine g4 ?_;refine St.al (λm=> ?_);refine g2 ?_;refine St.join (ι:=aV×List dE) (λ⟨b,outs⟩ T=>T) (λ⟨b,outs⟩=>[aW m (.cells [b.1].toArray 44 (0,0)),row b.1 69 3 (outs).length (rows dB (outs)),aB (aF bx outs),aW q (.cells [iv 0,iv 0].toArray 35 (0,0))]) (λ⟨b,outs⟩=>outs.map cx=tP (fk (⟨its.map cH,g.rules.map ca.weight,g.aN.map eZ.weight⟩:cr) 60) (dS (bZ g) words).1.2 nn ((List.replicate its.length uA).map fm) (List.replicate (dS (bZ g) words).1.2.length 0) []∧(∀t∈outs,dB.wf t)) (aD.cons 6 rfl (aD.cons 7 rfl (aD.cons 12 rfl aD.nil))) ?_ ?_
    ·refine g6 ?_
     refine St.cq (λS=> ?_) (λS=> ?_)
     ·have U:0<nn:=by omega
      refine St.dw 69 3 ?_;refine St.aM (.slice none 0 0) (show _=([]:List dE).length from rfl) (show _=rows dB []from rfl) ?_;refine St.dN bx ?_;refine g3 ?_;refine St.ee (Ev.func (.aX rfl rfl)) ?_;refine St.pQ (ds:=[fM s [rv.1,xv.1,x.1,.slice (some ⟨u,0,none⟩) its.length its.length],sl aJ rv.1 (g.rules.map ca.weight),sl aJ xv.1 (g.aN.map eZ.weight),sl eD x.1 its,aF cj its,sl aJ H.1 (bW (dS (bZ g) words).1.2),pe p (iv (nn:Nat))]) (L:=[aW m (.cells [(.slice none 0 0)].toArray 44 (0,0)),row (.slice none 0 0) 69 3 (([]:List dE)).length (rows dB (([]:List dE))),aB (aF bx []),row (.slice (some ⟨u,0,none⟩) its.length its.length) 194 3 (List.replicate its.length uA).length (rows fL (List.replicate its.length uA))]) (X:=bF (kK 71 196) (List.replicate its.length uA)) (post:=λv L' X'=>∃(i:aV) (d:List dE),v= .tuple #[]∧d.map cx=tP (fk (⟨its.map cH,g.rules.map ca.weight,g.aN.map eZ.weight⟩:cr) 60) (dS (bZ g) words).1.2 nn ((List.replicate its.length uA).map fm) (List.replicate (dS (bZ g) words).1.2.length 0) []∧(∀t∈d,dB.wf t)∧L'=[aW m (.cells [i.1].toArray 44 (0,0)),row i.1 69 3 (d).length (rows dB (d)),aB (aF bx d)]∧X'=[]) ((Ka s u its.length its.length rv xv x (g.rules.map ca.weight) (g.aN.map eZ.weight) its e (dS (bZ g) words).1.2 H I (by omega) m p nn U (by omega) (List.replicate its.length uA) R).mono (λv H' ⟨i,d,V,a2,a3,a4⟩=>⟨[_,_,_],[],a4,i,d,V,a2,a3,rfl,rfl⟩)) ag7 (.ek rfl rfl rfl) rfl ?_;rintro v42 _ _ ⟨i,d,rfl,B,W,rfl,rfl⟩;refine St.iQ ?_;refine g2 ?_;refine St.mE ⟨i,d⟩ ⟨B,W⟩
     ·obtain rfl:nn=0:=by omega
      refine St.dw 69 3 ?_;refine St.aM (.slice none 0 0) (show _=([]:List dE).length from rfl) (show _=rows dB []from rfl) ?_;refine St.dN bx ?_;refine g2 ?_;refine St.mE ⟨bT,[]⟩ ⟨rfl,λt ht=>by cases ht⟩
    ·rintro ⟨b,outs⟩ ⟨k,l⟩
     dsimp only at k l⊢
     obtain⟨⟨f,C⟩,Y⟩:∃z,z=b:=⟨b,rfl⟩
     subst Y;refine St.bS f dB outs rfl rfl l ?_;refine g3 ?_;refine St.ee (Ev.build (bH.nil) (λw=>ja w)) ?_;refine g5 ?_;refine St.rV [_,_] [aB (sl dB f outs),aB (aF bx outs)] ?_;exact⟨⟨f,C⟩,outs,by rw[a];rfl,by rw[a];exact k,rfl⟩
theorem XR {g:fj}{words:List bC}(h:(dS g words).2.1=0):o7 (YC g (dS g words).1.1):=by
 have e:=Cx h
 have a:=vE e
 unfold dS at h⊢;rw[aA (λh=>h e)]at h⊢
 by_cases c:(pj g words).1≠0
 ·rw[aC c]at h;exact absurd h c
 ·rw[aA c]at h⊢
  have hw:=vL (show(pj g words).1=0 by omega)
  cases d:xB g words with
  |none=>rw[d]at h;have h:(17:Int)=0:=h;omega
  |some its=>
   unfold xB at d;obtain⟨cs,h1,rfl⟩:=dp.1 d
   have f:qo g.types.length g.cC.length (qrG g words):=⟨hw.2,zD _,a.rn,a.xn,λr b=>⟨(a.rule r b).kids,(a.rule r b).gr,(a.rule r b).len⟩,λx hx=>⟨(a.lex x hx).gr,(a.lex x hx).len⟩⟩
   have j:=a.ty.len
   have k:=a.ft
   obtain⟨i,a2⟩:=CN f (by omega) (by omega) (words:=words) words.length 1 ⟨[],List.replicate (words.length*(words.length+1)) []⟩ cs (aR _) (by show 1+words.length≤words.length+1;omega) ze (λit hit=>by cases hit) h1;exact Xh f i a2 (λr b=>(a.rule r b).kids) (aO _) (aO _) (λx hx=>by obtain⟨r,b,rfl⟩:=dC.1 hx;exact(a.rule r b).wt) (λx hx=>by obtain⟨r,b,rfl⟩:=dC.1 hx;exact(a.lex r b).wt)
theorem KQ (g:gW)(wv:Value)(words:List bC)(n:Int):sk prog 10 #[fG g,wv,iv n] ([eu g,sl bE wv words,tz,u8].map aB) (λv H'=>∃(a:aV) (outs:List dE),v= .tuple #[a.1,fv (lN (bZ g) words n).2]∧outs.map cx=(lN (bZ g) words n).1∧H'=[aB (sl dB a.1 outs),aB (aF bx outs)]):=GU g wv words n λh=>XR h
def fV:List (List bC)→List (List bC)
 | []=>[[]]
 |s::ss=>s.flatMap λw=>(fV ss).map λc=>w::c
theorem sP:∀{ss:List (List bC)} {c:List bC},c∈fV ss→c.length=ss.length
 | [],c,h=>by rw[fV,bP]at h;subst h;rfl
 |s::ss,c,h=>by
  rw[fV,List.mem_flatMap]at h;obtain⟨w,_,h⟩:=h;obtain⟨d,hd,rfl⟩:=dC.1 h;rw[fU,sP hd,fU]
def rL (p:Nat→bC→Bool):Nat→List (List bC)→List (List bC)
 |_,[]=>[]
 |i,s::ss=>s.filter (p i)::rL p (i+1) ss
theorem qK (p:Nat→bC→Bool):∀(i:Nat) (ss:List (List bC)),(rL p i ss).length=ss.length
 |_,[]=>rfl
 |i,s::ss=>by rw[rL,fU,qK p (i+1) ss,fU]
def mh (i:Nat):List bC→List bC→Int×Int
 |_,[]=>(0,0)
 |p,w::l=>if isWord w=false then(10,i)else if w∈p then(7,i)else mh i (p++ [w]) l
def je:Nat→List (List bC)→Int×Int
 |_,[]=>(0,0)
 |i,l::s=>if l.length=0∨5<l.length then(9,i)else if(mh i [] l).1≠0 then mh i [] l else je (i+1) s
def kS (s:List (List bC)):Nat:=s.foldl (λn l=>n*l.length) 1
def kL (g:fj)(s:List (List bC)):Int×Int:=
 if(jO g).1≠0 then jO g else if s.length=0∨12<s.length then(9,-2)else if(je 0 s).1≠0 then je 0 s else if 60<kS s then(17,0)else(0,0)
def nk (g:fj)(c:List bC):Bool:=decide ((dS g c).2.1=17)
def pg (g:fj)(c:List bC):Bool:=decide ((dS g c).2.1=0)&&decide (0<(dS g c).1.2.length)
def dy (g:fj)(s:List (List bC)):List (List bC)×(Int×Int):=if(fV s).any (nk g)then([],(17,-2))else((fV s).filter (pg g),(0,0))
def dX (g:fj)(s:List (List bC)):List (List bC)×(Int×Int):=if(kL g s).1≠0 then([],kL g s)else dy g s
def fR (l:List (List bC))(i:Nat)(w:bC):Bool:=l.any λc=>c.getD i []==w
def rM (g:fj)(s:List (List bC)):List (List bC)×(Int×Int):=
 if(kL g s).1≠0 then([],kL g s)else if(dy g s).2.1≠0 then([],(dy g s).2)else(rL (fR (dy g s).1) 0 s,(0,0))
structure M6 (l:List bC):Prop where
 pos:0<l.length
 xV:l.length≤5
 word:∀w∈l,isWord w=true
 nodup:l.Nodup
theorem DN (i:Nat):∀(l p:List bC),(mh i p l).1=0↔(∀w∈l,isWord w=true∧w∉p)∧l.Nodup
 | [],p=>⟨λ_=>⟨λ_ h=>(by cases h),List.nodup_nil⟩,λ_=>rfl⟩
 |w::l,p=>by
  rw[mh]
  by_cases h1:isWord w=false
  ·rw[aC h1]
   exact⟨λh=>absurd h (by simp),λh=>absurd (h.1 w (by simp)).1 (by rw[h1];decide)⟩
  rw[aA h1]
  by_cases d:w∈p
  ·rw[aC d]
   exact⟨λh=>absurd h (by simp),λh=>absurd d (h.1 w (by simp)).2⟩
  rw[aA d,DN i l (p++ [w]),List.nodup_cons]
  constructor
  ·rintro ⟨a,b⟩
   refine⟨λx hx=> ?_,λhw=>(a w hw).2 (by simp),b⟩
   rcases cK.1 hx with rfl|hx
   ·exact⟨by simpa using h1,d⟩
   ·exact⟨(a x hx).1,λhp=>(a x hx).2 (by simp[hp])⟩
  ·rintro ⟨a,b,c⟩
   refine⟨λx hx=>⟨(a x (by simp[hx])).1,λhp=> ?_⟩,c⟩
   rcases cG.1 hp with hp|hp
   ·exact(a x (by simp[hx])).2 hp
   ·rw[bP.1 hp]at hx;exact b hx
theorem zZ:∀(s:List (List bC)) (i:Nat),(je i s).1=0↔∀l∈s,M6 l
 | [],_=>⟨λ_ _ h=>(by cases h),λ_=>rfl⟩
 |l::s,i=>by
  rw[je]
  by_cases h1:l.length=0∨5<l.length
  ·rw[aC h1]
   exact⟨λh=>absurd h (by simp),λh=>by have:=h l (by simp);have:=this.pos;have:=(h l (by simp)).xV;omega⟩
  rw[aA h1]
  by_cases a:(mh i [] l).1≠0
  ·rw[aC a]
   refine⟨λh=>absurd h a,λh=>absurd ((DN i l []).2 ⟨λw hw=>⟨(h l (by simp)).word w hw,by simp⟩,(h l (by simp)).nodup⟩) a⟩
  rw[aA a,zZ s (i+1)]
  have b:=(DN i l []).1 (iY.1 a)
  constructor
  ·intro h x hx
   rcases cK.1 hx with rfl|hx
   ·exact⟨by omega,by omega,λw hw=>(b.1 w hw).1,b.2⟩
   ·exact h x hx
  ·exact λh x hx=>h x (by simp[hx])
structure Di (g:fj)(s:List (List bC)):Prop where
 grm:(jO g).1=0
 pos:0<s.length
 xV:s.length≤12
 aL:∀l∈s,M6 l
 prod:kS s≤60
theorem Cf {g:fj}{s:List (List bC)}:(kL g s).1=0↔Di g s:=by
 unfold kL
 by_cases h1:(jO g).1≠0
 ·rw[aC h1];exact⟨λh=>absurd h h1,λh=>absurd h.grm h1⟩
 rw[aA h1]
 by_cases b:s.length=0∨12<s.length
 ·rw[aC b];exact⟨λh=>absurd h (by simp),λh=>by have:=h.pos;have:=h.xV;omega⟩
 rw[aA b]
 by_cases a:(je 0 s).1≠0
 ·rw[aC a];exact⟨λh=>absurd h a,λh=>absurd ((zZ s 0).2 h.aL) a⟩
 rw[aA a]
 by_cases c:60<kS s
 ·rw[aC c];exact⟨λh=>absurd h (by simp),λh=>by have:=h.prod;omega⟩
 rw[aA c];exact⟨λ_=>⟨iY.1 h1,by omega,by omega,(zZ s 0).1 (iY.1 a),by omega⟩,λ_=>rfl⟩
theorem W7 {g:fj}{s:List (List bC)}:(dy g s).2.1=0↔∀c∈fV s,nk g c=false:=by
 unfold dy
 by_cases h:(fV s).any (nk g)=true
 ·rw[aC h]
  refine⟨λh=>absurd h (by simp),λk=> ?_⟩;obtain⟨c,b,a⟩:=pY.1 h
  rw[k c b]at a;cases a
 ·rw[aA h]
  refine⟨λ_ c b=> ?_,λ_=>rfl⟩
  cases a:nk g c with
  |false=>rfl
  |true=>exact absurd (pY.2 ⟨c,b,a⟩) h
theorem It {g:fj}{s:List (List bC)}(h:∀c∈fV s,nk g c=false):dy g s=((fV s).filter (pg g),(0,0)):=by
 unfold dy;rw[aA];intro k;obtain⟨c,b,a⟩:=pY.1 k
 rw[h c b]at a;cases a
theorem Rj {g:fj}{s:List (List bC)}(h:(dX g s).2.1=0):Di g s∧(∀c∈fV s,nk g c=false)∧dX g s=((fV s).filter (pg g),(0,0)):=by
 unfold dX at h⊢
 by_cases h1:(kL g s).1≠0
 ·rw[aC h1]at h;exact absurd h h1
 rw[aA h1]at h⊢
 have a:=W7.1 h
 exact⟨Cf.1 (iY.1 h1),a,It a⟩
theorem ZJ:aI prog 105:=⟨_,func105,rfl,by kernel_rfl⟩
theorem KY:aI prog 66:=⟨_,func66,rfl,by kernel_rfl⟩
theorem xM:(prog.info? 33).map (·.size)=some 1:=by kernel_rfl
instance:type_of%(pc.mk xM):=⟨xM⟩
theorem ahI:aI prog 68:=⟨_,func68,rfl,by kernel_rfl⟩
theorem VF:(prog.info? 183).bind (·.zero)=some (Value.agg #[.int .i64 0,.int .i64 0,.int .i64 0,.slice none 0 0]):=by kernel_rfl
theorem Z7:(prog.info? 183).map (·.bytes)=some 48:=by kernel_rfl
theorem ahL:aI prog 71:=⟨_,func71,rfl,by kernel_rfl⟩
theorem QN:(prog.info? 33).bind (·.zero)=some (Value.slice none 0 0):=by kernel_rfl
theorem ZC:(prog.info? 33).map (·.bytes)=some 24:=by kernel_rfl
theorem alV:(prog.info? 49).map (·.size)=some 1:=by kernel_rfl
theorem ahK:aI prog 70:=⟨_,func70,rfl,by kernel_rfl⟩
theorem by9:(prog.info? 9).map (·.bytes)=some 16:=by kernel_rfl
theorem ahJ:aI prog 69:=⟨_,func69,rfl,by kernel_rfl⟩
instance:rH prog 49 #[.slice none 0 0]:=⟨by kernel_rfl⟩
theorem Vq:aI prog 33:=⟨_,func33,rfl,by kernel_rfl⟩
theorem Vp:aI prog 32:=⟨_,func32,rfl,by kernel_rfl⟩
theorem Zq:aI prog 65:=⟨_,func65,rfl,by kernel_rfl⟩
theorem ahM:aI prog 72:=⟨_,func72,rfl,by kernel_rfl⟩
theorem ahB:aI prog 36:=⟨_,func36,rfl,by kernel_rfl⟩
instance:rH prog 9 #[.string ⟨#[]⟩]:=⟨by kernel_rfl⟩
theorem ahA:aI prog 35:=⟨_,func35,rfl,by kernel_rfl⟩
theorem ag3:aI prog 10:=⟨_,func10,rfl,by kernel_rfl⟩
theorem Tt:(prog.info? 77).bind (λi=>i.zero.map Value.cells)=some #[.slice none 0 0,.int .i64 0]:=by kernel_rfl
instance:type_of%(rH.mk Tt):=⟨Tt⟩
theorem aeT (w:World):cu prog 77 w= .ok #[(0,1),(1,1)] w:=by kernel_rfl
instance:pc prog 77 2:=⟨by kernel_rfl⟩
theorem NB:bh prog 77 1=some 1:=by kernel_rfl
theorem ZP:aI prog 13:=⟨_,func13,rfl,by kernel_rfl⟩
theorem ag9:aI prog 31:=⟨_,func31,rfl,by kernel_rfl⟩
theorem Zm:aI prog 30:=⟨_,func30,rfl,by kernel_rfl⟩
theorem Vn:aI prog 16:=⟨_,func16,rfl,by kernel_rfl⟩
theorem WA:bh prog 77 0=some 0:=by kernel_rfl
theorem ag5:aI prog 15:=⟨_,func15,rfl,by kernel_rfl⟩
theorem ag4:aI prog 12:=⟨_,func12,rfl,by kernel_rfl⟩
theorem MW (w:World):(Instr.build 77 #[]).run prog w= .ok (.agg #[.slice none 0 0,.int .i64 0]) w:=
 bM Tt (aeT w) (by simp[Instr.fill,J.bK])
theorem KS {a b:Value}(c:a.oneCell'=true)(h1:b.oneCell'=true)(w:World):(Instr.build 77 #[(0,a),(1,b)]).run prog w= .ok (.agg #[a,b]) w:=
 bM Tt (aeT w) (by simp[Instr.fill,J.bK,J.cells_one c,J.cells_one h1])
theorem Zw (a0 b:Int)(c d:Int)(w:World):(Op.equalIn 10000 35 (.agg #[.int .i64 a0,.int .i64 c]) (.agg #[.int .i64 b,.int .i64 d])).run prog w= .ok ((a0==b)&&((c==d)&&true)) w:=by
 have e:prog.underlying 35=some (.struct (prog.fieldsOf 35)):=by simp only[Program.fieldsOf,Fz]
 have a:∀(xs:Array Value) (k:Nat) (v:Value) w,xs[k]?=some v→(part 3 xs k).run prog w= .ok v w:=λxs k v w f=>Ey (by rw[gD]) f
 rw[run_equalIn_struct w 9999 35 _ _ e Tryz.stoodInHeld35]
 simp only[Program.fieldsOf,Fz]
 refine EJ rfl (λw=>a _ _ _ w rfl) (λw=>a _ _ _ w rfl) (λw=>run_equalIn_int w 9998 3 _ _ _ _ gD) (λw=> ?_) w;refine EJ rfl (λw=>a _ _ _ w rfl) (λw=>a _ _ _ w rfl) (λw=>run_equalIn_int w 9998 3 _ _ _ _ gD) (λw=> ?_) w;exact Rf _ _ _ _ _
theorem LV {i k:Nat}{p l:List bC}{w:bC}(h:l[k]?=some w):mh i p (l.drop k)=if isWord w=false then(10,(i:Int))else if w∈p then(7,(i:Int))else mh i (p++ [w]) (l.drop (k+1)):=by rw[bO h,mh]
theorem PI {i k:Nat}{p l:List bC}(h:l.length≤k):mh i p (l.drop k)=(0,0):=by rw[j6 h,mh]
theorem Ht {i:Nat}{s:List (List bC)}{l:List bC}(h:s[i]?=some l):je i (s.drop i)=if l.length=0∨5<l.length then(9,(i:Int))else if(mh i [] l).1≠0 then mh i [] l else je (i+1) (s.drop (i+1)):=by rw[bO h,je]
theorem LW {i:Nat}{s:List (List bC)}(h:s.length≤i):je i (s.drop i)=(0,0):=by rw[j6 h,je]
theorem BU {s:List (List bC)}{i:Nat}{l:List bC}(h:s[i]?=some l):kS (s.take (i+1))=kS (s.take i)*l.length:=by
 unfold kS
 rw[wo,h,wh];rfl
theorem vU {s:List (List bC)}(a:∀l∈s,l.length≤5):∀i,kS (s.take i)≤5^i
 |0=>aR _
 |i+1=>by
  cases h:s[i]? with
  |none=>
   have c:s.length≤i:=by rwa[List.getElem?_eq_none_iff]at h
   have b:=vU a i
   rw[fZ c]at b;rw[fZ (by omega)];exact dW b (si (by decide) (by omega))
  |some l=>
   rw[BU h,Nat.pow_succ];exact Nat.mul_le_mul (vU a i) (a l (aZ h))
theorem Dn (v0:Value)(xs:List bC)(y:bC):eE prog 105 #[v0,sv y] [sl bE v0 xs] (iv (ix (λx=>decide (y=x)) xs)):=by
 refine eE.nH (args:=[v0,sv y]) 19 func105 rfl ntmps105 rfl (λc=> ?_);refine go ?_;refine St.wf v0 (λf hlen=> ?_);refine g13 ?_;refine St.lS (ι:=Nat) (λk T=>(8,iv k)::T) (λk=>k≤xs.length∧(xs.take k).all (λx=> !decide (y=x))=true) (λk=>xs.length-k) 0 (aD.cons 0 rfl (aD.cons 1 rfl (aD.cons 7 rfl aD.nil))) ⟨aP _,rfl⟩ ?_;intro k d;obtain⟨hk,a⟩:=d;refine g6 ?_;refine St.cq (λe=> ?_) (λe=> ?_)
 ·obtain⟨x,hx⟩:=aE (show k<xs.length by omega)
  refine g20 ?_;refine St.cq (λb=> ?_) (λb=> ?_)
  ·refine g12 ?_
   refine St.rV [_] [] ?_;exact ie (tj a hx (by simpa using b)).symm
  ·refine g8 ?_
   refine St.aS (k+1) ⟨by omega,kr a hx (by simpa using b)⟩
 ·refine g11 ?_
  refine St.rV [_] [] ?_;exact ie (xi a (by omega)).symm
theorem y9 (v0:Value)(xs:List bC)(y:bC):eE prog 68 #[v0,sv y] [sl bE v0 xs] (.bool (xs.any (λx=>decide (y=x)))):=by
 refine eE.nH (args:=[v0,sv y]) 9 func68 rfl ntmps68 rfl (λc=> ?_);refine g9 ?_;refine St.ee (Ev.call (Dn v0 xs y) ZJ (.aX rfl rfl)) ?_;refine g5 ?_;refine St.rV [_] [] ?_;exact be (qw _ _)
theorem iH (a b:Int):eE prog 66 #[iv a,iv b] [] (fv (a,b)):=by
 refine eE.qD (args:=[iv a,iv b]) 8 func66 rfl ntmps66 rfl (λc=> ?_);refine g2 ?_;refine St.al (λd=> ?_);refine g6 ?_;refine St.ee (Ev.build (bH.aX rfl rfl) (λw=>gj rfl rfl w)) ?_;refine g4 ?_;refine St.rV [_] [] ?_;rfl
theorem Od {s:List (List bC)}{i:Nat}(h:∀l∈s.take i,l.length≤5)(a:i≤12):kS (s.take i)≤244140625:=by
 have:=vU (s:=s.take i) h i
 rw[List.take_take,Nat.min_self]at this;exact dW this (si (by decide) a)
theorem IU {l:List bC}{w:bC}:l.any (λx=>decide (w=x))=true↔w∈l:=by
 rw[pY];exact⟨λ⟨x,hx,h⟩=>by rw[fJ h];exact hx,λh=>⟨w,h,eB rfl⟩⟩
theorem sO (g:gW)(wv:Value)(aL:List (List bC)):kX prog 32 #[fG g,wv] [eu g,oI bE wv aL,tz,u8] (fv (kL (bZ g) aL)):=by
 refine kX.body (args:=[fG g,wv]) (ds:=[eu g,oI bE wv aL,tz,u8]) 72 func32 rfl ntmps32 rfl (λc A=> ?_);refine St.cast (H':=[aB (eu g),aB (oI bE wv aL),aB (tz),aB (u8)]) rfl ?_;refine go ?_;refine St.nu wv (λvs E=> ?_);refine St.FJ vs E (λo=> ?_);refine go ?_;refine St.dJ (.mk rfl) rfl (λI=> ?_);refine St.al (λJ=> ?_);refine g6 ?_;refine St.slot 11 (fG g) rfl rfl ?_;refine St.ee (Ev.mO A (qL g) Vo (.ar rfl)) ?_;refine St.slot 12 (.agg #[iv (jO (bZ g)).1,iv (jO (bZ g)).2]) rfl rfl ?_;refine St.al (λK=> ?_);refine g10 ?_;refine St.cq (λB=> ?_) (λB=> ?_)
 ·have hk:(kL (bZ g) aL)=jO (bZ g):=by unfold kL;rw[aC B]
  refine g8 ?_;refine St.rV [_] [] ?_
  rw[hk];rfl
 ·have hk:(kL (bZ g) aL)=if aL.length=0∨12<aL.length then(9,-2)else if(je 0 aL).1≠0 then je 0 aL else if 60<kS aL then(17,0)else(0,0):=by unfold kL;rw[aA (λh=>h (by omega))]
  refine g9 ?_;refine St.gf _ rfl rfl (λa=>Ev.move (.mk rfl)) rfl ?_;refine St.gf _ rfl rfl (λa=>Ev.fc (ah.gv rfl a) px) rfl ?_;refine St.gf _ rfl rfl (λa=>Ev.gtr (ah.gv rfl a) (.mk rfl)) rfl ?_;refine g3 ?_;refine St.cq (λF=> ?_) (λF=> ?_)
  ·rw[aC (by omega)]at hk
   refine g2 ?_;refine St.ee (Ev.call (iH 9 (-2)) KY (.aX rfl rfl)) ?_;refine g5 ?_;refine St.rV [_] [] ?_
   rw[hk];rfl
  ·rw[aA (by omega)]at hk
   have G:aL.length≤12:=by omega
   refine g16 ?_;refine St.lS (ι:=Nat) (λi T=>(28,iv i)::(6,iv (kS (aL.take i):Nat))::T) (λi=>i≤aL.length∧je 0 aL=je i (aL.drop i)∧(∀l∈aL.take i,l.length≤5)) (λi=>aL.length-i) 0 (aD.cons 4 rfl (aD.cons 26 rfl (aD.cons 27 rfl aD.nil))) ⟨aP _,rfl,λl d=>by rw[A9]at d;cases d⟩ ?_;rintro i ⟨L,j,C⟩
   have D:=Od C (by omega)
   refine g6 ?_;refine St.cq (λq=> ?_) (λq=> ?_)
   ·obtain⟨l,d⟩:=aE (show i<aL.length by omega)
    obtain⟨u,hu⟩:=aE (show i<vs.length by omega);refine St.j8 (vs:=vs) i hu d ?_
    have b:=Ht d
    have r:=o l (aZ d)
    have s:=BU d
    refine St.wf u.1 (λ_ M=> ?_);refine g20 ?_;refine St.gf _ rfl rfl (λa=>Ev.move (.mk rfl)) rfl ?_;refine St.gf _ rfl rfl (λa=>Ev.fc (ah.gv rfl a) lE) rfl ?_;refine St.gf _ rfl rfl (λa=>Ev.gtr (ah.gv rfl a) (.mk rfl)) rfl ?_;refine g3 ?_;refine St.cq (λH=> ?_) (λH=> ?_)
    ·rw[aC (by omega)]at b
     rw[j.trans b,aC (show(9:Int)≠0 by decide)]at hk;refine g3 ?_;refine St.ee (Ev.call (iH 9 (i:Int)) KY (.aX rfl rfl)) ?_;refine g10 ?_;refine St.rV [_] [] ?_
     rw[hk];rfl
    ·rw[aA (by omega)]at b
     have t:l.length≤5:=by omega
     refine g11 ?_;refine St.lS (ι:=Nat) (λk T=>(45,iv k)::T) (λk=>k≤l.length∧mh i [] l=mh i (l.take k) (l.drop k)) (λk=>l.length-k) 0 (aD.cons 4 rfl (aD.cons 6 rfl (aD.cons 7 rfl (aD.cons 8 rfl (aD.cons 26 rfl (aD.cons 27 rfl (aD.cons 28 rfl (aD.cons 43 rfl (aD.cons 44 rfl aD.nil))))))))) ⟨aP _,rfl⟩ ?_;rintro k ⟨N,m⟩;refine g6 ?_;refine St.cq (λv=> ?_) (λv=> ?_)
     ·obtain⟨w,hw⟩:=aE (show k<l.length by omega)
      have O:w.length≤140737488351232:=r w (aZ hw)
      have f:=LV (i:=i) (p:=l.take k) hw
      refine g17 ?_;refine St.ee (Ev.mO A (ug w (by omega)) Vu (.ar rfl)) ?_;refine g3 ?_;refine St.cond _ rfl (λy=> ?_) (λy=> ?_)
      ·skip
       rw[aC (show isWord w=false by simpa using y)]at f;rw[m.trans f,aC (show(10:Int)≠0 by decide)]at b;rw[j.trans b,aC (show(10:Int)≠0 by decide)]at hk;refine g3 ?_;refine St.ee (Ev.call (iH 10 (i:Int)) KY (.aX rfl rfl)) ?_;refine g15 ?_;refine St.rV [_] [] ?_
       rw[hk];rfl
      ·skip
       rw[aA (show ¬isWord w=false by simpa using y)]at f;refine g3 ?_;refine St.part u.1 0 k (aP _) (by omega) ?_;rw[show bE.size=1 from rfl,show(l.drop 0).take (k-0)=l.take k by rw[List.drop_zero,Nat.sub_zero]];refine g3 ?_;refine St.ee (Ev.LU (h:=k) (.mk rfl) (.mk rfl) lE Fj (by omega) (by omega)) ?_;refine go ?_;refine St.ee (Ev.call (y9 (pH u.1 1 0 k) (l.take k) w) ahI (.aX rfl rfl)) ?_;refine g2 ?_;refine St.cond _ rfl (λn=> ?_) (λn=> ?_)
       ·skip
        rw[aC (IU.1 n)]at f;rw[m.trans f,aC (show(7:Int)≠0 by decide)]at b;rw[j.trans b,aC (show(7:Int)≠0 by decide)]at hk;refine g3 ?_;refine St.ee (Ev.call (iH 7 (i:Int)) KY (.aX rfl rfl)) ?_;refine g14 ?_;refine St.rV [_] [] ?_
        rw[hk];rfl
       ·skip
        rw[aA (λh=>by rw[IU.2 h]at n;cases n)]at f;refine g8 ?_;refine St.aS (k+1) ⟨by omega,by rw[m,f,wo,hw];rfl⟩
     ·obtain rfl:k=l.length:=by omega
      rw[PI (aR _)]at m;rw[m,aA (by decide)]at b;refine g9 ?_;refine St.ee (Ev.mul (.mk rfl) (.mk rfl) (by have P:kS (aL.take i)*l.length≤244140625*5:=Nat.mul_le_mul D t;have e:((kS (aL.take i):Nat):Int)*((l.length:Nat):Int)=((kS (aL.take i)*l.length:Nat):Int):=(Int.natCast_mul _ _).symm;omega)) ?_;refine St.slot 66 (iv (kS (aL.take (i+1)):Nat)) rfl (congrArg iv (by rw[s];exact(Int.natCast_mul _ _).symm)) ?_;refine g9 ?_;refine St.aS (i+1) ⟨by omega,j.trans b,λx hx=>by rw[wo,d]at hx;rcases cG.1 hx with hx|hx;exact C x hx;rw[bP.1 hx];omega⟩
   ·obtain rfl:i=aL.length:=by omega
    rw[LW (aR _)]at j;rw[j,aA (by decide)]at hk;rw[jY]at D⊢;refine g12 ?_;refine St.cq (λz=> ?_) (λz=> ?_)
    ·rw[aC (by omega)]at hk
     refine g2 ?_;refine St.ee (Ev.call (iH 17 0) KY (.aX rfl rfl)) ?_;refine g5 ?_;refine St.rV [_] [] ?_
     rw[hk];rfl
    ·rw[aA (by omega)]at hk
     refine g4 ?_;refine St.ee (Ev.build (bH.nil) (λw=>ja w)) ?_;refine g4 ?_;refine St.rV [_] [] ?_
     rw[hk];rfl
def fS:List (List bC)→List Nat→List bC
 |s::ss,a::az=>s.getD a []::fS ss az
 |_,_=>[]
def pT:List (List bC)→List Nat→List (List bC)
 |s::ss,a::az=>((pT ss az).map λc=>s.getD a []::c)++(s.drop (a+1)).flatMap λw=>(fV ss).map λc=>w::c
 |_,_=>[[]]
def rP:List (List bC)→List Nat→Option (List Nat)
 |s::ss,a::az=>match rP ss az with
  |some bs=>some (a::bs)
  |none=>if a+1<s.length then some ((a+1)::List.replicate ss.length 0)else none
 |_,_=>none
def sy:List (List bC)→List Nat→Prop
 | [],[]=>True
 |s::ss,a::az=>a<s.length∧sy ss az
 |_,_=>False
theorem sy.len:∀{ss:List (List bC)} {az:List Nat},sy ss az→az.length=ss.length
 | [],[],_=>rfl
 |s::ss,a::az,h=>by rw[fU,fU,h.2.len]
 | [],_::_,h=>h.elim
 |_::_,[],h=>h.elim
theorem sy.at:∀{ss:List (List bC)} {az:List Nat},sy ss az→∀{i a:Nat} {s:List bC},az[i]?=some a→ss[i]?=some s→a<s.length
 | [],[],_,i,a,s,h,_=>by simp at h
 |s::ss,a::az,h,0,b,t,h1,c=>by
  obtain rfl:=Option.some.inj h1;obtain rfl:=Option.some.inj c;exact h.1
 |s::ss,a::az,h,i+1,b,t,h1,c=>h.2.at (i:=i) h1 c
 | [],_::_,h,_,_,_,_,_=>h.elim
 |_::_,[],h,_,_,_,_,_=>h.elim
theorem vS:∀{ss:List (List bC)},(∀s∈ss,0<s.length)→sy ss (List.replicate ss.length 0)
 | [],_=>trivial
 |s::ss,h=>⟨h s (by simp),vS λt ht=>h t (by simp[ht])⟩
theorem vX:∀{ss:List (List bC)},(∀s∈ss,0<s.length)→pT ss (List.replicate ss.length 0)=fV ss
 | [],_=>rfl
 |s::ss,h=>by
  have a:=h s (by simp)
  show((pT ss (List.replicate ss.length 0)).map λc=>s.getD 0 []::c)++(s.drop 1).flatMap (λw=>(fV ss).map λc=>w::c)=s.flatMap λw=>(fV ss).map λc=>w::c
  rw[vX λt ht=>h t (by simp[ht])]
  cases s with
  |nil=>simp at a
  |cons w s=>rfl
theorem r4:∀{ss:List (List bC)} {az:List Nat},(∀s∈ss,0<s.length)→sy ss az→pT ss az=fS ss az::match rP ss az with|none=>[]|some bs=>pT ss bs
 | [],[],_,_=>rfl
 |s::ss,a::az,hp,h=>by
  have b:∀t∈ss,0<t.length:=λt ht=>hp t (by simp[ht])
  have d:=r4 b h.2
  show((pT ss az).map λc=>s.getD a []::c)++(s.drop (a+1)).flatMap (λw=>(fV ss).map λc=>w::c)=(s.getD a []::fS ss az)::match(match rP ss az with|some bs=>some (a::bs)|none=>if a+1<s.length then some ((a+1)::List.replicate ss.length 0)else none)with|none=>[]|some bs=>pT (s::ss) bs
  rw[d]
  cases e:rP ss az with
  |some bs=>rfl
  |none=>
   dsimp only
   by_cases h1:a+1<s.length
   ·rw[aC h1]
    dsimp only
    show _=_::(((pT ss (List.replicate ss.length 0)).map λc=>s.getD (a+1) []::c)++(s.drop (a+1+1)).flatMap (λw=>(fV ss).map λc=>w::c))
    rw[vX b,fK,lh,List.drop_eq_getElem_cons h1,kF,aw (l:=s) (i:=a+1),bU h1];rfl
   ·rw[aA h1,j6 (by omega)]
    rfl
 | [],_::_,_,h=>h.elim
 |_::_,[],_,h=>h.elim
theorem OO:∀{ss:List (List bC)} {az bs:List Nat},(∀s∈ss,0<s.length)→sy ss az→rP ss az=some bs→sy ss bs
 | [],[],bs,_,_,e=>by cases e
 |s::ss,a::az,bs,hp,h,e=>by
  have c:∀t∈ss,0<t.length:=λt ht=>hp t (by simp[ht])
  have e:(match rP ss az with|some bs=>some (a::bs)|none=>if a+1<s.length then some ((a+1)::List.replicate ss.length 0)else none)=some bs:=e
  cases b:rP ss az with
  |some cs=>
   rw[b]at e;obtain rfl:=Option.some.inj e;exact⟨h.1,OO c h.2 b⟩
  |none=>
   rw[b]at e
   by_cases h1:a+1<s.length
   ·dsimp only at e
    rw[aC h1]at e;obtain rfl:=Option.some.inj e;exact⟨h1,vS c⟩
   ·dsimp only at e
    rw[aA h1]at e;cases e
 | [],_::_,_,_,h,_=>h.elim
 |_::_,[],_,_,h,_=>h.elim
def Az (ss:List (List bC))(az:List Nat)(m:Nat):Prop:=∀j a s,m≤j→az[j]?=some a→ss[j]?=some s→a+1=s.length
theorem zF:∀{ss:List (List bC)} {az:List Nat},sy ss az→Az ss az 0→rP ss az=none
 | [],[],_,_=>rfl
 |s::ss,a::az,h,c=>by
  have h1:rP ss az=none:=zF h.2 λj b t e d e2=>c (j+1) b t (by omega) d e2
  have f:=c 0 a s (aR _) rfl rfl
  show(match rP ss az with|some bs=>some (a::bs)|none=>if a+1<s.length then some ((a+1)::List.replicate ss.length 0)else none)=none
  rw[h1]
  dsimp only
  rw[aA (by omega)]
 | [],_::_,h,_=>h.elim
 |_::_,[],h,_=>h.elim
theorem OM:∀{ss:List (List bC)} {az:List Nat} {i a:Nat} {s:List bC},sy ss az→az[i]?=some a→ss[i]?=some s→Az ss az (i+1)→a+1<s.length→rP ss az=some (az.take i++(a+1)::List.replicate (ss.length-(i+1)) 0)
 | [],[],_,_,_,_,e,_,_,_=>by simp at e
 |s::ss,a::az,0,b,t,h,c,e2,d,f=>by
  obtain rfl:=Option.some.inj c;obtain rfl:=Option.some.inj e2
  have h1:rP ss az=none:=zF h.2 λj b t g c e2=>d (j+1) b t (by omega) c e2
  show(match rP ss az with|some bs=>some (a::bs)|none=>if a+1<s.length then some ((a+1)::List.replicate ss.length 0)else none)=_
  rw[h1]
  dsimp only
  rw[aC f];rfl
 |s::ss,a::az,i+1,b,t,h,c,e2,d,f=>by
  have h1:=OM (i:=i) h.2 c e2 (λj b t g c e2=>d (j+1) b t (by omega) c e2) f
  show(match rP ss az with|some bs=>some (a::bs)|none=>if a+1<s.length then some ((a+1)::List.replicate ss.length 0)else none)=_
  rw[h1,fU,show ss.length+1-(i+1+1)=ss.length-(i+1) by omega];rfl
 | [],_::_,_,_,_,h,_,_,_,_=>h.elim
 |_::_,[],_,_,_,h,_,_,_,_=>h.elim
theorem Ez:∀{ss:List (List bC)} {az:List Nat},sy ss az→(fS ss az).length=ss.length
 | [],[],_=>rfl
 |s::ss,a::az,h=>by rw[fS,fU,fU,Ez h.2]
 | [],_::_,h=>h.elim
 |_::_,[],h=>h.elim
theorem JJ:∀{ss:List (List bC)} {az:List Nat} {i a:Nat} {s:List bC} {w:bC},az[i]?=some a→ss[i]?=some s→s[a]?=some w→(fS ss az)[i]?=some w
 | [],_,i,_,_,_,_,e,_=>by simp at e
 |_::_,[],i,_,_,_,e,_,_=>by simp at e
 |s::ss,a::az,0,b,t,w,c,e2,d=>by
  obtain rfl:=Option.some.inj c;obtain rfl:=Option.some.inj e2
  rw[fS,aw,d];rfl
 |s::ss,a::az,i+1,b,t,w,c,e2,d=>JJ (i:=i) (ss:=ss) (az:=az) c e2 d
theorem FA:∀{ss:List (List bC)} {az:List Nat},sy ss az→∀w∈fS ss az,∃s∈ss,w∈s
 | [],[],_,_,h=>by cases h
 |s::ss,a::az,h,w,hw=>by
  rw[fS]at hw
  rcases cK.1 hw with rfl|hw
  ·refine⟨s,by simp,?_⟩
   rw[aw,bU h.1];exact iG _
  ·obtain⟨t,ht,b⟩:=FA h.2 w hw
   exact⟨t,by simp[ht],b⟩
 | [],_::_,h,_,_=>h.elim
 |_::_,[],h,_,_=>h.elim
theorem sQ:∀(s:List (List bC)) (a:Nat),s.foldl (λn l=>n*l.length) a=a*s.foldl (λn l=>n*l.length) 1
 | [],a=>(gZ a).symm
 |l::s,a=>by rw[wi,wi,sQ s (a*l.length),sQ s (1*l.length),Nat.one_mul,Nat.mul_assoc]
theorem wM {α β:Type}(f:α→List β)(m:Nat):∀(l:List α),(∀x∈l,(f x).length=m)→(l.flatMap f).length=l.length*m
 | [],_=>(Nat.zero_mul m).symm
 |x::l,h=>by rw[kF,bR,h x (by simp),wM f m l (λy hy=>h y (by simp[hy])),fU,Nat.succ_mul,Nat.add_comm]
theorem wK:∀(ss:List (List bC)),(fV ss).length=kS ss
 | []=>rfl
 |s::ss=>by
  rw[fV,wM _ (kS ss) s (λw _=>by rw[aO,wK ss])];unfold kS;rw[wi,sQ ss (1*s.length),Nat.one_mul]
structure yB (g:fj)(ss:List (List bC))(az:List Nat)(outs:List (List bC)):Prop where
 ok:sy ss az
 done:∃l,fV ss=l++pT ss az∧(∀c∈l,nk g c=false)∧outs=l.filter (pg g)
theorem Gx {g:fj}{ss:List (List bC)}(hp:∀s∈ss,0<s.length):yB g ss (List.replicate ss.length 0) []:=⟨vS hp,[],by rw[vX hp];rfl,λ_ h=>(by cases h),rfl⟩
theorem Rl {g:fj}{c:List bC}(h:nk g c=true):pg g c=false:=by
 have h:(dS g c).2.1=17:=fJ h
 unfold pg
 rw[fI (by omega)];rfl
theorem NH {g:fj}{ss:List (List bC)}(hp:∀s∈ss,0<s.length){az:List Nat}{outs:List (List bC)}(h:yB g ss az outs)(a:nk g (fS ss az)=true):dy g ss=([],(17,-2)):=by
 obtain⟨l,e,_,_⟩:=h.done;unfold dy;rw[aC];refine pY.2 ⟨fS ss az,?_,a⟩;rw[e,r4 hp h.ok];exact mr _ (aQ ..)
def rI (g:fj)(outs:List (List bC))(c:List bC):List (List bC):=if pg g c=true then outs++ [c]else outs
theorem wG {g:fj}{l:List (List bC)}{c:List bC}:rI g (l.filter (pg g)) c=(l++ [c]).filter (pg g):=by
 unfold rI;rw[List.filter_append]
 by_cases h:pg g c=true
 ·rw[aC h,List.filter_cons_of_pos h];rfl
 ·rw[aA h,List.filter_cons_of_neg h];exact(gu _).symm
theorem NF {g:fj}{ss:List (List bC)}(hp:∀s∈ss,0<s.length){az:List Nat}{outs:List (List bC)}(h:yB g ss az outs)(b:nk g (fS ss az)=false)(d:rP ss az=none):dy g ss=(rI g outs (fS ss az),(0,0)):=by
 obtain⟨l,e,h1,rfl⟩:=h.done;rw[r4 hp h.ok,d]at e;rw[It (λc a=>by rw[e]at a;rcases cG.1 a with a|a;exact h1 c a;rw[bP.1 a];exact b),wG,e]
theorem Kg {g:fj}{ss:List (List bC)}(hp:∀s∈ss,0<s.length){az bs:List Nat}{outs:List (List bC)}(h:yB g ss az outs)(d:nk g (fS ss az)=false)(b:rP ss az=some bs):yB g ss bs (rI g outs (fS ss az))∧(pT ss bs).length<(pT ss az).length:=by
 obtain⟨l,e,h1,rfl⟩:=h.done
 have e2:=r4 hp h.ok
 rw[b]at e2
 dsimp only at e2
 refine⟨⟨OO hp h.ok b,l++ [fS ss az],by rw[e,e2,dq];rfl,λc a=> ?_,wG⟩,by rw[e2];exact pM _⟩
 rcases cG.1 a with a|a
 ·exact h1 c a
 ·rw[bP.1 a];exact d
theorem NG {g:fj}{ss:List (List bC)}{az:List Nat}{outs:List (List bC)}(h:yB g ss az outs):outs.length≤kS ss:=by
 obtain⟨l,e,_,rfl⟩:=h.done;rw[←wK,e,bR];exact dW (G9 _ _) (Nat.le_add_right _ _)
def o8 (az:List Nat)(n m:Nat):List Nat:=az.take m++List.replicate (n-m) 0
theorem MJ {az:List Nat}:o8 az az.length az.length=az:=by unfold o8;rw[jY,fh];exact gu _
theorem IW {az:List Nat}{n m i:Nat}(h:az.length=n)(a:i<m)(hm:m≤n):(o8 az n m)[i]?=az[i]?:=by
 unfold o8;rw[oa (by rw[eU];omega),List.getElem?_take_of_lt a]
theorem Dz {az:List Nat}{n m:Nat}(h:az.length=n)(hm:m<n)(a:Nat):(o8 az n (m+1)).set m a=az.take m++a::List.replicate (n-(m+1)) 0:=by
 unfold o8;rw[wo,bU (by omega),dq,lJ _ _ (by rw[eU];omega),eU,ko (by omega),fh];rfl
theorem KN {az:List Nat}{n m:Nat}(h:az.length=n)(hm:m<n):(o8 az n (m+1)).set m 0=o8 az n m:=by
 rw[Dz h hm];unfold o8;rw[show n-m=(n-(m+1))+1 by omega,List.replicate_succ]
end Go.Proofs.YtblifkgpebebmaaGreatDoor
namespace Go.J
open Go
section
variable {P:Program}{n:Nat}{F:Fr}{c:Ctx}{H R:List ak}{Q:Exit→Act→World→Prop}{ops:Array Oper}{rest:List Oper}{d:Nat}{ty:TypeId}{pos:String}{after:Array Edge}
theorem Mm.Ir {c:Ctx}{w:World}{ds:List du}{L:List ak}[a:kY ds H][tk:eV L H R](hw:Mm c H w):Mm c ((ds.map aB++L)++R) w:=by
 obtain⟨_,k⟩:=(hw.mn (ds:=ds)).out;refine Mm.mk (k.perm ?_);rw[dq];exact G8 _ tk.perm
theorem St.Vl {dr:Prop}{f:FuncId}{xs:List Operand}{g:Array TypeId}{vs:List Value}{ds:List du}{L:List ak}{post:Value→List ak→Prop}(i:c.dr→dr)
 (j:Dk dr P f vs.toArray (ds.map aB++L) post) (k:aI P f) (hx:bH F xs vs) (hd:Nat.ble (d+1) n=true) [l:kY ds H] [tk:eV L H R]
 (h:∀v H',post v H'→St n ((d,v)::F) (Mm c (H'++R)) (wpList P ops Q rest)):
 St n F (Mm c H) (wpList P ops Q ({dst:=some d,op:= .call {callee:= .value (.func f),args:=xs.toArray,argTypes:=g},type:=ty,pos:=pos,after:=after,guard:=none}::rest)):=by
 intro a w b hw;refine gG rfl (gK (caps:=[]) k (bH.cons (ah.mk rfl) hx) b w ?_)
 simp only[List.append_nil]
 refine(Mm.wH j i (Mm.Ir (ds:=ds) (L:=L) hw)).mono ?_;rintro e w' ⟨u,H',rfl,hp,hm⟩;exact⟨u,rfl,h u H' hp _ w' (b.put (dR hd) u) hm⟩
theorem St.Vm {f:FuncId}{xs:List Operand}{a:Array TypeId}{vs:List Value}{ds:List du}{L:List ak}{post:Value→List ak→Prop}(b:¬c.dr)
 (e:sk P f vs.toArray (ds.map aB++L) post) (g:aI P f) (hx:bH F xs vs) (hd:Nat.ble (d+1) n=true) [i:kY ds H] [tk:eV L H R]
 (h:∀v H',post v H'→St n ((d,v)::F) (Mm c (H'++R)) (wpList P ops Q rest)):
 St n F (Mm c H) (wpList P ops Q ({dst:=some d,op:= .call {callee:= .value (.func f),args:=xs.toArray,argTypes:=a},type:=ty,pos:=pos,after:=after,guard:=none}::rest)):=
 St.Vl (λh=>absurd h b) e g hx hd h
theorem St.R6 {dr:Prop}{f:FuncId}{x:Operand}{xs:List Operand}{g:Array TypeId}{vs caps:List Value}{ds:List du}{L:List ak}{post:Value→List ak→Prop}(i:c.dr→dr)
 (j:Dk dr P f (vs++caps).toArray (ds.map aB++L) post) (k:aI P f) (l:ah F x (.func (.func f) #[] caps.toArray)) (hx:bH F xs vs) (hd:Nat.ble (d+1) n=true) [m:kY ds H] [tk:eV L H R]
 (h:∀v H',post v H'→St n ((d,v)::F) (Mm c (H'++R)) (wpList P ops Q rest)):
 St n F (Mm c H) (wpList P ops Q ({dst:=some d,op:= .call {callee:= .value x,args:=xs.toArray,argTypes:=g},type:=ty,pos:=pos,after:=after,guard:=none}::rest)):=by
 intro a w b hw;refine gG rfl (gK k (bH.cons l hx) b w ?_);refine(Mm.wH j i (Mm.Ir (ds:=ds) (L:=L) hw)).mono ?_;rintro e w' ⟨u,H',rfl,hp,hm⟩;exact⟨u,rfl,h u H' hp _ w' (b.put (dR hd) u) hm⟩
theorem St.R7 {f:FuncId}{x:Operand}{xs:List Operand}{a:Array TypeId}{vs caps:List Value}{ds:List du}{L:List ak}{post:Value→List ak→Prop}(b:¬c.dr)
 (e:sk P f (vs++caps).toArray (ds.map aB++L) post) (g:aI P f) (i:ah F x (.func (.func f) #[] caps.toArray)) (hx:bH F xs vs) (hd:Nat.ble (d+1) n=true) [j:kY ds H] [tk:eV L H R]
 (h:∀v H',post v H'→St n ((d,v)::F) (Mm c (H'++R)) (wpList P ops Q rest)):
 St n F (Mm c H) (wpList P ops Q ({dst:=some d,op:= .call {callee:= .value x,args:=xs.toArray,argTypes:=a},type:=ty,pos:=pos,after:=after,guard:=none}::rest)):=
 St.R6 (λh=>absurd h b) e g i hx hd h
end
end Go.J
namespace Go.Proofs.YtblifkgpebebmaaGreatDoor
open Go Go.J Tryz
theorem XS {g:fj}{words:List bC}(h:(dS g words).2.1=0):∀it∈(dS g words).1.1,e9 g.types.length g.cC.length it.ed.gr∧it.ed.gr.length≤60:=by
 have e:=Cx h
 have a:=vE e
 unfold dS at h⊢;rw[aA (λh=>h e)]at h⊢
 by_cases b:(pj g words).1≠0
 ·rw[aC b]at h;exact absurd h b
 ·rw[aA b]at h⊢
  have hw:=vL (show(pj g words).1=0 by omega)
  cases c:xB g words with
  |none=>rw[c]at h;have h:(17:Int)=0:=h;omega
  |some its=>
   unfold xB at c;obtain⟨cs,h1,rfl⟩:=dp.1 c
   have f:qo g.types.length g.cC.length (qrG g words):=⟨hw.2,zD _,a.rn,a.xn,λr d=>⟨(a.rule r d).kids,(a.rule r d).gr,(a.rule r d).len⟩,λx hx=>⟨(a.lex x hx).gr,(a.lex x hx).len⟩⟩
   have j:=a.ty.len
   have k:=a.ft
   obtain⟨i,a2⟩:=CN f (by omega) (by omega) (words:=words) words.length 1 ⟨[],List.replicate (words.length*(words.length+1)) []⟩ cs (aR _) (by show 1+words.length≤words.length+1;omega) ze (λit hit=>by cases hit) h1
   exact λit hit=>(PL i.ok hit).2.2.2
theorem CJ {g:fj}{outs:List (List bC)}{c:List bC}(h:pg g c=false):rI g outs c=outs:=by unfold rI;rw[h,aA (by decide)]
theorem MC {g:fj}{outs:List (List bC)}{c:List bC}(h:pg g c=true):rI g outs c=outs++ [c]:=by unfold rI;rw[aC h]
def Yw (b:Bool):List Value:=bif b then [iv 17,iv (-2)]else [iv 0,iv 0]
theorem Ny (ss:List (List bC)){az:List Nat}(h:az.length=ss.length):Az ss az ss.length:=λj a s c b _=>absurd (ai b) (by omega)
theorem L7 {ss:List (List bC)}{az:List Nat}{q a:Nat}{s:List bC}(h:Az ss az (q+1))(f:az[q]?=some a)(g:ss[q]?=some s)(e:a+1=s.length):Az ss az q:=λj b t i c e2=>by
 rcases eP q j with d|d
 ·exact h j b t d c e2
 ·obtain rfl:j=q:=by omega
  rw[f]at c;rw[g]at e2
  obtain rfl:=Option.some.inj c;obtain rfl:=Option.some.inj e2
  exact e
theorem N5 {g:fj}{s:List (List bC)}(h:(dy g s).2.1=0):(dy g s).2=(0,0):=by
 unfold dy at h⊢
 by_cases c:(fV s).any (nk g)=true
 ·rw[aC c]at h;exact absurd h (by decide)
 ·rw[aA c]
theorem Ri {g:fj}{s:List (List bC)}(b:(dy g s).2.1=0):∀c∈(dy g s).1,c.length=s.length:=λc a=>by
 unfold dy at a
 by_cases k:(fV s).any (nk g)=true
 ·rw[aC k]at a;cases a
 ·rw[aA k]at a;exact sP (wj.1 a).1
theorem N4 {g:fj}{s:List (List bC)}(h:(dy g s).2.1≠0):(dy g s).1=[]:=by
 unfold dy at h⊢
 by_cases c:(fV s).any (nk g)=true
 ·rw[aC c]
 ·rw[aA c]at h;exact absurd rfl h
theorem AN (b d:aV)(m:Nat)(its:List dL)(full:List Nat)(nt nf:Nat)(g:nf≤100)(i:∀x∈its,e9 nt nf (ax x.gr)∧x.gr.nodes.length≤60)(j:∀e∈full,e<its.length)(A:full.length≤1000):
 dz prog 71 #[.agg #[b.1,iv (m:Nat),d.1]] ([sl eD b.1 its,aF cj its,sl aJ d.1 (bW full)].map aB) (λv H'=>∃(a:aV) (cs:List Value),v=a.1∧H'=[row a.1 183 4 full.length cs]):=by
 refine dz.body (args:=[.agg #[b.1,iv (m:Nat),d.1]]) 30 func71 rfl ntmps71 rfl (λc=> ?_);refine St.cast (H':=[aB (sl eD b.1 its),aB (aF cj its),aB (sl aJ d.1 (bW full))]) rfl ?_;refine go ?_
 have l:(bW full).length=full.length:=dY _
 refine go ?_;refine St.dJ (.mk rfl) rfl (λn=> ?_);refine g18 ?_;refine St.dw 183 4 ?_;refine St.aM (.slice none 0 0) (show _=0 from rfl) (show _=([]:List Value)from rfl) ?_;refine St.lH (ι:=Nat×aV×List Value) (λ⟨k,a,cs⟩ T=>(10,iv k)::(3,a.1)::T) (λ⟨k,a,cs⟩=>[row a.1 183 4 k cs,aW n (.cells [b.1,iv (m:Nat),d.1].toArray 120 (0,0)),aB (sl eD b.1 its),aB (aF cj its),aB (sl aJ d.1 (bW full))]) (λ⟨k,a,cs⟩=>k≤full.length) (λ⟨k,a,cs⟩=>full.length-k) ⟨0,bT,[]⟩ (aD.cons 1 rfl (aD.cons 2 rfl (aD.cons 8 rfl (aD.cons 9 rfl aD.nil)))) (aP _) ?_;rintro ⟨k,a,cs⟩ hk
 dsimp only at hk⊢
 refine g6 ?_;refine St.cq (λo=> ?_) (λo=> ?_)
 ·obtain⟨q,f⟩:=aE (show k<full.length by omega)
  have p:=j q (aZ f)
  obtain⟨x,hx⟩:=aE p;obtain⟨r,B⟩:=i x (aZ hx);refine St.cL cj its (x:=x) (aZ hx) ?_;refine St.ea (aG x.gr) [cj x] (λρ h=>h (cj x) (aQ ..) (aG x.gr) (aQ ..)) ?_;refine g7 ?_;refine St.ee (Ev.ld1 (.mk rfl) (gQ f) gD trivial rfl) ?_;refine g10 ?_;refine St.ee (Ev.Ea (Rr:=eD) (sz:=4) (.mk rfl) hx Fx trivial zm (by decide) (by decide)) ?_;refine St.slot 19 (.agg #[iv (x.frm:Nat),iv (x.tqo:Nat),iv (x.cw:Nat),x.gr.nv.1]) rfl rfl ?_;refine St.al (λs=> ?_);refine g6 ?_;refine St.ee (Ev.iU 1 (.mk rfl) mm trivial jU rfl rfl) ?_;refine St.slot 21 (bA x.gr) rfl rfl ?_;refine St.ae (qF x.gr nt nf g r (by omega)) U7 (.ar rfl) rfl ?_;rintro v22 _ rfl;refine St.ao ?_;refine St.bL (gl (ax x.gr) 0) v22 (λy hy=> ?_);obtain⟨rfl,C⟩:=hy;refine go ?_;refine St.Fe (ah.mk rfl) (ah.mk rfl) jU y.nv.2 rfl rfl ?_;refine St.mN s (L':=[iv (x.frm:Nat),iv (x.tqo:Nat),iv (x.cw:Nat),y.nv.1]) rfl ?_;refine g5 ?_;refine St.slot 25 (.agg #[iv (x.frm:Nat),iv (x.tqo:Nat),iv (x.cw:Nat),y.nv.1]) rfl rfl ?_;refine St.gV rfl (.ar rfl) underlying148 zm VF rfl rfl (by simp[Value.cells]) rfl rfl (λt=> ?_);refine St.aj (.mk rfl) (.mk rfl) underlying148 zm VF Z7 (by intro u hu;have hu:u∈[iv (x.frm:Nat),iv (x.tqo:Nat),iv (x.cw:Nat),y.nv.1]:=hu;rcases cK.1 hu with rfl|hu;rfl;rcases cK.1 hu with rfl|hu;rfl;rcases cK.1 hu with rfl|hu;rfl;rw[bP.1 hu];exact y.nv.2) (by omega) (by omega) rfl rfl rfl rfl (λv27 w=> ?_);refine St.aM v27 (show _=k+1 from rfl) (show _=cs++ [iv (x.frm:Nat),iv (x.tqo:Nat),iv (x.cw:Nat),y.nv.1]from rfl) ?_;refine St.ba v27 (λz _=> ?_);refine g9 ?_;refine St.aH ⟨k+1,⟨v27,z⟩,cs++ [iv (x.frm:Nat),iv (x.tqo:Nat),iv (x.cw:Nat),y.nv.1]⟩ (by dsimp only;omega)
 ·obtain rfl:k=full.length:=by omega
  refine g12 ?_;refine St.rV [_] [row a.1 183 4 full.length cs] ?_;exact⟨a,cs,rfl,rfl⟩
theorem AW (bg d f:Nat)(g:gW)(wv:aV)(words:List bC)(a:aV)(us:List aV)(outs:List (List bC))(j:us.length=outs.length)(H:outs.length≤1000):
 sk prog 70 ([wv.1]++ [Value.pointer (some ⟨bg,0,none⟩),Value.pointer (some ⟨d,0,none⟩),Value.pointer (some ⟨f,0,none⟩)]).toArray ([fM bg (jG g),eu g,sl bE wv.1 words,tz,u8].map aB++ [aW d (.cells ([iv 0,iv 0]).toArray 35 (0,0)),aW f (.cells [a.1].toArray 49 (0,0)),row a.1 33 1 (us).length (rows bN (us)),aB (j8 bE (us) (outs))]) (λv H'=>∃(p:aV) (l:List aV),v= .bool (!nk (bZ g) words)∧l.length=(rI (bZ g) outs words).length∧H'=[aW d (.cells (Yw (nk (bZ g) words)).toArray 35 (0,0)),aW f (.cells [p.1].toArray 49 (0,0)),row p.1 33 1 (l).length (rows bN (l)),aB (j8 bE (l) (rI (bZ g) outs words))]):=by
 refine sk.body (args:=[wv.1]++ [Value.pointer (some ⟨bg,0,none⟩),Value.pointer (some ⟨d,0,none⟩),Value.pointer (some ⟨f,0,none⟩)]) 31 func70 rfl ntmps70 rfl (λc z=> ?_);refine go ?_;refine St.cast (H':=[aB (fM bg (jG g)),aB (eu g),aB (sl bE wv.1 words),aB (tz),aB (u8),aW d (.cells ([iv 0,iv 0]).toArray 35 (0,0)),aW f (.cells [a.1].toArray 49 (0,0)),row a.1 33 1 (us).length (rows bN (us)),aB (j8 bE (us) (outs))]) rfl ?_;refine g6 ?_;refine St.ee (Ev.HK (.mk rfl) Xt trivial (by exact TY)) ?_;refine St.slot 9 (fG g) rfl rfl ?_;refine go ?_;refine St.mP z (FF g wv.1 words) Zn (.aX rfl rfl) rfl ?_;rintro v11 _ ⟨q,r,m,s,rfl,t,rfl⟩;refine St.iQ ?_;refine g3 ?_;refine St.slot 13 (fv (dS (bZ g) words).2) rfl rfl ?_;refine St.al (λI=> ?_);refine St.al (λK=> ?_);refine g12 ?_;refine St.cq (λn=> ?_) (λn=> ?_)
 ·have e:nk (bZ g) words=true:=eB n
  have b:=CJ (outs:=outs) (Rl e)
  refine g2 ?_;refine St.ee (Ev.call (iH 17 (-2)) KY (.aX rfl rfl)) ?_;refine go ?_;refine St.mN d (L':=[iv 17,iv (-2)]) rfl ?_;refine g9 ?_;refine St.rV [_] [aW d (.cells ([iv 17,iv (-2)]).toArray 35 (0,0)),aW f (.cells [a.1].toArray 49 (0,0)),row a.1 33 1 (us).length (rows bN (us)),aB (j8 bE (us) (outs))] ?_;exact⟨a,us,by rw[e];rfl,by rw[b];exact j,by rw[e,b];rfl⟩
 ·have e:nk (bZ g) words=false:=fI n
  refine g9 ?_;refine St.split 21 _ rfl (λi=> ?_) (λi=> ?_)
  ·have o:(dS (bZ g) words).2.1=0:=fJ i
   obtain⟨u,L⟩:=FE (bZ g) words;rw[←t,aO]at u
   have A:=XS o
   have B:(bZ g).cC.length≤100:=by have:=(vE (Cx o)).ft;omega
   have C:∀x∈s,e9 (bZ g).types.length (bZ g).cC.length (ax x.gr)∧x.gr.nodes.length≤60:=λx hx=>by have h:=A (cH x) (by rw[←t];exact eQ hx);exact⟨h.1,by have w:=h.2;rw[show(cH x).ed.gr=ax x.gr from rfl,cy]at w;exact w⟩
   refine St.cD rfl rfl ?_;refine go ?_;refine St.slot 22 (.agg #[q.1,iv (m:Nat),r.1]) rfl rfl ?_;refine St.cD rfl rfl ?_;refine St.ae (AN q r m s (dS (bZ g) words).1.2 (bZ g).types.length (bZ g).cC.length B C u (by omega)) ahL (.ar rfl) rfl ?_;rintro v23 _ ⟨ev,D,rfl,rfl⟩;refine St.ao ?_;refine St.cD rfl rfl ?_;refine go ?_;refine St.cD rfl rfl ?_;refine go ?_;refine St.ee (Ev.gT (.mk rfl) rfl (.mk rfl)) ?_;refine g2 ?_;refine St.cq (λE=> ?_) (λE=> ?_)
   ·have k:pg (bZ g) words=true:=by unfold pg;rw[eB o,eB (show 0<(dS (bZ g) words).1.2.length by omega)];rfl
    have b:=MC (outs:=outs) k
    refine g3 ?_;refine St.gV rfl (.ar rfl) px xM QN rfl rfl (by simp[J.cells_one wv.2]) rfl rfl (λF=> ?_);refine St.aj (.mk rfl) (.mk rfl) px xM QN ZC (by simp[J.cells_one wv.2,wv.2]) (by omega) (by omega) rfl rfl rfl rfl (λv30 G=> ?_);refine St.aM v30 (show _=(us++ [wv]).length by rw[bR];rfl) (show _=rows bN (us++ [wv]) by rw[ay];simp[J.cells_one wv.2];rfl) ?_;refine St.ba v30 (λy _=> ?_);refine St.cI (.mk rfl) (.mk rfl) alV y (by rfl) ?_;refine St.JP us wv j ?_;refine g8 ?_;refine St.rV [_] [aW d (.cells ([iv 0,iv 0]).toArray 35 (0,0)),aW f (.cells [v30].toArray 49 (0,0)),row v30 33 1 (us++ [wv]).length (rows bN (us++ [wv])),aB (j8 bE (us++ [wv]) (outs++ [words]))] ?_;exact⟨⟨v30,y⟩,us++ [wv],by rw[e];rfl,by rw[b,bR,bR,j];rfl,by rw[e,b];rfl⟩
   ·have k:pg (bZ g) words=false:=by unfold pg;rw[fI (show ¬0<(dS (bZ g) words).1.2.length by omega),Bool.and_false]
    have b:=CJ (outs:=outs) k
    refine g8 ?_;refine St.rV [_] [aW d (.cells ([iv 0,iv 0]).toArray 35 (0,0)),aW f (.cells [a.1].toArray 49 (0,0)),row a.1 33 1 (us).length (rows bN (us)),aB (j8 bE (us) (outs))] ?_;exact⟨a,us,by rw[e];rfl,by rw[b];exact j,by rw[e,b];rfl⟩
  ·have k:pg (bZ g) words=false:=by unfold pg;rw[fI (iX i)];rfl
   have b:=CJ (outs:=outs) k
   refine St.br rfl rfl rfl ?_;refine St.br rfl rfl rfl ?_;refine St.br rfl rfl rfl ?_;refine St.br rfl rfl rfl ?_;refine St.ee (Ev.kR (.mk rfl) rfl (.mk rfl)) ?_;refine g2 ?_;refine St.rm _ rfl rfl ?_;refine g8 ?_;refine St.rV [_] [aW d (.cells ([iv 0,iv 0]).toArray 35 (0,0)),aW f (.cells [a.1].toArray 49 (0,0)),row a.1 33 1 (us).length (rows bN (us)),aB (j8 bE (us) (outs))] ?_;exact⟨a,us,by rw[e];rfl,by rw[b];exact j,by rw[e,b];rfl⟩
theorem Gr (bg f i:Nat)(g:gW)(v0:Value)(vs:List aV)(aL:List (List bC))(J:vs.length=aL.length)(A:Di (bZ g) aL)(N:∀xs∈aL,∀x∈xs,bE.wf x):
 sk prog 69 #[v0,Value.func (.func 70) #[] #[Value.pointer (some ⟨bg,0,none⟩),Value.pointer (some ⟨f,0,none⟩),Value.pointer (some ⟨i,0,none⟩)]] ([sl bN v0 vs,j8 bE vs aL,fM bg (jG g),eu g,tz,u8].map aB++ [aW f (.cells ([iv 0,iv 0]).toArray 35 (0,0)),aW i (.cells [(.slice none 0 0)].toArray 49 (0,0)),row (.slice none 0 0) 33 1 (([]:List aV)).length (rows bN (([]:List aV))),aB (j8 bE (([]:List aV)) (([]:List (List bC))))]) (λv H'=>∃(j:aV) (d:List aV) (E:List (List bC)),v= .tuple #[]∧d.length=E.length∧((dy (bZ g) aL).2.1=0→E=(dy (bZ g) aL).1)∧H'=[aW f (.cells ([iv (dy (bZ g) aL).2.1,iv (dy (bZ g) aL).2.2]).toArray 35 (0,0)),aW i (.cells [j.1].toArray 49 (0,0)),row j.1 33 1 (d).length (rows bN (d)),aB (j8 bE (d) (E))]):=by
 refine sk.body (args:=[v0,Value.func (.func 70) #[] #[Value.pointer (some ⟨bg,0,none⟩),Value.pointer (some ⟨f,0,none⟩),Value.pointer (some ⟨i,0,none⟩)]]) 65 func69 rfl ntmps69 rfl (λc O=> ?_);refine go ?_;refine St.cast (H':=[aB (sl bN v0 vs),aB (j8 bE vs aL),aB (fM bg (jG g)),aB (eu g),aB (tz),aB (u8),aW f (.cells ([iv 0,iv 0]).toArray 35 (0,0)),aW i (.cells [(.slice none 0 0)].toArray 49 (0,0)),row (.slice none 0 0) 33 1 (([]:List aV)).length (rows bN (([]:List aV))),aB (j8 bE (([]:List aV)) (([]:List (List bC))))]) rfl ?_
 have hp:∀s∈aL,0<s.length:=λs e=>(A.aL s e).pos
 have P:=A.xV
 have hn0:=A.pos
 have Q:=A.prod
 refine g3 ?_;refine St.nL (Rr:=aJ) (g:=0) (m:=aL.length) (sz:=1) rfl (.mk rfl) (.mk rfl) bJ dK eT xT (congrArg _ J) (congrArg _ J) (by omega) rfl rfl (λp=> ?_);refine St.aM (.slice (some ⟨p,0,none⟩) aL.length aL.length) (show _=aL.length from rfl) (show _=rows aJ (bW (List.replicate aL.length 0)) by unfold bW;rw[sC];rfl) ?_;refine g4 ?_;refine St.lH (ι:=List Nat×aV×List aV×List (List bC)) (λ⟨az,n,us,outs⟩ T=>T) (λ⟨az,n,us,outs⟩=>[row (.slice (some ⟨p,0,none⟩) aL.length aL.length) 3 1 aL.length (rows aJ (bW (az))),aW f (.cells ([iv 0,iv 0]).toArray 35 (0,0)),aW i (.cells [n.1].toArray 49 (0,0)),row n.1 33 1 (us).length (rows bN (us)),aB (j8 bE (us) (outs)),aB (sl bN v0 vs),aB (j8 bE vs aL),aB (fM bg (jG g)),aB (eu g),aB (tz),aB (u8)]) (λ⟨az,n,us,outs⟩=>yB (bZ g) aL az outs∧us.length=outs.length) (λ⟨az,n,us,outs⟩=>(pT aL az).length) ⟨List.replicate aL.length 0,bT,[],[]⟩ (aD.cons 0 rfl (aD.cons 1 rfl (aD.cons 4 rfl aD.nil))) ⟨Gx hp,rfl⟩ ?_;rintro ⟨az,n,us,outs⟩ ⟨l,K⟩
 dsimp only at l K⊢
 have t:=l.ok.len
 have R:=Ez l.ok
 have S:=NG l
 have F:o8 az aL.length aL.length=az:=by have:=MJ (az:=az);rwa[t]at this
 refine g15 ?_;refine St.dw 9 1 ?_;refine St.aM (.slice none 0 0) (show _=((fS aL az).take 0).length from rfl) (show _=rows bE ((fS aL az).take 0)from rfl) ?_;refine St.lH (ι:=Nat×aV) (λ⟨k,wv⟩ T=>(14,iv k)::(5,wv.1)::T) (λ⟨k,wv⟩=>[row wv.1 9 1 ((fS aL az).take (k)).length (rows bE ((fS aL az).take (k))),row (.slice (some ⟨p,0,none⟩) aL.length aL.length) 3 1 aL.length (rows aJ (bW (az))),aW f (.cells ([iv 0,iv 0]).toArray 35 (0,0)),aW i (.cells [n.1].toArray 49 (0,0)),row n.1 33 1 (us).length (rows bN (us)),aB (j8 bE (us) (outs)),aB (sl bN v0 vs),aB (j8 bE vs aL),aB (fM bg (jG g)),aB (eu g),aB (tz),aB (u8)]) (λ⟨k,wv⟩=>k≤aL.length) (λ⟨k,wv⟩=>aL.length-k) ⟨0,bT⟩ (aD.cons 0 rfl (aD.cons 1 rfl (aD.cons 4 rfl (aD.cons 12 rfl (aD.cons 13 rfl aD.nil))))) (aP _) ?_;rintro ⟨k,wv⟩ hk
 dsimp only at hk⊢
 have htk:((fS aL az).take k).length≤12:=by rw[eU];omega
 refine g6 ?_;refine St.cq (λU=> ?_) (λU=> ?_)
 ·obtain⟨a,o⟩:=aE (show k<az.length by omega)
  obtain⟨s,e⟩:=aE (show k<aL.length by omega);obtain⟨u,hu⟩:=aE (show k<vs.length by omega);refine St.j8 (vs:=vs) k hu e ?_
  have M:=l.ok.at o e
  obtain⟨w,hw⟩:=aE M
  have B:=JJ o e hw
  refine g8 ?_;refine St.ee (Ev.ct (.mk rfl) gD trivial (by omega) (oL (gQ o))) ?_;refine g13 ?_;refine St.gV rfl (.ar rfl) lE Fj QO rfl rfl (by simp[Value.cells]) rfl rfl (λb27=> ?_);refine St.aj (.mk rfl) (.mk rfl) lE Fj QO by9 (by simp[Value.oneCell',Value.cells]) (by omega) (by omega) rfl rfl rfl rfl (λv28 V=> ?_);refine St.aM v28 (show _=((fS aL az).take (k+1)).length by rw[ag B,bR];rfl) (show _=rows bE ((fS aL az).take (k+1)) by rw[ag B,ay];rfl) ?_;refine St.ba v28 (λW _=> ?_);refine g9 ?_;refine St.aH ⟨k+1,⟨v28,W⟩⟩ (by dsimp only;omega)
 ·obtain rfl:k=aL.length:=by omega
  rw[fZ (Nat.le_of_eq R)];refine St.bS wv.1 bE (fS aL az) rfl rfl (λw hw=>by obtain⟨s,e,X⟩:=FA l.ok w hw;exact N s e w X) ?_;refine g10 ?_;refine St.R7 (ds:=[fM bg (jG g),eu g,sl bE wv.1 (fS aL az),tz,u8]) (L:=[aW f (.cells ([iv 0,iv 0]).toArray 35 (0,0)),aW i (.cells [n.1].toArray 49 (0,0)),row n.1 33 1 (us).length (rows bN (us)),aB (j8 bE (us) (outs))]) (caps:=[Value.pointer (some ⟨bg,0,none⟩),Value.pointer (some ⟨f,0,none⟩),Value.pointer (some ⟨i,0,none⟩)]) O (AW bg f i g wv (fS aL az) n us outs K (by omega)) ahK (.mk rfl) (.ar rfl) rfl ?_;rintro v32 _ ⟨j,d,rfl,r,rfl⟩;refine St.Yp ?_;refine g3 ?_;refine St.cond _ rfl (λG=> ?_) (λG=> ?_)
  ·skip
   have y:nk (bZ g) (fS aL az)=true:=by simpa using G
   have C:=NH hp l y
   refine g5 ?_;refine St.rV [] [aW f (.cells (Yw (nk (bZ g) (fS aL az))).toArray 35 (0,0)),aW i (.cells [j.1].toArray 49 (0,0)),row j.1 33 1 (d).length (rows bN (d)),aB (j8 bE (d) (rI (bZ g) outs (fS aL az)))] ?_;exact⟨j,d,_,rfl,r,λh=>by rw[C]at h;exact absurd h (by decide),by rw[C,y];rfl⟩
  ·skip
   have y:nk (bZ g) (fS aL az)=false:=by simpa using G
   refine St.mN f (L':=[iv 0,iv 0]) (by rw[y];rfl) ?_;refine g12 ?_;refine St.aM (.slice (some ⟨p,0,none⟩) aL.length aL.length) (show _=aL.length from rfl) (show _=rows aJ (bW (o8 az aL.length aL.length)) by rw[F]) ?_;refine St.lH (ι:=Nat) (λm T=>(8,iv ((m:Int)-1))::T) (λm=>[row (.slice (some ⟨p,0,none⟩) aL.length aL.length) 3 1 aL.length (rows aJ (bW (o8 az aL.length m))),aW f (.cells ([iv 0,iv 0]).toArray 35 (0,0)),aW i (.cells [j.1].toArray 49 (0,0)),row j.1 33 1 (d).length (rows bN (d)),aB (j8 bE (d) (rI (bZ g) outs (fS aL az))),aB (sl bN v0 vs),aB (j8 bE vs aL),aB (fM bg (jG g)),aB (eu g),aB (tz),aB (u8)]) (λm=>m≤aL.length∧Az aL az m) (λm=>m) aL.length (aD.cons 0 rfl (aD.cons 1 rfl (aD.cons 4 rfl aD.nil))) ⟨aR _,Ny aL t⟩ ?_;rintro m ⟨hm,H⟩;obtain⟨a,o⟩:=aE (show m-1<az.length by omega);obtain⟨s,e⟩:=aE (show m-1<aL.length by omega);obtain⟨u,hu⟩:=aE (show m-1<vs.length by omega);refine St.j8 (vs:=vs) (m-1) hu e ?_
   have M:=l.ok.at o e
   have Y:=(A.aL s (aZ e)).xV
   refine g2 ?_;refine St.rq mixed (by kernel_rfl) (Mm.drawn _ _) ?_;refine g3 ?_;refine Sq.gt _ rfl rfl (λb=>Ev.move (.mk rfl)) rfl ?_;refine Sq.gt _ rfl rfl (λb=>Ev.move (.mk rfl)) rfl ?_;refine Sq.gt _ rfl rfl (λb=>Ev.dZ (k:=m-1) (ah.gv rfl b) (ah.gv rfl b) bJ dK (by first|omega|(simp only[eM]at b;omega)) (by simp only[decide_eq_true_eq]at b;omega)) rfl ?_;refine Sq.gt _ rfl rfl (λb=>Ev.ct (ah.gv rfl b) gD trivial (by simp only[decide_eq_true_eq]at b;omega) (oL (gQ ((IW t (by simp only[decide_eq_true_eq]at b;omega) hm).trans o)))) rfl ?_;refine Sq.gt _ rfl rfl (λb=>Ev.add (ah.gv rfl b) (.mk rfl) (by first|omega|(simp only[eM]at b;omega))) rfl ?_;refine Sq.gt _ rfl rfl (λb=>Ev.move (.mk rfl)) rfl ?_;refine Sq.gt _ rfl rfl (λb=>Ev.move (.mk rfl)) rfl ?_;refine Sq.gt _ rfl rfl (λb=>Ev.cE (k:=m-1) (ah.gv rfl b) (ah.gv rfl b) px xM (by first|omega|(simp only[eM]at b;omega)) (by simp only[decide_eq_true_eq]at b;omega)) rfl ?_;refine Sq.gt _ rfl rfl (λb=>Ev.ld1 (ah.gv rfl b) hu lE trivial rfl) rfl ?_;refine Sq.gt _ rfl rfl (λb=>Ev.fc (ah.gv rfl b) lE) rfl ?_;refine Sq.gt _ rfl rfl (λb=>Ev.eql (ah.gv rfl b) (ah.gv rfl b)) rfl ?_;refine g3 ?_;refine St.cq (λZ=> ?_) (λZ=> ?_)
   ·obtain⟨q,rfl⟩:∃q,m=q+1:=⟨m-1,by omega⟩
    rw[Nat.add_sub_cancel]at o e hu;refine g7 ?_;refine St.ee (Ev.dZ (k:=q) (.mk rfl) (.mk rfl) bJ dK (by omega) (by omega)) ?_;refine St.cJ (.mk rfl) (.mk rfl) dK rfl (by omega) (by decide) ?_;refine St.aM (.slice (some ⟨p,0,none⟩) aL.length aL.length) (show _=aL.length from rfl) (show _=rows aJ (bW (o8 az aL.length q)) by rw[←KN (m:=q) t (by omega)];exact r7 _ _ _) ?_;refine g9 ?_;refine St.sM q ⟨by omega,L7 H o e (by omega)⟩ (pM q) (by repeat(first|exact Sub.nil|refine Sub.cons (by first|rfl|exact congrArg (λz=>some (iv z)) (by first|omega|(dsimp only;omega))|exact congrArg (λz=>some (Value.bool z)) (by first|assumption|exact ig (by assumption))) ?_)) (λ_ hw=>hw.sub)
   ·refine g12 ?_
    refine St.cq (λI=> ?_) (λI=> ?_)
    ·obtain rfl:m=0:=by omega
     have C:=NF hp l y (zF l.ok H)
     refine g5 ?_;refine St.rV [] [aW f (.cells ([iv 0,iv 0]).toArray 35 (0,0)),aW i (.cells [j.1].toArray 49 (0,0)),row j.1 33 1 (d).length (rows bN (d)),aB (j8 bE (d) (rI (bZ g) outs (fS aL az)))] ?_;exact⟨j,d,_,rfl,r,λ_=>by rw[C],by rw[C]⟩
    ·obtain⟨q,rfl⟩:∃q,m=q+1:=⟨m-1,by omega⟩
     rw[Nat.add_sub_cancel]at o e hu
     have YJ:a+1<s.length:=by omega
     have D:=Kg hp l y (OM l.ok o e H YJ)
     refine g5 ?_;refine St.ee (Ev.dZ (k:=q) (.mk rfl) (.mk rfl) bJ dK (by omega) (by omega)) ?_;refine St.ee (Ev.ct (.mk rfl) gD trivial (by omega) (oL (gQ ((IW t (pM q) hm).trans o)))) ?_;refine go ?_;refine St.slot 63 (iv ((a+1:Nat):Int)) rfl (congrArg iv (by push_cast;rfl)) ?_;refine St.ee (Ev.dZ (k:=q) (.mk rfl) (.mk rfl) bJ dK (by omega) (by omega)) ?_;refine St.cJ (.mk rfl) (.mk rfl) dK rfl (by omega) (by decide) ?_;refine St.aM (.slice (some ⟨p,0,none⟩) aL.length aL.length) (show _=aL.length from rfl) (show _=rows aJ (bW (az.take q++(a+1)::List.replicate (aL.length-(q+1)) 0)) by rw[←Dz t (by omega)];exact r7 _ _ _) ?_;refine g3 ?_;refine St.sM ⟨az.take q++(a+1)::List.replicate (aL.length-(q+1)) 0,j,d,rI (bZ g) outs (fS aL az)⟩ ⟨D.1,r⟩ D.2 (by repeat(first|exact Sub.nil|refine Sub.cons (by first|rfl|exact congrArg (λz=>some (iv z)) (by first|omega|(dsimp only;omega))|exact congrArg (λz=>some (Value.bool z)) (by first|assumption|exact ig (by assumption))) ?_)) (λ_ hw=>hw.sub)
theorem vA (g:gW)(v0:Value)(aL:List (List bC))(k:Di (bZ g) aL):sk prog 33 #[fG g,v0] ([eu g,oI bE v0 aL,tz,u8].map aB) (λv H'=>∃a:aV,v= .tuple #[a.1,fv (dy (bZ g) aL).2]∧H'=[aB (oI bE a.1 (dy (bZ g) aL).1)]):=by
 refine sk.body (args:=[fG g,v0]) 17 func33 rfl ntmps33 rfl (λc m=> ?_);refine St.cast (H':=[aB (eu g),aB (oI bE v0 aL),aB (tz),aB (u8)]) rfl ?_;refine go ?_;refine St.nu v0 (λvs h=> ?_);refine St.FJ vs h (λn=> ?_);refine go ?_;refine St.dJ (.mk rfl) rfl (λe=> ?_);refine go ?_;refine St.al (λo=> ?_);refine g4 ?_;refine St.al (λi=> ?_);refine g4 ?_;refine St.al (λj=> ?_);refine g3 ?_;refine St.vW e ?_;refine St.dw 33 1 ?_;refine St.aM (.slice none 0 0) (show _=([]:List aV).length from rfl) (show _=rows bN []from rfl) ?_;refine St.Og bE ?_;refine g2 ?_;refine St.ee (Ev.func (.ek rfl rfl rfl)) ?_;refine St.Vm (ds:=[sl bN v0 vs,j8 bE vs aL,fM e (jG g),eu g,tz,u8]) (L:=[aW j (.cells ([iv 0,iv 0]).toArray 35 (0,0)),aW i (.cells [(.slice none 0 0)].toArray 49 (0,0)),row (.slice none 0 0) 33 1 (([]:List aV)).length (rows bN (([]:List aV))),aB (j8 bE (([]:List aV)) (([]:List (List bC))))]) m (Gr e j i g v0 vs aL h k n) ahJ (.aX rfl rfl) rfl ?_;rintro v10 _ ⟨a,us,outs,rfl,p,b,rfl⟩;refine St.Yp ?_;refine g10 ?_;refine St.cq (λd=> ?_) (λd=> ?_)
 ·have q:=N4 (g:=bZ g) (s:=aL) d
  refine St.D9 (Rr:=bE) ?_;refine St.L9 (Rr:=bE) (l:=[]) (.slice none 0 0) (vs:=[]) rfl ?_;refine go ?_;refine St.pA [o] mixed (λr t=> ?_);refine SW.gd 0 ?_;refine SW.gd 1 ?_;refine SW.t1 2 ?_;refine g3 ?_;refine SW.go ?_;refine SW.dn ?_;refine g3 ?_;refine St.rV [_,_] [aB (oI bE (.slice none 0 0) [])] ?_;exact⟨bT,rfl,by rw[q]⟩
 ·have b:=b (by omega)
  subst b;refine St.bS a.1 bN us rfl rfl (λ_ _=>trivial) ?_;refine St.L9 (Rr:=bE) a.1 p ?_
  have f:=N5 (g:=bZ g) (s:=aL) (by omega)
  refine g5 ?_;refine St.ee (Ev.build (bH.nil) (λw=>ja w)) ?_;refine g5 ?_;refine St.rV [_,_] [aB (oI bE a.1 (dy (bZ g) aL).1)] ?_;exact⟨a,by rw[f];rfl,rfl⟩
theorem Ax (g:gW)(v0:Value)(aL:List (List bC)):sk prog 13 #[fG g,v0] ([eu g,oI bE v0 aL,tz,u8].map aB) (λv H'=>∃a:aV,v= .tuple #[a.1,fv (dX (bZ g) aL).2]∧H'=[aB (oI bE a.1 (dX (bZ g) aL).1)]):=by
 refine sk.body (args:=[fG g,v0]) 19 func13 rfl ntmps13 rfl (λc d=> ?_);refine St.cast (H':=[aB (eu g),aB (oI bE v0 aL),aB (tz),aB (u8)]) rfl ?_;refine g2 ?_;refine St.dJ (.mk rfl) rfl (λk=> ?_);refine go ?_;refine St.al (λf=> ?_);refine g6 ?_;refine St.slot 7 (fG g) rfl rfl ?_;refine go ?_;refine St.ee (Ev.mO d (sO g v0 aL) Vp (.aX rfl rfl)) ?_;refine St.slot 9 (.agg #[iv (kL (bZ g) aL).1,iv (kL (bZ g) aL).2]) rfl rfl ?_;refine St.al (λm=> ?_);refine g10 ?_;refine St.cq (λe=> ?_) (λe=> ?_)
 ·have b:(dX (bZ g) aL)=([],(kL (bZ g) aL)):=by unfold dX;rw[aC e]
  refine St.D9 (Rr:=bE) ?_;refine St.L9 (Rr:=bE) (l:=[]) (.slice none 0 0) (vs:=[]) rfl ?_;refine go ?_;refine St.pA [f] mixed (λn o=> ?_);refine SW.gd 0 ?_;refine SW.gd 1 ?_;refine SW.t1 2 ?_;refine g3 ?_;refine SW.go ?_;refine SW.dn ?_;refine g3 ?_;refine St.rV [_,_] [aB (oI bE (.slice none 0 0) [])] ?_;exact⟨bT,by rw[b];rfl,by rw[b]⟩
 ·have i:=Cf.1 (show(kL (bZ g) aL).1=0 by omega)
  have b:(dX (bZ g) aL)=(dy (bZ g) aL):=by unfold dX;rw[aA (λh=>h (by omega))]
  refine g5 ?_;refine St.slot 14 (fG g) rfl rfl ?_;refine go ?_;refine St.mP d (vA g v0 aL i) Vq (.aX rfl rfl) rfl ?_;rintro j _ ⟨a,rfl,rfl⟩;refine St.ao ?_;refine g2 ?_;refine St.slot 18 (fv (dy (bZ g) aL).2) rfl rfl ?_;refine g5 ?_;refine St.rV [_,_] [aB (oI bE a.1 (dy (bZ g) aL).1)] ?_;exact⟨a,by rw[b];rfl,by rw[b]⟩
mutual
def pt (g:fj):jZ→Int
 | .mk r l ks=>if r<0 then((g.aN.map (·.weight))[l.toNat]?).getD 0 else((g.rules.map (·.weight))[r.toNat]?).getD 0+jD g ks
def jD (g:fj):List jZ→Int
 | []=>0
 |t::l=>pt g t+jD g l
end
mutual
def Xr (g:fj):jZ→Bool
 | .mk r l ks=>if r<0 then decide (0≤l)&&decide (l<g.aN.length)else decide (r<g.rules.length)&&Pf g ks
def Pf (g:fj):List jZ→Bool
 | []=>true
 |t::l=>Xr g t&&Pf g l
end
mutual
def Qa:jZ→Nat
 | .mk _ _ ks=>1+pn ks
def pn:List jZ→Nat
 | []=>0
 |t::l=>Qa t+pn l
end
theorem TX (g:fj)(r l:Int)(ks:List jZ):pt g (.mk r l ks)=if r<0 then((g.aN.map (·.weight))[l.toNat]?).getD 0 else((g.rules.map (·.weight))[r.toNat]?).getD 0+jD g ks:=by rw[pt]
theorem Xs (g:fj)(r l:Int)(ks:List jZ):Xr g (.mk r l ks)=if r<0 then decide (0≤l)&&decide (l<g.aN.length)else decide (r<g.rules.length)&&Pf g ks:=by rw[Xr]
theorem XJ (r l:Int)(ks:List jZ):Qa (.mk r l ks)=1+pn ks:=by rw[Qa]
theorem Bf (g:fj):∀(a b:List jZ),jD g (a++b)=jD g a+jD g b
 | [],b=>by rw[C7,jD,Int.zero_add]
 |t::a,b=>by rw[we,jD,jD,Bf g a b,Int.add_assoc]
theorem Eo:∀(a b:List jZ),pn (a++b)=pn a+pn b
 | [],b=>by rw[C7,pn,iW]
 |t::a,b=>by rw[we,pn,pn,Eo a b,qh]
theorem Fo {g:fj}:∀{l:List jZ},Pf g l=true→∀t∈l,Xr g t=true
 | [],_,_,h=>by cases h
 |x::l,h,t,ht=>by
  rw[Pf,rY]at h
  rcases cK.1 ht with rfl|ht
  ·exact h.1
  ·exact Fo h.2 t ht
theorem Er:∀{l:List jZ} {t:jZ},t∈l→Qa t≤pn l
 | [],_,h=>by cases h
 |x::l,t,h=>by
  rw[pn]
  rcases cK.1 h with rfl|h
  ·exact Nat.le_add_right _ _
  ·exact dW (Er h) (Nat.le_add_left _ _)
theorem Ep:∀(l:List jZ),l.length≤pn l
 | []=>aP _
 |x::l=>by
  cases x with
  |mk r w ks=>
   rw[pn,Qa,fU]
   have:=Ep l
   omega
theorem LC {l:List jZ}(k:Nat):pn (l.take k)≤pn l:=by
 have h:=Eo (l.take k) (l.drop k)
 rw[qj]at h;omega
structure WtG (g:fj):Prop where
 r:∀x∈g.rules,0≤x.weight∧x.weight≤1000000
 x:∀x∈g.aN,0≤x.weight∧x.weight≤1000000
theorem Ix {l:List Int}(h:∀x∈l,0≤x∧x≤1000000)(i:Nat):0≤(l[i]?).getD 0∧(l[i]?).getD 0≤1000000:=by
 rcases eP i l.length with a|a
 ·rw[bU a];exact h _ (iG a)
 ·rw[ij a];exact⟨Int.le_refl _,by decide⟩
mutual
theorem Je {g:fj}(h:WtG g):∀t:jZ,0≤pt g t∧pt g t≤1000000*(Qa t:Int)
 | .mk r l ks=>by
  rw[pt,Qa]
  have h1:=Ix (l:=g.aN.map (·.weight)) (λx hx=>by obtain⟨y,hy,rfl⟩:=dC.1 hx;exact h.x y hy) l.toNat
  have a:=Ix (l:=g.rules.map (·.weight)) (λx hx=>by obtain⟨y,hy,rfl⟩:=dC.1 hx;exact h.r y hy) r.toNat
  have b:=zj h ks
  split
  ·push_cast;omega
  ·push_cast;omega
theorem zj {g:fj}(h:WtG g):∀l:List jZ,0≤jD g l∧jD g l≤1000000*(pn l:Int)
 | []=>by rw[jD,pn];exact⟨Int.le_refl _,by decide⟩
 |t::l=>by
  rw[jD,pn]
  have h1:=Je h t
  have a:=zj h l
  push_cast;omega
end
theorem I3 {g:fj}{l:List jZ}{k:Nat}{t:jZ}(h:l[k]?=some t):jD g (l.take (k+1))=jD g (l.take k)+pt g t:=by
 rw[wo,h,Bf];show _+(jD g [t])=_;rw[jD,jD,Int.add_zero]
def zf (g:fj)(o:Option (List bC×Int))(w:List bC):Option (List bC×Int):=
 match(lN g w 1).1 with
 | []=>o
 |t::_=>match o with
  |none=>some (w,pt g t)
  |some p=>if pt g t<p.2 then some (w,pt g t)else some p
def bsF (g:fj)(l:List (List bC)):Option (List bC×Int):=l.foldl (zf g) none
def qB (g:fj)(s:List (List bC)):Option (List bC×Int)×(Int×Int):=
 if(kL g s).1≠0 then(none,kL g s)else if(dy g s).2.1≠0 then(none,(dy g s).2)else(bsF g (dy g s).1,(0,0))
def oW (o:Option (List bC×Int)):List bC:=(o.map Prod.fst).getD []
def oN (o:Option (List bC×Int)):Int:=(o.map Prod.snd).getD 0
theorem KU {g:fj}{w:List bC}{n:Int}(h:(lN g w n).2.1≠0):(lN g w n).1=[]:=by
 unfold lN at h⊢
 by_cases c1:(jO g).1≠0
 ·rw[aC c1]
 rw[aA c1]at h⊢
 by_cases c2:n<0∨200<n
 ·rw[aC c2]
 rw[aA c2]at h⊢
 by_cases c3:(dS g w).2.1≠0
 ·rw[aC c3]
 rw[aA c3]at h;exact absurd rfl h
theorem TU {g:fj}{o:Option (List bC×Int)}{w:List bC}(h:(lN g w 1).1=[]):zf g o w=o:=by unfold zf;rw[h]
theorem TT {g:fj}{o:Option (List bC×Int)}{w:List bC}{t:jZ}{r:List jZ}(h:(lN g w 1).1=t::r)(a:o.isSome=false∨pt g t<oN o):zf g o w=some (w,pt g t):=by
 unfold zf;rw[h]
 cases o with
 |none=>rfl
 |some p=>
  rcases a with a|a
  ·cases a
  ·exact aC a
theorem TV {g:fj}{o:Option (List bC×Int)}{w:List bC}{t:jZ}{r:List jZ}(h:(lN g w 1).1=t::r)(h1:o.isSome=true)(a:¬pt g t<oN o):zf g o w=o:=by
 unfold zf;rw[h]
 cases o with
 |none=>cases h1
 |some p=>exact aA a
theorem Ke {g:fj}{l:List (List bC)}{k:Nat}{w:List bC}(h:l[k]?=some w):(l.take (k+1)).foldl (zf g) none=zf g ((l.take k).foldl (zf g) none) w:=by
 rw[wo,h,wh];rfl
theorem Cn {p:Nat→bC→Bool}:∀{ss:List (List bC)} {i k:Nat} {s:List bC},ss[k]?=some s→(rL p i ss)[k]?=some (s.filter (p (i+k)))
 | [],_,_,_,h=>by simp at h
 |t::ss,i,0,s,h=>by obtain rfl:=Option.some.inj h;rfl
 |t::ss,i,k+1,s,h=>by
  have:=Cn (p:=p) (ss:=ss) (i:=i+1) (k:=k) h
  rw[show i+(k+1)=i+1+k by omega];exact this
theorem Y6 {g:fj}(h:M0 g):WtG g:=⟨λx hx=>(h.rule x hx).wt,λx hx=>(h.lex x hx).wt⟩
theorem JF (l:List (List bC))(i:Nat)(w:bC):l.any (λc=>decide (c.getD i []=w))=fR l i w:=by
 unfold fR
 congr 1
 funext c
 rw[A8,gq,beq_iff_eq]
theorem M8 (g:gW)(hw:WtG (bZ g)):∀x:dE,Xr (bZ g) (cx x)=true→Qa (cx x)≤1000→eE prog 65 #[fG g,uP x] [eu g,bx x] (iv (pt (bZ g) (cx x))):=by
 intro x
 induction x using dE.ind
 rename_i x q
 intro i j;refine eE.pO (args:=[fG g,uP x]) 39 func65 rfl ntmps65 rfl (λc=> ?_);refine go ?_
 refine St.jQ (eu g) (λ_:Unit=>Gz g) (λρ h=>⟨(),h⟩) λ_=> ?_
 refine St.cast (H':=[aB (sl mw g.tv.1 g.types),aB (aF s6 g.types),aB (sl ga g.fv.1 g.cC),aB (sl cT g.rv.1 g.rules),aB (aF bz g.rules),aB (sl e7 g.xv.1 g.aN),aB (aF eR g.aN),aB (aG g.start),aB (eu g),aB (bx x)]) rfl ?_;refine St.Ew x ?_
 have a:cx x= .mk x.rule x.lex (x.kids.map cx):=lC x
 have b:=TX (bZ g) x.rule x.lex (x.kids.map cx)
 rw[←a]at b;rw[a,Xs]at i;rw[a,XJ]at j
 have s:(bZ g).rules.length=g.rules.length:=aO _
 have t:(bZ g).aN.length=g.aN.length:=aO _
 have u:=Ep (x.kids.map cx)
 rw[aO]at u;refine go ?_;refine St.dJ (.mk rfl) rfl (λv=> ?_);refine St.dJ (.mk rfl) rfl (λw=> ?_);refine g11 ?_;refine St.cq (λe=> ?_) (λe=> ?_)
 ·rw[aC e,rY,gq,gq,t]at i
  rw[aC e]at b;obtain⟨y,hy⟩:=aE (show x.lex.toNat<g.aN.length by omega)
  have m:((g.aN.map oe).map (·.weight))[x.lex.toNat]?=some y.weight:=by rw[bQ,bQ,hy];rfl
  rw[show(bZ g).aN=g.aN.map oe from rfl,m]at b;refine g6 ?_;refine St.ee (Ev.cE (k:=x.lex.toNat) (.mk rfl) (.mk rfl) IC nT (by omega) (by omega)) ?_;refine g7 ?_;refine St.rV [_] [] ?_;exact ie (by rw[b];rfl)
 ·rw[aA (Int.not_lt.2 e),rY,gq,s]at i
  rw[aA (Int.not_lt.2 e)]at b;obtain⟨y,hy⟩:=aE (show x.rule.toNat<g.rules.length by omega)
  have m:((g.rules.map lK).map (·.weight))[x.rule.toNat]?=some y.weight:=by rw[bQ,bQ,hy];rfl
  rw[show(bZ g).rules=g.rules.map lK from rfl,m]at b
  have A:0≤y.weight∧y.weight≤1000000:=hw.r (lK y) (eQ (aZ hy))
  have n:=Fo i.2
  refine g8 ?_;refine St.ee (Ev.cE (k:=x.rule.toNat) (.mk rfl) (.mk rfl) Pk kV (by omega) (by omega)) ?_;refine g15 ?_;refine St.slot 5 (iv (y.weight+jD (bZ g) ((x.kids.map cx).take 0))) rfl (congrArg iv (by rw[A9,jD,Int.add_zero])) ?_;refine St.lH (ι:=Nat) (λk T=>(28,iv k)::(5,iv (y.weight+jD (bZ g) ((x.kids.map cx).take k)))::T) (λk=>[aB (eu g),aB (bx x),aB (sl dB x.kv.1 x.kids),aB (aF bx x.kids),aB (sl cT g.rv.1 g.rules),aW v (.cells (jG g).toArray 32 (0,0)),aW w (.cells (Jl x).toArray 69 (0,0))]) (λk=>k≤x.kids.length) (λk=>x.kids.length-k) 0 (aD.cons 2 rfl (aD.cons 4 rfl (aD.cons 26 rfl (aD.cons 27 rfl aD.nil)))) (aP _) ?_;intro k hk
  have B:=zj hw ((x.kids.map cx).take k)
  have C:=LC (l:=x.kids.map cx) k
  refine g6 ?_;refine St.cq (λo=> ?_) (λo=> ?_)
  ·obtain⟨z,hz⟩:=aE (show k<x.kids.length by omega)
   have f:=aZ hz
   refine St.cL bx x.kids (x:=z) f ?_
   have d:(x.kids.map cx)[k]?=some (cx z):=by rw[bQ,hz];rfl
   have D:=I3 (g:=bZ g) d
   have E:=Er (aZ d)
   have p:=n (cx z) (aZ d)
   have F:=Je hw (cx z)
   refine g7 ?_;refine St.ee (Ev.js (.mk rfl) hz IE trivial pw j7.eq) ?_;refine St.al (λG=> ?_);refine g6 ?_;refine St.slot 33 (fG g) rfl rfl ?_;refine go ?_;refine St.slot 34 (uP z) rfl rfl ?_;refine St.ee (Ev.call (q z f p (by omega)) Zq (.aX rfl rfl)) ?_;refine go ?_;refine St.slot 36 (iv (y.weight+jD (bZ g) ((x.kids.map cx).take (k+1)))) rfl (congrArg iv (by rw[D,Int.add_assoc])) ?_;refine g9 ?_;refine St.aH (k+1) (by omega)
  ·obtain rfl:k=x.kids.length:=by omega
   rw[show(x.kids.map cx).take x.kids.length=x.kids.map cx from fZ (by rw[aO];exact aR _)];refine g12 ?_;refine St.rV [_] [] ?_;exact ie (by rw[b];rfl)
theorem AO (v0:Value)(us:List aV)(l:List (List bC))(j:us.length=l.length)(a:FuncId)(f:aI prog a)(caps:List Value)(ds:List du)(b:List bC→Bool)(g:∀(k:Nat) (u:aV) (c:List bC),us[k]?=some u→l[k]?=some c→eE prog a ([u.1]++caps).toArray ds (.bool (b c))):
 eE prog 72 #[v0,.func (.func a) #[] caps.toArray] (sl bN v0 us::ds) (iv (ix b l)):=by
 refine eE.CZ (args:=[v0,.func (.func a) #[] caps.toArray]) 19 func72 rfl ntmps72 rfl (λc=> ?_);refine go ?_;refine St.wf v0 (λm hlen=> ?_);refine g13 ?_;refine St.lS (ι:=Nat) (λk T=>(8,iv k)::T) (λk=>k≤l.length∧(l.take k).all (λy=> !b y)=true) (λk=>l.length-k) 0 (aD.cons 0 rfl (aD.cons 1 rfl (aD.cons 7 rfl aD.nil))) ⟨aP _,rfl⟩ ?_;intro k h;obtain⟨hk,d⟩:=h;refine g6 ?_;refine St.cq (λi=> ?_) (λi=> ?_)
 ·obtain⟨p,hp⟩:=aE (show k<l.length by omega)
  obtain⟨u,hu⟩:=aE (show k<us.length by omega);refine g17 ?_;refine St.ee (Ev.ei (g k u p hu hp) f (.mk rfl) (.ar rfl)) ?_;refine g2 ?_;refine St.cond _ rfl (λe=> ?_) (λe=> ?_)
  ·skip
   refine g12 ?_;refine St.DH [_] _ results72 ⟨rfl,trivial⟩ ?_ (λ_ hw=>hw);exact ie (tj d hp e).symm
  ·skip
   refine g8 ?_;refine St.GX (k+1) ⟨by omega,kr d hp (by simpa using e)⟩ (by first|omega|(dsimp only;omega)) (by repeat(first|exact Sub.nil|refine Sub.cons (by first|rfl|exact congrArg (λz=>some (iv z)) (by first|omega|(dsimp only;omega))|exact congrArg (λz=>some (Value.bool z)) (by first|assumption|exact ig (by assumption))) ?_)) (λ_ hw=>hw)
 ·refine g11 ?_
  refine St.DH [_] _ results72 ⟨rfl,trivial⟩ ?_ (λ_ hw=>hw);exact ie (xi d (by omega)).symm
theorem ud (v0:Value)(us:List aV)(l:List (List bC))(d:us.length=l.length)(a:FuncId)(e:aI prog a)(caps:List Value)(ds:List du)(b:List bC→Bool)(f:∀(k:Nat) (u:aV) (c:List bC),us[k]?=some u→l[k]?=some c→eE prog a ([u.1]++caps).toArray ds (.bool (b c))):
 eE prog 35 #[v0,.func (.func a) #[] caps.toArray] (sl bN v0 us::ds) (.bool (l.any b)):=by
 refine eE.CZ (args:=[v0,.func (.func a) #[] caps.toArray]) 9 func35 rfl ntmps35 rfl (λc=> ?_);refine g9 ?_;refine St.ee (Ev.call (AO v0 us l d a e caps ds b f) ahM (.aX rfl rfl)) ?_;refine g5 ?_;refine St.DH [_] _ results35 ⟨rfl,trivial⟩ ?_ (λ_ hw=>hw);exact be (qw _ _)
theorem CE (bi bw i:Nat)(w:bC)(us:List aV)(l:List (List bC))(k:Nat)(u:aV)(c:List bC)(hu:us[k]?=some u)(a:l[k]?=some c)(b:i<c.length):eE prog 36 ([u.1]++ [Value.pointer (some ⟨bi,0,none⟩),Value.pointer (some ⟨bw,0,none⟩)]).toArray [j8 bE us l,pe bi (iv (i:Nat)),pe bw (sv w)] (.bool (decide (c.getD i []=w))):=by
 refine eE.U2 (args:=[u.1]++ [Value.pointer (some ⟨bi,0,none⟩),Value.pointer (some ⟨bw,0,none⟩)]) 11 func36 rfl ntmps36 rfl (λe=> ?_);refine go ?_;refine St.j8 (vs:=us) k hu a ?_;obtain⟨x,hx⟩:=aE b
 have d:c.getD i []=x:=by rw[aw,hx];rfl
 refine g5 ?_;refine St.rq mixed (by kernel_rfl) (Mm.drawn _ _) ?_;refine g10 ?_;refine St.rV [_] [] ?_;exact be (by rw[d,A8];simp)
theorem Dl (g:gW)(v0:Value)(aL:List (List bC)):sk prog 15 #[fG g,v0] ([eu g,oI bE v0 aL,tz,u8].map aB) (λv H'=>∃a:aV,v= .tuple #[a.1,fv (rM (bZ g) aL).2]∧H'=[aB (oI bE a.1 (rM (bZ g) aL).1)]):=by
 refine sk.body (args:=[fG g,v0]) 60 func15 rfl ntmps15 rfl (λc C=> ?_);refine St.cast (H':=[aB (eu g),aB (oI bE v0 aL),aB (tz),aB (u8)]) rfl ?_;refine go ?_;refine St.nu v0 (λvs E=> ?_);refine St.FJ vs E (λF=> ?_);refine go ?_;refine St.dJ (.mk rfl) rfl (λU=> ?_);refine go ?_;refine St.al (λn=> ?_);refine g6 ?_;refine St.slot 15 (fG g) rfl rfl ?_;refine go ?_;refine St.ee (Ev.mO C (sO g v0 aL) Vp (.aX rfl rfl)) ?_;refine St.slot 17 (.agg #[iv (kL (bZ g) aL).1,iv (kL (bZ g) aL).2]) rfl rfl ?_;refine St.al (λV=> ?_);refine g10 ?_;refine St.cq (λf=> ?_) (λf=> ?_)
 ·have b:(rM (bZ g) aL)=([],(kL (bZ g) aL)):=by unfold rM;rw[aC f]
  refine go ?_;refine St.pA [n] mixed (λG H=> ?_);refine SW.gd 0 ?_;refine SW.gd 1 ?_;refine SW.t1 2 ?_;refine g3 ?_;refine SW.go ?_;refine SW.dn ?_;refine g3 ?_;refine St.D9 (Rr:=bE) ?_;refine St.L9 (Rr:=bE) (l:=[]) (.slice none 0 0) (vs:=[]) rfl ?_;refine St.rV [_,_] [aB (oI bE (.slice none 0 0) [])] ?_;exact⟨bT,by rw[b];rfl,by rw[b]⟩
 ·have q:=Cf.1 (show(kL (bZ g) aL).1=0 by omega)
  have b:(rM (bZ g) aL)=if(dy (bZ g) aL).2.1≠0 then([],(dy (bZ g) aL).2)else(rL (fR (dy (bZ g) aL).1) 0 aL,(0,0)):=by unfold rM;rw[aA (λh=>h (by omega))]
  refine g5 ?_;refine St.slot 23 (fG g) rfl rfl ?_;refine go ?_;refine St.mP C (vA g v0 aL q) Vq (.aX rfl rfl) rfl ?_;rintro v25 _ ⟨lv,rfl,rfl⟩;refine St.ao ?_;refine St.nu lv.1 (λus I=> ?_);refine g3 ?_;refine St.slot 27 (fv (dy (bZ g) aL).2) rfl rfl ?_;refine St.al (λW=> ?_);refine g12 ?_;refine St.cq (λr=> ?_) (λr=> ?_)
  ·rw[aC r]at b
   refine go ?_;refine St.pA [n] mixed (λG H=> ?_);refine SW.gd 0 ?_;refine SW.gd 1 ?_;refine SW.t1 2 ?_;refine g3 ?_;refine SW.go ?_;refine SW.dn ?_;refine g3 ?_;refine St.D9 (Rr:=bE) ?_;refine St.L9 (Rr:=bE) (l:=[]) (.slice none 0 0) (vs:=[]) rfl ?_;refine St.rV [_,_] [aB (oI bE (.slice none 0 0) [])] ?_;exact⟨bT,by rw[b];rfl,by rw[b]⟩
  ·rw[aA (λh=>h r)]at b
   have K:=(Ri (g:=bZ g) (s:=aL) (by omega))
   have L:=q.xV
   refine g16 ?_;refine St.dw 33 1 ?_;refine St.aM (.slice none 0 0) (show _=([]:List aV).length from rfl) (show _=rows bN []from rfl) ?_;refine St.Og bE ?_;refine St.cast (H':=_::_) (show aB (j8 bE [] [])::_=aB (j8 bE [] ((rL (fR (dy (bZ g) aL).1) 0 aL).take (0)))::_ from rfl) ?_;refine St.lH (ι:=Nat×aV×List aV) (λ⟨i,a,ws⟩ T=>(34,iv i)::(9,a.1)::T) (λ⟨i,a,ws⟩=>[row a.1 33 1 (ws).length (rows bN (ws)),aB (j8 bE ws ((rL (fR (dy (bZ g) aL).1) 0 aL).take (i))),aB (eu g),aB (oI bE v0 aL),aB (tz),aB (u8),aB (sl bN v0 vs),aB (j8 bE vs aL),aB (sl bN lv.1 us),aB (j8 bE us (dy (bZ g) aL).1),aW n (.cells [iv 0,iv 0].toArray 35 (0,0))]) (λ⟨i,a,ws⟩=>i≤aL.length∧ws.length=i) (λ⟨i,a,ws⟩=>aL.length-i) ⟨0,bT,[]⟩ (aD.cons 4 rfl (aD.cons 5 rfl (aD.cons 7 rfl (aD.cons 32 rfl (aD.cons 33 rfl aD.nil))))) ⟨aP _,rfl⟩ ?_;rintro ⟨i,a,ws⟩ ⟨M,t⟩
   dsimp only at M t⊢
   refine g6 ?_;refine St.cq (λx=> ?_) (λx=> ?_)
   ·obtain⟨s,o⟩:=aE (show i<aL.length by omega)
    obtain⟨u,hu⟩:=aE (show i<vs.length by omega);refine St.j8 (vs:=vs) i hu o ?_
    have N:=(q.aL s (aZ o)).xV
    have j:=Cn (p:=fR (dy (bZ g) aL).1) (i:=0) o
    rw[iW]at j;refine g9 ?_;refine St.al (λm=> ?_);refine St.cI (.mk rfl) (.mk rfl) dK rfl (by rfl) ?_;refine g17 ?_;refine St.FK m ?_;refine St.dw 9 1 ?_;refine St.aM (.slice none 0 0) (show _=((s.take (0)).filter (fR (dy (bZ g) aL).1 i)).length from rfl) (show _=rows bE ((s.take (0)).filter (fR (dy (bZ g) aL).1 i))from rfl) ?_;refine St.lH (ι:=Nat×aV) (λ⟨k,wv⟩ T=>(41,iv k)::(12,wv.1)::T) (λ⟨k,wv⟩=>[row wv.1 9 1 ((s.take (k)).filter (fR (dy (bZ g) aL).1 i)).length (rows bE ((s.take (k)).filter (fR (dy (bZ g) aL).1 i))),row a.1 33 1 (ws).length (rows bN (ws)),aB (j8 bE ws ((rL (fR (dy (bZ g) aL).1) 0 aL).take (i))),aB (sl bE u.1 s),aB (pe m (iv (i:Nat))),aB (eu g),aB (oI bE v0 aL),aB (tz),aB (u8),aB (sl bN v0 vs),aB (j8 bE vs aL),aB (sl bN lv.1 us),aB (j8 bE us (dy (bZ g) aL).1),aW n (.cells [iv 0,iv 0].toArray 35 (0,0))]) (λ⟨k,wv⟩=>k≤s.length) (λ⟨k,wv⟩=>s.length-k) ⟨0,bT⟩ (aD.cons 4 rfl (aD.cons 5 rfl (aD.cons 7 rfl (aD.cons 9 rfl (aD.cons 10 rfl (aD.cons 32 rfl (aD.cons 33 rfl (aD.cons 34 rfl (aD.cons 39 rfl (aD.cons 40 rfl aD.nil)))))))))) (aP _) ?_;rintro ⟨k,wv⟩ hk
    dsimp only at hk⊢
    have O:((s.take (k)).filter (fR (dy (bZ g) aL).1 i)).length≤5:=dW (G9 _ _) (by rw[eU];omega)
    refine g6 ?_;refine St.cq (λy=> ?_) (λy=> ?_)
    ·obtain⟨w,hw⟩:=aE (show k<s.length by omega)
     have e:((s.take (k+1)).filter (fR (dy (bZ g) aL).1 i))=((s.take (k)).filter (fR (dy (bZ g) aL).1 i))++if fR (dy (bZ g) aL).1 i w=true then [w]else []:=by rw[ag hw,List.filter_append,List.filter_cons,List.filter_nil]
     refine g8 ?_;refine St.al (λz=> ?_);refine St.cI (.mk rfl) (.mk rfl) Fj rfl (by rfl) ?_;refine g5 ?_;refine St.ee (Ev.func (.aX rfl rfl)) ?_;refine St.ee (Ev.wI (ud lv.1 us (dy (bZ g) aL).1 I 36 ahB [Value.pointer (some ⟨m,0,none⟩),Value.pointer (some ⟨z,0,none⟩)] [j8 bE us (dy (bZ g) aL).1,pe m (iv (i:Nat)),pe z (sv w)] (λc=>decide (c.getD i []=w)) (λk u c hu D=>CE m z i w us (dy (bZ g) aL).1 k u c hu D (by rw[K c (aZ D)];omega))) ahA (.aX rfl rfl) (dV.aB (dV.aB (dV.aB (dV.aW dV.nil))))) ?_;refine St.slot 47 (.bool (fR (dy (bZ g) aL).1 i w)) rfl (congrArg Value.bool (JF _ _ _)) ?_;refine g2 ?_;refine St.cond _ rfl (λd=> ?_) (λd=> ?_)
     ·skip
      rw[aC d]at e;refine g3 ?_;refine St.gV rfl (.ar rfl) lE Fj QO rfl rfl (by simp[Value.cells]) rfl rfl (λX=> ?_);refine St.aj (.mk rfl) (.mk rfl) lE Fj QO by9 (by simp[Value.oneCell',Value.cells]) (by omega) (by omega) rfl rfl rfl rfl (λv51 P=> ?_);refine St.aM v51 (show _=((s.take (k+1)).filter (fR (dy (bZ g) aL).1 i)).length by rw[e,bR];rfl) (show _=rows bE ((s.take (k+1)).filter (fR (dy (bZ g) aL).1 i)) by rw[e,ay];rfl) ?_;refine St.ba v51 (λQ _=> ?_);refine g9 ?_;refine St.aH ⟨k+1,⟨v51,Q⟩⟩ (by dsimp only;omega)
     ·skip
      rw[d,aA (by decide),gu]at e;refine St.aM wv.1 (show _=((s.take (k+1)).filter (fR (dy (bZ g) aL).1 i)).length by rw[e]) (show _=rows bE ((s.take (k+1)).filter (fR (dy (bZ g) aL).1 i)) by rw[e]) ?_;refine g8 ?_;refine St.aH ⟨k+1,wv⟩ (by dsimp only;omega)
    ·obtain rfl:k=s.length:=by omega
     rw[jY];refine St.bS wv.1 bE (s.filter (fR (dy (bZ g) aL).1 i)) rfl rfl (λw hw=>F s (aZ o) w (wj.1 hw).1) ?_;refine g8 ?_;refine St.gV rfl (.ar rfl) px xM QN rfl rfl (by simp[J.cells_one wv.2]) rfl rfl (λR=> ?_);refine St.aj (.mk rfl) (.mk rfl) px xM QN ZC (by simp[J.cells_one wv.2,wv.2]) (by omega) (by omega) rfl rfl rfl rfl (λA S=> ?_);refine St.aM A (show _=(ws++ [wv]).length by rw[bR];rfl) (show _=rows bN (ws++ [wv]) by rw[ay];simp[J.cells_one wv.2];rfl) ?_;refine St.ba A (λB _=> ?_);refine St.JP ws wv (show ws.length=((rL (fR (dy (bZ g) aL).1) 0 aL).take (i)).length by rw[eU,qK];omega) ?_;rw[←ag j];refine g9 ?_;refine St.aH ⟨i+1,⟨A,B⟩,ws++ [wv]⟩ ⟨by omega,by dsimp only;rw[bR,t];rfl⟩
   ·obtain rfl:i=aL.length:=by omega
    rw[show((rL (fR (dy (bZ g) aL).1) 0 aL).take (aL.length))=rL (fR (dy (bZ g) aL).1) 0 aL from fZ (Nat.le_of_eq (qK _ _ _))];refine St.bS a.1 bN ws rfl rfl (λ_ _=>trivial) ?_;refine St.L9 (Rr:=bE) (l:=rL (fR (dy (bZ g) aL).1) 0 aL) a.1 (by rw[qK];exact t) ?_;refine g8 ?_;refine St.ee (Ev.build (bH.nil) (λw=>ja w)) ?_;refine g5 ?_;refine St.rV [_,_] [aB (oI bE a.1 (rL (fR (dy (bZ g) aL).1) 0 aL))] ?_;exact⟨a,by rw[b];rfl,by rw[b]⟩
theorem K9 (g:gW)(v0:Value)(aL:List (List bC))(E:∀w∈(dy (bZ g) aL).1,∀t∈(lN (bZ g) w 1).1,Xr (bZ g) t=true∧Qa t≤1000):
 sk prog 31 #[fG g,v0] ([eu g,oI bE v0 aL,tz,u8].map aB) (λv H'=>∃wv:aV,v= .tuple #[.agg #[wv.1,iv (oN (qB (bZ g) aL).1)],.bool (qB (bZ g) aL).1.isSome,fv (qB (bZ g) aL).2]∧H'=[aB (sl bE wv.1 (oW (qB (bZ g) aL).1))]):=by
 refine sk.body (args:=[fG g,v0]) 76 func31 rfl ntmps31 rfl (λc n=> ?_);refine St.cast (H':=[aB (eu g),aB (oI bE v0 aL),aB (tz),aB (u8)]) rfl ?_;refine g2 ?_;refine St.dJ (.mk rfl) rfl (λF=> ?_);refine St.al (λp=> ?_);refine go ?_;refine St.al (λq=> ?_);refine g6 ?_;refine St.slot 17 (fG g) rfl rfl ?_;refine go ?_;refine St.ee (Ev.mO n (sO g v0 aL) Vp (.aX rfl rfl)) ?_;refine St.slot 19 (.agg #[iv (kL (bZ g) aL).1,iv (kL (bZ g) aL).2]) rfl rfl ?_;refine St.al (λQ=> ?_);refine g10 ?_;refine St.cq (λB=> ?_) (λB=> ?_)
 ·have f:(qB (bZ g) aL)=(none,(kL (bZ g) aL)):=by unfold qB;rw[aC B]
  refine go ?_;refine St.pA [p,q] mixed (λG H=> ?_);refine SW.dd 0 rfl (λ_=>Ev.build (ps:=[]) (bH.nil) (λw=>MW w)) ?_;refine SW.gd 1 ?_;refine SW.t1 2 ?_;refine g3 ?_;refine SW.go ?_;refine SW.gd 3 ?_;refine SW.t1 4 ?_;refine g3 ?_;refine SW.go ?_;refine SW.dn ?_;refine g3 ?_;refine St.fp bE ?_;refine St.rV [_,_,_] [aB (sl bE (.slice none 0 0) [])] ?_;exact⟨bT,by rw[f];rfl,by rw[f];rfl⟩
 ·have I:(kL (bZ g) aL).1=0:=by omega
  have C:=Cf.1 I
  have f:(qB (bZ g) aL)=if(dy (bZ g) aL).2.1≠0 then(none,(dy (bZ g) aL).2)else(bsF (bZ g) (dy (bZ g) aL).1,(0,0)):=by unfold qB;rw[aA (λh=>h (by omega))]
  have J:=Y6 (vE C.grm)
  refine g5 ?_;refine St.slot 26 (fG g) rfl rfl ?_;refine go ?_;refine St.mP n (vA g v0 aL C) Vq (.aX rfl rfl) rfl ?_;rintro v28 _ ⟨lv,rfl,rfl⟩;refine St.ao ?_;refine St.nu lv.1 (λus K=> ?_);refine St.wf lv.1 (λ_ R=> ?_);refine g3 ?_;refine St.slot 30 (fv (dy (bZ g) aL).2) rfl rfl ?_;refine St.al (λS=> ?_);refine g12 ?_;refine St.cq (λr=> ?_) (λr=> ?_)
  ·rw[aC r]at f
   refine go ?_;refine St.pA [p,q] mixed (λG H=> ?_);refine SW.dd 0 rfl (λ_=>Ev.build (ps:=[]) (bH.nil) (λw=>MW w)) ?_;refine SW.gd 1 ?_;refine SW.t1 2 ?_;refine g3 ?_;refine SW.go ?_;refine SW.gd 3 ?_;refine SW.t1 4 ?_;refine g3 ?_;refine SW.go ?_;refine SW.dn ?_;refine g3 ?_;refine St.fp bE ?_;refine St.rV [_,_,_] [aB (sl bE (.slice none 0 0) [])] ?_;exact⟨bT,by rw[f];rfl,by rw[f];rfl⟩
  ·rw[aA (λh=>h r)]at f
   refine g4 ?_;refine St.al (λs=> ?_);refine g16 ?_;refine St.fp bE ?_;refine St.cast (H':=_::_) (show aB (sl bE (.slice none 0 0) [])::_=aB (sl bE bT.1 (oW none))::_ from rfl) ?_;refine St.mN s (L':=[bT.1,iv (oN none)]) rfl ?_;refine St.lH (ι:=Nat×aV×Option (List bC×Int)) (λ⟨k,wv,o⟩ T=>(38,iv k)::(11,.bool o.isSome)::T) (λ⟨k,wv,o⟩=>[aW s (.cells [wv.1,iv (oN o)].toArray 77 (0,0)),aB (sl bE wv.1 (oW o)),aW F (.cells (jG g).toArray 32 (0,0)),aB (eu g),aB (tz),aB (u8),aB (sl bN lv.1 us),aB (j8 bE us (dy (bZ g) aL).1),aW p (.cells [(.slice none 0 0),iv 0].toArray 77 (0,0)),aW q (.cells [iv 0,iv 0].toArray 35 (0,0))]) (λ⟨k,wv,o⟩=>k≤us.length∧((dy (bZ g) aL).1.take k).foldl (zf (bZ g)) none=o) (λ⟨k,wv,o⟩=>us.length-k) ⟨0,bT,none⟩ (aD.cons 2 rfl (aD.cons 4 rfl (aD.cons 5 rfl (aD.cons 6 rfl (aD.cons 10 rfl (aD.cons 36 rfl (aD.cons 37 rfl aD.nil))))))) ⟨aP _,rfl⟩ ?_;rintro ⟨k,wv,o⟩ ⟨hk,m⟩
   dsimp only at hk m⊢
   refine g6 ?_;refine St.cq (λL=> ?_) (λL=> ?_)
   ·obtain⟨u,hu⟩:=aE (show k<us.length by omega)
    obtain⟨w,hw⟩:=aE (show k<(dy (bZ g) aL).1.length by omega);refine St.j8 (vs:=us) k hu hw ?_
    have i:=Ke (g:=bZ g) hw
    rw[m]at i
    have M:=E w (aZ hw)
    refine g14 ?_;refine St.slot 43 (fG g) rfl rfl ?_;refine go ?_;refine St.mP n (KQ g u.1 w 1) ag3 (.ek rfl rfl rfl) rfl ?_;rintro v45 _ ⟨tv,outs,rfl,D,rfl⟩;refine St.dQ ?_;refine g3 ?_;refine St.slot 47 (fv (lN (bZ g) w 1).2) rfl rfl ?_;refine St.al (λU=> ?_);refine g11 ?_;refine St.gf _ rfl rfl (λd=>Ev.move (.mk rfl)) rfl ?_;refine St.gf _ rfl rfl (λd=>Ev.fc (ah.gv rfl d) zy) rfl ?_;refine St.gf _ rfl rfl (λd=>Ev.eql (ah.gv rfl d) (.mk rfl)) rfl ?_;refine g3 ?_;refine St.cond _ rfl (λj=> ?_) (λj=> ?_)
    ·skip
     have N:(lN (bZ g) w 1).1=[]:=by rcases Bool.or_eq_true_iff.1 j with h|h;exact KU (by simpa using h);rw[←D,lG (show outs.length=0 by have:=fJ h;omega)];rfl
     rw[TU N]at i;refine g9 ?_;refine St.aH ⟨k+1,wv,o⟩ ⟨by omega,i⟩
    ·skip
     have O:¬(outs.length:Int)=0:=iX (Bool.or_eq_false_iff.1 j).2
     obtain⟨t,ht⟩:=aE (show 0<outs.length by omega)
     obtain⟨rs,y⟩:∃rs,(lN (bZ g) w 1).1=cx t::rs:=by rw[←D];cases outs with|nil=>cases ht|cons a b=>obtain rfl:=Option.some.inj ht;exact⟨_,rfl⟩
     obtain⟨z,A⟩:=M (cx t) (by rw[y];exact aQ ..)
     have P:=aZ ht
     refine St.cL bx outs (x:=t) P ?_;refine g3 ?_;refine St.rq mixed (by kernel_rfl) (Mm.drawn _ _) ?_;refine go ?_;refine Sq.slot 56 (fG g) rfl rfl ?_;refine go ?_;refine Sq.ee (Ev.cE (k:=0) (.mk rfl) (.mk rfl) zy pw rfl (by omega)) ?_;refine Sq.ee (Ev.js (.mk rfl) ht IE trivial pw j7.eq) ?_;refine Sq.slot 59 (uP t) rfl rfl ?_;refine Sq.ee (Ev.call (M8 g J t z A) Zq (.aX rfl rfl)) ?_;refine g8 ?_;refine St.gf _ rfl rfl (λd=>Ev.move (.mk rfl)) rfl ?_;refine St.gf _ rfl rfl (λd=>Ev.da (.mk rfl) NB) rfl ?_;refine St.gf _ rfl rfl (λd=>Ev.ke (ah.gv rfl d) gD trivial (by rfl)) rfl ?_;refine St.gf _ rfl rfl (λd=>Ev.lss (ah.gv rfl d) (ah.gv rfl d)) rfl ?_;refine g3 ?_;refine St.cond _ rfl (λe=> ?_) (λe=> ?_)
     ·skip
      rw[TT y (show o.isSome=false∨pt (bZ g) (cx t)<oN o by rcases Bool.or_eq_true_iff.1 e with h|h;exact .inl (by simpa using h);exact .inr (by simpa using h))]at i;refine g3 ?_;refine St.ee (Ev.build (bH.aX rfl rfl) (λw=>KS u.2 rfl w)) ?_;refine g10 ?_;refine St.mN s (L':=[u.1,iv (oN (some (w,pt (bZ g) (cx t))))]) rfl ?_;refine St.ea (sl bE u.1 (oW (some (w,pt (bZ g) (cx t))))) [sl bE u.1 w] (λρ h=>h _ (aQ ..)) ?_;refine St.aH ⟨k+1,u,some (w,pt (bZ g) (cx t))⟩ ⟨by omega,i⟩
     ·skip
      rw[TV y (by simpa using (Bool.or_eq_false_iff.1 e).1) (by simpa using (Bool.or_eq_false_iff.1 e).2)]at i;refine g8 ?_;refine St.aH ⟨k+1,wv,o⟩ ⟨by omega,i⟩
   ·obtain rfl:k=us.length:=by omega
    rw[K,jY]at m
    have l:(qB (bZ g) aL)=(o,(0,0)):=by rw[f];unfold bsF;rw[m]
    refine g9 ?_;refine St.ee (Ev.build (bH.nil) (λw=>ja w)) ?_;refine g6 ?_;refine St.rV [_,_,_] [aB (sl bE wv.1 (oW o))] ?_;exact⟨wv,by rw[l];rfl,by rw[l]⟩
abbrev e0:il:= .mk sE []
abbrev t0:il:= .mk sT []
abbrev an (a b:il):il:= .mk [] [a,b]
abbrev aY (i:Int):jL:= .mk 2 [] i S0 []
abbrev aK (a b:jL):jL:= .mk 4 [] 0 S0 [a,b]
abbrev bB (s:il)(t:jL):jL:= .mk 3 [] 0 s [t]
abbrev bV (n:bC)(s:il):jL:= .mk 1 n 0 s []
abbrev p0:il:=an e0 t0
abbrev aeV (q c:bC):jL:=aK (bV q (an p0 t0)) (bB e0 (aK (aK (bV c (an t0 (an t0 t0))) (aK (aY 2) (aY 0))) (aK (aY 1) (aY 0))))
abbrev alD:bC:=[110,111,116]
def mZ (q c:bC)(no:Bool):jL:=bB p0 (bB p0 (if no then aK (bV alD (an t0 t0)) (aeV q c)else aeV q c))
theorem lO (q cc:bC)(no:Bool)(h:nB q)(i:nB cc):dz prog 60 #[sv q,sv cc,.bool no] ([].map aB) (λv H'=>H'=[aB (isTerm (mZ q cc no) v)]):=by
 refine dz.body (args:=[sv q,sv cc,.bool no]) 51 func60 rfl ntmps60 rfl (λc=> ?_);refine St.cast (H':=[]) rfl ?_;refine g2 ?_;refine St.al (λU=> ?_);refine g4 ?_;refine St.ae (mD [101] (by decide)) KX (.ar rfl) rfl ?_;rintro v11 _ rfl;refine St.ao ?_;refine St.db e0 v11 (λg z=> ?_);obtain⟨A,B,C⟩:=z;subst A;refine St.ae (mD [116] (by decide)) KX (.ar rfl) rfl ?_;rintro v12 _ rfl;refine St.ao ?_;refine St.db t0 v12 (λb D=> ?_);obtain⟨E,F,G⟩:=D;subst E;refine St.al (λV=> ?_);refine St.al (λW=> ?_);refine g8 ?_;refine St.ae (fF (aU g) (aU b) e0 t0) qH (.aX rfl rfl) rfl ?_;rintro j _ rfl;refine St.ao ?_;refine St.db p0 j (λd k=> ?_);obtain⟨H,I,J⟩:=k;subst H;refine St.al (λX=> ?_);refine g4 ?_;refine St.agZ 23 24 16 [10] (⟨16,[],λu=>cU u ((sv q))⟩::⟨17,[],λu=>cU u ((aU d))⟩::⟨18,[],λu=>cU u ((aU b))⟩::⟨19,[1,2],λu=>db (an p0 t0) u⟩::⟨20,[0,3],λu=>isTerm (bV q (an p0 t0)) u⟩::⟨21,[],λu=>cU u ((aU g))⟩::⟨22,[],λu=>cU u ((sv cc))⟩::⟨23,[],λu=>cU u ((aU b))⟩::⟨24,[],λu=>cU u ((aU b))⟩::⟨25,[],λu=>cU u ((aU b))⟩::⟨26,[8,9],λu=>db (an t0 t0) u⟩::⟨27,[7,10],λu=>db (an t0 (an t0 t0)) u⟩::⟨28,[6,11],λu=>isTerm (bV cc (an t0 (an t0 t0))) u⟩::⟨29,[],λu=>isTerm (aY 2) u⟩::⟨30,[],λu=>isTerm (aY 0) u⟩::⟨31,[13,14],λu=>isTerm (aK (aY 2) (aY 0)) u⟩::⟨32,[12,15],λu=>isTerm (aK (bV cc (an t0 (an t0 t0))) (aK (aY 2) (aY 0))) u⟩::⟨33,[],λu=>isTerm (aY 1) u⟩::⟨34,[],λu=>isTerm (aY 0) u⟩::⟨35,[17,18],λu=>isTerm (aK (aY 1) (aY 0)) u⟩::⟨36,[16,19],λu=>isTerm (aK (aK (bV cc (an t0 (an t0 t0))) (aK (aY 2) (aY 0))) (aK (aY 1) (aY 0))) u⟩::⟨37,[5,20],λu=>isTerm (bB e0 (aK (aK (bV cc (an t0 (an t0 t0))) (aK (aY 2) (aY 0))) (aK (aY 1) (aY 0)))) u⟩::⟨38,[4,21],λu=>isTerm (aK (bV q (an p0 t0)) (bB e0 (aK (aK (bV cc (an t0 (an t0 t0))) (aK (aY 2) (aY 0))) (aK (aY 1) (aY 0))))) u⟩::⟨10,[],λu=>cU u u⟩::[]) ((16,[])::(17,[])::(18,[])::(19,[1,2])::(20,[0,3])::(21,[])::(22,[])::(23,[])::(24,[])::(25,[])::(26,[8,9])::(27,[7,10])::(28,[6,11])::(29,[])::(30,[])::(31,[13,14])::(32,[12,15])::(33,[])::(34,[])::(35,[17,18])::(36,[16,19])::(37,[5,20])::(38,[4,21])::(10,[])::[]) [23,22] rfl rfl A3 rfl (by kernel_rfl) rfl rfl mixed (by kernel_rfl) (by kernel_rfl) (by rfl) (λe=>[(10,e 23),(38,e 22)]) (λe=>[aB (cU (e 23) (e 23)),aB (isTerm (aK (bV q (an p0 t0)) (bB e0 (aK (aK (bV cc (an t0 (an t0 t0))) (aK (aY 2) (aY 0))) (aK (aY 1) (aY 0))))) (e 22))]) (λ_=>rfl) (λ_=>rfl) ?_ (λe l m=> ?_)
 ·refine ab.c0 (λc e a=> ?_) ?_
  ·refine St.aK ?_
   refine go ?_;refine St.fact (cU ((sv q)) ((sv q))) (λ_ _ _=>rfl) ?_;exact St.bg _
  refine ab.c0 (λc e a=> ?_) ?_
  ·refine St.aK ?_
   refine go ?_;refine St.fact (cU ((aU d)) ((aU d))) (λ_ _ _=>rfl) ?_;exact St.bg _
  refine ab.c0 (λc e a=> ?_) ?_
  ·refine St.aK ?_
   refine go ?_;refine St.fact (cU ((aU b)) ((aU b))) (λ_ _ _=>rfl) ?_;exact St.bg _
  refine ab.cc (λe=>[(17,e 1),(18,e 2)]) (λe=>[aB (cU (e 1) ((aU d))),aB (cU (e 2) ((aU b)))]) (λc e a=> ?_) ?_
  ·refine St.dQ ?_
   refine St.bX (P:=prog) 17 (e 1) ((aU d)) rfl ?_;refine St.bX (P:=prog) 18 (e 2) ((aU b)) rfl ?_;refine St.ae (fF (aU d) (aU b) p0 t0) qH (.aX rfl rfl) rfl ?_;rintro K _ rfl;refine St.ao ?_;exact St.bg _
  refine ab.cc (λe=>[(16,e 0),(19,e 3)]) (λe=>[aB (cU (e 0) ((sv q))),aB (db (an p0 t0) (e 3))]) (λc e a=> ?_) ?_
  ·refine St.dQ ?_
   refine St.bX (P:=prog) 16 (e 0) ((sv q)) rfl ?_;refine St.ae (eL q h (e 3) (an p0 t0)) nh (.aX rfl rfl) rfl ?_;rintro v20 _ rfl;refine St.ao ?_;exact St.bg _
  refine ab.c0 (λc e a=> ?_) ?_
  ·refine St.aK ?_
   refine go ?_;refine St.fact (cU ((aU g)) ((aU g))) (λ_ _ _=>rfl) ?_;exact St.bg _
  refine ab.c0 (λc e a=> ?_) ?_
  ·refine St.aK ?_
   refine go ?_;refine St.fact (cU ((sv cc)) ((sv cc))) (λ_ _ _=>rfl) ?_;exact St.bg _
  refine ab.c0 (λc e a=> ?_) ?_
  ·refine St.aK ?_
   refine go ?_;refine St.fact (cU ((aU b)) ((aU b))) (λ_ _ _=>rfl) ?_;exact St.bg _
  refine ab.c0 (λc e a=> ?_) ?_
  ·refine St.aK ?_
   refine go ?_;refine St.fact (cU ((aU b)) ((aU b))) (λ_ _ _=>rfl) ?_;exact St.bg _
  refine ab.c0 (λc e a=> ?_) ?_
  ·refine St.aK ?_
   refine go ?_;refine St.fact (cU ((aU b)) ((aU b))) (λ_ _ _=>rfl) ?_;exact St.bg _
  refine ab.cc (λe=>[(24,e 8),(25,e 9)]) (λe=>[aB (cU (e 8) ((aU b))),aB (cU (e 9) ((aU b)))]) (λc e a=> ?_) ?_
  ·refine St.dQ ?_
   refine St.bX (P:=prog) 24 (e 8) ((aU b)) rfl ?_;refine St.bX (P:=prog) 25 (e 9) ((aU b)) rfl ?_;refine St.ae (fF (aU b) (aU b) t0 t0) qH (.aX rfl rfl) rfl ?_;rintro v26 _ rfl;refine St.ao ?_;exact St.bg _
  refine ab.cc (λe=>[(23,e 7),(26,e 10)]) (λe=>[aB (cU (e 7) ((aU b))),aB (db (an t0 t0) (e 10))]) (λc e a=> ?_) ?_
  ·refine St.dQ ?_
   refine St.bX (P:=prog) 23 (e 7) ((aU b)) rfl ?_;refine St.ae (fF (aU b) (e 10) t0 (an t0 t0)) qH (.aX rfl rfl) rfl ?_;rintro v27 _ rfl;refine St.ao ?_;exact St.bg _
  refine ab.cc (λe=>[(22,e 6),(27,e 11)]) (λe=>[aB (cU (e 6) ((sv cc))),aB (db (an t0 (an t0 t0)) (e 11))]) (λc e a=> ?_) ?_
  ·refine St.dQ ?_
   refine St.bX (P:=prog) 22 (e 6) ((sv cc)) rfl ?_;refine St.ae (eL cc i (e 11) (an t0 (an t0 t0))) nh (.aX rfl rfl) rfl ?_;rintro v28 _ rfl;refine St.ao ?_;exact St.bg _
  refine ab.c0 (λc e a=> ?_) ?_
  ·refine St.aK ?_
   refine St.ae (cg 2 (by unfold aa;decide)) mR (.ar rfl) rfl ?_;rintro L _ rfl;refine St.ao ?_;exact St.bg _
  refine ab.c0 (λc e a=> ?_) ?_
  ·refine St.aK ?_
   refine St.ae (cg 0 (by unfold aa;decide)) mR (.ar rfl) rfl ?_;rintro v30 _ rfl;refine St.ao ?_;exact St.bg _
  refine ab.cc (λe=>[(29,e 13),(30,e 14)]) (λe=>[aB (isTerm (aY 2) (e 13)),aB (isTerm (aY 0) (e 14))]) (λc e a=> ?_) ?_
  ·refine St.dQ ?_
   refine St.ae (eh (e 13) (e 14) (aY 2) (aY 0)) ow (.aX rfl rfl) rfl ?_;rintro v31 _ rfl;refine St.ao ?_;exact St.bg _
  refine ab.cc (λe=>[(28,e 12),(31,e 15)]) (λe=>[aB (isTerm (bV cc (an t0 (an t0 t0))) (e 12)),aB (isTerm (aK (aY 2) (aY 0)) (e 15))]) (λc e a=> ?_) ?_
  ·refine St.dQ ?_
   refine St.ae (eh (e 12) (e 15) (bV cc (an t0 (an t0 t0))) (aK (aY 2) (aY 0))) ow (.aX rfl rfl) rfl ?_;rintro v32 _ rfl;refine St.ao ?_;exact St.bg _
  refine ab.c0 (λc e a=> ?_) ?_
  ·refine St.aK ?_
   refine St.ae (cg 1 (by unfold aa;decide)) mR (.ar rfl) rfl ?_;rintro v33 _ rfl;refine St.ao ?_;exact St.bg _
  refine ab.c0 (λc e a=> ?_) ?_
  ·refine St.aK ?_
   refine St.ae (cg 0 (by unfold aa;decide)) mR (.ar rfl) rfl ?_;rintro M _ rfl;refine St.ao ?_;exact St.bg _
  refine ab.cc (λe=>[(33,e 17),(34,e 18)]) (λe=>[aB (isTerm (aY 1) (e 17)),aB (isTerm (aY 0) (e 18))]) (λc e a=> ?_) ?_
  ·refine St.dQ ?_
   refine St.ae (eh (e 17) (e 18) (aY 1) (aY 0)) ow (.aX rfl rfl) rfl ?_;rintro v35 _ rfl;refine St.ao ?_;exact St.bg _
  refine ab.cc (λe=>[(32,e 16),(35,e 19)]) (λe=>[aB (isTerm (aK (bV cc (an t0 (an t0 t0))) (aK (aY 2) (aY 0))) (e 16)),aB (isTerm (aK (aY 1) (aY 0)) (e 19))]) (λc e a=> ?_) ?_
  ·refine St.dQ ?_
   refine St.ae (eh (e 16) (e 19) (aK (bV cc (an t0 (an t0 t0))) (aK (aY 2) (aY 0))) (aK (aY 1) (aY 0))) ow (.aX rfl rfl) rfl ?_;rintro v36 _ rfl;refine St.ao ?_;exact St.bg _
  refine ab.cc (λe=>[(21,e 5),(36,e 20)]) (λe=>[aB (cU (e 5) ((aU g))),aB (isTerm (aK (aK (bV cc (an t0 (an t0 t0))) (aK (aY 2) (aY 0))) (aK (aY 1) (aY 0))) (e 20))]) (λc e a=> ?_) ?_
  ·refine St.dQ ?_
   refine St.bX (P:=prog) 21 (e 5) ((aU g)) rfl ?_;refine St.ae (eA (aU g) (e 20) e0 (aK (aK (bV cc (an t0 (an t0 t0))) (aK (aY 2) (aY 0))) (aK (aY 1) (aY 0)))) mQ (.aX rfl rfl) rfl ?_;rintro v37 _ rfl;refine St.ao ?_;exact St.bg _
  refine ab.cc (λe=>[(20,e 4),(37,e 21)]) (λe=>[aB (isTerm (bV q (an p0 t0)) (e 4)),aB (isTerm (bB e0 (aK (aK (bV cc (an t0 (an t0 t0))) (aK (aY 2) (aY 0))) (aK (aY 1) (aY 0)))) (e 21))]) (λc e a=> ?_) ?_
  ·refine St.dQ ?_
   refine St.ae (eh (e 4) (e 21) (bV q (an p0 t0)) (bB e0 (aK (aK (bV cc (an t0 (an t0 t0))) (aK (aY 2) (aY 0))) (aK (aY 1) (aY 0))))) ow (.aX rfl rfl) rfl ?_;rintro v38 _ rfl;refine St.ao ?_;exact St.bg _
  refine ab.c0 (λc e a=> ?_) ?_
  ·refine St.aK ?_
   refine St.al (λl=> ?_);refine St.fact (cU (.pointer (some ⟨l,0,none⟩)) (.pointer (some ⟨l,0,none⟩))) (λ_ _ _=>rfl) ?_;exact St.bg _
  exact ab.nil
 refine St.dQ ?_;refine St.slot 10 _ rfl m ?_;refine St.isTerm (aK (bV q (an p0 t0)) (bB e0 (aK (aK (bV cc (an t0 (an t0 t0))) (aK (aY 2) (aY 0))) (aK (aY 1) (aY 0))))) (e 22) (λf N=> ?_);obtain⟨n,O,Q⟩:=N;rw[n];refine g9 ?_;refine St.cond _ rfl (λo=> ?_) (λo=> ?_)
 ·skip
  refine St.U1 6 40 [] (⟨40,[],λu=>cU u ((aU b))⟩::⟨41,[],λu=>cU u ((aU b))⟩::⟨42,[0,1],λu=>db (an t0 t0) u⟩::⟨43,[2],λu=>isTerm (bV [110,111,116] (an t0 t0)) u⟩::⟨44,[],λu=>cU u ((cN f))⟩::⟨45,[3,4],λu=>isTerm (aK (bV [110,111,116] (an t0 t0)) (aK (bV q (an p0 t0)) (bB e0 (aK (aK (bV cc (an t0 (an t0 t0))) (aK (aY 2) (aY 0))) (aK (aY 1) (aY 0)))))) u⟩::[]) ((40,[])::(41,[])::(42,[0,1])::(43,[2])::(44,[])::(45,[3,4])::[]) [5] rfl rfl mixed (by kernel_rfl) (by kernel_rfl) (by rfl) (λe=>[(45,e 5)]) (λe=>[aB (isTerm (aK (bV [110,111,116] (an t0 t0)) (aK (bV q (an p0 t0)) (bB e0 (aK (aK (bV cc (an t0 (an t0 t0))) (aK (aY 2) (aY 0))) (aK (aY 1) (aY 0)))))) (e 5))]) (λ_=>rfl) (λ_=>rfl) ?_ (λe=> ?_)
  ·refine ab.c0 (λc e a=> ?_) ?_
   ·refine St.aK ?_
    refine go ?_;refine St.fact (cU ((aU b)) ((aU b))) (λ_ _ _=>rfl) ?_;exact St.bg _
   refine ab.c0 (λc e a=> ?_) ?_
   ·refine St.aK ?_
    refine go ?_;refine St.fact (cU ((aU b)) ((aU b))) (λ_ _ _=>rfl) ?_;exact St.bg _
   refine ab.cc (λe=>[(40,e 0),(41,e 1)]) (λe=>[aB (cU (e 0) ((aU b))),aB (cU (e 1) ((aU b)))]) (λc e a=> ?_) ?_
   ·refine St.dQ ?_
    refine St.bX (P:=prog) 40 (e 0) ((aU b)) rfl ?_;refine St.bX (P:=prog) 41 (e 1) ((aU b)) rfl ?_;refine St.ae (fF (aU b) (aU b) t0 t0) qH (.aX rfl rfl) rfl ?_;rintro v42 _ rfl;refine St.ao ?_;exact St.bg _
   refine ab.cc (λe=>[(42,e 2)]) (λe=>[aB (db (an t0 t0) (e 2))]) (λc e a=> ?_) ?_
   ·refine St.ao ?_
    refine St.ae (eL [110,111,116] (by decide) (e 2) (an t0 t0)) nh (.aX rfl rfl) rfl ?_;rintro R _ rfl;refine St.ao ?_;exact St.bg _
   refine ab.c0 (λc e a=> ?_) ?_
   ·refine St.aK ?_
    refine go ?_;refine St.fact (cU ((cN f)) ((cN f))) (λ_ _ _=>rfl) ?_;exact St.bg _
   refine ab.cc (λe=>[(43,e 3),(44,e 4)]) (λe=>[aB (isTerm (bV [110,111,116] (an t0 t0)) (e 3)),aB (cU (e 4) ((cN f)))]) (λc e a=> ?_) ?_
   ·refine St.dQ ?_
    refine St.bX (P:=prog) 44 (e 4) ((cN f)) rfl ?_;refine St.ae (eh (e 3) (cN f) (bV [110,111,116] (an t0 t0)) (aK (bV q (an p0 t0)) (bB e0 (aK (aK (bV cc (an t0 (an t0 t0))) (aK (aY 2) (aY 0))) (aK (aY 1) (aY 0)))))) ow (.aX rfl rfl) rfl ?_;rintro v45 _ rfl;refine St.ao ?_;exact St.bg _
   exact ab.nil
  refine St.ao ?_;refine St.isTerm (aK (bV [110,111,116] (an t0 t0)) (aK (bV q (an p0 t0)) (bB e0 (aK (aK (bV cc (an t0 (an t0 t0))) (aK (aY 2) (aY 0))) (aK (aY 1) (aY 0)))))) (e 5) (λxn p=> ?_);obtain⟨r,S,T⟩:=p;rw[r];refine g4 ?_;refine St.U1 5 46 [] (⟨46,[],λu=>cU u ((aU d))⟩::⟨47,[],λu=>cU u ((aU d))⟩::⟨48,[],λu=>cU u ((cN xn))⟩::⟨49,[1,2],λu=>isTerm (bB p0 (aK (bV [110,111,116] (an t0 t0)) (aK (bV q (an p0 t0)) (bB e0 (aK (aK (bV cc (an t0 (an t0 t0))) (aK (aY 2) (aY 0))) (aK (aY 1) (aY 0))))))) u⟩::⟨50,[0,3],λu=>isTerm (bB p0 (bB p0 (aK (bV [110,111,116] (an t0 t0)) (aK (bV q (an p0 t0)) (bB e0 (aK (aK (bV cc (an t0 (an t0 t0))) (aK (aY 2) (aY 0))) (aK (aY 1) (aY 0)))))))) u⟩::[]) ((46,[])::(47,[])::(48,[])::(49,[1,2])::(50,[0,3])::[]) [4] rfl rfl mixed (by kernel_rfl) (by kernel_rfl) (by rfl) (λe=>[(50,e 4)]) (λe=>[aB (isTerm (bB p0 (bB p0 (aK (bV [110,111,116] (an t0 t0)) (aK (bV q (an p0 t0)) (bB e0 (aK (aK (bV cc (an t0 (an t0 t0))) (aK (aY 2) (aY 0))) (aK (aY 1) (aY 0)))))))) (e 4))]) (λ_=>rfl) (λ_=>rfl) ?_ (λe=> ?_)
  ·refine ab.c0 (λc e a=> ?_) ?_
   ·refine St.aK ?_
    refine go ?_;refine St.fact (cU ((aU d)) ((aU d))) (λ_ _ _=>rfl) ?_;exact St.bg _
   refine ab.c0 (λc e a=> ?_) ?_
   ·refine St.aK ?_
    refine go ?_;refine St.fact (cU ((aU d)) ((aU d))) (λ_ _ _=>rfl) ?_;exact St.bg _
   refine ab.c0 (λc e a=> ?_) ?_
   ·refine St.aK ?_
    refine go ?_;refine St.fact (cU ((cN xn)) ((cN xn))) (λ_ _ _=>rfl) ?_;exact St.bg _
   refine ab.cc (λe=>[(47,e 1),(48,e 2)]) (λe=>[aB (cU (e 1) ((aU d))),aB (cU (e 2) ((cN xn)))]) (λc e a=> ?_) ?_
   ·refine St.dQ ?_
    refine St.bX (P:=prog) 47 (e 1) ((aU d)) rfl ?_;refine St.bX (P:=prog) 48 (e 2) ((cN xn)) rfl ?_;refine St.ae (eA (aU d) (cN xn) p0 (aK (bV [110,111,116] (an t0 t0)) (aK (bV q (an p0 t0)) (bB e0 (aK (aK (bV cc (an t0 (an t0 t0))) (aK (aY 2) (aY 0))) (aK (aY 1) (aY 0))))))) mQ (.aX rfl rfl) rfl ?_;rintro v49 _ rfl;refine St.ao ?_;exact St.bg _
   refine ab.cc (λe=>[(46,e 0),(49,e 3)]) (λe=>[aB (cU (e 0) ((aU d))),aB (isTerm (bB p0 (aK (bV [110,111,116] (an t0 t0)) (aK (bV q (an p0 t0)) (bB e0 (aK (aK (bV cc (an t0 (an t0 t0))) (aK (aY 2) (aY 0))) (aK (aY 1) (aY 0))))))) (e 3))]) (λc e a=> ?_) ?_
   ·refine St.dQ ?_
    refine St.bX (P:=prog) 46 (e 0) ((aU d)) rfl ?_;refine St.ae (eA (aU d) (e 3) p0 (bB p0 (aK (bV [110,111,116] (an t0 t0)) (aK (bV q (an p0 t0)) (bB e0 (aK (aK (bV cc (an t0 (an t0 t0))) (aK (aY 2) (aY 0))) (aK (aY 1) (aY 0)))))))) mQ (.aX rfl rfl) rfl ?_;rintro v50 _ rfl;refine St.ao ?_;exact St.bg _
   exact ab.nil
  refine St.ao ?_;refine St.isTerm (bB p0 (bB p0 (aK (bV [110,111,116] (an t0 t0)) (aK (bV q (an p0 t0)) (bB e0 (aK (aK (bV cc (an t0 (an t0 t0))) (aK (aY 2) (aY 0))) (aK (aY 1) (aY 0)))))))) (e 4) (λs t=> ?_);obtain⟨w,x,y⟩:=t;rw[w];refine g4 ?_
  have h:(bB p0 (bB p0 (aK (bV [110,111,116] (an t0 t0)) (aK (bV q (an p0 t0)) (bB e0 (aK (aK (bV cc (an t0 (an t0 t0))) (aK (aY 2) (aY 0))) (aK (aY 1) (aY 0))))))))=mZ q cc no:=by rw[o];rfl
  rw[h];refine St.rV [_] [aB (isTerm (mZ q cc no) (cN s))] ?_;rfl
 ·skip
  refine g3 ?_;refine St.U1 5 46 [] (⟨46,[],λu=>cU u ((aU d))⟩::⟨47,[],λu=>cU u ((aU d))⟩::⟨48,[],λu=>cU u ((cN f))⟩::⟨49,[1,2],λu=>isTerm (bB p0 (aK (bV q (an p0 t0)) (bB e0 (aK (aK (bV cc (an t0 (an t0 t0))) (aK (aY 2) (aY 0))) (aK (aY 1) (aY 0)))))) u⟩::⟨50,[0,3],λu=>isTerm (bB p0 (bB p0 (aK (bV q (an p0 t0)) (bB e0 (aK (aK (bV cc (an t0 (an t0 t0))) (aK (aY 2) (aY 0))) (aK (aY 1) (aY 0))))))) u⟩::[]) ((46,[])::(47,[])::(48,[])::(49,[1,2])::(50,[0,3])::[]) [4] rfl rfl mixed (by kernel_rfl) (by kernel_rfl) (by rfl) (λe=>[(50,e 4)]) (λe=>[aB (isTerm (bB p0 (bB p0 (aK (bV q (an p0 t0)) (bB e0 (aK (aK (bV cc (an t0 (an t0 t0))) (aK (aY 2) (aY 0))) (aK (aY 1) (aY 0))))))) (e 4))]) (λ_=>rfl) (λ_=>rfl) ?_ (λe=> ?_)
  ·refine ab.c0 (λc e a=> ?_) ?_
   ·refine St.aK ?_
    refine go ?_;refine St.fact (cU ((aU d)) ((aU d))) (λ_ _ _=>rfl) ?_;exact St.bg _
   refine ab.c0 (λc e a=> ?_) ?_
   ·refine St.aK ?_
    refine go ?_;refine St.fact (cU ((aU d)) ((aU d))) (λ_ _ _=>rfl) ?_;exact St.bg _
   refine ab.c0 (λc e a=> ?_) ?_
   ·refine St.aK ?_
    refine go ?_;refine St.fact (cU ((cN f)) ((cN f))) (λ_ _ _=>rfl) ?_;exact St.bg _
   refine ab.cc (λe=>[(47,e 1),(48,e 2)]) (λe=>[aB (cU (e 1) ((aU d))),aB (cU (e 2) ((cN f)))]) (λc e a=> ?_) ?_
   ·refine St.dQ ?_
    refine St.bX (P:=prog) 47 (e 1) ((aU d)) rfl ?_;refine St.bX (P:=prog) 48 (e 2) ((cN f)) rfl ?_;refine St.ae (eA (aU d) (cN f) p0 (aK (bV q (an p0 t0)) (bB e0 (aK (aK (bV cc (an t0 (an t0 t0))) (aK (aY 2) (aY 0))) (aK (aY 1) (aY 0)))))) mQ (.aX rfl rfl) rfl ?_;rintro v49 _ rfl;refine St.ao ?_;exact St.bg _
   refine ab.cc (λe=>[(46,e 0),(49,e 3)]) (λe=>[aB (cU (e 0) ((aU d))),aB (isTerm (bB p0 (aK (bV q (an p0 t0)) (bB e0 (aK (aK (bV cc (an t0 (an t0 t0))) (aK (aY 2) (aY 0))) (aK (aY 1) (aY 0)))))) (e 3))]) (λc e a=> ?_) ?_
   ·refine St.dQ ?_
    refine St.bX (P:=prog) 46 (e 0) ((aU d)) rfl ?_;refine St.ae (eA (aU d) (e 3) p0 (bB p0 (aK (bV q (an p0 t0)) (bB e0 (aK (aK (bV cc (an t0 (an t0 t0))) (aK (aY 2) (aY 0))) (aK (aY 1) (aY 0))))))) mQ (.aX rfl rfl) rfl ?_;rintro v50 _ rfl;refine St.ao ?_;exact St.bg _
   exact ab.nil
  refine St.ao ?_;refine St.isTerm (bB p0 (bB p0 (aK (bV q (an p0 t0)) (bB e0 (aK (aK (bV cc (an t0 (an t0 t0))) (aK (aY 2) (aY 0))) (aK (aY 1) (aY 0))))))) (e 4) (λs t=> ?_);obtain⟨w,x,y⟩:=t;rw[w];refine g4 ?_
  have h:(bB p0 (bB p0 (aK (bV q (an p0 t0)) (bB e0 (aK (aK (bV cc (an t0 (an t0 t0))) (aK (aY 2) (aY 0))) (aK (aY 1) (aY 0)))))))=mZ q cc no:=by rw[o];rfl
  rw[h];refine St.rV [_] [aB (isTerm (mZ q cc no) (cN s))] ?_;rfl
end Go.Proofs.YtblifkgpebebmaaGreatDoor
