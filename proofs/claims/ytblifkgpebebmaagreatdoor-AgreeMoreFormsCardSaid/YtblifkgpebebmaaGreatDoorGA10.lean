/-
  Laws of walks through programs, and facts on grammars, trees and queries.
  Conditions: none.
-/
import Derived.Test.YtblifkgpebebmaaGreatDoorGA9
set_option maxHeartbeats 2000000
set_option maxRecDepth 20000
set_option linter.unusedVariables false
set_option linter.unusedSimpArgs false
namespace Go.Proofs.YtblifkgpebebmaaGreatDoor
open Go Go.J Tryz
theorem J7 {nt nf len:Nat}{Q:Qr}(b:qq nt nf Q)(g:nt≤250)(i:nf≤250){words:List bB}(c:1≤len):∀(m frm:Nat) (cs a:Cs),frm+m+len≤Q.n+1→nW nt nf Q.n len frm cs→gK Q words cs→Ab Q words len m frm cs=some a→nW nt nf Q.n len (frm+m) a∧gK Q words a
 |0,frm,cs,a,_,h,d,e=>by obtain rfl:=Option.some.inj e;exact⟨h,d⟩
 |m+1,frm,cs,a,hm,h,d,e=>by
  have e2:(if 300<(pJ Q words frm (frm+len) cs).its.length then none else Ab Q words len m (frm+1) (pJ Q words frm (frm+len) cs))=some a:=e
  by_cases f:300<(pJ Q words frm (frm+len) cs).its.length
  ·rw[aC f]at e2;cases e2
  ·rw[aA f]at e2
   have:=J7 b g i c m (frm+1) _ a (by omega) (FZ b c (by omega) h f) (Ja b g i c (by omega) h d) e2
   rw[show frm+(m+1)=frm+1+m by omega];exact this
theorem CM {nt nf:Nat}{Q:Qr}(c:qq nt nf Q)(d:nt≤250)(f:nf≤250){words:List bB}:∀(m len:Nat) (cs a:Cs),1≤len→len+m≤Q.n+1→nW nt nf Q.n len 0 cs→gK Q words cs→yG Q words m len cs=some a→nW nt nf Q.n (len+m) 0 a∧gK Q words a
 |0,len,cs,a,_,_,h,b,e=>by obtain rfl:=Option.some.inj e;exact⟨h,b⟩
 |m+1,len,cs,a,i,hm,h,b,e=>by
  have e2:((Ab Q words len (Q.n+1-len) 0 cs).bind λcs=>yG Q words m (len+1) cs)=some a:=e
  obtain⟨g,h1,j⟩:=pO.1 e2;obtain⟨k,a2⟩:=J7 c d f i _ 0 cs g (by omega) h b h1
  have:=CM c d f m (len+1) g a (by omega) (by omega) (JZ k) a2 j
  rw[show len+(m+1)=len+1+m by omega];exact this
theorem JY {cs:Cs}{tqo:Nat}:∀(l:List Nat) (a:Nat),kM cs tqo a l→∀k∈l,k<cs.its.length
 |k::l,a,h,q,b=>by
  rcases cH.1 b with rfl|b
  ·exact h.1
  ·exact JY l _ h.2.2 q b
def Qf (e:oh):Nat:=(e.tqo-e.frm)*4+e.cw
def R7 (e:oh):Nat:=8*(e.tqo-e.frm)-7+e.cw
theorem Y0 {cs:Cs}{e:oh}(c:∀k,k<cs.its.length→(cs.ed k).frm<(cs.ed k).tqo∧(cs.ed k).cw≤3):∀kids:List Nat,kM cs e.tqo e.frm kids→1≤kids.length→kids.length≤3→e.cw=Zw cs kids→
 (∀k∈kids,Qf (cs.ed k)<Qf e)∧(kids.map λk=>R7 (cs.ed k)).sum+1≤R7 e
 | [k],h,_,_,a=>by
  obtain⟨h1,g,d⟩:=h
  have d:(cs.ed k).tqo=e.tqo:=d
  have hk:=c k h1
  have a:e.cw=(cs.ed k).cw+1:=a
  unfold Qf R7;refine⟨λq b=> ?_,?_⟩
  ·rw[bO]at b;subst b;omega
  ·simp only[List.map_cons,List.map_nil,List.sum_cons,List.sum_nil];omega
 | [k,l],h,_,_,a=>by
  obtain⟨h1,g,d,j,f⟩:=h
  have f:(cs.ed l).tqo=e.tqo:=f
  have hk:=c k h1
  have n:=c l d
  have a:e.cw=0:=a
  unfold Qf R7;refine⟨λq b=> ?_,?_⟩
  ·simp only[List.mem_cons,List.not_mem_nil,or_false]at b
   rcases b with rfl|rfl<;>omega
  ·simp only[List.map_cons,List.map_nil,List.sum_cons,List.sum_nil];omega
 | [k,l,m],h,_,_,a=>by
  obtain⟨h1,g,d,j,f,o,i⟩:=h
  have i:(cs.ed m).tqo=e.tqo:=i
  have hk:=c k h1
  have n:=c l d
  have hm:=c m f
  have a:e.cw=0:=a
  unfold Qf R7;refine⟨λq b=> ?_,?_⟩
  ·simp only[List.mem_cons,List.not_mem_nil,or_false]at b
   rcases b with rfl|rfl|rfl<;>omega
  ·simp only[List.map_cons,List.map_nil,List.sum_cons,List.sum_nil];omega
 | [],_,h,_,_=>by cases h
 |_::_::_::_::_,_,_,h,_=>by simp only[List.length_cons]at h;omega
theorem zE (its:List lJ):(l7 its).Perm (List.range its.length):=jg _ _
theorem DB (its:List lJ):(l7 its).length=its.length:=by rw[(zE its).length_eq,jV]
theorem XN {its:List lJ}{i:Nat}(h:i∈l7 its):i<its.length:=dq.1 ((zE its).mem_iff.1 h)
theorem Xf {its:List lJ}{j:Nat}(h:j<its.length):∃i,i<its.length∧(gn its).getD j gh=⟨(its.getD i gh).ed,(its.getD i gh).cV.map λw=>⟨w.rule,w.lex,w.kids.map (pB (l7 its))⟩,(its.getD i gh).ba⟩:=by
 have a:j<(l7 its).length:=by rw[DB];exact h
 refine⟨(l7 its)[j],XN (gz a),?_⟩;unfold gn
 rw[aw,bQ,bU a];rfl
theorem Jc {its:List lJ}{k:Nat}(h:k<its.length):pB (l7 its) k<its.length∧((gn its).getD (pB (l7 its) k) gh).ed=(its.getD k gh).ed:=by
 have hm:k∈l7 its:=(zE its).mem_iff.2 (dq.2 h)
 have a:(l7 its).idxOf k<(l7 its).length:=List.idxOf_lt_length_of_mem hm
 refine⟨by unfold pB;rw[←DB its];exact a,?_⟩;unfold gn pB
 rw[aw,bQ,bU a,List.getElem_idxOf a];rfl
theorem yd {cs:Cs}{k:Nat}(h:k<cs.its.length):cs.its.getD k gh∈cs.its:=by rw[aw,bU h];exact gz h
theorem Jb (its:List lJ):(gn its).length=its.length:=by unfold gn;rw[aN,DB]
theorem VB {l:List Int}(h:∀x∈l,0≤x∧x≤1000000):∀x∈l,-1000000≤x∧x≤1000000:=λx hx=>by have:=h x hx;omega
theorem Xg {nt nf len frm:Nat}{Q:Qr}(A:qq nt nf Q){words:List bB}{cs:Cs}(h:nW nt nf Q.n len frm cs)(B:gK Q words cs)(hk:∀r∈Q.rules,1≤r.kids∧r.kids≤3){R X:List Int}(L:R.length=Q.rules.length)(M:X.length=Q.aL.length)(N:∀x∈R,0≤x∧x≤1000000)(C:∀x∈X,0≤x∧x≤1000000):
 o7 ⟨gn cs.its,R,X⟩:=by
 have U:=A.n
 have V:=A.rn
 have O:=A.xn
 have s:∀k,k<cs.its.length→(cs.ed k).frm<(cs.ed k).tqo∧(cs.ed k).tqo≤Q.n∧(cs.ed k).cw≤3:=λk m=>by
  obtain⟨P,a2,a3,_⟩:=h.ok.gr _ (yd m);exact⟨P,a2,a3⟩
 have o:∀e,e<(⟨gn cs.its,R,X⟩:cr).its.length→∃i,i<cs.its.length∧((⟨gn cs.its,R,X⟩:cr).its.getD e gh).ed=cs.ed i∧rM ⟨gn cs.its,R,X⟩ e=(cs.its.getD i gh).cV.length∧∀w,w<rM ⟨gn cs.its,R,X⟩ e→∃a∈(cs.its.getD i gh).cV,(⟨gn cs.its,R,X⟩:cr).fy e w=⟨a.rule,a.lex,a.kids.map (pB (l7 cs.its))⟩:=λe he=>by
  have he:e<(gn cs.its).length:=he
  rw[Jb]at he;obtain⟨i,b,c⟩:=Xf he;refine⟨i,b,by show((gn cs.its).getD e gh).ed=_;rw[c];rfl,by unfold rM;show((gn cs.its).getD e gh).cV.length=_;rw[c];exact aN _,λw hw=> ?_⟩
  have hw:w<((gn cs.its).getD e gh).cV.length:=hw
  rw[c]at hw
  have I:w<(cs.its.getD i gh).cV.length:=by rwa[show _=(cs.its.getD i gh).cV.length from aN _]at hw
  refine⟨_,gz I,?_⟩;unfold cr.fy
  show((gn cs.its).getD e gh).cV.getD w wy0=_
  rw[c]
  show((cs.its.getD i gh).cV.map _).getD w wy0=_
  rw[aw,bQ,bU I];rfl
 have g:∀e,l3 ⟨gn cs.its,R,X⟩ e=Qf (((⟨gn cs.its,R,X⟩:cr).its.getD e gh).ed):=λ_=>rfl
 have y:∀e,Dh ⟨gn cs.its,R,X⟩ e=R7 (((⟨gn cs.its,R,X⟩:cr).its.getD e gh).ed):=λ_=>rfl
 have J:∀k,k<cs.its.length→((⟨gn cs.its,R,X⟩:cr).its.getD (pB (l7 cs.its) k) gh).ed=cs.ed k:=λk m=>(Jc m).2
 refine⟨λe w he hw l=> ?_,λe w he hw l=> ?_,λe w he hw=> ?_,VB N,VB C,λe he=> ?_,λe he=> ?_,λe he=> ?_⟩
 ·obtain⟨i,b,f,_,d⟩:=o e he
  obtain⟨a,t,u⟩:=d w hw;rw[u]at l⊢
  have K:=s i b
  rcases B _ (yd b) a t with⟨p,D,S,E,j,c,z,_⟩|⟨j,c,p,_⟩
  ·refine⟨by show a.kids.map _=[];rw[D];rfl,by show a.lex<(X.length:Int);rw[z,M];omega,?_⟩
   rw[y,f];unfold R7;omega
  ·have l:a.rule<0:=l
   omega
 ·obtain⟨i,b,f,_,d⟩:=o e he
  obtain⟨a,t,u⟩:=d w hw;rw[u]at l⊢
  rcases B _ (yd b) a t with⟨p,_⟩|⟨j,c,p,D,S,E,z,_⟩
  ·have l:¬a.rule<0:=l
   omega
  ·have T:=hk _ (show Q.rules.getD j oQ∈Q.rules by rw[aw,bU c];exact gz c)
   have F:=JY _ _ E
   obtain⟨c1,c2⟩:=Y0 (e:=cs.ed i) (λk m=>⟨(s k m).1,(s k m).2.2⟩) a.kids E (by omega) (by omega) z;refine⟨by show a.rule<(R.length:Int);rw[p,L];omega,by show(a.kids.map _).length≤3;rw[aN];omega,λk G=> ?_,?_⟩
   ·obtain⟨q,v,rfl⟩:=cy.1 (show k∈a.kids.map (pB (l7 cs.its))from G)
    refine⟨by show _<(gn cs.its).length;rw[Jb];exact(Jc (F q v)).1,?_⟩;rw[g,g,f,J q (F q v)];exact c1 q v
   ·show((a.kids.map (pB (l7 cs.its))).map (Dh ⟨gn cs.its,R,X⟩)).sum+1≤_
    rw[y,f,kH,show a.kids.map (Dh ⟨gn cs.its,R,X⟩∘pB (l7 cs.its))=a.kids.map λk=>R7 (cs.ed k)from C1 λq v=>by show Dh _ _=_;rw[y,J q (F q v)]];exact c2
 ·obtain⟨i,b,f,_,d⟩:=o e he
  obtain⟨a,t,u⟩:=d w hw;rw[u]
  show-1≤a.rule∧a.rule≤1000∧0≤a.lex∧a.lex≤1000
  rcases B _ (yd b) a t with⟨p,_,_,_,j,c,z,_⟩|⟨j,c,p,D,_⟩<;>omega
 ·obtain⟨i,b,f,_⟩:=o e he
  have K:=s i b
  rw[y,f];unfold R7;omega
 ·obtain⟨i,b,f,_⟩:=o e he
  have K:=s i b
  rw[g,f];unfold Qf;omega
 ·obtain⟨i,b,_,H,_⟩:=o e he
  rw[H]
  have:=h.cV _ (yd b)
  unfold ve at this;omega
theorem WC {mt:Nat→Nat→Option Nat}{n:Nat}{start:dz}{its:List lJ}:∀e∈Gs mt n start its,e<its.length:=λe he=>dq.1 (List.mem_filter.1 he).1
theorem FF (g:gB)(words:List bB):(∀e∈(dS g words).1.2,e<(dS g words).1.1.length)∧(dS g words).1.2.length≤300:=by
 have a:=JN g words
 unfold dS at a⊢
 split
 ·exact⟨λe he=>(by cases he),aO _⟩
 ·rename_i h1
  rw[aA h1]at a
  split
  ·exact⟨λe he=>(by cases he),aO _⟩
  ·rename_i b
   rw[aA b]at a
   cases c:wo g words with
   |none=>exact⟨λe he=>(by cases he),aO _⟩
   |some its=>
    rw[c]at a
    have a:its.length≤300:=a
    refine⟨WC,?_⟩
    show(Gs (hC g.types) words.length g.start its).length≤300
    unfold Gs;exact dY (G7 _ _) (by rw[jV];exact a)
theorem Vi {g:gB}{words:List bB}{n:Int}(h:(jN g).1≠0):lL g words n=([],jN g):=by unfold lL;rw[aC h]
theorem Z2 {g:gB}{words:List bB}{n:Int}(h:¬(jN g).1≠0)(a:n<0∨200<n):lL g words n=([],(3,-3)):=by unfold lL;rw[aA h,aC a]
theorem Vk {g:gB}{words:List bB}{n:Int}(h:¬(jN g).1≠0)(a:¬(n<0∨200<n))(b:(dS g words).2.1≠0):lL g words n=([],(dS g words).2):=by unfold lL;rw[aA h,aA a,aC b]
theorem Vj {g:gB}{words:List bB}{n:Int}(h:¬(jN g).1≠0)(a:¬(n<0∨200<n))(b:¬(dS g words).2.1≠0):lL g words n=(tL (fh (YB g (dS g words).1.1) 60) (dS g words).1.2 n.toNat (List.replicate (dS g words).1.1.length nq) (List.replicate (dS g words).1.2.length 0) [],(0,0)):=by unfold lL;rw[aA h,aA a,aA b]
theorem XE {B:cr}(a:o7 B):jm B (List.replicate B.its.length nq):=by
 refine⟨kG,λe x hx=> ?_⟩
 have he:e<B.its.length:=by have:=(ez.1 hx).1;rwa[kG]at this
 obtain rfl:=wa (ae hx);refine⟨λk hk=>(by cases hk),λc b=>(by cases b),?_,λ_=>⟨rfl,rfl⟩,aO _⟩
 have:=a.ht e he
 show 0+l3 B e≤262
 omega
theorem JF (m:Nat):(List.replicate m tx).map fi=List.replicate m nq:=by rw[s9];rfl
theorem Fa (g:gb)(wv:Value)(words:List bB):uY prog 25 #[fV g,wv] ([fB g,sl bL wv words,tz,u8].map aB) (λv H'=>∃(pv e:aV),v= .tuple #[pv.1,e.1,fv (dS (ca g) words).2]∧((dS (ca g) words).2.1=0→∃(a b:Nat) (rv xv c:aV) (its:List dJ),pv.1= .pointer (some ⟨a,0,none⟩)∧its.map cE=(dS (ca g) words).1.1∧H'=aB (sl aI e.1 (bW (dS (ca g) words).1.2))::aB (fO a [rv.1,xv.1,c.1,.slice (some ⟨b,0,none⟩) its.length its.length])::aB (sl aI rv.1 (g.rules.map cZ.weight))::aB (sl aI xv.1 (g.aL.map eX.weight))::aB (sl eB c.1 its)::aB (aF cj its)::row (.slice (some ⟨b,0,none⟩) its.length its.length) 194 3 (List.replicate its.length tx).length (rows fM (List.replicate its.length tx))::bE (kK 71 196) (List.replicate its.length tx))):=
 (Hw g wv words).mono λv H' h=>by
  rcases h with⟨d,rfl,rfl⟩|⟨d,a,b,rv,xv,c,f,its,i,rfl,rfl⟩
  ·exact⟨⟨.pointer none,rfl⟩,bT,rfl,λh=>absurd h d⟩
  ·exact⟨⟨.pointer (some ⟨a,0,none⟩),rfl⟩,f,by rw[FH d],λ_=>⟨a,b,rv,xv,c,its,rfl,i,rfl⟩⟩
theorem GR (g:gb)(wv:Value)(words:List bB)(n:Int)(o:(dS (ca g) words).2.1=0→o7 (YB (ca g) (dS (ca g) words).1.1)):uY prog 10 #[fV g,wv,iv n] ([fB g,sl bL wv words,tz,u8].map aB) (λv H'=>∃(b:aV) (outs:List dE),v= .tuple #[b.1,fv (lL (ca g) words n).2]∧outs.map cx=(lL (ca g) words n).1∧H'=[aB (sl dC b.1 outs),aB (aF br outs)]):=by
 refine uY.body (args:=[fV g,wv,iv n]) 45 func10 rfl ntmps10 rfl (λc E=> ?_);refine St.cast (H':=[aB (fB g),aB (sl bL wv words),aB (tz),aB (u8)]) rfl ?_;refine g2 ?_;refine St.dK (.mk rfl) rfl (λZ=> ?_);refine St.Mc (.mk rfl) rfl rfl (λp=> ?_);refine go ?_;refine St.al (λq=> ?_);refine g6 ?_;refine St.slot 13 (fV g) rfl rfl ?_;refine St.ee (Ev.nF E (qJ g) Vr (.ar rfl)) ?_;refine St.slot 14 (.agg #[iv (jN (ca g)).1,iv (jN (ca g)).2]) rfl rfl ?_;refine St.al (λb8=> ?_);refine g10 ?_;refine St.cq (λF=> ?_) (λF=> ?_)
 ·have a:=Vi (words:=words) (n:=n) (show(jN (ca g)).1≠0 from F)
  refine go ?_;refine St.qS [q] mixed (λK M=> ?_);refine SW.gd 0 ?_;refine SW.gd 1 ?_;refine SW.t1 2 ?_;refine g3 ?_;refine SW.go ?_;refine SW.dn ?_;refine g3 ?_;refine St.fk dC ?_;refine St.dN br ?_;refine St.rV [_,_] [aB (sl dC (.slice none 0 0) []),aB (aF br [])] ?_;exact⟨bT,[],by rw[a];rfl,by rw[a];rfl,rfl⟩
 ·have r:¬(jN (ca g)).1≠0:=by omega
  refine g8 ?_;refine St.gf _ rfl rfl (λG=>Ev.kP (.mk rfl) gG trivial (by rfl)) rfl ?_;refine St.gf _ rfl rfl (λG=>Ev.gtr (ai.gv rfl G) (.mk rfl)) rfl ?_;refine g3 ?_;refine St.cq (λN=> ?_) (λN=> ?_)
  ·have a:=Z2 (words:=words) r (show n<0∨200<n from by omega)
   refine g2 ?_;refine St.ee (Ev.build (bH.aY rfl rfl) (λw=>gj rfl rfl w)) ?_;refine g6 ?_;refine St.fk dC ?_;refine St.dN br ?_;refine St.rV [_,_] [aB (sl dC (.slice none 0 0) []),aB (aF br [])] ?_;exact⟨bT,[],by rw[a];rfl,by rw[a];rfl,rfl⟩
  ·have H:¬(n<0∨200<n):=by omega
   refine g5 ?_;refine St.slot 27 (fV g) rfl rfl ?_;refine go ?_;refine St.nb E (Fa g wv words) ag5 (.aY rfl rfl) rfl ?_;rintro O H2 ⟨pv,I,rfl,P⟩;refine St.perm jX ?_;refine St.afO ?_;refine g4 ?_;refine St.slot 32 (fv (dS (ca g) words).2) rfl rfl ?_;refine St.al (λYA=> ?_);refine g13 ?_;refine St.cq (λj=> ?_) (λj=> ?_)
   ·have a:=Vk r H (show(dS (ca g) words).2.1≠0 from j)
    refine go ?_;refine St.da (aW q (.cells [iv 0,iv 0].toArray 35 (0,0))::H2) mixed (λK M=> ?_);refine SW.gd 0 ?_;refine SW.gd 1 ?_;refine SW.t1 2 ?_;refine g3 ?_;refine SW.go ?_;refine SW.dn ?_;refine g3 ?_;refine St.fk dC ?_;refine St.dN br ?_;refine St.rV [_,_] [aB (sl dC (.slice none 0 0) []),aB (aF br [])] ?_;exact⟨bT,[],by rw[a];rfl,by rw[a];rfl,rfl⟩
   ·have s:¬(dS (ca g) words).2.1≠0:=by omega
    have a:=Vj r H s
    have e:=o (by omega)
    obtain⟨u,x,rv,xv,y,its,Q,A,rfl⟩:=P (by omega)
    obtain⟨nn,rfl⟩:∃nn:Nat,n=nn:=⟨n.toNat,by omega⟩
    refine St.Ow p ?_;refine St.slot 9 (.pointer (some ⟨u,0,none⟩)) rfl Q ?_
    have B:YB (ca g) (dS (ca g) words).1.1=(⟨its.map cE,g.rules.map cZ.weight,g.aL.map eX.weight⟩:cr):=by unfold YB;rw[←A];show(⟨_,(g.rules.map lI).map _,(g.aL.map og).map _⟩:cr)=_;rw[kH,kH];rfl
    rw[B]at e a;rw[show(List.replicate (dS (ca g) words).1.1.length nq)=(List.replicate its.length tx).map fi by rw[JF,←A,aN]]at a
    have R:jm (⟨its.map cE,g.rules.map cZ.weight,g.aL.map eX.weight⟩:cr) ((List.replicate its.length tx).map fi):=by rw[JF];have h:=XE e;rwa[show((⟨its.map cE,g.rules.map cZ.weight,g.aL.map eX.weight⟩:cr)).its.length=its.length from aN _]at h
    obtain⟨J,SC⟩:=FF (ca g) words;rw[←A,aN]at J
    have a:lL (ca g) words (nn:Nat)=(tL (fh (⟨its.map cE,g.rules.map cZ.weight,g.aL.map eX.weight⟩:cr) 60) (dS (ca g) words).1.2 nn ((List.replicate its.length tx).map fi) (List.replicate (dS (ca g) words).1.2.length 0) [],(0,0)):=a
    refine g4 ?_;refine St.al (λm=> ?_);refine g2 ?_;refine St.join (ι:=aV×List dE) (λ⟨b,outs⟩ T=>T) (λ⟨b,outs⟩=>[aW m (.cells [b.1].toArray 44 (0,0)),row b.1 69 3 (outs).length (rows dC (outs)),aB (aF br outs),aW q (.cells [iv 0,iv 0].toArray 35 (0,0))]) (λ⟨b,outs⟩=>outs.map cx=tL (fh (⟨its.map cE,g.rules.map cZ.weight,g.aL.map eX.weight⟩:cr) 60) (dS (ca g) words).1.2 nn ((List.replicate its.length tx).map fi) (List.replicate (dS (ca g) words).1.2.length 0) []∧(∀t∈outs,dC.wf t)) (aD.cons 6 rfl (aD.cons 7 rfl (aD.cons 12 rfl aD.nil))) ?_ ?_
    ·refine g6 ?_
     refine St.cq (λS=> ?_) (λS=> ?_)
     ·have U:0<nn:=by omega
      refine St.e9 69 3 ?_;refine St.aM (.slice none 0 0) (show _=([]:List dE).length from rfl) (show _=rows dC []from rfl) ?_;refine St.dN br ?_;refine g3 ?_;refine St.ee (Ev.func (.aY rfl rfl)) ?_;refine St.pQ (ds:=[fO u [rv.1,xv.1,y.1,.slice (some ⟨x,0,none⟩) its.length its.length],sl aI rv.1 (g.rules.map cZ.weight),sl aI xv.1 (g.aL.map eX.weight),sl eB y.1 its,aF cj its,sl aI I.1 (bW (dS (ca g) words).1.2),ri p (iv (nn:Nat))]) (L:=[aW m (.cells [(.slice none 0 0)].toArray 44 (0,0)),row (.slice none 0 0) 69 3 (([]:List dE)).length (rows dC (([]:List dE))),aB (aF br []),row (.slice (some ⟨x,0,none⟩) its.length its.length) 194 3 (List.replicate its.length tx).length (rows fM (List.replicate its.length tx))]) (X:=bE (kK 71 196) (List.replicate its.length tx)) (post:=λv L' X'=>∃(i:aV) (d:List dE),v= .tuple #[]∧d.map cx=tL (fh (⟨its.map cE,g.rules.map cZ.weight,g.aL.map eX.weight⟩:cr) 60) (dS (ca g) words).1.2 nn ((List.replicate its.length tx).map fi) (List.replicate (dS (ca g) words).1.2.length 0) []∧(∀t∈d,dC.wf t)∧L'=[aW m (.cells [i.1].toArray 44 (0,0)),row i.1 69 3 (d).length (rows dC (d)),aB (aF br d)]∧X'=[]) ((Kb u x its.length its.length rv xv y (g.rules.map cZ.weight) (g.aL.map eX.weight) its e (dS (ca g) words).1.2 I J (by omega) m p nn U (by omega) (List.replicate its.length tx) R).mono (λv H' ⟨i,d,V,a2,a3,a4⟩=>⟨[_,_,_],[],a4,i,d,V,a2,a3,rfl,rfl⟩)) ag6 (.eh rfl rfl rfl) rfl ?_;rintro v42 _ _ ⟨i,d,rfl,C,W,rfl,rfl⟩;refine St.iQ ?_;refine g2 ?_;refine St.mE ⟨i,d⟩ ⟨C,W⟩
     ·obtain rfl:nn=0:=by omega
      refine St.e9 69 3 ?_;refine St.aM (.slice none 0 0) (show _=([]:List dE).length from rfl) (show _=rows dC []from rfl) ?_;refine St.dN br ?_;refine g2 ?_;refine St.mE ⟨bT,[]⟩ ⟨rfl,λt ht=>by cases ht⟩
    ·rintro ⟨b,outs⟩ ⟨k,l⟩
     dsimp only at k l⊢
     obtain⟨⟨f,D⟩,Y⟩:∃z,z=b:=⟨b,rfl⟩
     subst Y;refine St.bR f dC outs rfl rfl l ?_;refine g3 ?_;refine St.ee (Ev.build (bH.nil) (λw=>jv w)) ?_;refine g5 ?_;refine St.rV [_,_] [aB (sl dC f outs),aB (aF br outs)] ?_;exact⟨⟨f,D⟩,outs,by rw[a];rfl,by rw[a];exact k,rfl⟩
theorem XQ {g:gB}{words:List bB}(h:(dS g words).2.1=0):o7 (YB g (dS g words).1.1):=by
 have e:=Cv h
 have a:=vA e
 unfold dS at h⊢;rw[aA (λh=>h e)]at h⊢
 by_cases c:(ph g words).1≠0
 ·rw[aC c]at h;exact absurd h c
 ·rw[aA c]at h⊢
  have hw:=vI (show(ph g words).1=0 by omega)
  cases d:wo g words with
  |none=>rw[d]at h;have h:(17:Int)=0:=h;omega
  |some its=>
   unfold wo at d;obtain⟨cs,h1,rfl⟩:=di.1 d
   have f:qq g.types.length g.cB.length (qrG g words):=⟨hw.2,zB _,a.rn,a.xn,λr b=>⟨(a.rule r b).kids,(a.rule r b).gr,(a.rule r b).len⟩,λx hx=>⟨(a.lex x hx).gr,(a.lex x hx).len⟩⟩
   have j:=a.ty.len
   have k:=a.ft
   obtain⟨i,a2⟩:=CM f (by omega) (by omega) (words:=words) words.length 1 ⟨[],List.replicate (words.length*(words.length+1)) []⟩ cs (aR _) (by show 1+words.length≤words.length+1;omega) zb (λit hit=>by cases hit) h1;exact Xg f i a2 (λr b=>(a.rule r b).kids) (aN _) (aN _) (λx hx=>by obtain⟨r,b,rfl⟩:=cy.1 hx;exact(a.rule r b).wt) (λx hx=>by obtain⟨r,b,rfl⟩:=cy.1 hx;exact(a.lex r b).wt)
theorem KR (g:gb)(wv:Value)(words:List bB)(n:Int):uY prog 10 #[fV g,wv,iv n] ([fB g,sl bL wv words,tz,u8].map aB) (λv H'=>∃(a:aV) (outs:List dE),v= .tuple #[a.1,fv (lL (ca g) words n).2]∧outs.map cx=(lL (ca g) words n).1∧H'=[aB (sl dC a.1 outs),aB (aF br outs)]):=GR g wv words n λh=>XQ h
def eS:List (List bB)→List (List bB)
 | []=>[[]]
 |s::ss=>s.flatMap λw=>(eS ss).map λc=>w::c
theorem yb:∀{ss:List (List bB)} {c:List bB},c∈eS ss→c.length=ss.length
 | [],c,h=>by rw[eS,bO]at h;subst h;rfl
 |s::ss,c,h=>by
  rw[eS,List.mem_flatMap]at h;obtain⟨w,_,h⟩:=h;obtain⟨d,hd,rfl⟩:=cy.1 h;rw[fA,yb hd,fA]
def EM (p:Nat→bB→Bool):Nat→List (List bB)→List (List bB)
 |_,[]=>[]
 |i,s::ss=>s.filter (p i)::EM p (i+1) ss
def AO (p:Nat→bB→Bool):Nat→List bB→Bool
 |_,[]=>true
 |i,w::c=>p i w&&AO p (i+1) c
theorem ya (p:Nat→bB→Bool):∀(ss:List (List bB)) (i:Nat),eS (EM p i ss)=(eS ss).filter (AO p i)
 | [],_=>rfl
 |s::ss,i=>by
  rw[EM,eS,eS,ya p ss (i+1)]
  induction s with
  |nil=>rfl
  |cons w s a=>
   rw[jU,List.filter_append,←a,List.filter_map]
   cases h:p i w with
   |true=>
    rw[List.filter_cons_of_pos h,jU]
    congr 2
    refine List.filter_congr λc _=> ?_
    show AO p (i+1) c=AO p i (w::c)
    rw[AO,h,Bool.true_and]
   |false=>
    rw[List.filter_cons_of_neg (by rw[h];decide)]
    have:∀l:List (List bB),l.filter ((AO p i)∘ λc=>w::c)=[]:=λl=>by
     rw[List.filter_eq_nil_iff];intro c _
     show ¬AO p i (w::c)=true
     rw[AO,h,Bool.false_and];exact Bool.false_ne_true
    rw[this,lE,A6]
theorem Dv (p:Nat→bB→Bool):∀(c:List bB) (i:Nat),AO p i c=true↔∀k,k<c.length→p (i+k) (c.getD k [])=true
 | [],_=>⟨λ_ _ h=>(by cases h),λ_=>rfl⟩
 |w::c,i=>by
  rw[AO,qj,Dv p c (i+1)]
  constructor
  ·rintro ⟨a,b⟩ k hk
   cases k with
   |zero=>exact a
   |succ k=>rw[G6,show i+(k+1)=i+1+k by omega];exact b k (by rw[fA]at hk;omega)
  ·intro h
   refine⟨h 0 (by simp),λk hk=> ?_⟩
   have:=h (k+1) (by rw[fA];omega)
   rwa[G6,show i+(k+1)=i+1+k by omega]at this
def mY (i:Nat):List bB→List bB→Int×Int
 |_,[]=>(0,0)
 |p,w::l=>if isWord w=false then(10,i)else if w∈p then(7,i)else mY i (p++ [w]) l
def jc:Nat→List (List bB)→Int×Int
 |_,[]=>(0,0)
 |i,l::s=>if l.length=0∨5<l.length then(9,i)else if(mY i [] l).1≠0 then mY i [] l else jc (i+1) s
def kS (s:List (List bB)):Nat:=s.foldl (λn l=>n*l.length) 1
def nh (g:gB)(s:List (List bB)):Int×Int:=
 if(jN g).1≠0 then jN g else if s.length=0∨12<s.length then(9,-2)else if(jc 0 s).1≠0 then jc 0 s else if 60<kS s then(17,0)else(0,0)
def nk (g:gB)(c:List bB):Bool:=decide ((dS g c).2.1=17)
def oG (g:gB)(c:List bB):Bool:=decide ((dS g c).2.1=0)&&decide (0<(dS g c).1.2.length)
def iU (g:gB)(s:List (List bB)):List (List bB)×(Int×Int):=if(eS s).any (nk g)then([],(17,-2))else((eS s).filter (oG g),(0,0))
def fN (g:gB)(s:List (List bB)):List (List bB)×(Int×Int):=if(nh g s).1≠0 then([],nh g s)else iU g s
structure M7 (l:List bB):Prop where
 pos:0<l.length
 BF:l.length≤5
 word:∀w∈l,isWord w=true
 nodup:l.Nodup
theorem DM (i:Nat):∀(l p:List bB),(mY i p l).1=0↔(∀w∈l,isWord w=true∧w∉p)∧l.Nodup
 | [],p=>⟨λ_=>⟨λ_ h=>(by cases h),List.nodup_nil⟩,λ_=>rfl⟩
 |w::l,p=>by
  rw[mY]
  by_cases h1:isWord w=false
  ·rw[aC h1]
   exact⟨λh=>absurd h (by simp),λh=>absurd (h.1 w (by simp)).1 (by rw[h1];decide)⟩
  rw[aA h1]
  by_cases d:w∈p
  ·rw[aC d]
   exact⟨λh=>absurd h (by simp),λh=>absurd d (h.1 w (by simp)).2⟩
  rw[aA d,DM i l (p++ [w]),List.nodup_cons]
  constructor
  ·rintro ⟨a,b⟩
   refine⟨λx hx=> ?_,λhw=>(a w hw).2 (by simp),b⟩
   rcases cH.1 hx with rfl|hx
   ·exact⟨by simpa using h1,d⟩
   ·exact⟨(a x hx).1,λhp=>(a x hx).2 (by simp[hp])⟩
  ·rintro ⟨a,b,c⟩
   refine⟨λx hx=>⟨(a x (by simp[hx])).1,λhp=> ?_⟩,c⟩
   rcases cD.1 hp with hp|hp
   ·exact(a x (by simp[hx])).2 hp
   ·rw[bO.1 hp]at hx;exact b hx
theorem zX:∀(s:List (List bB)) (i:Nat),(jc i s).1=0↔∀l∈s,M7 l
 | [],_=>⟨λ_ _ h=>(by cases h),λ_=>rfl⟩
 |l::s,i=>by
  rw[jc]
  by_cases h1:l.length=0∨5<l.length
  ·rw[aC h1]
   exact⟨λh=>absurd h (by simp),λh=>by have:=h l (by simp);have:=this.pos;have:=(h l (by simp)).BF;omega⟩
  rw[aA h1]
  by_cases a:(mY i [] l).1≠0
  ·rw[aC a]
   refine⟨λh=>absurd h a,λh=>absurd ((DM i l []).2 ⟨λw hw=>⟨(h l (by simp)).word w hw,by simp⟩,(h l (by simp)).nodup⟩) a⟩
  rw[aA a,zX s (i+1)]
  have b:=(DM i l []).1 (iG.1 a)
  constructor
  ·intro h x hx
   rcases cH.1 hx with rfl|hx
   ·exact⟨by omega,by omega,λw hw=>(b.1 w hw).1,b.2⟩
   ·exact h x hx
  ·exact λh x hx=>h x (by simp[hx])
structure IL (g:gB)(s:List (List bB)):Prop where
 grm:(jN g).1=0
 pos:0<s.length
 BF:s.length≤12
 aQ:∀l∈s,M7 l
 prod:kS s≤60
theorem Cd {g:gB}{s:List (List bB)}:(nh g s).1=0↔IL g s:=by
 unfold nh
 by_cases h1:(jN g).1≠0
 ·rw[aC h1];exact⟨λh=>absurd h h1,λh=>absurd h.grm h1⟩
 rw[aA h1]
 by_cases b:s.length=0∨12<s.length
 ·rw[aC b];exact⟨λh=>absurd h (by simp),λh=>by have:=h.pos;have:=h.BF;omega⟩
 rw[aA b]
 by_cases a:(jc 0 s).1≠0
 ·rw[aC a];exact⟨λh=>absurd h a,λh=>absurd ((zX s 0).2 h.aQ) a⟩
 rw[aA a]
 by_cases c:60<kS s
 ·rw[aC c];exact⟨λh=>absurd h (by simp),λh=>by have:=h.prod;omega⟩
 rw[aA c];exact⟨λ_=>⟨iG.1 h1,by omega,by omega,(zX s 0).1 (iG.1 a),by omega⟩,λ_=>rfl⟩
theorem W8 {g:gB}{s:List (List bB)}:(iU g s).2.1=0↔∀c∈eS s,nk g c=false:=by
 unfold iU
 by_cases h:(eS s).any (nk g)=true
 ·rw[aC h]
  refine⟨λh=>absurd h (by simp),λk=> ?_⟩;obtain⟨c,b,a⟩:=pZ.1 h
  rw[k c b]at a;cases a
 ·rw[aA h]
  refine⟨λ_ c b=> ?_,λ_=>rfl⟩
  cases a:nk g c with
  |false=>rfl
  |true=>exact absurd (pZ.2 ⟨c,b,a⟩) h
theorem Iq {g:gB}{s:List (List bB)}(h:∀c∈eS s,nk g c=false):iU g s=((eS s).filter (oG g),(0,0)):=by
 unfold iU;rw[aA];intro k;obtain⟨c,b,a⟩:=pZ.1 k
 rw[h c b]at a;cases a
theorem Ir {g:gB}{s:List (List bB)}(h:(fN g s).2.1=0):IL g s∧(∀c∈eS s,nk g c=false)∧fN g s=((eS s).filter (oG g),(0,0)):=by
 unfold fN at h⊢
 by_cases h1:(nh g s).1≠0
 ·rw[aC h1]at h;exact absurd h h1
 rw[aA h1]at h⊢
 have a:=W8.1 h
 exact⟨Cd.1 (iG.1 h1),a,Iq a⟩
def fI:Nat→bB→List (List bB)→List (List bB)
 |_,_,[]=>[]
 |0,w,l::s=>(l++ [w])::s
 |k+1,w,l::s=>l::fI k w s
theorem It {p:Nat→bB→Bool}:∀(s:List (List bB)) (i:Nat),(∀k x,i≤k→p k x=true)→EM p i s=s
 | [],_,_=>rfl
 |l::s,i,h=>by
  rw[EM,It s (i+1) (λk x hk=>h k x (by omega)),List.filter_eq_self.2 (λx _=>h i x (aR _))]
theorem Em {w:bB}:∀(s:List (List bB)) (k i:Nat),k<s.length→w∉s.getD k []→EM (λj x=>decide (j≠i+k)||decide (x≠w)) i (fI k w s)=s
 | [],_,_,h,_=>by cases h
 |l::s,0,i,_,h=>by
  rw[fI,EM,It s (i+1) (λj x a=>by simp;omega),List.filter_append]
  congr 1
  rw[List.filter_eq_self.2 (λx hx=> ?_)]
  ·rw[List.filter_cons_of_neg (by simp)];exact gq _
  ·have:x≠w:=λe=>h (by rw[←e];exact hx)
   simp[this]
 |l::s,k+1,i,hk,h=>by
  rw[fI,EM]
  have:=Em s k (i+1) (by rw[fA]at hk;omega) (by rwa[G6]at h)
  rw[show i+1+k=i+(k+1) by omega]at this;rw[this,List.filter_eq_self.2 (λx _=>by simp)]
theorem JC {w:bB}:∀(s:List (List bB)) (k:Nat),k<s.length→(fI k w s).getD k []=s.getD k []++ [w]
 | [],_,h=>by cases h
 |l::s,0,_=>rfl
 |l::s,k+1,h=>by rw[fI,G6,G6];exact JC s k (by rw[fA]at h;omega)
theorem oI (w:bB):∀(s:List (List bB)) (k:Nat),(fI k w s).length=s.length
 | [],k=>by cases k<;>rfl
 |l::s,0=>rfl
 |l::s,k+1=>by rw[fI,fA,oI w s k,fA]
theorem O6 {g:gB}{s:List (List bB)}{k:Nat}{w:bB}(hk:k<s.length)(h1:(fN g s).2.1=0)(f:(fN g (fI k w s)).2.1=0):
 ((fN g (fI k w s)).1.filter λc=>decide (c.getD k []≠w))=(fN g s).1∧∀c∈(fN g (fI k w s)).1,c.length=s.length:=by
 obtain⟨_,_,i⟩:=Ir h1;obtain⟨c2,_,e2⟩:=Ir f;rw[i,e2]
 dsimp only
 have hlen:∀c∈eS (fI k w s),c.length=s.length:=λc a=>by rw[yb a,oI]
 refine⟨?_,λc a=>hlen c (List.mem_filter.1 a).1⟩
 have hw:w∉s.getD k []:=by
  have l:=c2.aQ ((fI k w s).getD k []) (by
   rw[aw,bU (by rw[oI];exact hk),Option.getD_some];exact gz _)
  have b:=l.nodup
  rw[JC s k hk]at b;intro hw;exact(List.nodup_append.1 b).2.2 w hw w (by simp) rfl
 have d:=ya (λj x=>decide (j≠0+k)||decide (x≠w)) (fI k w s) 0
 rw[Em s k 0 hk hw]at d;rw[d,List.filter_filter,List.filter_filter]
 refine List.filter_congr λc a=> ?_
 rw[Bool.and_comm]
 congr 1
 have m:=hlen c a
 rw[Dd,Dv,fz]
 constructor
 ·intro h j n
  by_cases e:j=k
  ·subst e;rw[dt h,Bool.or_true]
  ·simp[e]
 ·intro h
  have:=h k (by omega)
  simpa using this
theorem ZJ:aJ prog 105:=⟨_,func105,rfl,by kernel_rfl⟩
theorem KZ:aJ prog 66:=⟨_,func66,rfl,by kernel_rfl⟩
theorem uK:(prog.info? 33).map (·.size)=some 1:=by kernel_rfl
instance:type_of%(pd.mk uK):=⟨uK⟩
theorem ahG:aJ prog 68:=⟨_,func68,rfl,by kernel_rfl⟩
theorem VG:(prog.info? 183).bind (·.zero)=some (Value.agg #[.int .i64 0,.int .i64 0,.int .i64 0,.slice none 0 0]):=by kernel_rfl
theorem Z8:(prog.info? 183).map (·.bytes)=some 48:=by kernel_rfl
theorem ahJ:aJ prog 71:=⟨_,func71,rfl,by kernel_rfl⟩
theorem De:(prog.info? 33).bind (·.zero)=some (Value.slice none 0 0):=by kernel_rfl
theorem Vl:(prog.info? 33).map (·.bytes)=some 24:=by kernel_rfl
theorem alS:(prog.info? 49).map (·.size)=some 1:=by kernel_rfl
theorem ahI:aJ prog 70:=⟨_,func70,rfl,by kernel_rfl⟩
theorem by9:(prog.info? 9).map (·.bytes)=some 16:=by kernel_rfl
theorem ahH:aJ prog 69:=⟨_,func69,rfl,by kernel_rfl⟩
instance:rf prog 49 #[.slice none 0 0]:=⟨by kernel_rfl⟩
theorem Zo:aJ prog 33:=⟨_,func33,rfl,by kernel_rfl⟩
theorem Zn:aJ prog 32:=⟨_,func32,rfl,by kernel_rfl⟩
theorem Zs:aJ prog 65:=⟨_,func65,rfl,by kernel_rfl⟩
theorem ag2:aJ prog 10:=⟨_,func10,rfl,by kernel_rfl⟩
theorem Tw:(prog.info? 77).bind (λi=>i.zero.map Value.cells)=some #[.slice none 0 0,.int .i64 0]:=by kernel_rfl
instance:type_of%(rf.mk Tw):=⟨Tw⟩
theorem aeU (w:World):cu prog 77 w= .ok #[(0,1),(1,1)] w:=by kernel_rfl
instance:pd prog 77 2:=⟨by kernel_rfl⟩
theorem NG:bf prog 77 1=some 1:=by kernel_rfl
theorem ag9:aJ prog 34:=⟨_,func34,rfl,by kernel_rfl⟩
theorem Vq:aJ prog 13:=⟨_,func13,rfl,by kernel_rfl⟩
theorem ag8:aJ prog 31:=⟨_,func31,rfl,by kernel_rfl⟩
theorem Zm:aJ prog 30:=⟨_,func30,rfl,by kernel_rfl⟩
theorem Zd:aJ prog 16:=⟨_,func16,rfl,by kernel_rfl⟩
theorem WB:bf prog 77 0=some 0:=by kernel_rfl
theorem ag3:aJ prog 12:=⟨_,func12,rfl,by kernel_rfl⟩
theorem ag4:aJ prog 14:=⟨_,func14,rfl,by kernel_rfl⟩
theorem MZ (w:World):(Instr.build 77 #[]).run prog w= .ok (.agg #[.slice none 0 0,.int .i64 0]) w:=
 bM Tw (aeU w) (by simp[Instr.fill,J.bJ])
theorem KT {a b:Value}(c:a.oneCell'=true)(h1:b.oneCell'=true)(w:World):(Instr.build 77 #[(0,a),(1,b)]).run prog w= .ok (.agg #[a,b]) w:=
 bM Tw (aeU w) (by simp[Instr.fill,J.bJ,J.cells_one c,J.cells_one h1])
theorem LY {i k:Nat}{p l:List bB}{w:bB}(h:l[k]?=some w):mY i p (l.drop k)=if isWord w=false then(10,(i:Int))else if w∈p then(7,(i:Int))else mY i (p++ [w]) (l.drop (k+1)):=by rw[bP h,mY]
theorem PT {i k:Nat}{p l:List bB}(h:l.length≤k):mY i p (l.drop k)=(0,0):=by rw[j6 h,mY]
theorem Hq {i:Nat}{s:List (List bB)}{l:List bB}(h:s[i]?=some l):jc i (s.drop i)=if l.length=0∨5<l.length then(9,(i:Int))else if(mY i [] l).1≠0 then mY i [] l else jc (i+1) (s.drop (i+1)):=by rw[bP h,jc]
theorem LZ {i:Nat}{s:List (List bB)}(h:s.length≤i):jc i (s.drop i)=(0,0):=by rw[j6 h,jc]
theorem BT {s:List (List bB)}{i:Nat}{l:List bB}(h:s[i]?=some l):kS (s.take (i+1))=kS (s.take i)*l.length:=by
 unfold kS
 rw[wh,h,wc];rfl
theorem vR {s:List (List bB)}(a:∀l∈s,l.length≤5):∀i,kS (s.take i)≤5^i
 |0=>aR _
 |i+1=>by
  cases h:s[i]? with
  |none=>
   have c:s.length≤i:=by rwa[List.getElem?_eq_none_iff]at h
   have b:=vR a i
   rw[fF c]at b;rw[fF (by omega)];exact dY b (sc (by decide) (by omega))
  |some l=>
   rw[BT h,Nat.pow_succ];exact Nat.mul_le_mul (vR a i) (a l (ae h))
theorem Dm (v0:Value)(xs:List bB)(y:bB):eD prog 105 #[v0,sv y] [sl bL v0 xs] (iv (ix (λx=>decide (y=x)) xs)):=by
 refine eD.nD (args:=[v0,sv y]) 19 func105 rfl ntmps105 rfl (λc=> ?_);refine go ?_;refine St.wf v0 (λf hlen=> ?_);refine g13 ?_;refine St.lS (ι:=Nat) (λk T=>(8,iv k)::T) (λk=>k≤xs.length∧(xs.take k).all (λx=> !decide (y=x))=true) (λk=>xs.length-k) 0 (aD.cons 0 rfl (aD.cons 1 rfl (aD.cons 7 rfl aD.nil))) ⟨aO _,rfl⟩ ?_;intro k d;obtain⟨hk,a⟩:=d;refine g6 ?_;refine St.cq (λe=> ?_) (λe=> ?_)
 ·obtain⟨x,hx⟩:=aE (show k<xs.length by omega)
  refine g20 ?_;refine St.cq (λb=> ?_) (λb=> ?_)
  ·refine g12 ?_
   refine St.rV [_] [] ?_;exact ie (yr a hx (by simpa using b)).symm
  ·refine g8 ?_
   refine St.aS (k+1) ⟨by omega,nX a hx (by simpa using b)⟩
 ·refine g11 ?_
  refine St.rV [_] [] ?_;exact ie (D2 a (by omega)).symm
theorem xu (v0:Value)(xs:List bB)(y:bB):eD prog 68 #[v0,sv y] [sl bL v0 xs] (.bool (xs.any (λx=>decide (y=x)))):=by
 refine eD.nD (args:=[v0,sv y]) 9 func68 rfl ntmps68 rfl (λc=> ?_);refine g9 ?_;refine St.ee (Ev.call (Dm v0 xs y) ZJ (.aY rfl rfl)) ?_;refine g5 ?_;refine St.rV [_] [] ?_;exact be (vE _ _)
theorem iH (a b:Int):eD prog 66 #[iv a,iv b] [] (fv (a,b)):=by
 refine eD.qB (args:=[iv a,iv b]) 8 func66 rfl ntmps66 rfl (λc=> ?_);refine g2 ?_;refine St.al (λd=> ?_);refine g6 ?_;refine St.ee (Ev.build (bH.aY rfl rfl) (λw=>gj rfl rfl w)) ?_;refine g4 ?_;refine St.rV [_] [] ?_;rfl
theorem Ot {s:List (List bB)}{i:Nat}(h:∀l∈s.take i,l.length≤5)(a:i≤12):kS (s.take i)≤244140625:=by
 have:=vR (s:=s.take i) h i
 rw[List.take_take,Nat.min_self]at this;exact dY this (sc (by decide) a)
theorem IP {l:List bB}{w:bB}:l.any (λx=>decide (w=x))=true↔w∈l:=by
 rw[pZ];exact⟨λ⟨x,hx,h⟩=>by rw[ei h];exact hx,λh=>⟨w,h,dt rfl⟩⟩
theorem yU (g:gb)(wv:Value)(aQ:List (List bB)):kX prog 32 #[fV g,wv] [fB g,pT bL wv aQ,tz,u8] (fv (nh (ca g) aQ)):=by
 refine kX.body (args:=[fV g,wv]) (ds:=[fB g,pT bL wv aQ,tz,u8]) 72 func32 rfl ntmps32 rfl (λc A=> ?_);refine St.cast (H':=[aB (fB g),aB (pT bL wv aQ),aB (tz),aB (u8)]) rfl ?_;refine go ?_;refine St.nu wv (λvs E=> ?_);refine St.JP vs E (λo=> ?_);refine go ?_;refine St.dK (.mk rfl) rfl (λI=> ?_);refine St.al (λJ=> ?_);refine g6 ?_;refine St.slot 11 (fV g) rfl rfl ?_;refine St.ee (Ev.nF A (qJ g) Vr (.ar rfl)) ?_;refine St.slot 12 (.agg #[iv (jN (ca g)).1,iv (jN (ca g)).2]) rfl rfl ?_;refine St.al (λK=> ?_);refine g10 ?_;refine St.cq (λB=> ?_) (λB=> ?_)
 ·have hk:(nh (ca g) aQ)=jN (ca g):=by unfold nh;rw[aC B]
  refine g8 ?_;refine St.rV [_] [] ?_
  rw[hk];rfl
 ·have hk:(nh (ca g) aQ)=if aQ.length=0∨12<aQ.length then(9,-2)else if(jc 0 aQ).1≠0 then jc 0 aQ else if 60<kS aQ then(17,0)else(0,0):=by unfold nh;rw[aA (λh=>h (by omega))]
  refine g9 ?_;refine St.gf _ rfl rfl (λa=>Ev.move (.mk rfl)) rfl ?_;refine St.gf _ rfl rfl (λa=>Ev.fj (ai.gv rfl a) pK) rfl ?_;refine St.gf _ rfl rfl (λa=>Ev.gtr (ai.gv rfl a) (.mk rfl)) rfl ?_;refine g3 ?_;refine St.cq (λF=> ?_) (λF=> ?_)
  ·rw[aC (by omega)]at hk
   refine g2 ?_;refine St.ee (Ev.call (iH 9 (-2)) KZ (.aY rfl rfl)) ?_;refine g5 ?_;refine St.rV [_] [] ?_
   rw[hk];rfl
  ·rw[aA (by omega)]at hk
   have G:aQ.length≤12:=by omega
   refine g16 ?_;refine St.lS (ι:=Nat) (λi T=>(28,iv i)::(6,iv (kS (aQ.take i):Nat))::T) (λi=>i≤aQ.length∧jc 0 aQ=jc i (aQ.drop i)∧(∀l∈aQ.take i,l.length≤5)) (λi=>aQ.length-i) 0 (aD.cons 4 rfl (aD.cons 26 rfl (aD.cons 27 rfl aD.nil))) ⟨aO _,rfl,λl d=>by rw[A7]at d;cases d⟩ ?_;rintro i ⟨L,j,C⟩
   have D:=Ot C (by omega)
   refine g6 ?_;refine St.cq (λq=> ?_) (λq=> ?_)
   ·obtain⟨l,d⟩:=aE (show i<aQ.length by omega)
    obtain⟨u,hu⟩:=aE (show i<vs.length by omega);refine St.js (vs:=vs) i hu d ?_
    have b:=Hq d
    have r:=o l (ae d)
    have s:=BT d
    refine St.wf u.1 (λ_ M=> ?_);refine g20 ?_;refine St.gf _ rfl rfl (λa=>Ev.move (.mk rfl)) rfl ?_;refine St.gf _ rfl rfl (λa=>Ev.fj (ai.gv rfl a) mz) rfl ?_;refine St.gf _ rfl rfl (λa=>Ev.gtr (ai.gv rfl a) (.mk rfl)) rfl ?_;refine g3 ?_;refine St.cq (λH=> ?_) (λH=> ?_)
    ·rw[aC (by omega)]at b
     rw[j.trans b,aC (show(9:Int)≠0 by decide)]at hk;refine g3 ?_;refine St.ee (Ev.call (iH 9 (i:Int)) KZ (.aY rfl rfl)) ?_;refine g10 ?_;refine St.rV [_] [] ?_
     rw[hk];rfl
    ·rw[aA (by omega)]at b
     have t:l.length≤5:=by omega
     refine g11 ?_;refine St.lS (ι:=Nat) (λk T=>(45,iv k)::T) (λk=>k≤l.length∧mY i [] l=mY i (l.take k) (l.drop k)) (λk=>l.length-k) 0 (aD.cons 4 rfl (aD.cons 6 rfl (aD.cons 7 rfl (aD.cons 8 rfl (aD.cons 26 rfl (aD.cons 27 rfl (aD.cons 28 rfl (aD.cons 43 rfl (aD.cons 44 rfl aD.nil))))))))) ⟨aO _,rfl⟩ ?_;rintro k ⟨N,m⟩;refine g6 ?_;refine St.cq (λv=> ?_) (λv=> ?_)
     ·obtain⟨w,hw⟩:=aE (show k<l.length by omega)
      have O:w.length≤140737488351232:=r w (ae hw)
      have f:=LY (i:=i) (p:=l.take k) hw
      refine g17 ?_;refine St.ee (Ev.nF A (uc w (by omega)) Vv (.ar rfl)) ?_;refine g3 ?_;refine St.cond _ rfl (λy=> ?_) (λy=> ?_)
      ·skip
       rw[aC (show isWord w=false by simpa using y)]at f;rw[m.trans f,aC (show(10:Int)≠0 by decide)]at b;rw[j.trans b,aC (show(10:Int)≠0 by decide)]at hk;refine g3 ?_;refine St.ee (Ev.call (iH 10 (i:Int)) KZ (.aY rfl rfl)) ?_;refine g15 ?_;refine St.rV [_] [] ?_
       rw[hk];rfl
      ·skip
       rw[aA (show ¬isWord w=false by simpa using y)]at f;refine g3 ?_;refine St.part u.1 0 k (aO _) (by omega) ?_;rw[show bL.size=1 from rfl,show(l.drop 0).take (k-0)=l.take k by rw[List.drop_zero,Nat.sub_zero]];refine g3 ?_;refine St.ee (Ev.LX (h:=k) (.mk rfl) (.mk rfl) mz Jk (by omega) (by omega)) ?_;refine go ?_;refine St.ee (Ev.call (xu (pH u.1 1 0 k) (l.take k) w) ahG (.aY rfl rfl)) ?_;refine g2 ?_;refine St.cond _ rfl (λn=> ?_) (λn=> ?_)
       ·skip
        rw[aC (IP.1 n)]at f;rw[m.trans f,aC (show(7:Int)≠0 by decide)]at b;rw[j.trans b,aC (show(7:Int)≠0 by decide)]at hk;refine g3 ?_;refine St.ee (Ev.call (iH 7 (i:Int)) KZ (.aY rfl rfl)) ?_;refine g14 ?_;refine St.rV [_] [] ?_
        rw[hk];rfl
       ·skip
        rw[aA (λh=>by rw[IP.2 h]at n;cases n)]at f;refine g8 ?_;refine St.aS (k+1) ⟨by omega,by rw[m,f,wh,hw];rfl⟩
     ·obtain rfl:k=l.length:=by omega
      rw[PT (aR _)]at m;rw[m,aA (by decide)]at b;refine g9 ?_;refine St.ee (Ev.mul (.mk rfl) (.mk rfl) (by have P:kS (aQ.take i)*l.length≤244140625*5:=Nat.mul_le_mul D t;have e:((kS (aQ.take i):Nat):Int)*((l.length:Nat):Int)=((kS (aQ.take i)*l.length:Nat):Int):=(Int.natCast_mul _ _).symm;omega)) ?_;refine St.slot 66 (iv (kS (aQ.take (i+1)):Nat)) rfl (congrArg iv (by rw[s];exact(Int.natCast_mul _ _).symm)) ?_;refine g9 ?_;refine St.aS (i+1) ⟨by omega,j.trans b,λx hx=>by rw[wh,d]at hx;rcases cD.1 hx with hx|hx;exact C x hx;rw[bO.1 hx];omega⟩
   ·obtain rfl:i=aQ.length:=by omega
    rw[LZ (aR _)]at j;rw[j,aA (by decide)]at hk;rw[jl]at D⊢;refine g12 ?_;refine St.cq (λz=> ?_) (λz=> ?_)
    ·rw[aC (by omega)]at hk
     refine g2 ?_;refine St.ee (Ev.call (iH 17 0) KZ (.aY rfl rfl)) ?_;refine g5 ?_;refine St.rV [_] [] ?_
     rw[hk];rfl
    ·rw[aA (by omega)]at hk
     refine g4 ?_;refine St.ee (Ev.build (bH.nil) (λw=>jv w)) ?_;refine g4 ?_;refine St.rV [_] [] ?_
     rw[hk];rfl
def fT:List (List bB)→List Nat→List bB
 |s::ss,a::az=>s.getD a []::fT ss az
 |_,_=>[]
def pU:List (List bB)→List Nat→List (List bB)
 |s::ss,a::az=>((pU ss az).map λc=>s.getD a []::c)++(s.drop (a+1)).flatMap λw=>(eS ss).map λc=>w::c
 |_,_=>[[]]
def rN:List (List bB)→List Nat→Option (List Nat)
 |s::ss,a::az=>match rN ss az with
  |some bs=>some (a::bs)
  |none=>if a+1<s.length then some ((a+1)::List.replicate ss.length 0)else none
 |_,_=>none
def sm:List (List bB)→List Nat→Prop
 | [],[]=>True
 |s::ss,a::az=>a<s.length∧sm ss az
 |_,_=>False
theorem sm.len:∀{ss:List (List bB)} {az:List Nat},sm ss az→az.length=ss.length
 | [],[],_=>rfl
 |s::ss,a::az,h=>by rw[fA,fA,h.2.len]
 | [],_::_,h=>h.elim
 |_::_,[],h=>h.elim
theorem sm.at:∀{ss:List (List bB)} {az:List Nat},sm ss az→∀{i a:Nat} {s:List bB},az[i]?=some a→ss[i]?=some s→a<s.length
 | [],[],_,i,a,s,h,_=>by simp at h
 |s::ss,a::az,h,0,b,t,h1,c=>by
  obtain rfl:=Option.some.inj h1;obtain rfl:=Option.some.inj c;exact h.1
 |s::ss,a::az,h,i+1,b,t,h1,c=>h.2.at (i:=i) h1 c
 | [],_::_,h,_,_,_,_,_=>h.elim
 |_::_,[],h,_,_,_,_,_=>h.elim
theorem vP:∀{ss:List (List bB)},(∀s∈ss,0<s.length)→sm ss (List.replicate ss.length 0)
 | [],_=>trivial
 |s::ss,h=>⟨h s (by simp),vP λt ht=>h t (by simp[ht])⟩
theorem vU:∀{ss:List (List bB)},(∀s∈ss,0<s.length)→pU ss (List.replicate ss.length 0)=eS ss
 | [],_=>rfl
 |s::ss,h=>by
  have a:=h s (by simp)
  show((pU ss (List.replicate ss.length 0)).map λc=>s.getD 0 []::c)++(s.drop 1).flatMap (λw=>(eS ss).map λc=>w::c)=s.flatMap λw=>(eS ss).map λc=>w::c
  rw[vU λt ht=>h t (by simp[ht])]
  cases s with
  |nil=>simp at a
  |cons w s=>rfl
theorem r5:∀{ss:List (List bB)} {az:List Nat},(∀s∈ss,0<s.length)→sm ss az→pU ss az=fT ss az::match rN ss az with|none=>[]|some bs=>pU ss bs
 | [],[],_,_=>rfl
 |s::ss,a::az,hp,h=>by
  have b:∀t∈ss,0<t.length:=λt ht=>hp t (by simp[ht])
  have d:=r5 b h.2
  show((pU ss az).map λc=>s.getD a []::c)++(s.drop (a+1)).flatMap (λw=>(eS ss).map λc=>w::c)=(s.getD a []::fT ss az)::match(match rN ss az with|some bs=>some (a::bs)|none=>if a+1<s.length then some ((a+1)::List.replicate ss.length 0)else none)with|none=>[]|some bs=>pU (s::ss) bs
  rw[d]
  cases e:rN ss az with
  |some bs=>rfl
  |none=>
   dsimp only
   by_cases h1:a+1<s.length
   ·rw[aC h1]
    dsimp only
    show _=_::(((pU ss (List.replicate ss.length 0)).map λc=>s.getD (a+1) []::c)++(s.drop (a+1+1)).flatMap (λw=>(eS ss).map λc=>w::c))
    rw[vU b,fL,lE,List.drop_eq_getElem_cons h1,jU,aw (l:=s) (i:=a+1),bU h1];rfl
   ·rw[aA h1,j6 (by omega)]
    rfl
 | [],_::_,_,h=>h.elim
 |_::_,[],_,h=>h.elim
theorem OY:∀{ss:List (List bB)} {az bs:List Nat},(∀s∈ss,0<s.length)→sm ss az→rN ss az=some bs→sm ss bs
 | [],[],bs,_,_,e=>by cases e
 |s::ss,a::az,bs,hp,h,e=>by
  have c:∀t∈ss,0<t.length:=λt ht=>hp t (by simp[ht])
  have e:(match rN ss az with|some bs=>some (a::bs)|none=>if a+1<s.length then some ((a+1)::List.replicate ss.length 0)else none)=some bs:=e
  cases b:rN ss az with
  |some cs=>
   rw[b]at e;obtain rfl:=Option.some.inj e;exact⟨h.1,OY c h.2 b⟩
  |none=>
   rw[b]at e
   by_cases h1:a+1<s.length
   ·dsimp only at e
    rw[aC h1]at e;obtain rfl:=Option.some.inj e;exact⟨h1,vP c⟩
   ·dsimp only at e
    rw[aA h1]at e;cases e
 | [],_::_,_,_,h,_=>h.elim
 |_::_,[],_,_,h,_=>h.elim
def Aw (ss:List (List bB))(az:List Nat)(m:Nat):Prop:=∀j a s,m≤j→az[j]?=some a→ss[j]?=some s→a+1=s.length
theorem zD:∀{ss:List (List bB)} {az:List Nat},sm ss az→Aw ss az 0→rN ss az=none
 | [],[],_,_=>rfl
 |s::ss,a::az,h,c=>by
  have h1:rN ss az=none:=zD h.2 λj b t e d e2=>c (j+1) b t (by omega) d e2
  have f:=c 0 a s (aR _) rfl rfl
  show(match rN ss az with|some bs=>some (a::bs)|none=>if a+1<s.length then some ((a+1)::List.replicate ss.length 0)else none)=none
  rw[h1]
  dsimp only
  rw[aA (by omega)]
 | [],_::_,h,_=>h.elim
 |_::_,[],h,_=>h.elim
theorem OX:∀{ss:List (List bB)} {az:List Nat} {i a:Nat} {s:List bB},sm ss az→az[i]?=some a→ss[i]?=some s→Aw ss az (i+1)→a+1<s.length→rN ss az=some (az.take i++(a+1)::List.replicate (ss.length-(i+1)) 0)
 | [],[],_,_,_,_,e,_,_,_=>by simp at e
 |s::ss,a::az,0,b,t,h,c,e2,d,f=>by
  obtain rfl:=Option.some.inj c;obtain rfl:=Option.some.inj e2
  have h1:rN ss az=none:=zD h.2 λj b t g c e2=>d (j+1) b t (by omega) c e2
  show(match rN ss az with|some bs=>some (a::bs)|none=>if a+1<s.length then some ((a+1)::List.replicate ss.length 0)else none)=_
  rw[h1]
  dsimp only
  rw[aC f];rfl
 |s::ss,a::az,i+1,b,t,h,c,e2,d,f=>by
  have h1:=OX (i:=i) h.2 c e2 (λj b t g c e2=>d (j+1) b t (by omega) c e2) f
  show(match rN ss az with|some bs=>some (a::bs)|none=>if a+1<s.length then some ((a+1)::List.replicate ss.length 0)else none)=_
  rw[h1,fA,show ss.length+1-(i+1+1)=ss.length-(i+1) by omega];rfl
 | [],_::_,_,_,_,h,_,_,_,_=>h.elim
 |_::_,[],_,_,_,h,_,_,_,_=>h.elim
theorem FA:∀{ss:List (List bB)} {az:List Nat},sm ss az→(fT ss az).length=ss.length
 | [],[],_=>rfl
 |s::ss,a::az,h=>by rw[fT,fA,fA,FA h.2]
 | [],_::_,h=>h.elim
 |_::_,[],h=>h.elim
theorem JJ:∀{ss:List (List bB)} {az:List Nat} {i a:Nat} {s:List bB} {w:bB},az[i]?=some a→ss[i]?=some s→s[a]?=some w→(fT ss az)[i]?=some w
 | [],_,i,_,_,_,_,e,_=>by simp at e
 |_::_,[],i,_,_,_,e,_,_=>by simp at e
 |s::ss,a::az,0,b,t,w,c,e2,d=>by
  obtain rfl:=Option.some.inj c;obtain rfl:=Option.some.inj e2
  rw[fT,aw,d];rfl
 |s::ss,a::az,i+1,b,t,w,c,e2,d=>JJ (i:=i) (ss:=ss) (az:=az) c e2 d
theorem FB:∀{ss:List (List bB)} {az:List Nat},sm ss az→∀w∈fT ss az,∃s∈ss,w∈s
 | [],[],_,_,h=>by cases h
 |s::ss,a::az,h,w,hw=>by
  rw[fT]at hw
  rcases cH.1 hw with rfl|hw
  ·refine⟨s,by simp,?_⟩
   rw[aw,bU h.1];exact gz _
  ·obtain⟨t,ht,b⟩:=FB h.2 w hw
   exact⟨t,by simp[ht],b⟩
 | [],_::_,h,_,_=>h.elim
 |_::_,[],h,_,_=>h.elim
theorem sM:∀(s:List (List bB)) (a:Nat),s.foldl (λn l=>n*l.length) a=a*s.foldl (λn l=>n*l.length) 1
 | [],a=>(gX a).symm
 |l::s,a=>by rw[we,we,sM s (a*l.length),sM s (1*l.length),Nat.one_mul,Nat.mul_assoc]
theorem wI {α β:Type}(f:α→List β)(m:Nat):∀(l:List α),(∀x∈l,(f x).length=m)→(l.flatMap f).length=l.length*m
 | [],_=>(Nat.zero_mul m).symm
 |x::l,h=>by rw[jU,bN,h x (by simp),wI f m l (λy hy=>h y (by simp[hy])),fA,Nat.succ_mul,Nat.add_comm]
theorem qH:∀(ss:List (List bB)),(eS ss).length=kS ss
 | []=>rfl
 |s::ss=>by
  rw[eS,wI _ (kS ss) s (λw _=>by rw[aN,qH ss])];unfold kS;rw[we,sM ss (1*s.length),Nat.one_mul]
structure xy (g:gB)(ss:List (List bB))(az:List Nat)(outs:List (List bB)):Prop where
 ok:sm ss az
 done:∃l,eS ss=l++pU ss az∧(∀c∈l,nk g c=false)∧outs=l.filter (oG g)
theorem Gt {g:gB}{ss:List (List bB)}(hp:∀s∈ss,0<s.length):xy g ss (List.replicate ss.length 0) []:=⟨vP hp,[],by rw[vU hp];rfl,λ_ h=>(by cases h),rfl⟩
theorem Rv {g:gB}{c:List bB}(h:nk g c=true):oG g c=false:=by
 have h:(dS g c).2.1=17:=ei h
 unfold oG
 rw[fK (by omega)];rfl
theorem NL {g:gB}{ss:List (List bB)}(hp:∀s∈ss,0<s.length){az:List Nat}{outs:List (List bB)}(h:xy g ss az outs)(a:nk g (fT ss az)=true):iU g ss=([],(17,-2)):=by
 obtain⟨l,e,_,_⟩:=h.done;unfold iU;rw[aC];refine pZ.2 ⟨fT ss az,?_,a⟩;rw[e,r5 hp h.ok];exact mj _ (aP ..)
def rI (g:gB)(outs:List (List bB))(c:List bB):List (List bB):=if oG g c=true then outs++ [c]else outs
theorem wE {g:gB}{l:List (List bB)}{c:List bB}:rI g (l.filter (oG g)) c=(l++ [c]).filter (oG g):=by
 unfold rI;rw[List.filter_append]
 by_cases h:oG g c=true
 ·rw[aC h,List.filter_cons_of_pos h];rfl
 ·rw[aA h,List.filter_cons_of_neg h];exact(gq _).symm
theorem NJ {g:gB}{ss:List (List bB)}(hp:∀s∈ss,0<s.length){az:List Nat}{outs:List (List bB)}(h:xy g ss az outs)(b:nk g (fT ss az)=false)(d:rN ss az=none):iU g ss=(rI g outs (fT ss az),(0,0)):=by
 obtain⟨l,e,h1,rfl⟩:=h.done;rw[r5 hp h.ok,d]at e;rw[Iq (λc a=>by rw[e]at a;rcases cD.1 a with a|a;exact h1 c a;rw[bO.1 a];exact b),wE,e]
theorem Kh {g:gB}{ss:List (List bB)}(hp:∀s∈ss,0<s.length){az bs:List Nat}{outs:List (List bB)}(h:xy g ss az outs)(d:nk g (fT ss az)=false)(b:rN ss az=some bs):xy g ss bs (rI g outs (fT ss az))∧(pU ss bs).length<(pU ss az).length:=by
 obtain⟨l,e,h1,rfl⟩:=h.done
 have e2:=r5 hp h.ok
 rw[b]at e2
 dsimp only at e2
 refine⟨⟨OY hp h.ok b,l++ [fT ss az],by rw[e,e2,dp];rfl,λc a=> ?_,wE⟩,by rw[e2];exact pN _⟩
 rcases cD.1 a with a|a
 ·exact h1 c a
 ·rw[bO.1 a];exact d
theorem NK {g:gB}{ss:List (List bB)}{az:List Nat}{outs:List (List bB)}(h:xy g ss az outs):outs.length≤kS ss:=by
 obtain⟨l,e,_,rfl⟩:=h.done;rw[←qH,e,bN];exact dY (G7 _ _) (Nat.le_add_right _ _)
def o8 (az:List Nat)(n m:Nat):List Nat:=az.take m++List.replicate (n-m) 0
theorem MN {az:List Nat}:o8 az az.length az.length=az:=by unfold o8;rw[jl,ff];exact gq _
theorem IU {az:List Nat}{n m i:Nat}(h:az.length=n)(a:i<m)(hm:m≤n):(o8 az n m)[i]?=az[i]?:=by
 unfold o8;rw[ob (by rw[eR];omega),List.getElem?_take_of_lt a]
theorem Dz {az:List Nat}{n m:Nat}(h:az.length=n)(hm:m<n)(a:Nat):(o8 az n (m+1)).set m a=az.take m++a::List.replicate (n-(m+1)) 0:=by
 unfold o8;rw[wh,bU (by omega),dp,lG _ _ (by rw[eR];omega),eR,kn (by omega),ff];rfl
theorem KO {az:List Nat}{n m:Nat}(h:az.length=n)(hm:m<n):(o8 az n (m+1)).set m 0=o8 az n m:=by
 rw[Dz h hm];unfold o8;rw[show n-m=(n-(m+1))+1 by omega,List.replicate_succ]
end Go.Proofs.YtblifkgpebebmaaGreatDoor
namespace Go.J
open Go
section
variable {P:Program}{n:Nat}{F:Fr}{c:Ctx}{H R:List ak}{Q:Exit→Act→World→Prop}{ops:Array Oper}{rest:List Oper}{d:Nat}{ty:TypeId}{pos:String}{after:Array Edge}
theorem Mm.Ip {c:Ctx}{w:World}{ds:List du}{L:List ak}[a:kY ds H][tk:eT L H R](hw:Mm c H w):Mm c ((ds.map aB++L)++R) w:=by
 obtain⟨_,k⟩:=(hw.mg (ds:=ds)).out;refine Mm.mk (k.perm ?_);rw[dp];exact G5 _ tk.perm
theorem St.Vo {dr:Prop}{f:FuncId}{xs:List Operand}{g:Array TypeId}{vs:List Value}{ds:List du}{L:List ak}{post:Value→List ak→Prop}(i:c.dr→dr)
 (j:Df dr P f vs.toArray (ds.map aB++L) post) (k:aJ P f) (hx:bH F xs vs) (hd:Nat.ble (d+1) n=true) [l:kY ds H] [tk:eT L H R]
 (h:∀v H',post v H'→St n ((d,v)::F) (Mm c (H'++R)) (wpList P ops Q rest)):
 St n F (Mm c H) (wpList P ops Q ({dst:=some d,op:= .call {callee:= .value (.func f),args:=xs.toArray,argTypes:=g},type:=ty,pos:=pos,after:=after,guard:=none}::rest)):=by
 intro a w b hw;refine gH rfl (gN (caps:=[]) k (bH.cons (ai.mk rfl) hx) b w ?_)
 simp only[List.append_nil]
 refine(Mm.wF j i (Mm.Ip (ds:=ds) (L:=L) hw)).mono ?_;rintro e w' ⟨u,H',rfl,hp,hm⟩;exact⟨u,rfl,h u H' hp _ w' (b.put (dR hd) u) hm⟩
theorem St.Vp {f:FuncId}{xs:List Operand}{a:Array TypeId}{vs:List Value}{ds:List du}{L:List ak}{post:Value→List ak→Prop}(b:¬c.dr)
 (e:uY P f vs.toArray (ds.map aB++L) post) (g:aJ P f) (hx:bH F xs vs) (hd:Nat.ble (d+1) n=true) [i:kY ds H] [tk:eT L H R]
 (h:∀v H',post v H'→St n ((d,v)::F) (Mm c (H'++R)) (wpList P ops Q rest)):
 St n F (Mm c H) (wpList P ops Q ({dst:=some d,op:= .call {callee:= .value (.func f),args:=xs.toArray,argTypes:=a},type:=ty,pos:=pos,after:=after,guard:=none}::rest)):=
 St.Vo (λh=>absurd h b) e g hx hd h
theorem St.RG {dr:Prop}{f:FuncId}{x:Operand}{xs:List Operand}{g:Array TypeId}{vs caps:List Value}{ds:List du}{L:List ak}{post:Value→List ak→Prop}(i:c.dr→dr)
 (j:Df dr P f (vs++caps).toArray (ds.map aB++L) post) (k:aJ P f) (l:ai F x (.func (.func f) #[] caps.toArray)) (hx:bH F xs vs) (hd:Nat.ble (d+1) n=true) [m:kY ds H] [tk:eT L H R]
 (h:∀v H',post v H'→St n ((d,v)::F) (Mm c (H'++R)) (wpList P ops Q rest)):
 St n F (Mm c H) (wpList P ops Q ({dst:=some d,op:= .call {callee:= .value x,args:=xs.toArray,argTypes:=g},type:=ty,pos:=pos,after:=after,guard:=none}::rest)):=by
 intro a w b hw;refine gH rfl (gN k (bH.cons l hx) b w ?_);refine(Mm.wF j i (Mm.Ip (ds:=ds) (L:=L) hw)).mono ?_;rintro e w' ⟨u,H',rfl,hp,hm⟩;exact⟨u,rfl,h u H' hp _ w' (b.put (dR hd) u) hm⟩
theorem St.RH {f:FuncId}{x:Operand}{xs:List Operand}{a:Array TypeId}{vs caps:List Value}{ds:List du}{L:List ak}{post:Value→List ak→Prop}(b:¬c.dr)
 (e:uY P f (vs++caps).toArray (ds.map aB++L) post) (g:aJ P f) (i:ai F x (.func (.func f) #[] caps.toArray)) (hx:bH F xs vs) (hd:Nat.ble (d+1) n=true) [j:kY ds H] [tk:eT L H R]
 (h:∀v H',post v H'→St n ((d,v)::F) (Mm c (H'++R)) (wpList P ops Q rest)):
 St n F (Mm c H) (wpList P ops Q ({dst:=some d,op:= .call {callee:= .value x,args:=xs.toArray,argTypes:=a},type:=ty,pos:=pos,after:=after,guard:=none}::rest)):=
 St.RG (λh=>absurd h b) e g i hx hd h
end
end Go.J
namespace Go.Proofs.YtblifkgpebebmaaGreatDoor
open Go Go.J Tryz
theorem XR {g:gB}{words:List bB}(h:(dS g words).2.1=0):∀it∈(dS g words).1.1,e7 g.types.length g.cB.length it.ed.gr∧it.ed.gr.length≤60:=by
 have e:=Cv h
 have a:=vA e
 unfold dS at h⊢;rw[aA (λh=>h e)]at h⊢
 by_cases b:(ph g words).1≠0
 ·rw[aC b]at h;exact absurd h b
 ·rw[aA b]at h⊢
  have hw:=vI (show(ph g words).1=0 by omega)
  cases c:wo g words with
  |none=>rw[c]at h;have h:(17:Int)=0:=h;omega
  |some its=>
   unfold wo at c;obtain⟨cs,h1,rfl⟩:=di.1 c
   have f:qq g.types.length g.cB.length (qrG g words):=⟨hw.2,zB _,a.rn,a.xn,λr d=>⟨(a.rule r d).kids,(a.rule r d).gr,(a.rule r d).len⟩,λx hx=>⟨(a.lex x hx).gr,(a.lex x hx).len⟩⟩
   have j:=a.ty.len
   have k:=a.ft
   obtain⟨i,a2⟩:=CM f (by omega) (by omega) (words:=words) words.length 1 ⟨[],List.replicate (words.length*(words.length+1)) []⟩ cs (aR _) (by show 1+words.length≤words.length+1;omega) zb (λit hit=>by cases hit) h1
   exact λit hit=>(PW i.ok hit).2.2.2
theorem CI {g:gB}{outs:List (List bB)}{c:List bB}(h:oG g c=false):rI g outs c=outs:=by unfold rI;rw[h,aA (by decide)]
theorem MD {g:gB}{outs:List (List bB)}{c:List bB}(h:oG g c=true):rI g outs c=outs++ [c]:=by unfold rI;rw[aC h]
def Yw (b:Bool):List Value:=bif b then [iv 17,iv (-2)]else [iv 0,iv 0]
theorem O5 (ss:List (List bB)){az:List Nat}(h:az.length=ss.length):Aw ss az ss.length:=λj a s c b _=>absurd (ah b) (by omega)
theorem L9 {ss:List (List bB)}{az:List Nat}{q a:Nat}{s:List bB}(h:Aw ss az (q+1))(f:az[q]?=some a)(g:ss[q]?=some s)(e:a+1=s.length):Aw ss az q:=λj b t i c e2=>by
 rcases eM q j with d|d
 ·exact h j b t d c e2
 ·obtain rfl:j=q:=by omega
  rw[f]at c;rw[g]at e2
  obtain rfl:=Option.some.inj c;obtain rfl:=Option.some.inj e2
  exact e
theorem N9 {g:gB}{s:List (List bB)}(h:(iU g s).2.1=0):(iU g s).2=(0,0):=by
 unfold iU at h⊢
 by_cases c:(eS s).any (nk g)=true
 ·rw[aC c]at h;exact absurd h (by decide)
 ·rw[aA c]
theorem N8 {g:gB}{s:List (List bB)}(h:(iU g s).2.1≠0):(iU g s).1=[]:=by
 unfold iU at h⊢
 by_cases c:(eS s).any (nk g)=true
 ·rw[aC c]
 ·rw[aA c]at h;exact absurd rfl h
theorem AK (b d:aV)(m:Nat)(its:List dJ)(full:List Nat)(nt nf:Nat)(g:nf≤100)(i:∀x∈its,e7 nt nf (ay x.gr)∧x.gr.nodes.length≤60)(j:∀e∈full,e<its.length)(A:full.length≤1000):
 dx prog 71 #[.agg #[b.1,iv (m:Nat),d.1]] ([sl eB b.1 its,aF cj its,sl aI d.1 (bW full)].map aB) (λv H'=>∃(a:aV) (cs:List Value),v=a.1∧H'=[row a.1 183 4 full.length cs]):=by
 refine dx.body (args:=[.agg #[b.1,iv (m:Nat),d.1]]) 30 func71 rfl ntmps71 rfl (λc=> ?_);refine St.cast (H':=[aB (sl eB b.1 its),aB (aF cj its),aB (sl aI d.1 (bW full))]) rfl ?_;refine go ?_
 have l:(bW full).length=full.length:=dW _
 refine go ?_;refine St.dK (.mk rfl) rfl (λn=> ?_);refine g18 ?_;refine St.e9 183 4 ?_;refine St.aM (.slice none 0 0) (show _=0 from rfl) (show _=([]:List Value)from rfl) ?_;refine St.lH (ι:=Nat×aV×List Value) (λ⟨k,a,cs⟩ T=>(10,iv k)::(3,a.1)::T) (λ⟨k,a,cs⟩=>[row a.1 183 4 k cs,aW n (.cells [b.1,iv (m:Nat),d.1].toArray 120 (0,0)),aB (sl eB b.1 its),aB (aF cj its),aB (sl aI d.1 (bW full))]) (λ⟨k,a,cs⟩=>k≤full.length) (λ⟨k,a,cs⟩=>full.length-k) ⟨0,bT,[]⟩ (aD.cons 1 rfl (aD.cons 2 rfl (aD.cons 8 rfl (aD.cons 9 rfl aD.nil)))) (aO _) ?_;rintro ⟨k,a,cs⟩ hk
 dsimp only at hk⊢
 refine g6 ?_;refine St.cq (λo=> ?_) (λo=> ?_)
 ·obtain⟨q,f⟩:=aE (show k<full.length by omega)
  have p:=j q (ae f)
  obtain⟨x,hx⟩:=aE p;obtain⟨r,B⟩:=i x (ae hx);refine St.cI cj its (x:=x) (ae hx) ?_;refine St.eY (aG x.gr) [cj x] (λρ h=>h (cj x) (aP ..) (aG x.gr) (aP ..)) ?_;refine g7 ?_;refine St.ee (Ev.ld1 (.mk rfl) (gT f) gG trivial rfl) ?_;refine g10 ?_;refine St.ee (Ev.Ea (Rr:=eB) (sz:=4) (.mk rfl) hx Fv trivial zj (by decide) (by decide)) ?_;refine St.slot 19 (.agg #[iv (x.frm:Nat),iv (x.tqo:Nat),iv (x.cw:Nat),x.gr.nv.1]) rfl rfl ?_;refine St.al (λs=> ?_);refine g6 ?_;refine St.ee (Ev.iV 1 (.mk rfl) mf trivial jT rfl rfl) ?_;refine St.slot 21 (bA x.gr) rfl rfl ?_;refine St.ag (qD x.gr nt nf g r (by omega)) U9 (.ar rfl) rfl ?_;rintro v22 _ rfl;refine St.ao ?_;refine St.bK (gl (ay x.gr) 0) v22 (λy hy=> ?_);obtain⟨rfl,C⟩:=hy;refine go ?_;refine St.Fc (ai.mk rfl) (ai.mk rfl) jT y.nv.2 rfl rfl ?_;refine St.mK s (L':=[iv (x.frm:Nat),iv (x.tqo:Nat),iv (x.cw:Nat),y.nv.1]) rfl ?_;refine g5 ?_;refine St.slot 25 (.agg #[iv (x.frm:Nat),iv (x.tqo:Nat),iv (x.cw:Nat),y.nv.1]) rfl rfl ?_;refine St.fp rfl (.ar rfl) underlying148 zj VG rfl rfl (by simp[Value.cells]) rfl rfl (λt=> ?_);refine St.aj (.mk rfl) (.mk rfl) underlying148 zj VG Z8 (by intro u hu;have hu:u∈[iv (x.frm:Nat),iv (x.tqo:Nat),iv (x.cw:Nat),y.nv.1]:=hu;rcases cH.1 hu with rfl|hu;rfl;rcases cH.1 hu with rfl|hu;rfl;rcases cH.1 hu with rfl|hu;rfl;rw[bO.1 hu];exact y.nv.2) (by omega) (by omega) rfl rfl rfl rfl (λv27 w=> ?_);refine St.aM v27 (show _=k+1 from rfl) (show _=cs++ [iv (x.frm:Nat),iv (x.tqo:Nat),iv (x.cw:Nat),y.nv.1]from rfl) ?_;refine St.bZ v27 (λz _=> ?_);refine g9 ?_;refine St.aH ⟨k+1,⟨v27,z⟩,cs++ [iv (x.frm:Nat),iv (x.tqo:Nat),iv (x.cw:Nat),y.nv.1]⟩ (by dsimp only;omega)
 ·obtain rfl:k=full.length:=by omega
  refine g12 ?_;refine St.rV [_] [row a.1 183 4 full.length cs] ?_;exact⟨a,cs,rfl,rfl⟩
theorem AU (bg d f:Nat)(g:gb)(wv:aV)(words:List bB)(a:aV)(us:List aV)(outs:List (List bB))(k:us.length=outs.length)(H:outs.length≤1000):
 uY prog 70 ([wv.1]++ [Value.pointer (some ⟨bg,0,none⟩),Value.pointer (some ⟨d,0,none⟩),Value.pointer (some ⟨f,0,none⟩)]).toArray ([fO bg (iu g),fB g,sl bL wv.1 words,tz,u8].map aB++ [aW d (.cells ([iv 0,iv 0]).toArray 35 (0,0)),aW f (.cells [a.1].toArray 49 (0,0)),row a.1 33 1 (us).length (rows bS (us)),aB (js bL (us) (outs))]) (λv H'=>∃(p:aV) (n:List aV),v= .bool (!nk (ca g) words)∧n.length=(rI (ca g) outs words).length∧H'=[aW d (.cells (Yw (nk (ca g) words)).toArray 35 (0,0)),aW f (.cells [p.1].toArray 49 (0,0)),row p.1 33 1 (n).length (rows bS (n)),aB (js bL (n) (rI (ca g) outs words))]):=by
 refine uY.body (args:=[wv.1]++ [Value.pointer (some ⟨bg,0,none⟩),Value.pointer (some ⟨d,0,none⟩),Value.pointer (some ⟨f,0,none⟩)]) 31 func70 rfl ntmps70 rfl (λc z=> ?_);refine go ?_;refine St.cast (H':=[aB (fO bg (iu g)),aB (fB g),aB (sl bL wv.1 words),aB (tz),aB (u8),aW d (.cells ([iv 0,iv 0]).toArray 35 (0,0)),aW f (.cells [a.1].toArray 49 (0,0)),row a.1 33 1 (us).length (rows bS (us)),aB (js bL (us) (outs))]) rfl ?_;refine g6 ?_;refine St.ee (Ev.HG (.mk rfl) Xs trivial (by exact Tb)) ?_;refine St.slot 9 (fV g) rfl rfl ?_;refine go ?_;refine St.nb z (FG g wv.1 words) Zp (.aY rfl rfl) rfl ?_;rintro v11 _ ⟨q,r,m,s,rfl,t,rfl⟩;refine St.iQ ?_;refine g3 ?_;refine St.slot 13 (fv (dS (ca g) words).2) rfl rfl ?_;refine St.al (λI=> ?_);refine St.al (λK=> ?_);refine g12 ?_;refine St.cq (λo=> ?_) (λo=> ?_)
 ·have e:nk (ca g) words=true:=dt o
  have b:=CI (outs:=outs) (Rv e)
  refine g2 ?_;refine St.ee (Ev.call (iH 17 (-2)) KZ (.aY rfl rfl)) ?_;refine go ?_;refine St.mK d (L':=[iv 17,iv (-2)]) rfl ?_;refine g9 ?_;refine St.rV [_] [aW d (.cells ([iv 17,iv (-2)]).toArray 35 (0,0)),aW f (.cells [a.1].toArray 49 (0,0)),row a.1 33 1 (us).length (rows bS (us)),aB (js bL (us) (outs))] ?_;exact⟨a,us,by rw[e];rfl,by rw[b];exact k,by rw[e,b];rfl⟩
 ·have e:nk (ca g) words=false:=fK o
  refine g9 ?_;refine St.split 21 _ rfl (λi=> ?_) (λi=> ?_)
  ·have j:(dS (ca g) words).2.1=0:=ei i
   obtain⟨u,L⟩:=FF (ca g) words;rw[←t,aN]at u
   have A:=XR j
   have B:(ca g).cB.length≤100:=by have:=(vA (Cv j)).ft;omega
   have C:∀x∈s,e7 (ca g).types.length (ca g).cB.length (ay x.gr)∧x.gr.nodes.length≤60:=λx hx=>by have h:=A (cE x) (by rw[←t];exact eN hx);exact⟨h.1,by have w:=h.2;rw[show(cE x).ed.gr=ay x.gr from rfl,cz]at w;exact w⟩
   refine St.cF rfl rfl ?_;refine go ?_;refine St.slot 22 (.agg #[q.1,iv (m:Nat),r.1]) rfl rfl ?_;refine St.cF rfl rfl ?_;refine St.ag (AK q r m s (dS (ca g) words).1.2 (ca g).types.length (ca g).cB.length B C u (by omega)) ahJ (.ar rfl) rfl ?_;rintro v23 _ ⟨ev,D,rfl,rfl⟩;refine St.ao ?_;refine St.cF rfl rfl ?_;refine go ?_;refine St.cF rfl rfl ?_;refine go ?_;refine St.ee (Ev.gZ (.mk rfl) rfl (.mk rfl)) ?_;refine g2 ?_;refine St.cq (λE=> ?_) (λE=> ?_)
   ·have l:oG (ca g) words=true:=by unfold oG;rw[dt j,dt (show 0<(dS (ca g) words).1.2.length by omega)];rfl
    have b:=MD (outs:=outs) l
    refine g3 ?_;refine St.fp rfl (.ar rfl) pK uK De rfl rfl (by simp[J.cells_one wv.2]) rfl rfl (λF=> ?_);refine St.aj (.mk rfl) (.mk rfl) pK uK De Vl (by simp[J.cells_one wv.2,wv.2]) (by omega) (by omega) rfl rfl rfl rfl (λv30 G=> ?_);refine St.aM v30 (show _=(us++ [wv]).length by rw[bN];rfl) (show _=rows bS (us++ [wv]) by rw[ax];simp[J.cells_one wv.2];rfl) ?_;refine St.bZ v30 (λy _=> ?_);refine St.cJ (.mk rfl) (.mk rfl) alS y (by rfl) ?_;refine St.DF us wv k ?_;refine g8 ?_;refine St.rV [_] [aW d (.cells ([iv 0,iv 0]).toArray 35 (0,0)),aW f (.cells [v30].toArray 49 (0,0)),row v30 33 1 (us++ [wv]).length (rows bS (us++ [wv])),aB (js bL (us++ [wv]) (outs++ [words]))] ?_;exact⟨⟨v30,y⟩,us++ [wv],by rw[e];rfl,by rw[b,bN,bN,k];rfl,by rw[e,b];rfl⟩
   ·have l:oG (ca g) words=false:=by unfold oG;rw[fK (show ¬0<(dS (ca g) words).1.2.length by omega),Bool.and_false]
    have b:=CI (outs:=outs) l
    refine g8 ?_;refine St.rV [_] [aW d (.cells ([iv 0,iv 0]).toArray 35 (0,0)),aW f (.cells [a.1].toArray 49 (0,0)),row a.1 33 1 (us).length (rows bS (us)),aB (js bL (us) (outs))] ?_;exact⟨a,us,by rw[e];rfl,by rw[b];exact k,by rw[e,b];rfl⟩
  ·have l:oG (ca g) words=false:=by unfold oG;rw[fK (iX i)];rfl
   have b:=CI (outs:=outs) l
   refine St.bq rfl rfl rfl ?_;refine St.bq rfl rfl rfl ?_;refine St.bq rfl rfl rfl ?_;refine St.bq rfl rfl rfl ?_;refine St.ee (Ev.kR (.mk rfl) rfl (.mk rfl)) ?_;refine g2 ?_;refine St.tG _ rfl rfl ?_;refine g8 ?_;refine St.rV [_] [aW d (.cells ([iv 0,iv 0]).toArray 35 (0,0)),aW f (.cells [a.1].toArray 49 (0,0)),row a.1 33 1 (us).length (rows bS (us)),aB (js bL (us) (outs))] ?_;exact⟨a,us,by rw[e];rfl,by rw[b];exact k,by rw[e,b];rfl⟩
theorem Gn (bg f i:Nat)(g:gb)(v0:Value)(vs:List aV)(aQ:List (List bB))(K:vs.length=aQ.length)(A:IL (ca g) aQ)(O:∀xs∈aQ,∀x∈xs,bL.wf x):
 uY prog 69 #[v0,Value.func (.func 70) #[] #[Value.pointer (some ⟨bg,0,none⟩),Value.pointer (some ⟨f,0,none⟩),Value.pointer (some ⟨i,0,none⟩)]] ([sl bS v0 vs,js bL vs aQ,fO bg (iu g),fB g,tz,u8].map aB++ [aW f (.cells ([iv 0,iv 0]).toArray 35 (0,0)),aW i (.cells [(.slice none 0 0)].toArray 49 (0,0)),row (.slice none 0 0) 33 1 (([]:List aV)).length (rows bS (([]:List aV))),aB (js bL (([]:List aV)) (([]:List (List bB))))]) (λv H'=>∃(j:aV) (d:List aV) (E:List (List bB)),v= .tuple #[]∧d.length=E.length∧((iU (ca g) aQ).2.1=0→E=(iU (ca g) aQ).1)∧H'=[aW f (.cells ([iv (iU (ca g) aQ).2.1,iv (iU (ca g) aQ).2.2]).toArray 35 (0,0)),aW i (.cells [j.1].toArray 49 (0,0)),row j.1 33 1 (d).length (rows bS (d)),aB (js bL (d) (E))]):=by
 refine uY.body (args:=[v0,Value.func (.func 70) #[] #[Value.pointer (some ⟨bg,0,none⟩),Value.pointer (some ⟨f,0,none⟩),Value.pointer (some ⟨i,0,none⟩)]]) 65 func69 rfl ntmps69 rfl (λc P=> ?_);refine go ?_;refine St.cast (H':=[aB (sl bS v0 vs),aB (js bL vs aQ),aB (fO bg (iu g)),aB (fB g),aB (tz),aB (u8),aW f (.cells ([iv 0,iv 0]).toArray 35 (0,0)),aW i (.cells [(.slice none 0 0)].toArray 49 (0,0)),row (.slice none 0 0) 33 1 (([]:List aV)).length (rows bS (([]:List aV))),aB (js bL (([]:List aV)) (([]:List (List bB))))]) rfl ?_
 have hp:∀s∈aQ,0<s.length:=λs e=>(A.aQ s e).pos
 have Q:=A.BF
 have hn0:=A.pos
 have R:=A.prod
 refine g3 ?_;refine St.nJ (Rr:=aI) (g:=0) (m:=aQ.length) (sz:=1) rfl (.mk rfl) (.mk rfl) bI dL eQ xO (congrArg _ K) (congrArg _ K) (by omega) rfl rfl (λp=> ?_);refine St.aM (.slice (some ⟨p,0,none⟩) aQ.length aQ.length) (show _=aQ.length from rfl) (show _=rows aI (bW (List.replicate aQ.length 0)) by unfold bW;rw[s9];rfl) ?_;refine g4 ?_;refine St.lH (ι:=List Nat×aV×List aV×List (List bB)) (λ⟨az,n,us,outs⟩ T=>T) (λ⟨az,n,us,outs⟩=>[row (.slice (some ⟨p,0,none⟩) aQ.length aQ.length) 3 1 aQ.length (rows aI (bW (az))),aW f (.cells ([iv 0,iv 0]).toArray 35 (0,0)),aW i (.cells [n.1].toArray 49 (0,0)),row n.1 33 1 (us).length (rows bS (us)),aB (js bL (us) (outs)),aB (sl bS v0 vs),aB (js bL vs aQ),aB (fO bg (iu g)),aB (fB g),aB (tz),aB (u8)]) (λ⟨az,n,us,outs⟩=>xy (ca g) aQ az outs∧us.length=outs.length) (λ⟨az,n,us,outs⟩=>(pU aQ az).length) ⟨List.replicate aQ.length 0,bT,[],[]⟩ (aD.cons 0 rfl (aD.cons 1 rfl (aD.cons 4 rfl aD.nil))) ⟨Gt hp,rfl⟩ ?_;rintro ⟨az,n,us,outs⟩ ⟨l,M⟩
 dsimp only at l M⊢
 have t:=l.ok.len
 have S:=FA l.ok
 have U:=NK l
 have F:o8 az aQ.length aQ.length=az:=by have:=MN (az:=az);rwa[t]at this
 refine g15 ?_;refine St.e9 9 1 ?_;refine St.aM (.slice none 0 0) (show _=((fT aQ az).take 0).length from rfl) (show _=rows bL ((fT aQ az).take 0)from rfl) ?_;refine St.lH (ι:=Nat×aV) (λ⟨k,wv⟩ T=>(14,iv k)::(5,wv.1)::T) (λ⟨k,wv⟩=>[row wv.1 9 1 ((fT aQ az).take (k)).length (rows bL ((fT aQ az).take (k))),row (.slice (some ⟨p,0,none⟩) aQ.length aQ.length) 3 1 aQ.length (rows aI (bW (az))),aW f (.cells ([iv 0,iv 0]).toArray 35 (0,0)),aW i (.cells [n.1].toArray 49 (0,0)),row n.1 33 1 (us).length (rows bS (us)),aB (js bL (us) (outs)),aB (sl bS v0 vs),aB (js bL vs aQ),aB (fO bg (iu g)),aB (fB g),aB (tz),aB (u8)]) (λ⟨k,wv⟩=>k≤aQ.length) (λ⟨k,wv⟩=>aQ.length-k) ⟨0,bT⟩ (aD.cons 0 rfl (aD.cons 1 rfl (aD.cons 4 rfl (aD.cons 12 rfl (aD.cons 13 rfl aD.nil))))) (aO _) ?_;rintro ⟨k,wv⟩ hk
 dsimp only at hk⊢
 have htk:((fT aQ az).take k).length≤12:=by rw[eR];omega
 refine g6 ?_;refine St.cq (λV=> ?_) (λV=> ?_)
 ·obtain⟨a,o⟩:=aE (show k<az.length by omega)
  obtain⟨s,e⟩:=aE (show k<aQ.length by omega);obtain⟨u,hu⟩:=aE (show k<vs.length by omega);refine St.js (vs:=vs) k hu e ?_
  have N:=l.ok.at o e
  obtain⟨w,hw⟩:=aE N
  have B:=JJ o e hw
  refine g8 ?_;refine St.ee (Ev.ct (.mk rfl) gG trivial (by omega) (oM (gT o))) ?_;refine g13 ?_;refine St.fp rfl (.ar rfl) mz Jk QZ rfl rfl (by simp[Value.cells]) rfl rfl (λb27=> ?_);refine St.aj (.mk rfl) (.mk rfl) mz Jk QZ by9 (by simp[Value.oneCell',Value.cells]) (by omega) (by omega) rfl rfl rfl rfl (λv28 W=> ?_);refine St.aM v28 (show _=((fT aQ az).take (k+1)).length by rw[aX B,bN];rfl) (show _=rows bL ((fT aQ az).take (k+1)) by rw[aX B,ax];rfl) ?_;refine St.bZ v28 (λX _=> ?_);refine g9 ?_;refine St.aH ⟨k+1,⟨v28,X⟩⟩ (by dsimp only;omega)
 ·obtain rfl:k=aQ.length:=by omega
  rw[fF (Nat.le_of_eq S)];refine St.bR wv.1 bL (fT aQ az) rfl rfl (λw hw=>by obtain⟨s,e,G⟩:=FB l.ok w hw;exact O s e w G) ?_;refine g10 ?_;refine St.RH (ds:=[fO bg (iu g),fB g,sl bL wv.1 (fT aQ az),tz,u8]) (L:=[aW f (.cells ([iv 0,iv 0]).toArray 35 (0,0)),aW i (.cells [n.1].toArray 49 (0,0)),row n.1 33 1 (us).length (rows bS (us)),aB (js bL (us) (outs))]) (caps:=[Value.pointer (some ⟨bg,0,none⟩),Value.pointer (some ⟨f,0,none⟩),Value.pointer (some ⟨i,0,none⟩)]) P (AU bg f i g wv (fT aQ az) n us outs M (by omega)) ahI (.mk rfl) (.ar rfl) rfl ?_;rintro v32 _ ⟨j,d,rfl,r,rfl⟩;refine St.Yo ?_;refine g3 ?_;refine St.cond _ rfl (λH=> ?_) (λH=> ?_)
  ·skip
   have y:nk (ca g) (fT aQ az)=true:=by simpa using H
   have C:=NL hp l y
   refine g5 ?_;refine St.rV [] [aW f (.cells (Yw (nk (ca g) (fT aQ az))).toArray 35 (0,0)),aW i (.cells [j.1].toArray 49 (0,0)),row j.1 33 1 (d).length (rows bS (d)),aB (js bL (d) (rI (ca g) outs (fT aQ az)))] ?_;exact⟨j,d,_,rfl,r,λh=>by rw[C]at h;exact absurd h (by decide),by rw[C,y];rfl⟩
  ·skip
   have y:nk (ca g) (fT aQ az)=false:=by simpa using H
   refine St.mK f (L':=[iv 0,iv 0]) (by rw[y];rfl) ?_;refine g12 ?_;refine St.aM (.slice (some ⟨p,0,none⟩) aQ.length aQ.length) (show _=aQ.length from rfl) (show _=rows aI (bW (o8 az aQ.length aQ.length)) by rw[F]) ?_;refine St.lH (ι:=Nat) (λm T=>(8,iv ((m:Int)-1))::T) (λm=>[row (.slice (some ⟨p,0,none⟩) aQ.length aQ.length) 3 1 aQ.length (rows aI (bW (o8 az aQ.length m))),aW f (.cells ([iv 0,iv 0]).toArray 35 (0,0)),aW i (.cells [j.1].toArray 49 (0,0)),row j.1 33 1 (d).length (rows bS (d)),aB (js bL (d) (rI (ca g) outs (fT aQ az))),aB (sl bS v0 vs),aB (js bL vs aQ),aB (fO bg (iu g)),aB (fB g),aB (tz),aB (u8)]) (λm=>m≤aQ.length∧Aw aQ az m) (λm=>m) aQ.length (aD.cons 0 rfl (aD.cons 1 rfl (aD.cons 4 rfl aD.nil))) ⟨aR _,O5 aQ t⟩ ?_;rintro m ⟨hm,I⟩;obtain⟨a,o⟩:=aE (show m-1<az.length by omega);obtain⟨s,e⟩:=aE (show m-1<aQ.length by omega);obtain⟨u,hu⟩:=aE (show m-1<vs.length by omega);refine St.js (vs:=vs) (m-1) hu e ?_
   have N:=l.ok.at o e
   have Y:=(A.aQ s (ae e)).BF
   refine g2 ?_;refine St.rq mixed (by kernel_rfl) (Mm.drawn _ _) ?_;refine g3 ?_;refine Sq.gt _ rfl rfl (λb=>Ev.move (.mk rfl)) rfl ?_;refine Sq.gt _ rfl rfl (λb=>Ev.move (.mk rfl)) rfl ?_;refine Sq.gt _ rfl rfl (λb=>Ev.dX (k:=m-1) (ai.gv rfl b) (ai.gv rfl b) bI dL (by first|omega|(simp only[ew]at b;omega)) (by simp only[decide_eq_true_eq]at b;omega)) rfl ?_;refine Sq.gt _ rfl rfl (λb=>Ev.ct (ai.gv rfl b) gG trivial (by simp only[decide_eq_true_eq]at b;omega) (oM (gT ((IU t (by simp only[decide_eq_true_eq]at b;omega) hm).trans o)))) rfl ?_;refine Sq.gt _ rfl rfl (λb=>Ev.add (ai.gv rfl b) (.mk rfl) (by first|omega|(simp only[ew]at b;omega))) rfl ?_;refine Sq.gt _ rfl rfl (λb=>Ev.move (.mk rfl)) rfl ?_;refine Sq.gt _ rfl rfl (λb=>Ev.move (.mk rfl)) rfl ?_;refine Sq.gt _ rfl rfl (λb=>Ev.cL (k:=m-1) (ai.gv rfl b) (ai.gv rfl b) pK uK (by first|omega|(simp only[ew]at b;omega)) (by simp only[decide_eq_true_eq]at b;omega)) rfl ?_;refine Sq.gt _ rfl rfl (λb=>Ev.ld1 (ai.gv rfl b) hu mz trivial rfl) rfl ?_;refine Sq.gt _ rfl rfl (λb=>Ev.fj (ai.gv rfl b) mz) rfl ?_;refine Sq.gt _ rfl rfl (λb=>Ev.eql (ai.gv rfl b) (ai.gv rfl b)) rfl ?_;refine g3 ?_;refine St.cq (λZ=> ?_) (λZ=> ?_)
   ·obtain⟨q,rfl⟩:∃q,m=q+1:=⟨m-1,by omega⟩
    rw[Nat.add_sub_cancel]at o e hu;refine g7 ?_;refine St.ee (Ev.dX (k:=q) (.mk rfl) (.mk rfl) bI dL (by omega) (by omega)) ?_;refine St.cG (.mk rfl) (.mk rfl) dL rfl (by omega) (by decide) ?_;refine St.aM (.slice (some ⟨p,0,none⟩) aQ.length aQ.length) (show _=aQ.length from rfl) (show _=rows aI (bW (o8 az aQ.length q)) by rw[←KO (m:=q) t (by omega)];exact r8 _ _ _) ?_;refine g9 ?_;refine St.sK q ⟨by omega,L9 I o e (by omega)⟩ (pN q) (by repeat(first|exact Sub.nil|refine Sub.cons (by first|rfl|exact congrArg (λz=>some (iv z)) (by first|omega|(dsimp only;omega))|exact congrArg (λz=>some (Value.bool z)) (by first|assumption|exact j5 (by assumption))) ?_)) (λ_ hw=>hw.sub)
   ·refine g12 ?_
    refine St.cq (λJ=> ?_) (λJ=> ?_)
    ·obtain rfl:m=0:=by omega
     have C:=NJ hp l y (zD l.ok I)
     refine g5 ?_;refine St.rV [] [aW f (.cells ([iv 0,iv 0]).toArray 35 (0,0)),aW i (.cells [j.1].toArray 49 (0,0)),row j.1 33 1 (d).length (rows bS (d)),aB (js bL (d) (rI (ca g) outs (fT aQ az)))] ?_;exact⟨j,d,_,rfl,r,λ_=>by rw[C],by rw[C]⟩
    ·obtain⟨q,rfl⟩:∃q,m=q+1:=⟨m-1,by omega⟩
     rw[Nat.add_sub_cancel]at o e hu
     have YI:a+1<s.length:=by omega
     have D:=Kh hp l y (OX l.ok o e I YI)
     refine g5 ?_;refine St.ee (Ev.dX (k:=q) (.mk rfl) (.mk rfl) bI dL (by omega) (by omega)) ?_;refine St.ee (Ev.ct (.mk rfl) gG trivial (by omega) (oM (gT ((IU t (pN q) hm).trans o)))) ?_;refine go ?_;refine St.slot 63 (iv ((a+1:Nat):Int)) rfl (congrArg iv (by push_cast;rfl)) ?_;refine St.ee (Ev.dX (k:=q) (.mk rfl) (.mk rfl) bI dL (by omega) (by omega)) ?_;refine St.cG (.mk rfl) (.mk rfl) dL rfl (by omega) (by decide) ?_;refine St.aM (.slice (some ⟨p,0,none⟩) aQ.length aQ.length) (show _=aQ.length from rfl) (show _=rows aI (bW (az.take q++(a+1)::List.replicate (aQ.length-(q+1)) 0)) by rw[←Dz t (by omega)];exact r8 _ _ _) ?_;refine g3 ?_;refine St.sK ⟨az.take q++(a+1)::List.replicate (aQ.length-(q+1)) 0,j,d,rI (ca g) outs (fT aQ az)⟩ ⟨D.1,r⟩ D.2 (by repeat(first|exact Sub.nil|refine Sub.cons (by first|rfl|exact congrArg (λz=>some (iv z)) (by first|omega|(dsimp only;omega))|exact congrArg (λz=>some (Value.bool z)) (by first|assumption|exact j5 (by assumption))) ?_)) (λ_ hw=>hw.sub)
theorem BG (g:gb)(v0:Value)(aQ:List (List bB))(k:IL (ca g) aQ):uY prog 33 #[fV g,v0] ([fB g,pT bL v0 aQ,tz,u8].map aB) (λv H'=>∃a:aV,v= .tuple #[a.1,fv (iU (ca g) aQ).2]∧H'=[aB (pT bL a.1 (iU (ca g) aQ).1)]):=by
 refine uY.body (args:=[fV g,v0]) 17 func33 rfl ntmps33 rfl (λc m=> ?_);refine St.cast (H':=[aB (fB g),aB (pT bL v0 aQ),aB (tz),aB (u8)]) rfl ?_;refine go ?_;refine St.nu v0 (λvs h=> ?_);refine St.JP vs h (λn=> ?_);refine go ?_;refine St.dK (.mk rfl) rfl (λe=> ?_);refine go ?_;refine St.al (λo=> ?_);refine g4 ?_;refine St.al (λi=> ?_);refine g4 ?_;refine St.al (λj=> ?_);refine g3 ?_;refine St.vT e ?_;refine St.e9 33 1 ?_;refine St.aM (.slice none 0 0) (show _=([]:List aV).length from rfl) (show _=rows bS []from rfl) ?_;refine St.HY bL ?_;refine g2 ?_;refine St.ee (Ev.func (.eh rfl rfl rfl)) ?_;refine St.Vp (ds:=[sl bS v0 vs,js bL vs aQ,fO e (iu g),fB g,tz,u8]) (L:=[aW j (.cells ([iv 0,iv 0]).toArray 35 (0,0)),aW i (.cells [(.slice none 0 0)].toArray 49 (0,0)),row (.slice none 0 0) 33 1 (([]:List aV)).length (rows bS (([]:List aV))),aB (js bL (([]:List aV)) (([]:List (List bB))))]) m (Gn e j i g v0 vs aQ h k n) ahH (.aY rfl rfl) rfl ?_;rintro v10 _ ⟨a,us,outs,rfl,p,b,rfl⟩;refine St.Yo ?_;refine g10 ?_;refine St.cq (λd=> ?_) (λd=> ?_)
 ·have q:=N8 (g:=ca g) (s:=aQ) d
  refine St.OU (Rr:=bL) ?_;refine St.OO (Rr:=bL) (l:=[]) (.slice none 0 0) (vs:=[]) rfl ?_;refine go ?_;refine St.qS [o] mixed (λr t=> ?_);refine SW.gd 0 ?_;refine SW.gd 1 ?_;refine SW.t1 2 ?_;refine g3 ?_;refine SW.go ?_;refine SW.dn ?_;refine g3 ?_;refine St.rV [_,_] [aB (pT bL (.slice none 0 0) [])] ?_;exact⟨bT,rfl,by rw[q]⟩
 ·have b:=b (by omega)
  subst b;refine St.bR a.1 bS us rfl rfl (λ_ _=>trivial) ?_;refine St.OO (Rr:=bL) a.1 p ?_
  have f:=N9 (g:=ca g) (s:=aQ) (by omega)
  refine g5 ?_;refine St.ee (Ev.build (bH.nil) (λw=>jv w)) ?_;refine g5 ?_;refine St.rV [_,_] [aB (pT bL a.1 (iU (ca g) aQ).1)] ?_;exact⟨a,by rw[f];rfl,rfl⟩
theorem ua (g:gb)(v0:Value)(aQ:List (List bB)):uY prog 13 #[fV g,v0] ([fB g,pT bL v0 aQ,tz,u8].map aB) (λv H'=>∃a:aV,v= .tuple #[a.1,fv (fN (ca g) aQ).2]∧H'=[aB (pT bL a.1 (fN (ca g) aQ).1)]):=by
 refine uY.body (args:=[fV g,v0]) 19 func13 rfl ntmps13 rfl (λc d=> ?_);refine St.cast (H':=[aB (fB g),aB (pT bL v0 aQ),aB (tz),aB (u8)]) rfl ?_;refine g2 ?_;refine St.dK (.mk rfl) rfl (λk=> ?_);refine go ?_;refine St.al (λf=> ?_);refine g6 ?_;refine St.slot 7 (fV g) rfl rfl ?_;refine go ?_;refine St.ee (Ev.nF d (yU g v0 aQ) Zn (.aY rfl rfl)) ?_;refine St.slot 9 (.agg #[iv (nh (ca g) aQ).1,iv (nh (ca g) aQ).2]) rfl rfl ?_;refine St.al (λm=> ?_);refine g10 ?_;refine St.cq (λe=> ?_) (λe=> ?_)
 ·have b:(fN (ca g) aQ)=([],(nh (ca g) aQ)):=by unfold fN;rw[aC e]
  refine St.OU (Rr:=bL) ?_;refine St.OO (Rr:=bL) (l:=[]) (.slice none 0 0) (vs:=[]) rfl ?_;refine go ?_;refine St.qS [f] mixed (λn o=> ?_);refine SW.gd 0 ?_;refine SW.gd 1 ?_;refine SW.t1 2 ?_;refine g3 ?_;refine SW.go ?_;refine SW.dn ?_;refine g3 ?_;refine St.rV [_,_] [aB (pT bL (.slice none 0 0) [])] ?_;exact⟨bT,by rw[b];rfl,by rw[b]⟩
 ·have i:=Cd.1 (show(nh (ca g) aQ).1=0 by omega)
  have b:(fN (ca g) aQ)=(iU (ca g) aQ):=by unfold fN;rw[aA (λh=>h (by omega))]
  refine g5 ?_;refine St.slot 14 (fV g) rfl rfl ?_;refine go ?_;refine St.nb d (BG g v0 aQ i) Zo (.aY rfl rfl) rfl ?_;rintro j _ ⟨a,rfl,rfl⟩;refine St.ao ?_;refine g2 ?_;refine St.slot 18 (fv (iU (ca g) aQ).2) rfl rfl ?_;refine g5 ?_;refine St.rV [_,_] [aB (pT bL a.1 (iU (ca g) aQ).1)] ?_;exact⟨a,by rw[b];rfl,by rw[b]⟩
mutual
def pq (g:gB):jY→Int
 | .mk r l ks=>if r<0 then((g.aL.map (·.weight))[l.toNat]?).getD 0 else((g.rules.map (·.weight))[r.toNat]?).getD 0+jC g ks
def jC (g:gB):List jY→Int
 | []=>0
 |t::l=>pq g t+jC g l
end
mutual
def Xq (g:gB):jY→Bool
 | .mk r l ks=>if r<0 then decide (0≤l)&&decide (l<g.aL.length)else decide (r<g.rules.length)&&Pt g ks
def Pt (g:gB):List jY→Bool
 | []=>true
 |t::l=>Xq g t&&Pt g l
end
mutual
def Qk:jY→Nat
 | .mk _ _ ks=>1+pk ks
def pk:List jY→Nat
 | []=>0
 |t::l=>Qk t+pk l
end
theorem Ta (g:gB)(r l:Int)(ks:List jY):pq g (.mk r l ks)=if r<0 then((g.aL.map (·.weight))[l.toNat]?).getD 0 else((g.rules.map (·.weight))[r.toNat]?).getD 0+jC g ks:=by rw[pq]
theorem Xr (g:gB)(r l:Int)(ks:List jY):Xq g (.mk r l ks)=if r<0 then decide (0≤l)&&decide (l<g.aL.length)else decide (r<g.rules.length)&&Pt g ks:=by rw[Xq]
theorem XI (r l:Int)(ks:List jY):Qk (.mk r l ks)=1+pk ks:=by rw[Qk]
theorem Be (g:gB):∀(a b:List jY),jC g (a++b)=jC g a+jC g b
 | [],b=>by rw[A6,jC,Int.zero_add]
 |t::a,b=>by rw[wZ,jC,jC,Be g a b,Int.add_assoc]
theorem Er:∀(a b:List jY),pk (a++b)=pk a+pk b
 | [],b=>by rw[A6,pk,jG]
 |t::a,b=>by rw[wZ,pk,pk,Er a b,qi]
theorem Fl {g:gB}:∀{l:List jY},Pt g l=true→∀t∈l,Xq g t=true
 | [],_,_,h=>by cases h
 |x::l,h,t,ht=>by
  rw[Pt,qj]at h
  rcases cH.1 ht with rfl|ht
  ·exact h.1
  ·exact Fl h.2 t ht
theorem Eu:∀{l:List jY} {t:jY},t∈l→Qk t≤pk l
 | [],_,h=>by cases h
 |x::l,t,h=>by
  rw[pk]
  rcases cH.1 h with rfl|h
  ·exact Nat.le_add_right _ _
  ·exact dY (Eu h) (Nat.le_add_left _ _)
theorem Et:∀(l:List jY),l.length≤pk l
 | []=>aO _
 |x::l=>by
  cases x with
  |mk r w ks=>
   rw[pk,Qk,fA]
   have:=Et l
   omega
theorem LD {l:List jY}(k:Nat):pk (l.take k)≤pk l:=by
 have h:=Er (l.take k) (l.drop k)
 rw[ql]at h;omega
structure WtG (g:gB):Prop where
 r:∀x∈g.rules,0≤x.weight∧x.weight≤1000000
 x:∀x∈g.aL,0≤x.weight∧x.weight≤1000000
theorem Ix {l:List Int}(h:∀x∈l,0≤x∧x≤1000000)(i:Nat):0≤(l[i]?).getD 0∧(l[i]?).getD 0≤1000000:=by
 rcases eM i l.length with a|a
 ·rw[bU a];exact h _ (gz a)
 ·rw[ic a];exact⟨Int.le_refl _,by decide⟩
mutual
theorem Je {g:gB}(h:WtG g):∀t:jY,0≤pq g t∧pq g t≤1000000*(Qk t:Int)
 | .mk r l ks=>by
  rw[pq,Qk]
  have h1:=Ix (l:=g.aL.map (·.weight)) (λx hx=>by obtain⟨y,hy,rfl⟩:=cy.1 hx;exact h.x y hy) l.toNat
  have a:=Ix (l:=g.rules.map (·.weight)) (λx hx=>by obtain⟨y,hy,rfl⟩:=cy.1 hx;exact h.r y hy) r.toNat
  have b:=zh h ks
  split
  ·push_cast;omega
  ·push_cast;omega
theorem zh {g:gB}(h:WtG g):∀l:List jY,0≤jC g l∧jC g l≤1000000*(pk l:Int)
 | []=>by rw[jC,pk];exact⟨Int.le_refl _,by decide⟩
 |t::l=>by
  rw[jC,pk]
  have h1:=Je h t
  have a:=zh h l
  push_cast;omega
end
theorem Hz {g:gB}{l:List jY}{k:Nat}{t:jY}(h:l[k]?=some t):jC g (l.take (k+1))=jC g (l.take k)+pq g t:=by
 rw[wh,h,Be];show _+(jC g [t])=_;rw[jC,jC,Int.add_zero]
def zd (g:gB)(o:Option (List bB×Int))(w:List bB):Option (List bB×Int):=
 match(lL g w 1).1 with
 | []=>o
 |t::_=>match o with
  |none=>some (w,pq g t)
  |some p=>if pq g t<p.2 then some (w,pq g t)else some p
def bsF (g:gB)(l:List (List bB)):Option (List bB×Int):=l.foldl (zd g) none
def q9 (g:gB)(s:List (List bB)):Option (List bB×Int)×(Int×Int):=
 if(nh g s).1≠0 then(none,nh g s)else if(iU g s).2.1≠0 then(none,(iU g s).2)else(bsF g (iU g s).1,(0,0))
def oW (o:Option (List bB×Int)):List bB:=(o.map Prod.fst).getD []
def oN (o:Option (List bB×Int)):Int:=(o.map Prod.snd).getD 0
theorem KV {g:gB}{w:List bB}{n:Int}(h:(lL g w n).2.1≠0):(lL g w n).1=[]:=by
 unfold lL at h⊢
 by_cases c1:(jN g).1≠0
 ·rw[aC c1]
 rw[aA c1]at h⊢
 by_cases c2:n<0∨200<n
 ·rw[aC c2]
 rw[aA c2]at h⊢
 by_cases c3:(dS g w).2.1≠0
 ·rw[aC c3]
 rw[aA c3]at h;exact absurd rfl h
theorem TX {g:gB}{o:Option (List bB×Int)}{w:List bB}(h:(lL g w 1).1=[]):zd g o w=o:=by unfold zd;rw[h]
theorem TW {g:gB}{o:Option (List bB×Int)}{w:List bB}{t:jY}{r:List jY}(h:(lL g w 1).1=t::r)(a:o.isSome=false∨pq g t<oN o):zd g o w=some (w,pq g t):=by
 unfold zd;rw[h]
 cases o with
 |none=>rfl
 |some p=>
  rcases a with a|a
  ·cases a
  ·exact aC a
theorem TY {g:gB}{o:Option (List bB×Int)}{w:List bB}{t:jY}{r:List jY}(h:(lL g w 1).1=t::r)(h1:o.isSome=true)(a:¬pq g t<oN o):zd g o w=o:=by
 unfold zd;rw[h]
 cases o with
 |none=>cases h1
 |some p=>exact aA a
theorem Kf {g:gB}{l:List (List bB)}{k:Nat}{w:List bB}(h:l[k]?=some w):(l.take (k+1)).foldl (zd g) none=zd g ((l.take k).foldl (zd g) none) w:=by
 rw[wh,h,wc];rfl
theorem Y5 {g:gB}(h:M1 g):WtG g:=⟨λx hx=>(h.rule x hx).wt,λx hx=>(h.lex x hx).wt⟩
theorem M9 (g:gb)(hw:WtG (ca g)):∀x:dE,Xq (ca g) (cx x)=true→Qk (cx x)≤1000→eD prog 65 #[fV g,uM x] [fB g,br x] (iv (pq (ca g) (cx x))):=by
 intro x
 induction x using dE.ind
 rename_i x q
 intro i j;refine eD.nE (args:=[fV g,uM x]) 39 func65 rfl ntmps65 rfl (λc=> ?_);refine go ?_
 refine St.jP (fB g) (λ_:Unit=>Gv g) (λρ h=>⟨(),h⟩) λ_=> ?_
 refine St.cast (H':=[aB (sl ml g.tv.1 g.types),aB (aF ry g.types),aB (sl gY g.fv.1 g.cB),aB (sl cS g.rv.1 g.rules),aB (aF bx g.rules),aB (sl dy g.xv.1 g.aL),aB (aF eO g.aL),aB (aG g.start),aB (fB g),aB (br x)]) rfl ?_;refine St.Ey x ?_
 have a:cx x= .mk x.rule x.lex (x.kids.map cx):=lA x
 have b:=Ta (ca g) x.rule x.lex (x.kids.map cx)
 rw[←a]at b;rw[a,Xr]at i;rw[a,XI]at j
 have s:(ca g).rules.length=g.rules.length:=aN _
 have t:(ca g).aL.length=g.aL.length:=aN _
 have u:=Et (x.kids.map cx)
 rw[aN]at u;refine go ?_;refine St.dK (.mk rfl) rfl (λv=> ?_);refine St.dK (.mk rfl) rfl (λw=> ?_);refine g11 ?_;refine St.cq (λe=> ?_) (λe=> ?_)
 ·rw[aC e,qj,fz,fz,t]at i
  rw[aC e]at b;obtain⟨y,hy⟩:=aE (show x.lex.toNat<g.aL.length by omega)
  have m:((g.aL.map og).map (·.weight))[x.lex.toNat]?=some y.weight:=by rw[bQ,bQ,hy];rfl
  rw[show(ca g).aL=g.aL.map og from rfl,m]at b;refine g6 ?_;refine St.ee (Ev.cL (k:=x.lex.toNat) (.mk rfl) (.mk rfl) I9 nR (by omega) (by omega)) ?_;refine g7 ?_;refine St.rV [_] [] ?_;exact ie (by rw[b];rfl)
 ·rw[aA (Int.not_lt.2 e),qj,fz,s]at i
  rw[aA (Int.not_lt.2 e)]at b;obtain⟨y,hy⟩:=aE (show x.rule.toNat<g.rules.length by omega)
  have m:((g.rules.map lI).map (·.weight))[x.rule.toNat]?=some y.weight:=by rw[bQ,bQ,hy];rfl
  rw[show(ca g).rules=g.rules.map lI from rfl,m]at b
  have A:0≤y.weight∧y.weight≤1000000:=hw.r (lI y) (eN (ae hy))
  have n:=Fl i.2
  refine g8 ?_;refine St.ee (Ev.cL (k:=x.rule.toNat) (.mk rfl) (.mk rfl) Px kV (by omega) (by omega)) ?_;refine g15 ?_;refine St.slot 5 (iv (y.weight+jC (ca g) ((x.kids.map cx).take 0))) rfl (congrArg iv (by rw[A7,jC,Int.add_zero])) ?_;refine St.lH (ι:=Nat) (λk T=>(28,iv k)::(5,iv (y.weight+jC (ca g) ((x.kids.map cx).take k)))::T) (λk=>[aB (fB g),aB (br x),aB (sl dC x.kv.1 x.kids),aB (aF br x.kids),aB (sl cS g.rv.1 g.rules),aW v (.cells (iu g).toArray 32 (0,0)),aW w (.cells (Jm x).toArray 69 (0,0))]) (λk=>k≤x.kids.length) (λk=>x.kids.length-k) 0 (aD.cons 2 rfl (aD.cons 4 rfl (aD.cons 26 rfl (aD.cons 27 rfl aD.nil)))) (aO _) ?_;intro k hk
  have B:=zh hw ((x.kids.map cx).take k)
  have C:=LD (l:=x.kids.map cx) k
  refine g6 ?_;refine St.cq (λo=> ?_) (λo=> ?_)
  ·obtain⟨z,hz⟩:=aE (show k<x.kids.length by omega)
   have f:=ae hz
   refine St.cI br x.kids (x:=z) f ?_
   have d:(x.kids.map cx)[k]?=some (cx z):=by rw[bQ,hz];rfl
   have D:=Hz (g:=ca g) d
   have E:=Eu (ae d)
   have p:=n (cx z) (ae d)
   have F:=Je hw (cx z)
   refine g7 ?_;refine St.ee (Ev.jr (.mk rfl) hz IB trivial pt j7.eq) ?_;refine St.al (λG=> ?_);refine g6 ?_;refine St.slot 33 (fV g) rfl rfl ?_;refine go ?_;refine St.slot 34 (uM z) rfl rfl ?_;refine St.ee (Ev.call (q z f p (by omega)) Zs (.aY rfl rfl)) ?_;refine go ?_;refine St.slot 36 (iv (y.weight+jC (ca g) ((x.kids.map cx).take (k+1)))) rfl (congrArg iv (by rw[D,Int.add_assoc])) ?_;refine g9 ?_;refine St.aH (k+1) (by omega)
  ·obtain rfl:k=x.kids.length:=by omega
   rw[show(x.kids.map cx).take x.kids.length=x.kids.map cx from fF (by rw[aN];exact aR _)];refine g12 ?_;refine St.rV [_] [] ?_;exact ie (by rw[b];rfl)
theorem KA (g:gb)(v0:Value)(aQ:List (List bB))(E:∀w∈(iU (ca g) aQ).1,∀t∈(lL (ca g) w 1).1,Xq (ca g) t=true∧Qk t≤1000):
 uY prog 31 #[fV g,v0] ([fB g,pT bL v0 aQ,tz,u8].map aB) (λv H'=>∃wv:aV,v= .tuple #[.agg #[wv.1,iv (oN (q9 (ca g) aQ).1)],.bool (q9 (ca g) aQ).1.isSome,fv (q9 (ca g) aQ).2]∧H'=[aB (sl bL wv.1 (oW (q9 (ca g) aQ).1))]):=by
 refine uY.body (args:=[fV g,v0]) 76 func31 rfl ntmps31 rfl (λc m=> ?_);refine St.cast (H':=[aB (fB g),aB (pT bL v0 aQ),aB (tz),aB (u8)]) rfl ?_;refine g2 ?_;refine St.dK (.mk rfl) rfl (λF=> ?_);refine St.al (λn=> ?_);refine go ?_;refine St.al (λp=> ?_);refine g6 ?_;refine St.slot 17 (fV g) rfl rfl ?_;refine go ?_;refine St.ee (Ev.nF m (yU g v0 aQ) Zn (.aY rfl rfl)) ?_;refine St.slot 19 (.agg #[iv (nh (ca g) aQ).1,iv (nh (ca g) aQ).2]) rfl rfl ?_;refine St.al (λQ=> ?_);refine g10 ?_;refine St.cq (λB=> ?_) (λB=> ?_)
 ·have f:(q9 (ca g) aQ)=(none,(nh (ca g) aQ)):=by unfold q9;rw[aC B]
  refine go ?_;refine St.qS [n,p] mixed (λG H=> ?_);refine SW.dd 0 rfl (λ_=>Ev.build (ps:=[]) (bH.nil) (λw=>MZ w)) ?_;refine SW.gd 1 ?_;refine SW.t1 2 ?_;refine g3 ?_;refine SW.go ?_;refine SW.gd 3 ?_;refine SW.t1 4 ?_;refine g3 ?_;refine SW.go ?_;refine SW.dn ?_;refine g3 ?_;refine St.fk bL ?_;refine St.rV [_,_,_] [aB (sl bL (.slice none 0 0) [])] ?_;exact⟨bT,by rw[f];rfl,by rw[f];rfl⟩
 ·have I:(nh (ca g) aQ).1=0:=by omega
  have C:=Cd.1 I
  have f:(q9 (ca g) aQ)=if(iU (ca g) aQ).2.1≠0 then(none,(iU (ca g) aQ).2)else(bsF (ca g) (iU (ca g) aQ).1,(0,0)):=by unfold q9;rw[aA (λh=>h (by omega))]
  have J:=Y5 (vA C.grm)
  refine g5 ?_;refine St.slot 26 (fV g) rfl rfl ?_;refine go ?_;refine St.nb m (BG g v0 aQ C) Zo (.aY rfl rfl) rfl ?_;rintro v28 _ ⟨lv,rfl,rfl⟩;refine St.ao ?_;refine St.nu lv.1 (λus K=> ?_);refine St.wf lv.1 (λ_ R=> ?_);refine g3 ?_;refine St.slot 30 (fv (iU (ca g) aQ).2) rfl rfl ?_;refine St.al (λS=> ?_);refine g12 ?_;refine St.cq (λq=> ?_) (λq=> ?_)
  ·rw[aC q]at f
   refine go ?_;refine St.qS [n,p] mixed (λG H=> ?_);refine SW.dd 0 rfl (λ_=>Ev.build (ps:=[]) (bH.nil) (λw=>MZ w)) ?_;refine SW.gd 1 ?_;refine SW.t1 2 ?_;refine g3 ?_;refine SW.go ?_;refine SW.gd 3 ?_;refine SW.t1 4 ?_;refine g3 ?_;refine SW.go ?_;refine SW.dn ?_;refine g3 ?_;refine St.fk bL ?_;refine St.rV [_,_,_] [aB (sl bL (.slice none 0 0) [])] ?_;exact⟨bT,by rw[f];rfl,by rw[f];rfl⟩
  ·rw[aA (λh=>h q)]at f
   refine g4 ?_;refine St.al (λr=> ?_);refine g16 ?_;refine St.fk bL ?_;refine St.cast (H':=_::_) (show aB (sl bL (.slice none 0 0) [])::_=aB (sl bL bT.1 (oW none))::_ from rfl) ?_;refine St.mK r (L':=[bT.1,iv (oN none)]) rfl ?_;refine St.lH (ι:=Nat×aV×Option (List bB×Int)) (λ⟨k,wv,o⟩ T=>(38,iv k)::(11,.bool o.isSome)::T) (λ⟨k,wv,o⟩=>[aW r (.cells [wv.1,iv (oN o)].toArray 77 (0,0)),aB (sl bL wv.1 (oW o)),aW F (.cells (iu g).toArray 32 (0,0)),aB (fB g),aB (tz),aB (u8),aB (sl bS lv.1 us),aB (js bL us (iU (ca g) aQ).1),aW n (.cells [(.slice none 0 0),iv 0].toArray 77 (0,0)),aW p (.cells [iv 0,iv 0].toArray 35 (0,0))]) (λ⟨k,wv,o⟩=>k≤us.length∧((iU (ca g) aQ).1.take k).foldl (zd (ca g)) none=o) (λ⟨k,wv,o⟩=>us.length-k) ⟨0,bT,none⟩ (aD.cons 2 rfl (aD.cons 4 rfl (aD.cons 5 rfl (aD.cons 6 rfl (aD.cons 10 rfl (aD.cons 36 rfl (aD.cons 37 rfl aD.nil))))))) ⟨aO _,rfl⟩ ?_;rintro ⟨k,wv,o⟩ ⟨hk,l⟩
   dsimp only at hk l⊢
   refine g6 ?_;refine St.cq (λL=> ?_) (λL=> ?_)
   ·obtain⟨u,hu⟩:=aE (show k<us.length by omega)
    obtain⟨w,hw⟩:=aE (show k<(iU (ca g) aQ).1.length by omega);refine St.js (vs:=us) k hu hw ?_
    have i:=Kf (g:=ca g) hw
    rw[l]at i
    have M:=E w (ae hw)
    refine g14 ?_;refine St.slot 43 (fV g) rfl rfl ?_;refine go ?_;refine St.nb m (KR g u.1 w 1) ag2 (.eh rfl rfl rfl) rfl ?_;rintro v45 _ ⟨tv,outs,rfl,D,rfl⟩;refine St.dQ ?_;refine g3 ?_;refine St.slot 47 (fv (lL (ca g) w 1).2) rfl rfl ?_;refine St.al (λU=> ?_);refine g11 ?_;refine St.gf _ rfl rfl (λd=>Ev.move (.mk rfl)) rfl ?_;refine St.gf _ rfl rfl (λd=>Ev.fj (ai.gv rfl d) zw) rfl ?_;refine St.gf _ rfl rfl (λd=>Ev.eql (ai.gv rfl d) (.mk rfl)) rfl ?_;refine g3 ?_;refine St.cond _ rfl (λs=> ?_) (λs=> ?_)
    ·skip
     have N:(lL (ca g) w 1).1=[]:=by rcases Bool.or_eq_true_iff.1 s with h|h;exact KV (by simpa using h);rw[←D,lD (show outs.length=0 by have:=ei h;omega)];rfl
     rw[TX N]at i;refine g9 ?_;refine St.aH ⟨k+1,wv,o⟩ ⟨by omega,i⟩
    ·skip
     have O:¬(outs.length:Int)=0:=iX (Bool.or_eq_false_iff.1 s).2
     obtain⟨t,ht⟩:=aE (show 0<outs.length by omega)
     obtain⟨rs,y⟩:∃rs,(lL (ca g) w 1).1=cx t::rs:=by rw[←D];cases outs with|nil=>cases ht|cons a b=>obtain rfl:=Option.some.inj ht;exact⟨_,rfl⟩
     obtain⟨z,A⟩:=M (cx t) (by rw[y];exact aP ..)
     have P:=ae ht
     refine St.cI br outs (x:=t) P ?_;refine g3 ?_;refine St.rq mixed (by kernel_rfl) (Mm.drawn _ _) ?_;refine go ?_;refine Sq.slot 56 (fV g) rfl rfl ?_;refine go ?_;refine Sq.ee (Ev.cL (k:=0) (.mk rfl) (.mk rfl) zw pt rfl (by omega)) ?_;refine Sq.ee (Ev.jr (.mk rfl) ht IB trivial pt j7.eq) ?_;refine Sq.slot 59 (uM t) rfl rfl ?_;refine Sq.ee (Ev.call (M9 g J t z A) Zs (.aY rfl rfl)) ?_;refine g8 ?_;refine St.gf _ rfl rfl (λd=>Ev.move (.mk rfl)) rfl ?_;refine St.gf _ rfl rfl (λd=>Ev.dV (.mk rfl) NG) rfl ?_;refine St.gf _ rfl rfl (λd=>Ev.kP (ai.gv rfl d) gG trivial (by rfl)) rfl ?_;refine St.gf _ rfl rfl (λd=>Ev.lss (ai.gv rfl d) (ai.gv rfl d)) rfl ?_;refine g3 ?_;refine St.cond _ rfl (λe=> ?_) (λe=> ?_)
     ·skip
      rw[TW y (show o.isSome=false∨pq (ca g) (cx t)<oN o by rcases Bool.or_eq_true_iff.1 e with h|h;exact .inl (by simpa using h);exact .inr (by simpa using h))]at i;refine g3 ?_;refine St.ee (Ev.build (bH.aY rfl rfl) (λw=>KT u.2 rfl w)) ?_;refine g10 ?_;refine St.mK r (L':=[u.1,iv (oN (some (w,pq (ca g) (cx t))))]) rfl ?_;refine St.eY (sl bL u.1 (oW (some (w,pq (ca g) (cx t))))) [sl bL u.1 w] (λρ h=>h _ (aP ..)) ?_;refine St.aH ⟨k+1,u,some (w,pq (ca g) (cx t))⟩ ⟨by omega,i⟩
     ·skip
      rw[TY y (by simpa using (Bool.or_eq_false_iff.1 e).1) (by simpa using (Bool.or_eq_false_iff.1 e).2)]at i;refine g8 ?_;refine St.aH ⟨k+1,wv,o⟩ ⟨by omega,i⟩
   ·obtain rfl:k=us.length:=by omega
    rw[K,jl]at l
    have j:(q9 (ca g) aQ)=(o,(0,0)):=by rw[f];unfold bsF;rw[l]
    refine g9 ?_;refine St.ee (Ev.build (bH.nil) (λw=>jv w)) ?_;refine g6 ?_;refine St.rV [_,_,_] [aB (sl bL wv.1 (oW o))] ?_;exact⟨wv,by rw[j];rfl,by rw[j]⟩
abbrev e0:ij:= .mk sE []
abbrev t0:ij:= .mk sT []
abbrev an (a b:ij):ij:= .mk [] [a,b]
abbrev aZ (i:Int):jK:= .mk 2 [] i S0 []
abbrev aK (a b:jK):jK:= .mk 4 [] 0 S0 [a,b]
abbrev bC (s:ij)(t:jK):jK:= .mk 3 [] 0 s [t]
abbrev bV (n:bB)(s:ij):jK:= .mk 1 n 0 s []
abbrev p0:ij:=an e0 t0
abbrev aeW (q c:bB):jK:=aK (bV q (an p0 t0)) (bC e0 (aK (aK (bV c (an t0 (an t0 t0))) (aK (aZ 2) (aZ 0))) (aK (aZ 1) (aZ 0))))
abbrev alA:bB:=[110,111,116]
def mU (q c:bB)(no:Bool):jK:=bC p0 (bC p0 (if no then aK (bV alA (an t0 t0)) (aeW q c)else aeW q c))
theorem lM (q cc:bB)(no:Bool)(h:mr q)(i:mr cc):dx prog 60 #[sv q,sv cc,.bool no] ([].map aB) (λv H'=>H'=[aB (isTerm (mU q cc no) v)]):=by
 refine dx.body (args:=[sv q,sv cc,.bool no]) 51 func60 rfl ntmps60 rfl (λc=> ?_);refine St.cast (H':=[]) rfl ?_;refine g2 ?_;refine St.al (λU=> ?_);refine g4 ?_;refine St.ag (mA [101] (by decide)) KY (.ar rfl) rfl ?_;rintro v11 _ rfl;refine St.ao ?_;refine St.dZ e0 v11 (λg z=> ?_);obtain⟨A,B,C⟩:=z;subst A;refine St.ag (mA [116] (by decide)) KY (.ar rfl) rfl ?_;rintro v12 _ rfl;refine St.ao ?_;refine St.dZ t0 v12 (λb D=> ?_);obtain⟨E,F,G⟩:=D;subst E;refine St.al (λV=> ?_);refine St.al (λW=> ?_);refine g8 ?_;refine St.ag (fH (aU g) (aU b) e0 t0) qF (.aY rfl rfl) rfl ?_;rintro j _ rfl;refine St.ao ?_;refine St.dZ p0 j (λd k=> ?_);obtain⟨H,I,J⟩:=k;subst H;refine St.al (λX=> ?_);refine g4 ?_;refine St.agZ 23 24 16 [10] (⟨16,[],λu=>cT u ((sv q))⟩::⟨17,[],λu=>cT u ((aU d))⟩::⟨18,[],λu=>cT u ((aU b))⟩::⟨19,[1,2],λu=>dZ (an p0 t0) u⟩::⟨20,[0,3],λu=>isTerm (bV q (an p0 t0)) u⟩::⟨21,[],λu=>cT u ((aU g))⟩::⟨22,[],λu=>cT u ((sv cc))⟩::⟨23,[],λu=>cT u ((aU b))⟩::⟨24,[],λu=>cT u ((aU b))⟩::⟨25,[],λu=>cT u ((aU b))⟩::⟨26,[8,9],λu=>dZ (an t0 t0) u⟩::⟨27,[7,10],λu=>dZ (an t0 (an t0 t0)) u⟩::⟨28,[6,11],λu=>isTerm (bV cc (an t0 (an t0 t0))) u⟩::⟨29,[],λu=>isTerm (aZ 2) u⟩::⟨30,[],λu=>isTerm (aZ 0) u⟩::⟨31,[13,14],λu=>isTerm (aK (aZ 2) (aZ 0)) u⟩::⟨32,[12,15],λu=>isTerm (aK (bV cc (an t0 (an t0 t0))) (aK (aZ 2) (aZ 0))) u⟩::⟨33,[],λu=>isTerm (aZ 1) u⟩::⟨34,[],λu=>isTerm (aZ 0) u⟩::⟨35,[17,18],λu=>isTerm (aK (aZ 1) (aZ 0)) u⟩::⟨36,[16,19],λu=>isTerm (aK (aK (bV cc (an t0 (an t0 t0))) (aK (aZ 2) (aZ 0))) (aK (aZ 1) (aZ 0))) u⟩::⟨37,[5,20],λu=>isTerm (bC e0 (aK (aK (bV cc (an t0 (an t0 t0))) (aK (aZ 2) (aZ 0))) (aK (aZ 1) (aZ 0)))) u⟩::⟨38,[4,21],λu=>isTerm (aK (bV q (an p0 t0)) (bC e0 (aK (aK (bV cc (an t0 (an t0 t0))) (aK (aZ 2) (aZ 0))) (aK (aZ 1) (aZ 0))))) u⟩::⟨10,[],λu=>cT u u⟩::[]) ((16,[])::(17,[])::(18,[])::(19,[1,2])::(20,[0,3])::(21,[])::(22,[])::(23,[])::(24,[])::(25,[])::(26,[8,9])::(27,[7,10])::(28,[6,11])::(29,[])::(30,[])::(31,[13,14])::(32,[12,15])::(33,[])::(34,[])::(35,[17,18])::(36,[16,19])::(37,[5,20])::(38,[4,21])::(10,[])::[]) [23,22] rfl rfl A1 rfl (by kernel_rfl) rfl rfl mixed (by kernel_rfl) (by kernel_rfl) (by rfl) (λe=>[(10,e 23),(38,e 22)]) (λe=>[aB (cT (e 23) (e 23)),aB (isTerm (aK (bV q (an p0 t0)) (bC e0 (aK (aK (bV cc (an t0 (an t0 t0))) (aK (aZ 2) (aZ 0))) (aK (aZ 1) (aZ 0))))) (e 22))]) (λ_=>rfl) (λ_=>rfl) ?_ (λe l m=> ?_)
 ·refine ab.c0 (λc e a=> ?_) ?_
  ·refine St.aK ?_
   refine go ?_;refine St.fact (cT ((sv q)) ((sv q))) (λ_ _ _=>rfl) ?_;exact St.bg _
  refine ab.c0 (λc e a=> ?_) ?_
  ·refine St.aK ?_
   refine go ?_;refine St.fact (cT ((aU d)) ((aU d))) (λ_ _ _=>rfl) ?_;exact St.bg _
  refine ab.c0 (λc e a=> ?_) ?_
  ·refine St.aK ?_
   refine go ?_;refine St.fact (cT ((aU b)) ((aU b))) (λ_ _ _=>rfl) ?_;exact St.bg _
  refine ab.cc (λe=>[(17,e 1),(18,e 2)]) (λe=>[aB (cT (e 1) ((aU d))),aB (cT (e 2) ((aU b)))]) (λc e a=> ?_) ?_
  ·refine St.dQ ?_
   refine St.bX (P:=prog) 17 (e 1) ((aU d)) rfl ?_;refine St.bX (P:=prog) 18 (e 2) ((aU b)) rfl ?_;refine St.ag (fH (aU d) (aU b) p0 t0) qF (.aY rfl rfl) rfl ?_;rintro K _ rfl;refine St.ao ?_;exact St.bg _
  refine ab.cc (λe=>[(16,e 0),(19,e 3)]) (λe=>[aB (cT (e 0) ((sv q))),aB (dZ (an p0 t0) (e 3))]) (λc e a=> ?_) ?_
  ·refine St.dQ ?_
   refine St.bX (P:=prog) 16 (e 0) ((sv q)) rfl ?_;refine St.ag (eJ q h (e 3) (an p0 t0)) ng (.aY rfl rfl) rfl ?_;rintro v20 _ rfl;refine St.ao ?_;exact St.bg _
  refine ab.c0 (λc e a=> ?_) ?_
  ·refine St.aK ?_
   refine go ?_;refine St.fact (cT ((aU g)) ((aU g))) (λ_ _ _=>rfl) ?_;exact St.bg _
  refine ab.c0 (λc e a=> ?_) ?_
  ·refine St.aK ?_
   refine go ?_;refine St.fact (cT ((sv cc)) ((sv cc))) (λ_ _ _=>rfl) ?_;exact St.bg _
  refine ab.c0 (λc e a=> ?_) ?_
  ·refine St.aK ?_
   refine go ?_;refine St.fact (cT ((aU b)) ((aU b))) (λ_ _ _=>rfl) ?_;exact St.bg _
  refine ab.c0 (λc e a=> ?_) ?_
  ·refine St.aK ?_
   refine go ?_;refine St.fact (cT ((aU b)) ((aU b))) (λ_ _ _=>rfl) ?_;exact St.bg _
  refine ab.c0 (λc e a=> ?_) ?_
  ·refine St.aK ?_
   refine go ?_;refine St.fact (cT ((aU b)) ((aU b))) (λ_ _ _=>rfl) ?_;exact St.bg _
  refine ab.cc (λe=>[(24,e 8),(25,e 9)]) (λe=>[aB (cT (e 8) ((aU b))),aB (cT (e 9) ((aU b)))]) (λc e a=> ?_) ?_
  ·refine St.dQ ?_
   refine St.bX (P:=prog) 24 (e 8) ((aU b)) rfl ?_;refine St.bX (P:=prog) 25 (e 9) ((aU b)) rfl ?_;refine St.ag (fH (aU b) (aU b) t0 t0) qF (.aY rfl rfl) rfl ?_;rintro v26 _ rfl;refine St.ao ?_;exact St.bg _
  refine ab.cc (λe=>[(23,e 7),(26,e 10)]) (λe=>[aB (cT (e 7) ((aU b))),aB (dZ (an t0 t0) (e 10))]) (λc e a=> ?_) ?_
  ·refine St.dQ ?_
   refine St.bX (P:=prog) 23 (e 7) ((aU b)) rfl ?_;refine St.ag (fH (aU b) (e 10) t0 (an t0 t0)) qF (.aY rfl rfl) rfl ?_;rintro v27 _ rfl;refine St.ao ?_;exact St.bg _
  refine ab.cc (λe=>[(22,e 6),(27,e 11)]) (λe=>[aB (cT (e 6) ((sv cc))),aB (dZ (an t0 (an t0 t0)) (e 11))]) (λc e a=> ?_) ?_
  ·refine St.dQ ?_
   refine St.bX (P:=prog) 22 (e 6) ((sv cc)) rfl ?_;refine St.ag (eJ cc i (e 11) (an t0 (an t0 t0))) ng (.aY rfl rfl) rfl ?_;rintro v28 _ rfl;refine St.ao ?_;exact St.bg _
  refine ab.c0 (λc e a=> ?_) ?_
  ·refine St.aK ?_
   refine St.ag (cg 2 (by unfold aa;decide)) mM (.ar rfl) rfl ?_;rintro L _ rfl;refine St.ao ?_;exact St.bg _
  refine ab.c0 (λc e a=> ?_) ?_
  ·refine St.aK ?_
   refine St.ag (cg 0 (by unfold aa;decide)) mM (.ar rfl) rfl ?_;rintro v30 _ rfl;refine St.ao ?_;exact St.bg _
  refine ab.cc (λe=>[(29,e 13),(30,e 14)]) (λe=>[aB (isTerm (aZ 2) (e 13)),aB (isTerm (aZ 0) (e 14))]) (λc e a=> ?_) ?_
  ·refine St.dQ ?_
   refine St.ag (ec (e 13) (e 14) (aZ 2) (aZ 0)) ox (.aY rfl rfl) rfl ?_;rintro v31 _ rfl;refine St.ao ?_;exact St.bg _
  refine ab.cc (λe=>[(28,e 12),(31,e 15)]) (λe=>[aB (isTerm (bV cc (an t0 (an t0 t0))) (e 12)),aB (isTerm (aK (aZ 2) (aZ 0)) (e 15))]) (λc e a=> ?_) ?_
  ·refine St.dQ ?_
   refine St.ag (ec (e 12) (e 15) (bV cc (an t0 (an t0 t0))) (aK (aZ 2) (aZ 0))) ox (.aY rfl rfl) rfl ?_;rintro v32 _ rfl;refine St.ao ?_;exact St.bg _
  refine ab.c0 (λc e a=> ?_) ?_
  ·refine St.aK ?_
   refine St.ag (cg 1 (by unfold aa;decide)) mM (.ar rfl) rfl ?_;rintro v33 _ rfl;refine St.ao ?_;exact St.bg _
  refine ab.c0 (λc e a=> ?_) ?_
  ·refine St.aK ?_
   refine St.ag (cg 0 (by unfold aa;decide)) mM (.ar rfl) rfl ?_;rintro M _ rfl;refine St.ao ?_;exact St.bg _
  refine ab.cc (λe=>[(33,e 17),(34,e 18)]) (λe=>[aB (isTerm (aZ 1) (e 17)),aB (isTerm (aZ 0) (e 18))]) (λc e a=> ?_) ?_
  ·refine St.dQ ?_
   refine St.ag (ec (e 17) (e 18) (aZ 1) (aZ 0)) ox (.aY rfl rfl) rfl ?_;rintro v35 _ rfl;refine St.ao ?_;exact St.bg _
  refine ab.cc (λe=>[(32,e 16),(35,e 19)]) (λe=>[aB (isTerm (aK (bV cc (an t0 (an t0 t0))) (aK (aZ 2) (aZ 0))) (e 16)),aB (isTerm (aK (aZ 1) (aZ 0)) (e 19))]) (λc e a=> ?_) ?_
  ·refine St.dQ ?_
   refine St.ag (ec (e 16) (e 19) (aK (bV cc (an t0 (an t0 t0))) (aK (aZ 2) (aZ 0))) (aK (aZ 1) (aZ 0))) ox (.aY rfl rfl) rfl ?_;rintro v36 _ rfl;refine St.ao ?_;exact St.bg _
  refine ab.cc (λe=>[(21,e 5),(36,e 20)]) (λe=>[aB (cT (e 5) ((aU g))),aB (isTerm (aK (aK (bV cc (an t0 (an t0 t0))) (aK (aZ 2) (aZ 0))) (aK (aZ 1) (aZ 0))) (e 20))]) (λc e a=> ?_) ?_
  ·refine St.dQ ?_
   refine St.bX (P:=prog) 21 (e 5) ((aU g)) rfl ?_;refine St.ag (e8 (aU g) (e 20) e0 (aK (aK (bV cc (an t0 (an t0 t0))) (aK (aZ 2) (aZ 0))) (aK (aZ 1) (aZ 0)))) mL (.aY rfl rfl) rfl ?_;rintro v37 _ rfl;refine St.ao ?_;exact St.bg _
  refine ab.cc (λe=>[(20,e 4),(37,e 21)]) (λe=>[aB (isTerm (bV q (an p0 t0)) (e 4)),aB (isTerm (bC e0 (aK (aK (bV cc (an t0 (an t0 t0))) (aK (aZ 2) (aZ 0))) (aK (aZ 1) (aZ 0)))) (e 21))]) (λc e a=> ?_) ?_
  ·refine St.dQ ?_
   refine St.ag (ec (e 4) (e 21) (bV q (an p0 t0)) (bC e0 (aK (aK (bV cc (an t0 (an t0 t0))) (aK (aZ 2) (aZ 0))) (aK (aZ 1) (aZ 0))))) ox (.aY rfl rfl) rfl ?_;rintro v38 _ rfl;refine St.ao ?_;exact St.bg _
  refine ab.c0 (λc e a=> ?_) ?_
  ·refine St.aK ?_
   refine St.al (λl=> ?_);refine St.fact (cT (.pointer (some ⟨l,0,none⟩)) (.pointer (some ⟨l,0,none⟩))) (λ_ _ _=>rfl) ?_;exact St.bg _
  exact ab.nil
 refine St.dQ ?_;refine St.slot 10 _ rfl m ?_;refine St.isTerm (aK (bV q (an p0 t0)) (bC e0 (aK (aK (bV cc (an t0 (an t0 t0))) (aK (aZ 2) (aZ 0))) (aK (aZ 1) (aZ 0))))) (e 22) (λf N=> ?_);obtain⟨n,O,Q⟩:=N;rw[n];refine g9 ?_;refine St.cond _ rfl (λo=> ?_) (λo=> ?_)
 ·skip
  refine St.U4 6 40 [] (⟨40,[],λu=>cT u ((aU b))⟩::⟨41,[],λu=>cT u ((aU b))⟩::⟨42,[0,1],λu=>dZ (an t0 t0) u⟩::⟨43,[2],λu=>isTerm (bV [110,111,116] (an t0 t0)) u⟩::⟨44,[],λu=>cT u ((cM f))⟩::⟨45,[3,4],λu=>isTerm (aK (bV [110,111,116] (an t0 t0)) (aK (bV q (an p0 t0)) (bC e0 (aK (aK (bV cc (an t0 (an t0 t0))) (aK (aZ 2) (aZ 0))) (aK (aZ 1) (aZ 0)))))) u⟩::[]) ((40,[])::(41,[])::(42,[0,1])::(43,[2])::(44,[])::(45,[3,4])::[]) [5] rfl rfl mixed (by kernel_rfl) (by kernel_rfl) (by rfl) (λe=>[(45,e 5)]) (λe=>[aB (isTerm (aK (bV [110,111,116] (an t0 t0)) (aK (bV q (an p0 t0)) (bC e0 (aK (aK (bV cc (an t0 (an t0 t0))) (aK (aZ 2) (aZ 0))) (aK (aZ 1) (aZ 0)))))) (e 5))]) (λ_=>rfl) (λ_=>rfl) ?_ (λe=> ?_)
  ·refine ab.c0 (λc e a=> ?_) ?_
   ·refine St.aK ?_
    refine go ?_;refine St.fact (cT ((aU b)) ((aU b))) (λ_ _ _=>rfl) ?_;exact St.bg _
   refine ab.c0 (λc e a=> ?_) ?_
   ·refine St.aK ?_
    refine go ?_;refine St.fact (cT ((aU b)) ((aU b))) (λ_ _ _=>rfl) ?_;exact St.bg _
   refine ab.cc (λe=>[(40,e 0),(41,e 1)]) (λe=>[aB (cT (e 0) ((aU b))),aB (cT (e 1) ((aU b)))]) (λc e a=> ?_) ?_
   ·refine St.dQ ?_
    refine St.bX (P:=prog) 40 (e 0) ((aU b)) rfl ?_;refine St.bX (P:=prog) 41 (e 1) ((aU b)) rfl ?_;refine St.ag (fH (aU b) (aU b) t0 t0) qF (.aY rfl rfl) rfl ?_;rintro v42 _ rfl;refine St.ao ?_;exact St.bg _
   refine ab.cc (λe=>[(42,e 2)]) (λe=>[aB (dZ (an t0 t0) (e 2))]) (λc e a=> ?_) ?_
   ·refine St.ao ?_
    refine St.ag (eJ [110,111,116] (by decide) (e 2) (an t0 t0)) ng (.aY rfl rfl) rfl ?_;rintro R _ rfl;refine St.ao ?_;exact St.bg _
   refine ab.c0 (λc e a=> ?_) ?_
   ·refine St.aK ?_
    refine go ?_;refine St.fact (cT ((cM f)) ((cM f))) (λ_ _ _=>rfl) ?_;exact St.bg _
   refine ab.cc (λe=>[(43,e 3),(44,e 4)]) (λe=>[aB (isTerm (bV [110,111,116] (an t0 t0)) (e 3)),aB (cT (e 4) ((cM f)))]) (λc e a=> ?_) ?_
   ·refine St.dQ ?_
    refine St.bX (P:=prog) 44 (e 4) ((cM f)) rfl ?_;refine St.ag (ec (e 3) (cM f) (bV [110,111,116] (an t0 t0)) (aK (bV q (an p0 t0)) (bC e0 (aK (aK (bV cc (an t0 (an t0 t0))) (aK (aZ 2) (aZ 0))) (aK (aZ 1) (aZ 0)))))) ox (.aY rfl rfl) rfl ?_;rintro v45 _ rfl;refine St.ao ?_;exact St.bg _
   exact ab.nil
  refine St.ao ?_;refine St.isTerm (aK (bV [110,111,116] (an t0 t0)) (aK (bV q (an p0 t0)) (bC e0 (aK (aK (bV cc (an t0 (an t0 t0))) (aK (aZ 2) (aZ 0))) (aK (aZ 1) (aZ 0)))))) (e 5) (λxn p=> ?_);obtain⟨r,S,T⟩:=p;rw[r];refine g4 ?_;refine St.U4 5 46 [] (⟨46,[],λu=>cT u ((aU d))⟩::⟨47,[],λu=>cT u ((aU d))⟩::⟨48,[],λu=>cT u ((cM xn))⟩::⟨49,[1,2],λu=>isTerm (bC p0 (aK (bV [110,111,116] (an t0 t0)) (aK (bV q (an p0 t0)) (bC e0 (aK (aK (bV cc (an t0 (an t0 t0))) (aK (aZ 2) (aZ 0))) (aK (aZ 1) (aZ 0))))))) u⟩::⟨50,[0,3],λu=>isTerm (bC p0 (bC p0 (aK (bV [110,111,116] (an t0 t0)) (aK (bV q (an p0 t0)) (bC e0 (aK (aK (bV cc (an t0 (an t0 t0))) (aK (aZ 2) (aZ 0))) (aK (aZ 1) (aZ 0)))))))) u⟩::[]) ((46,[])::(47,[])::(48,[])::(49,[1,2])::(50,[0,3])::[]) [4] rfl rfl mixed (by kernel_rfl) (by kernel_rfl) (by rfl) (λe=>[(50,e 4)]) (λe=>[aB (isTerm (bC p0 (bC p0 (aK (bV [110,111,116] (an t0 t0)) (aK (bV q (an p0 t0)) (bC e0 (aK (aK (bV cc (an t0 (an t0 t0))) (aK (aZ 2) (aZ 0))) (aK (aZ 1) (aZ 0)))))))) (e 4))]) (λ_=>rfl) (λ_=>rfl) ?_ (λe=> ?_)
  ·refine ab.c0 (λc e a=> ?_) ?_
   ·refine St.aK ?_
    refine go ?_;refine St.fact (cT ((aU d)) ((aU d))) (λ_ _ _=>rfl) ?_;exact St.bg _
   refine ab.c0 (λc e a=> ?_) ?_
   ·refine St.aK ?_
    refine go ?_;refine St.fact (cT ((aU d)) ((aU d))) (λ_ _ _=>rfl) ?_;exact St.bg _
   refine ab.c0 (λc e a=> ?_) ?_
   ·refine St.aK ?_
    refine go ?_;refine St.fact (cT ((cM xn)) ((cM xn))) (λ_ _ _=>rfl) ?_;exact St.bg _
   refine ab.cc (λe=>[(47,e 1),(48,e 2)]) (λe=>[aB (cT (e 1) ((aU d))),aB (cT (e 2) ((cM xn)))]) (λc e a=> ?_) ?_
   ·refine St.dQ ?_
    refine St.bX (P:=prog) 47 (e 1) ((aU d)) rfl ?_;refine St.bX (P:=prog) 48 (e 2) ((cM xn)) rfl ?_;refine St.ag (e8 (aU d) (cM xn) p0 (aK (bV [110,111,116] (an t0 t0)) (aK (bV q (an p0 t0)) (bC e0 (aK (aK (bV cc (an t0 (an t0 t0))) (aK (aZ 2) (aZ 0))) (aK (aZ 1) (aZ 0))))))) mL (.aY rfl rfl) rfl ?_;rintro v49 _ rfl;refine St.ao ?_;exact St.bg _
   refine ab.cc (λe=>[(46,e 0),(49,e 3)]) (λe=>[aB (cT (e 0) ((aU d))),aB (isTerm (bC p0 (aK (bV [110,111,116] (an t0 t0)) (aK (bV q (an p0 t0)) (bC e0 (aK (aK (bV cc (an t0 (an t0 t0))) (aK (aZ 2) (aZ 0))) (aK (aZ 1) (aZ 0))))))) (e 3))]) (λc e a=> ?_) ?_
   ·refine St.dQ ?_
    refine St.bX (P:=prog) 46 (e 0) ((aU d)) rfl ?_;refine St.ag (e8 (aU d) (e 3) p0 (bC p0 (aK (bV [110,111,116] (an t0 t0)) (aK (bV q (an p0 t0)) (bC e0 (aK (aK (bV cc (an t0 (an t0 t0))) (aK (aZ 2) (aZ 0))) (aK (aZ 1) (aZ 0)))))))) mL (.aY rfl rfl) rfl ?_;rintro v50 _ rfl;refine St.ao ?_;exact St.bg _
   exact ab.nil
  refine St.ao ?_;refine St.isTerm (bC p0 (bC p0 (aK (bV [110,111,116] (an t0 t0)) (aK (bV q (an p0 t0)) (bC e0 (aK (aK (bV cc (an t0 (an t0 t0))) (aK (aZ 2) (aZ 0))) (aK (aZ 1) (aZ 0)))))))) (e 4) (λs t=> ?_);obtain⟨w,x,y⟩:=t;rw[w];refine g4 ?_
  have h:(bC p0 (bC p0 (aK (bV [110,111,116] (an t0 t0)) (aK (bV q (an p0 t0)) (bC e0 (aK (aK (bV cc (an t0 (an t0 t0))) (aK (aZ 2) (aZ 0))) (aK (aZ 1) (aZ 0))))))))=mU q cc no:=by rw[o];rfl
  rw[h];refine St.rV [_] [aB (isTerm (mU q cc no) (cM s))] ?_;rfl
 ·skip
  refine g3 ?_;refine St.U4 5 46 [] (⟨46,[],λu=>cT u ((aU d))⟩::⟨47,[],λu=>cT u ((aU d))⟩::⟨48,[],λu=>cT u ((cM f))⟩::⟨49,[1,2],λu=>isTerm (bC p0 (aK (bV q (an p0 t0)) (bC e0 (aK (aK (bV cc (an t0 (an t0 t0))) (aK (aZ 2) (aZ 0))) (aK (aZ 1) (aZ 0)))))) u⟩::⟨50,[0,3],λu=>isTerm (bC p0 (bC p0 (aK (bV q (an p0 t0)) (bC e0 (aK (aK (bV cc (an t0 (an t0 t0))) (aK (aZ 2) (aZ 0))) (aK (aZ 1) (aZ 0))))))) u⟩::[]) ((46,[])::(47,[])::(48,[])::(49,[1,2])::(50,[0,3])::[]) [4] rfl rfl mixed (by kernel_rfl) (by kernel_rfl) (by rfl) (λe=>[(50,e 4)]) (λe=>[aB (isTerm (bC p0 (bC p0 (aK (bV q (an p0 t0)) (bC e0 (aK (aK (bV cc (an t0 (an t0 t0))) (aK (aZ 2) (aZ 0))) (aK (aZ 1) (aZ 0))))))) (e 4))]) (λ_=>rfl) (λ_=>rfl) ?_ (λe=> ?_)
  ·refine ab.c0 (λc e a=> ?_) ?_
   ·refine St.aK ?_
    refine go ?_;refine St.fact (cT ((aU d)) ((aU d))) (λ_ _ _=>rfl) ?_;exact St.bg _
   refine ab.c0 (λc e a=> ?_) ?_
   ·refine St.aK ?_
    refine go ?_;refine St.fact (cT ((aU d)) ((aU d))) (λ_ _ _=>rfl) ?_;exact St.bg _
   refine ab.c0 (λc e a=> ?_) ?_
   ·refine St.aK ?_
    refine go ?_;refine St.fact (cT ((cM f)) ((cM f))) (λ_ _ _=>rfl) ?_;exact St.bg _
   refine ab.cc (λe=>[(47,e 1),(48,e 2)]) (λe=>[aB (cT (e 1) ((aU d))),aB (cT (e 2) ((cM f)))]) (λc e a=> ?_) ?_
   ·refine St.dQ ?_
    refine St.bX (P:=prog) 47 (e 1) ((aU d)) rfl ?_;refine St.bX (P:=prog) 48 (e 2) ((cM f)) rfl ?_;refine St.ag (e8 (aU d) (cM f) p0 (aK (bV q (an p0 t0)) (bC e0 (aK (aK (bV cc (an t0 (an t0 t0))) (aK (aZ 2) (aZ 0))) (aK (aZ 1) (aZ 0)))))) mL (.aY rfl rfl) rfl ?_;rintro v49 _ rfl;refine St.ao ?_;exact St.bg _
   refine ab.cc (λe=>[(46,e 0),(49,e 3)]) (λe=>[aB (cT (e 0) ((aU d))),aB (isTerm (bC p0 (aK (bV q (an p0 t0)) (bC e0 (aK (aK (bV cc (an t0 (an t0 t0))) (aK (aZ 2) (aZ 0))) (aK (aZ 1) (aZ 0)))))) (e 3))]) (λc e a=> ?_) ?_
   ·refine St.dQ ?_
    refine St.bX (P:=prog) 46 (e 0) ((aU d)) rfl ?_;refine St.ag (e8 (aU d) (e 3) p0 (bC p0 (aK (bV q (an p0 t0)) (bC e0 (aK (aK (bV cc (an t0 (an t0 t0))) (aK (aZ 2) (aZ 0))) (aK (aZ 1) (aZ 0))))))) mL (.aY rfl rfl) rfl ?_;rintro v50 _ rfl;refine St.ao ?_;exact St.bg _
   exact ab.nil
  refine St.ao ?_;refine St.isTerm (bC p0 (bC p0 (aK (bV q (an p0 t0)) (bC e0 (aK (aK (bV cc (an t0 (an t0 t0))) (aK (aZ 2) (aZ 0))) (aK (aZ 1) (aZ 0))))))) (e 4) (λs t=> ?_);obtain⟨w,x,y⟩:=t;rw[w];refine g4 ?_
  have h:(bC p0 (bC p0 (aK (bV q (an p0 t0)) (bC e0 (aK (aK (bV cc (an t0 (an t0 t0))) (aK (aZ 2) (aZ 0))) (aK (aZ 1) (aZ 0)))))))=mU q cc no:=by rw[o];rfl
  rw[h];refine St.rV [_] [aB (isTerm (mU q cc no) (cM s))] ?_;rfl
end Go.Proofs.YtblifkgpebebmaaGreatDoor
