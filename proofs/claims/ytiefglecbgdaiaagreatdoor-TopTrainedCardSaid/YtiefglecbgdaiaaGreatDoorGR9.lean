/-
  Laws of walks through programs, and facts on grammars, trees and queries.
  Conditions: none.
-/
import Derived.Test.YtiefglecbgdaiaaGreatDoorGR8
set_option maxHeartbeats 4000000
set_option maxRecDepth 20000
set_option linter.unusedVariables false
set_option linter.unusedSimpArgs false
namespace Go.Proofs.YtiefglecbgdaiaaGreatDoor
open Go Go.J Tryz
abbrev jR (its:List jY)(e:Nat):oe:=(its.getD e fX).ed
structure WyA (g:fD)(words:List cM)(its:List jY):Prop where
 ed:∀e,e<its.length→(jR its e).frm<(jR its e).tqo∧(jR its e).tqo≤words.length∧(jR its e).cp≤3
 wy:∀e,e<its.length→∀x∈(its.getD e fX).cD,
  (x.rule= -1∧x.kids=[]∧(jR its e).tqo=(jR its e).frm+1∧(jR its e).cp=0∧∃i:Nat,i<g.aG.length∧x.lex=i∧(g.aG.getD i MW).word=words.getD (jR its e).frm [])∨
  (∃i:Nat,i<g.rules.length∧x.rule=i∧x.lex=0∧((x.kids.length:Nat):Int)=(g.rules.getD i nX).kids∧iq ⟨its,[]⟩ (jR its e).tqo (jR its e).frm x.kids∧(jR its e).cp=Hy ⟨its,[]⟩ x.kids)
structure Sb (g:fD)(words:List cM)(its:List jY)(full:List Nat):Prop where
 bs:qU (Hu g its)
 cD:nh its
 wy:WyA g words its
 Fa:its.length≤300
 ful:∀e∈full,e<its.length∧(jR its e).frm=0∧(jR its e).tqo=words.length
 fln:full.length≤300
 n:1≤words.length∧words.length≤12
 gd:tq g
theorem Gh {its:List jY}{sp:List (List Nat)}{tqo:Nat}:∀(l:List Nat) (a:Nat),iq ⟨its,sp⟩ tqo a l→iq ⟨ff its,[]⟩ tqo a (l.map (lg (jv its)))
 | [],_,h=>h
 |k::l,a,⟨h1,b,c⟩=>by
  obtain⟨d,f⟩:=yU (show k<its.length from h1)
  have e:(Cs.ed ⟨ff its,[]⟩ (lg (jv its) k))=Cs.ed ⟨its,sp⟩ k:=f
  refine⟨by show _<(ff its).length;rw[ry];exact d,by rw[e];exact b,?_⟩;rw[e];exact Gh l _ c
theorem TM {its:List jY}{sp:List (List Nat)}{l:List Nat}(a:∀k∈l,k<its.length):Hy ⟨ff its,[]⟩ (l.map (lg (jv its)))=Hy ⟨its,sp⟩ l:=by
 match l,a with
 | [],_=>rfl
 | [k],a=>
  have b:=(yU (a k (aR ..))).2
  have e:(Cs.ed ⟨ff its,[]⟩ (lg (jv its) k))=Cs.ed ⟨its,sp⟩ k:=b
  show(Cs.ed ⟨ff its,[]⟩ (lg (jv its) k)).cp+1=(Cs.ed ⟨its,sp⟩ k).cp+1
  rw[e]
 |_::_::_,_=>rfl
theorem acW (T:List er):xW T.length (iP T):=λa b m h=>by
 unfold iP at h
 split at h
 ·cases h
 ·rename_i c r e
  split at h
  ·cases h
  ·obtain rfl:=Option.some.inj h
   have:c∈comm T a b:=by rw[e];exact aR ..
   unfold comm at this;exact dM.1 (List.mem_filter.1 this).1
theorem J5 {g:fD}{words:List cM}(h:(fO g words).2.1=0):Sb g words (fO g words).1.1 (fO g words).1.2∧(fO g words).2=(0,0)∧(km g).1=0:=by
 have d:=ZD g words
 unfold fO at h d⊢
 by_cases h1:(km g).1≠0
 ·rw[aB h1]at h;exact absurd h h1
 rw[aA h1]at h d⊢
 have z:(km g).1=0:=eY.1 h1
 have a:=zX z
 by_cases f:(tH g words).1≠0
 ·rw[aB f]at h;exact absurd h f
 rw[aA f]at h d⊢
 have hw:1≤words.length∧words.length≤12:=by
  unfold tH at f
  by_cases c:words.length=0∨12<words.length
  ·rw[aB c]at f;exact absurd (by decide) f
  ·omega
 cases m:FK g words with
 |none=>rw[m]at h;have h:(17:Int)=0:=h;omega
 |some its=>
  rw[m]at d
  have d:nh its:=d
  dsimp only
  refine⟨?_,rfl,z⟩;unfold FK at m;obtain⟨cs,C,rfl⟩:=eE.1 m
  have A:sB g.types.length g.cJ.length (qrG g words):=⟨hw.2,acW _,a.rn,a.xn,λr b=>⟨(a.rule r b).kids,(a.rule r b).gr,(a.rule r b).len⟩,λx hx=>⟨(a.lex x hx).gr,(a.lex x hx).len⟩⟩
  have G:=a.ty.len
  have H:=a.ft
  obtain⟨p,a2⟩:=Jn A zE zE (words:=words) words.length 1 ⟨[],List.replicate (words.length*(words.length+1)) []⟩ cs (aU _) (by show 1+words.length≤words.length+1;omega) Gg (λit hit=>by cases hit) C
  have l:(ff cs.its).length≤300:=by rw[ry];exact p.Fa
  have B:∀e,e<(ff cs.its).length→∃i,i<cs.its.length∧jR (ff cs.its) e=cs.ed i∧((ff cs.its).getD e fX).cD=(cs.its.getD i fX).cD.map λw=>⟨w.rule,w.lex,w.kids.map (lg (jv cs.its))⟩:=λe he=>by
   rw[ry]at he;obtain⟨i,hi,k⟩:=JP he;exact⟨i,hi,by unfold jR;rw[k];rfl,by rw[k]⟩
  refine⟨ZM A p a2 (λr b=>(a.rule r b).kids) (aO _) (aO _) (λx hx=>by obtain⟨r,b,rfl⟩:=cS.1 hx;exact(a.rule r b).wt) (λx hx=>by obtain⟨r,b,rfl⟩:=cS.1 hx;exact(a.lex r b).wt),d,⟨λe he=> ?_,λe he x hx=> ?_⟩,l,λe he=> ?_,?_,hw,a⟩
  ·obtain⟨i,hi,q,_⟩:=B e he
   rw[q]
   have:=p.ok.gr _ (tC hi)
   exact⟨this.1,this.2.1,this.2.2.1⟩
  ·obtain⟨i,hi,q,s⟩:=B e he
   rw[s]at hx;obtain⟨n,D,rfl⟩:=cS.1 hx;rw[q]
   rcases a2 _ (tC hi) n D with⟨t,u,v,o,j,k,y,E,_⟩|⟨j,k,t,u,v,o,y,_⟩
   ·exact .inl ⟨t,by show n.kids.map _=[];rw[u];rfl,v,o,j,k,y,E⟩
   ·exact .inr ⟨j,k,t,u,by show((n.kids.map _).length:Int)=_;rw[aO];exact v,Gh _ _ o,by rw[show(cs.ed i).cp=Hy cs n.kids from y];exact(TM (sp:=cs.sp) (ES _ _ o)).symm⟩
  ·obtain⟨F,e2⟩:=List.mem_filter.1 he
   simp only[Bool.and_eq_true,decide_eq_true_eq]at e2
   exact⟨dM.1 F,e2.1.1,e2.1.2⟩
  ·show(M4 _ _ _ _).length≤300
   unfold M4;exact dH (List.length_filter_le _ _) (by rw[kF];exact l)
def qT (Φ:Nat→dY→Prop):List Nat→List dY→Prop
 | [],[]=>True
 |k::ks,t::a=>Φ k t∧qT Φ ks a
 |_,_=>False
theorem qT.len {Φ:Nat→dY→Prop}:∀{ks:List Nat} {a:List dY},qT Φ ks a→a.length=ks.length
 | [],[],_=>rfl
 |_::_,_::_,h=>by rw[fL,fL,qT.len h.2]
 | [],_::_,h=>h.elim
 |_::_,[],h=>h.elim
theorem qT.mono {Φ Ψ:Nat→dY→Prop}:∀{ks:List Nat} {b:List dY},(∀k∈ks,∀t,Φ k t→Ψ k t)→qT Φ ks b→qT Ψ ks b
 | [],[],_,_=>trivial
 |k::ks,t::b,h,a=>⟨h k (aR ..) t a.1,qT.mono (λq c=>h q (cO _ c)) a.2⟩
 | [],_::_,_,h=>h.elim
 |_::_,[],_,h=>h.elim
theorem qT.mem {Φ:Nat→dY→Prop}{Ψ:dY→Prop}:∀{ks:List Nat} {b:List dY},(∀k∈ks,∀t,Φ k t→Ψ t)→qT Φ ks b→∀t∈b,Ψ t
 | [],[],_,_,_,h=>by cases h
 |k::ks,t::b,h,a,s,c=>by
  rcases cN.1 c with rfl|c
  ·exact h k (aR ..) _ a.1
  ·exact qT.mem (λq d=>h q (cO _ d)) a.2 s c
 | [],_::_,_,h,_,_=>h.elim
 |_::_,[],_,h,_,_=>h.elim
theorem Jm {l k:List dY}{t:dY}(h:t∈lZ l k):∃a∈l,∃s∈k,t= .mk a.rule 0 (a.kids++ [s]):=by
 unfold lZ at h;obtain⟨a,b,h⟩:=List.mem_flatMap.1 h;obtain⟨s,c,rfl⟩:=cS.1 h;exact⟨a,b,s,c,rfl⟩
theorem G9 {get:Nat→List dY}:∀(ks:List Nat) (l:List dY) (t:dY),t∈ks.foldl (λl k=>lZ l (get k)) l→∃a∈l,∃d,qT (λk s=>s∈get k) ks d∧t=if ks=[]then a else .mk a.rule 0 (a.kids++d)
 | [],l,t,h=>⟨t,h,[],trivial,by rw[aB rfl]⟩
 |k::ks,l,t,h=>by
  rw[jX]at h;obtain⟨b,e,d,h1,f⟩:=G9 ks _ t h;obtain⟨a,g,s,i,rfl⟩:=Jm e;refine⟨a,g,s::d,⟨i,h1⟩,?_⟩;rw[aA (by simp),f]
  by_cases c:ks=[]
  ·subst c
   rw[aB rfl]
   cases d with
   |nil=>rfl
   |cons _ _=>exact h1.elim
  ·rw[aA c]
   show dY.mk a.rule 0 ((a.kids++ [s])++d)=_
   rw[dg];rfl
theorem Pp {get:Nat→List dY}{x:og}{t:dY}(h:t∈pc get x):∃b,qT (λk s=>s∈get k) x.kids b∧t= .mk x.rule (if x.kids=[]then x.lex else 0) b:=by
 obtain⟨a,e,b,h1,d⟩:=G9 x.kids _ t h;rw[ba.1 e]at d;refine⟨b,h1,?_⟩;rw[d]
 by_cases c:x.kids=[]
 ·rw[aB c,aB c]
  rw[c]at h1
  cases b with
  |nil=>rfl
  |cons _ _=>exact h1.elim
 ·rw[aA c,aA c];rfl
theorem yI {g:fD}{words:List cM}{its:List jY}(p:WyA g words its)(d:qU (Hu g its)){Φ:Nat→dY→Prop}
 (q:∀(e i:Nat),e<its.length→i<g.aG.length→(g.aG.getD i MW).word=words.getD (jR its e).frm []→(jR its e).tqo=(jR its e).frm+1→(jR its e).cp=0→1≤HL (Hu g its) e→Φ e (.mk (-1) i []))
 (r:∀(e i:Nat) (kids:List Nat) (b:List dY),e<its.length→i<g.rules.length→((kids.length:Nat):Int)=(g.rules.getD i nX).kids→iq ⟨its,[]⟩ (jR its e).tqo (jR its e).frm kids→(jR its e).cp=Hy ⟨its,[]⟩ kids→(∀k∈kids,k<its.length∧p5 (Hu g its) k<p5 (Hu g its) e)→kids.length≤3→Lm (Hu g its) kids+1≤HL (Hu g its) e→qT Φ kids b→Φ e (.mk i 0 b)):
 ∀(f e:Nat) (t:dY),e<its.length→t∈kJ its f e→Φ e t
 |0,_,_,_,h=>by cases h
 |f+1,e,t,he,h=>by
  rw[kJ]at h;obtain⟨x,hx,h⟩:=List.mem_flatMap.1 h;obtain⟨b,h1,rfl⟩:=Pp h;obtain⟨w,u,j⟩:=Jc (B:=Hu g its) hx
  rcases p.wy e he x hx with⟨c,l,m,n,i,hi,o,v⟩|⟨i,hi,c,l,m,n,o⟩
  ·have a:=(d.lex e w he u (by rw[j,c];decide)).2.2
   rw[c,o];rw[l]at h1⊢
   cases b with
   |nil=>rw[aB rfl];exact q e i he hi v m n a
   |cons _ _=>exact h1.elim
  ·have a:=d.rule e w he u (by rw[j,c];omega)
   rw[j]at a;rw[c,l,ite_self];exact r e i x.kids b he hi m n o a.2.2.1 a.2.1 a.2.2.2 (h1.mono λk hk s y=>yI p d q r f k s (a.2.2.1 k hk).1 y)
theorem Jo {g:fD}:∀{l:List dY},(∀t∈l,Ek g t=true)→xY g l=true
 | [],_=>by rw[xY]
 |x::l,h=>by rw[xY,h x (by simp),Jo λt ht=>h t (by simp[ht])];rfl
theorem DI {B:lX}:∀{ks:List Nat} {a:List dY},qT (λk t=>nV t≤HL B k) ks a→fp a≤Lm B ks
 | [],[],_=>aU _
 |k::ks,t::a,h=>by
  rw[fp,Ln]
  have:=DI h.2
  have h1:nV t≤HL B k:=h.1
  omega
 | [],_::_,h=>h.elim
 |_::_,[],h=>h.elim
structure XU (g:fD)(t:dY):Prop where
 tr:tm g t=true
 ar:Ek g t=true
 thin:qI t
 nn:nV t≤100
theorem OW {g:fD}{words:List cM}{its:List jY}{full:List Nat}(h:Sb g words its full)(f:Nat){e:Nat}(he:e<its.length){t:dY}(ht:t∈kJ its f e):XU g t:=by
 have key:=yI h.wy h.bs (Φ:=λe t=>(tm g t=true∧Ek g t=true∧qI t)∧nV t≤HL (Hu g its) e) (λe i he hi hw h1 j b=> ?_) (λe i kids l he hi hk m n o p b a=> ?_) f e t he ht
 ·exact⟨key.1.1,key.1.2.1,key.1.2.2,dH key.2 (h.bs.bd e he)⟩
 ·refine⟨⟨?_,?_,.mk (by simp) (λ_ h=>by cases h)⟩,by rw[nV,fp];exact b⟩
  ·rw[tm,aB (by decide),nQ,gD,gD];omega
  ·rw[Ek,aB (by decide)];simp
 ·have c:=a.len
  have q:=h.gd.rn
  have d:=DI (a.mono λk _ t h=>h.2)
  refine⟨⟨?_,?_,.mk zE (a.mem λk _ t h=>h.1.2.2)⟩,by rw[nV];omega⟩
  ·rw[tm,aA zE,nQ,gD]
   exact⟨by omega,L3 (a.mem λk _ t h=>h.1.1)⟩
  ·rw[Ek,aA zE]
   simp only[Bool.and_eq_true,decide_eq_true_eq]
   refine⟨⟨⟨by omega,trivial⟩,?_⟩,Jo (a.mem λk _ t h=>h.1.2.1)⟩
   rw[c,hk,xP,bJ,ax,bT hi];rfl
theorem M5 {g:fD}{i:Nat}(hi:i<g.rules.length):(g.rules.map kM.kids).getD i 0=(g.rules.getD i nX).kids:=by
 rw[ax,ax,bJ,bT hi];rfl
def lvE (its:List jY)(e:Nat):Nat:=(jR its e).tqo-(jR its e).frm
abbrev aaE (g:fD)(its:List jY)(e:Nat)(t:dY):Prop:=nV t≤HL (Hu g its) e∧∀(d ch:Nat) (s:HK),ch+(jR its e).cp≤3→d+p5 (Hu g its) e≤52→s.nodes+nV t≤200→oX (g.rules.map kM.kids) g.aG.length t d ch s=(⟨s.nodes+nV t,s.leaves+lvE its e⟩,0,0)
theorem Fe {g:fD}{its:List jY}{tqo:Nat}(i:∀e,e<its.length→(jR its e).frm<(jR its e).tqo):∀(ks:List Nat) (b:List dY) (a:Nat),iq ⟨its,[]⟩ tqo a ks→qT (aaE g its) ks b→a≤tqo∧∀(d ch:Nat) (s:HK),(∀k∈ks,ch+(jR its k).cp≤3∧d+p5 (Hu g its) k≤52)→s.nodes+fp b≤200→lq (g.rules.map kM.kids) g.aG.length b d ch s=(⟨s.nodes+fp b,s.leaves+(tqo-a)⟩,0,0)
 | [],[],a,c,_=>by
  have c:a=tqo:=c
  subst c;exact⟨aU _,λd ch s _ _=>by rw[lq,fp,gp];rfl⟩
 |k::ks,t::b,a,c,j=>by
  obtain⟨h1,l,m⟩:=c;obtain⟨i1,i2⟩:=Fe i ks b _ m j.2
  have hk:=i k h1
  have l:(jR its k).frm=a:=l
  have i1:(jR its k).tqo≤tqo:=i1
  refine⟨by omega,λd ch s f n=> ?_⟩;rw[fp]at n⊢
  have e:=j.1.2 d ch s (f k (aR ..)).1 (f k (aR ..)).2 zE
  rw[lq,e,aA (by simp)];rw[i2 d ch ⟨s.nodes+nV t,s.leaves+lvE its k⟩ (λq o=>f q (cO _ o)) (by show s.nodes+nV t+fp b≤200;omega)];unfold lvE
  have p:s.nodes+nV t+fp b=s.nodes+(nV t+fp b):=by omega
  have e2:s.leaves+((jR its k).tqo-(jR its k).frm)+(tqo-(Cs.ed ⟨its,[]⟩ k).tqo)=s.leaves+(tqo-a):=by
   show s.leaves+((jR its k).tqo-(jR its k).frm)+(tqo-(jR its k).tqo)=_
   omega
  simp only[p,e2]
 | [],_::_,_,_,h=>h.elim
 |_::_,[],_,_,h=>h.elim
theorem Tq {g:fD}{words:List cM}{its:List jY}{full:List Nat}(h:Sb g words its full)(f:Nat){e:Nat}(he:e<its.length){t:dY}(ht:t∈kJ its f e):lR g t=(0,0):=by
 have x:∀e,e<its.length→(jR its e).frm<(jR its e).tqo:=λe he=>(h.wy.ed e he).1
 have key:=yI h.wy h.bs (Φ:=aaE g its) (λe i he hi hw h1 D u=> ?_) (λe i kids a he hi hk y j v E u m=> ?_) f e t he ht
 ·have z:=h.wy.ed e he
  have l:=h.n
  have A:=h.bs.bd e he
  have w:p5 (Hu g its) e=((jR its e).tqo-(jR its e).frm)*4+(jR its e).cp:=rfl
  have o:=key.2 1 0 ⟨0,0⟩ zE zE (by show 0+_≤_;have:=key.1;omega)
  unfold lR;rw[o,aA (by simp),aA (by show ¬12<0+lvE its e;unfold lvE;omega)]
 ·refine⟨by rw[nV,fp];exact u,λd ch s j hd l=> ?_⟩
  have w:p5 (Hu g its) e=((jR its e).tqo-(jR its e).frm)*4+(jR its e).cp:=rfl
  rw[oX];rw[nV,fp]at l⊢;rw[aA zE,aA zE,aA zE,aA (by simp),aA (by simp),lq];unfold lvE;rw[h1]
  simp
 ·have F:=h.gd.rn
  have b:=m.len
  have B:=DI (m.mono λk _ t h=>h.1)
  obtain⟨_,C⟩:=Fe x kids a _ y m;refine⟨by rw[nV];omega,λd ch s G hd l=> ?_⟩
  have w:p5 (Hu g its) e=((jR its e).tqo-(jR its e).frm)*4+(jR its e).cp:=rfl
  have z:=h.wy.ed e he
  rw[nV]at l⊢;rw[oX,aA zE,aA (by rw[aO];omega),aA (by simp),if_neg (by rw[if_pos zE,Int.toNat_natCast,M5 hi,b,hk];simp)]
  have p:(if a.length=1 then ch+1 else 0)≤3∧∀k∈kids,(if a.length=1 then ch+1 else 0)+(jR its k).cp≤3:=by
   by_cases c:a.length=1
   ·rw[aB c]
    match kids,b,j with
    | [k],_,j=>
     have j:(jR its e).cp=(jR its k).cp+1:=j
     refine⟨by omega,λq r=> ?_⟩
     rw[ba.1 r];omega
    | [],b,_=>exact absurd (b.symm.trans c) (by simp)
    |_::_::_,b,_=>exact absurd (b.symm.trans c) (by simp)
   ·rw[aA c]
    refine⟨by omega,λq r=> ?_⟩
    have:=(h.wy.ed q (v q r).1).2.2
    omega
  rw[aA zE,C (d+1) _ _ (λk hk=>⟨p.2 k hk,by have:=(v k hk).2;omega⟩) (by show s.nodes+1+fp a≤200;omega)]
  have o:s.nodes+1+fp a=s.nodes+(1+fp a):=by omega
  show((⟨s.nodes+1+fp a,(if 0≤((i:Nat):Int)then s.leaves else s.leaves+1)+_⟩:HK),(0:Int),(0:Int))=_
  rw[aB zE,o];rfl
mutual
def WY (g:fD):dY→List cM
 | .mk r l ks=>if r<0 then [(g.aG.getD l.toNat MW).word]else Ps g ks
def Ps (g:fD):List dY→List cM
 | []=>[]
 |t::l=>WY g t++Ps g l
end
theorem RF {α:Type}(l:List α){a b c:Nat}(h1:a≤b)(d:b≤c):(l.drop a).take (b-a)++(l.drop b).take (c-b)=(l.drop a).take (c-a):=by
 have e:c-a=(b-a)+(c-b):=by omega
 rw[e,List.take_add,List.drop_drop,show a+(b-a)=b by omega]
theorem Kc {g:fD}{words:List cM}{its:List jY}{tqo:Nat}(f:∀e,e<its.length→(jR its e).frm<(jR its e).tqo):∀(ks:List Nat) (c:List dY) (a:Nat),iq ⟨its,[]⟩ tqo a ks→qT (λe t=>WY g t=(words.drop (jR its e).frm).take ((jR its e).tqo-(jR its e).frm)) ks c→a≤tqo∧Ps g c=(words.drop a).take (tqo-a)
 | [],[],a,b,_=>by
  have b:a=tqo:=b
  subst b;rw[Ps,gp,pL];exact⟨aU _,rfl⟩
 |k::ks,t::c,a,b,i=>by
  obtain⟨h1,d,j⟩:=b;obtain⟨i1,i2⟩:=Kc f ks c _ j i.2
  have hk:=f k h1
  have d:(jR its k).frm=a:=d
  have i1:(jR its k).tqo≤tqo:=i1
  refine⟨by omega,?_⟩
  have l:WY g t=(words.drop (jR its k).frm).take ((jR its k).tqo-(jR its k).frm):=i.1
  rw[Ps,l,i2,d];exact RF words zE i1
 | [],_::_,_,_,h=>h.elim
 |_::_,[],_,_,h=>h.elim
theorem Y9 {g:fD}{words:List cM}{its:List jY}{full:List Nat}(h:Sb g words its full)(f:Nat){e:Nat}(he:e<its.length){t:dY}(ht:t∈kJ its f e):WY g t=(words.drop (jR its e).frm).take ((jR its e).tqo-(jR its e).frm):=by
 refine yI h.wy h.bs (Φ:=λe t=>WY g t=(words.drop (jR its e).frm).take ((jR its e).tqo-(jR its e).frm)) (λe i he hi hw h1 k b=> ?_) (λe i kids c he hi hk d l m n b j=> ?_) f e t he ht
 ·have o:=h.wy.ed e he
  rw[WY,aB (by decide),xP,hw,h1,show(jR its e).frm+1-(jR its e).frm=1 by omega]
  have a:(jR its e).frm<words.length:=by omega
  rw[ax,bT a,List.take_one,List.head?_drop,bT a];rfl
 ·rw[WY,aA zE]
  exact(Kc (λe he=>(h.wy.ed e he).1) kids c _ d j).2
end Go.Proofs.YtiefglecbgdaiaaGreatDoor
namespace Go.Proofs.YtiefglecbgdaiaaGreatDoor
open Go Go.J Go.Sort
theorem K5:∀l m:List Int,nU l m=true↔kI lf l m<0
 | [],[]=>by simp[kI,nU]
 | [],b::m=>by simp[kI,nU]
 |a::l,[]=>by simp[kI,nU]
 |a::l,b::m=>by
  refine Iff.trans (show nU (a::l) (b::m)=true↔_ from PF.int.app a b l m) ?_;rw[K5 l m,kI]
  by_cases e:lf a b=0
  ·rw[aA (λx=>x e),e]
   exact⟨λh=>h.elim (λx=>absurd x (by decide)) (λx=>x.2),λh=> .inr ⟨rfl,h⟩⟩
  ·rw[aB e]
   exact⟨λh=>h.elim id (λx=>absurd x.1 e),.inl⟩
theorem EF (g:fD)(a b:dY):xy g a b<0↔nU (pF g a::jZ a) (pF g b::jZ b)=true:=by
 unfold xy;rw[pe,←K5];exact(show nU (pF g a::jZ a) (pF g b::jZ b)=true↔_ from PF.int.app _ _ _ _).symm
theorem zx (g:fD):SWO (ltOf (xy g)):=by
 refine⟨λx=>df ?_,λx y z h1 a=>cX ?_,λx y z h1 a=>df ?_⟩
 ·rw[EF,nB];decide
 ·have h1:=im h1
  have a:=im a
  rw[EF]at h1 a⊢;exact p6 h1 a
 ·have h1:=ly h1
  have a:=ly a
  rw[EF]at h1 a⊢;exact zm h1 a
def wG (g:fD):fD:=⟨[],[],g.rules.map λr=>⟨[],[],r.kids,r.weight,.mk 0 [] 0 (.mk [] []) []⟩,g.aG.map λx=>⟨[],[],x.weight,.mk 0 [] 0 (.mk [] []) []⟩,[]⟩
def Lb (its:List jY)(full:List Nat):List dY:=full.flatMap (kJ its 60)
def e9 (g:fD)(words:List cM):List dY×(Int×Int):=
 if(fO g words).2.1≠0 then([],(fO g words).2)else if 200<(Lb (fO g words).1.1 (fO g words).1.2).length then([],(17,-1))
 else(Gj (xy (wG g)) (Lb (fO g words).1.1 (fO g words).1.2),(0,0))
theorem Tv {g:fD}{words:List cM}{t:dY}(h:t∈(e9 g words).1):(fO g words).2.1=0∧t∈Lb (fO g words).1.1 (fO g words).1.2:=by
 unfold e9 at h
 by_cases h1:(fO g words).2.1≠0
 ·rw[aB h1]at h;cases h
 rw[aA h1]at h
 by_cases a:200<(Lb (fO g words).1.1 (fO g words).1.2).length
 ·rw[aB a]at h;cases h
 rw[aA a]at h;exact⟨eY.1 h1,(Cd (zx _) _).mem_iff.1 h⟩
theorem E0 (g:fD)(words:List cM):(e9 g words).1.length≤200:=by
 unfold e9
 split
 ·exact aQ _
 ·split
  ·exact aQ _
  ·rename_i h
   show(Gj _ _).length≤200
   rw[(Cd (zx _) _).length_eq];omega
theorem KK {g:fD}{words:List cM}{t:dY}(h:t∈(e9 g words).1):lR g t=(0,0)∧XU g t∧WY g t=words:=by
 obtain⟨h1,b⟩:=Tv h
 have a:=(J5 h1).1
 obtain⟨e,he,ht⟩:=List.mem_flatMap.1 b;obtain⟨f1,f2,f3⟩:=a.ful e he;refine⟨Tq a 60 f1 ht,OW a 60 f1 ht,?_⟩;rw[Y9 a 60 f1 ht,f2,f3,List.drop_zero,Nat.sub_zero,fZ (aU _)]
mutual
theorem RR (g:fD):∀t:dY,tm (wG g) t=tm g t
 | .mk r l ks=>by
  rw[tm,tm,L4 g ks];unfold wG;rw[aO,aO]
theorem L4 (g:fD):∀l:List dY,rD (wG g) l=rD g l
 | []=>rfl
 |t::l=>by rw[rD,rD,RR g t,L4 g l]
end
theorem Zq {g:fD}(h:tq g):SI (wG g):=⟨λx hx=>by
 obtain⟨r,a,rfl⟩:=cS.1 (show x∈g.rules.map _ from hx)
 exact(h.rule r a).wt,λx hx=>by
 obtain⟨r,a,rfl⟩:=cS.1 (show x∈g.aG.map _ from hx)
 exact(h.lex r a).wt⟩
end Go.Proofs.YtiefglecbgdaiaaGreatDoor
namespace Go.J
open Go
theorem Ly (neg:Bool):qM neg 0 1=((0,1),(0,0)):=by unfold qM;cases neg<;>simp
theorem mo (neg:Bool){d:Nat}(h:0<d):jS neg 0 d=((0,1),(0,0)):=by
 unfold jS;rw[Nat.gcd_zero_left,Nat.zero_div,Nat.div_self h,Ly]
theorem tF (n d:Nat):jB (n:Int) d=jS false n d:=by
 unfold jB;rw[df zE,Int.natAbs_natCast]
theorem tE (n:Nat){d:Nat}(hd:0<d):jB (-(n:Int)) d=jS true n d:=by
 unfold jB
 rcases Nat.eq_zero_or_pos n with rfl|h
 ·simp only[Int.natAbs_neg,Int.natAbs_natCast];rw[mo _ hd,mo _ hd]
 ·rw[cX zE,Int.natAbs_neg,Int.natAbs_natCast]
theorem Q5 {a b:Int}(h:a*b≠0):decide (a*b<0)=(decide (a<0) !=decide (b<0)):=by
 have d:a≠0:=λe=>h (by rw[e,Int.zero_mul])
 have f:b≠0:=λe=>h (by rw[e,Int.mul_zero])
 rcases Int.lt_or_gt_of_ne d with h1|h1<;>rcases Int.lt_or_gt_of_ne f with c|c
 ·have:=Int.mul_pos_of_neg_of_neg h1 c
  rw[df zE,cX h1,cX c];rfl
 ·have:=Int.mul_neg_of_neg_of_pos h1 c
  rw[cX zE,cX h1,df zE];rfl
 ·have:=Int.mul_neg_of_pos_of_neg h1 c
  rw[cX zE,df zE,cX c];rfl
 ·have:=Int.mul_pos h1 c
  rw[df zE,df zE,df zE];rfl
theorem toNat_mul {a b:Int}(c:0≤a)(d:0≤b):(a*b).toNat=a.toNat*b.toNat:=by
 obtain⟨x,rfl⟩:=Int.eq_ofNat_of_zero_le c;obtain⟨y,rfl⟩:=Int.eq_ofNat_of_zero_le d;rw[←Int.natCast_mul,xP,xP,xP]
theorem Oj {x y:Pr}(hx:ij x)(hy:ij y):qA x y=jS (decide (x.1<0) !=decide (y.1<0)) (x.1.natAbs*y.1.natAbs) (x.2.toNat*y.2.toNat):=by
 have h1:=hx.pos
 have a:=hy.pos
 unfold qA jB;rw[Int.natAbs_mul,toNat_mul zE zE]
 by_cases h:x.1*y.1=0
 ·have:x.1.natAbs*y.1.natAbs=0:=by rw[←Int.natAbs_mul,h];rfl
  have hp:0<x.2.toNat*y.2.toNat:=Nat.mul_pos zE zE
  rw[this,mo _ hp,mo _ hp]
 ·rw[Q5 h]
theorem Oi {y:Pr}(hy:ij y)(b:y.1≠0):ij (Oh y):=by
 obtain⟨h1,c,d,e,a⟩:=hy;unfold Oh
 split
 ·refine⟨by dsimp only;omega,by dsimp only;omega,by dsimp only;omega,by dsimp only;omega,?_⟩
  dsimp only
  rw[Nat.gcd_comm,show(-y.2).natAbs=y.2.toNat by omega,show(-y.1).toNat=y.1.natAbs by omega];exact a
 ·refine⟨by dsimp only;omega,by dsimp only;omega,by dsimp only;omega,by dsimp only;omega,?_⟩
  dsimp only
  rw[Nat.gcd_comm,show y.2.natAbs=y.2.toNat by omega,show y.1.toNat=y.1.natAbs by omega];exact a
theorem Om {y:Pr}(hy:ij y):ij (Ol y):=by
 obtain⟨h1,d,a,b,c⟩:=hy;unfold Ol;exact⟨by dsimp only;omega,by dsimp only;omega,a,b,by dsimp only;rw[Int.natAbs_neg];exact c⟩
section
variable {x y:Pr}
theorem vg (hx:ij x)(hy:ij y):gX x y=jB (x.1*(y.2.toNat:Int)+y.1*(x.2.toNat:Int)) (x.2.toNat*y.2.toNat):=by
 have h1:=hx.pos
 have a:=hy.pos
 unfold gX;rw[toNat_mul zE zE,show(y.2.toNat:Int)=y.2 by omega,show(x.2.toNat:Int)=x.2 by omega]
theorem yJ (hx:ij x)(hy:ij y):0<x.2.toNat*y.2.toNat:=by
 have h1:=hx.pos
 have a:=hy.pos
 exact Nat.mul_pos zE zE
theorem nz {a:Int}(h:0≤a)(b:Nat):a*(b:Int)=((a.natAbs*b:Nat):Int):=by
 rw[Int.natCast_mul,show(a.natAbs:Int)=a by omega]
theorem ny {a:Int}(h:a<0)(b:Nat):a*(b:Int)= -((a.natAbs*b:Nat):Int):=by
 rw[Int.natCast_mul,show(a.natAbs:Int)= -a by omega,Int.neg_mul,Int.neg_neg]
theorem IC (hx:ij x)(hy:ij y)(h:decide (x.1<0)=decide (y.1<0)):gX x y=jS (decide (x.1<0)) (x.1.natAbs*y.2.toNat+y.1.natAbs*x.2.toNat) (x.2.toNat*y.2.toNat):=by
 rw[vg hx hy];rw[decide_eq_decide]at h
 by_cases h1:x.1<0
 ·rw[cX h1,ny h1,ny (h.1 h1),←tE _ (yJ hx hy)]
  congr 1;omega
 ·have a:¬y.1<0:=λk=>h1 (h.2 k)
  rw[df h1,nz zE,nz zE,←tF]
  congr 1
theorem OZ (hx:ij x)(hy:ij y)(h:decide (x.1<0)≠decide (y.1<0))(b:x.1.natAbs*y.2.toNat<y.1.natAbs*x.2.toNat):
 gX x y=jS (decide (y.1<0)) (y.1.natAbs*x.2.toNat-x.1.natAbs*y.2.toNat) (x.2.toNat*y.2.toNat):=by
 rw[vg hx hy]
 by_cases h1:x.1<0
 ·have a:¬y.1<0:=λk=>h (by rw[cX h1,cX k])
  rw[df a,ny h1,nz zE,←tF]
  congr 1;omega
 ·have a:y.1<0:=by
   apply Decidable.byContradiction
   intro k;exact h (by rw[df h1,df k])
  rw[cX a,nz zE,ny a,←tE _ (yJ hx hy)]
  congr 1;omega
theorem OY (hx:ij x)(hy:ij y)(h:decide (x.1<0)≠decide (y.1<0))(b:y.1.natAbs*x.2.toNat≤x.1.natAbs*y.2.toNat):
 gX x y=jS (decide (x.1<0)) (x.1.natAbs*y.2.toNat-y.1.natAbs*x.2.toNat) (x.2.toNat*y.2.toNat):=by
 rw[vg hx hy]
 by_cases h1:x.1<0
 ·have a:¬y.1<0:=λk=>h (by rw[cX h1,cX k])
  rw[cX h1,ny h1,nz zE,←tE _ (yJ hx hy)]
  congr 1;omega
 ·have a:y.1<0:=by
   apply Decidable.byContradiction
   intro k;exact h (by rw[df h1,df k])
  rw[df h1,nz zE,ny a,←tF]
  congr 1;omega
end
theorem vX {m n:Nat}(h:∀k,k ∣ m→k ∣ n→k ∣ 1):Nat.gcd m n=1:=Nat.dvd_one.1 (h _ (Nat.gcd_dvd_left m n) (Nat.gcd_dvd_right m n))
theorem Uj {a b c d:Nat}(p:0<b)(hd:0<d)(q:Nat.gcd a b=1)(l:Nat.gcd c d=1)(neg:Bool):
 jS neg (a*c) (b*d)=qM neg (a/Nat.gcd a d*(c/Nat.gcd c b)) (b/Nat.gcd c b*(d/Nat.gcd a d)):=by
 have m:0<Nat.gcd a d:=Nat.gcd_pos_of_pos_right _ hd
 have n:0<Nat.gcd c b:=Nat.gcd_pos_of_pos_right _ p
 have r:=Nat.coprime_div_gcd_div_gcd m
 have s:=Nat.coprime_div_gcd_div_gcd n
 have t:=Nat.div_mul_cancel (Nat.gcd_dvd_left a d)
 have e2:=Nat.div_mul_cancel (Nat.gcd_dvd_right a d)
 have u:=Nat.div_mul_cancel (Nat.gcd_dvd_left c b)
 have v:=Nat.div_mul_cancel (Nat.gcd_dvd_right c b)
 generalize Nat.gcd a d=g at*
 generalize Nat.gcd c b=h at*
 generalize a/g=e at*
 generalize d/g=f at*
 generalize c/h=i at*
 generalize b/h=j at*
 subst t e2 u v
 have k3:Nat.Coprime e j:=vX λk h1 o=>q▸Nat.dvd_gcd (Nat.dvd_mul_right_of_dvd h1 g) (Nat.dvd_mul_right_of_dvd o h)
 have w:Nat.Coprime i f:=vX λk h1 o=>l▸Nat.dvd_gcd (Nat.dvd_mul_right_of_dvd h1 h) (Nat.dvd_mul_right_of_dvd o g)
 have x:Nat.gcd (e*i) (j*f)=1:=Nat.Coprime.mul_left (Nat.Coprime.mul_right k3 r) (Nat.Coprime.mul_right s w)
 have y:e*g*(i*h)=g*h*(e*i):=by grind
 have z:j*h*(f*g)=g*h*(j*f):=by grind
 unfold jS;rw[y,z,Nat.gcd_mul_left,x,fU,Nat.mul_div_cancel_left _ (Nat.mul_pos m n),Nat.mul_div_cancel_left _ (Nat.mul_pos m n)]
theorem Sr {a b c d T:Nat}(C:0<b)(hd:0<d)(v:Nat.gcd a b=1)(l:Nat.gcd c d=1)
 (s:T=a*(d/Nat.gcd b d)+c*(b/Nat.gcd b d)∨T+c*(b/Nat.gcd b d)=a*(d/Nat.gcd b d)∨T+a*(d/Nat.gcd b d)=c*(b/Nat.gcd b d)) (neg:Bool):
 jS neg (T*Nat.gcd b d) (b*d)=qM neg (T/Nat.gcd T (Nat.gcd b d)) (b/Nat.gcd b d*(d/Nat.gcd T (Nat.gcd b d))):=by
 have i:0<Nat.gcd b d:=Nat.gcd_pos_of_pos_right _ hd
 have t:=Nat.coprime_div_gcd_div_gcd i
 have u:=Nat.div_mul_cancel (Nat.gcd_dvd_left b d)
 have e2:=Nat.div_mul_cancel (Nat.gcd_dvd_right b d)
 generalize Nat.gcd b d=g at*
 generalize b/g=f at*
 have m:Nat.gcd T g ∣ d:=by rw[←e2];exact Nat.dvd_mul_left_of_dvd (Nat.gcd_dvd_right T g) _
 have D:0<Nat.gcd T g:=Nat.gcd_pos_of_pos_right _ i
 have w:∀k,k ∣ T→k ∣ c*f→k ∣ a*(d/g):=λk h1 e=>by
  rcases s with h|h|h
  ·exact(Nat.dvd_add_left e).1 (h▸h1)
  ·rw[←h];exact Nat.dvd_add h1 e
  ·exact(Nat.dvd_add_right h1).1 (h▸e)
 have x:∀k,k ∣ T→k ∣ a*(d/g)→k ∣ c*f:=λk h1 e=>by
  rcases s with h|h|h
  ·exact(Nat.dvd_add_right e).1 (h▸h1)
  ·exact(Nat.dvd_add_right h1).1 (h▸e)
  ·rw[←h];exact Nat.dvd_add h1 e
 generalize E:d/g=y at*
 have k3:Nat.Coprime T f:=vX λk h1 e=>by
  have n:=w k h1 (Nat.dvd_mul_left_of_dvd e _)
  have o:Nat.Coprime k a:=vX λj p q=>v▸Nat.dvd_gcd q (Nat.dvd_trans p (by rw[←u];exact Nat.dvd_mul_right_of_dvd e _))
  have r:=o.dvd_of_dvd_mul_left n
  exact t▸Nat.dvd_gcd e r
 have z:Nat.Coprime T y:=vX λk h1 e=>by
  have n:=x k h1 (Nat.dvd_mul_left_of_dvd e _)
  have o:Nat.Coprime k c:=vX λj p q=>l▸Nat.dvd_gcd q (Nat.dvd_trans p (by rw[←e2];exact Nat.dvd_mul_right_of_dvd e _))
  have r:=o.dvd_of_dvd_mul_left n
  exact t▸Nat.dvd_gcd r e
 have A:Nat.gcd T (f*d)=Nat.gcd T g:=by
  rw[←e2,←Nat.mul_assoc];exact Nat.Coprime.gcd_mul_left_cancel_right g (Nat.Coprime.mul_right k3 z).symm
 have B:b*d=g*(f*d):=by rw[←u];grind
 unfold jS;rw[B,Nat.mul_comm T g,Nat.gcd_mul_left,A,Nat.mul_div_mul_left _ _ i,Nat.mul_div_mul_left _ _ i,Nat.mul_div_assoc _ m]
theorem Aj (T:Nat):18446744073709551616*(T/18446744073709551616)+T%18446744073709551616=T:=Nat.div_add_mod T _
theorem S2 (T g:Nat):(18446744073709551616*(T/18446744073709551616%g)+T%18446744073709551616)%g=T%g:=by
 have h:(18446744073709551616*(T/18446744073709551616%g)+T%18446744073709551616)%g=(18446744073709551616*(T/18446744073709551616)+T%18446744073709551616)%g:=by
  rw[Nat.add_mod,Nat.mul_mod,Nat.mod_mod,←Nat.mul_mod,←Nat.add_mod]
 rw[h,Aj]
theorem S1 {T h:Nat}(a:0<h)(b:T/18446744073709551616/h=0):(18446744073709551616*(T/18446744073709551616%h)+T%18446744073709551616)/h=T/h:=by
 have h1:T/18446744073709551616<h:=by
  rcases dI (T/18446744073709551616) h with k|k
  ·exact k
  ·have:=Nat.div_pos k a;omega
 rw[fh h1,Aj]
theorem Rz {T h:Nat}(b:0<h)(a:T/18446744073709551616/h≠0):18446744073709551616≤T/h:=by
 rw[Nat.div_div_eq_div_mul,Nat.mul_comm,←Nat.div_div_eq_div_mul]at a
 generalize T/h=q at*
 omega
theorem Tw (T g:Nat):Nat.gcd (T%g) g=Nat.gcd T g:=by rw[Nat.gcd_comm T g,Nat.gcd_rec g T]
theorem Oo (neg:Bool)(n d:Nat):qM (neg&&decide ((0:Int)<(n:Int))) n d=qM neg n d:=by
 rcases Nat.eq_zero_or_pos n with rfl|h
 ·unfold qM;cases neg<;>simp
 ·rw[cX zE,Bool.and_true]
theorem Fm {neg:Bool}{n d:Nat}(h:1152921504606846976<n∨1152921504606846976<d):qM neg n d=((0,0),(18,0)):=by unfold qM;rw[aB h]
section
variable {x y:Pr}
theorem Lw (hx:ij x)(hy:ij y){T G:Nat}{a:Bool}(b:G=Nat.gcd x.2.toNat y.2.toNat)
 (c:T=x.1.natAbs*(y.2.toNat/G)+y.1.natAbs*(x.2.toNat/G)∨T+y.1.natAbs*(x.2.toNat/G)=x.1.natAbs*(y.2.toNat/G)∨T+x.1.natAbs*(y.2.toNat/G)=y.1.natAbs*(x.2.toNat/G))
 (d:gX x y=jS a (T*G) (x.2.toNat*y.2.toNat)):gX x y=qM a (T/Nat.gcd T G) (x.2.toNat/G*(y.2.toNat/Nat.gcd T G)):=by
 have h1:=hx.pos
 have e:=hy.pos
 subst b;rw[d,Sr zE zE hx.cop hy.cop c]
theorem wB {a b d G:Nat}(h:G ∣ d):a*(d/G)*G=a*d:=by rw[Nat.mul_assoc,Nat.div_mul_cancel h]
theorem Tu (hx:ij x)(hy:ij y){p q G:Nat}(a:G=Nat.gcd x.2.toNat y.2.toNat)(hp:p=x.1.natAbs*(y.2.toNat/G))(c:q=y.1.natAbs*(x.2.toNat/G))
 (h:decide (x.1<0)=decide (y.1<0)):gX x y=jS (decide (x.1<0)) ((p+q)*G) (x.2.toNat*y.2.toNat):=by
 rw[IC hx hy h,jK,hp,c,wB (b:=x.2.toNat) (a▸Nat.gcd_dvd_right _ _),wB (b:=y.2.toNat) (a▸Nat.gcd_dvd_left _ _)]
theorem Tt (hx:ij x)(hy:ij y){p q G:Nat}(a:G=Nat.gcd x.2.toNat y.2.toNat)(hp:p=x.1.natAbs*(y.2.toNat/G))(d:q=y.1.natAbs*(x.2.toNat/G))
 (h:decide (x.1<0)≠decide (y.1<0)) (e:p<q):gX x y=jS (!decide (x.1<0)) ((q-p)*G) (x.2.toNat*y.2.toNat):=by
 have h1:=hx.pos
 have f:0<G:=by rw[a];exact Nat.gcd_pos_of_pos_left _ zE
 have c:p*G=x.1.natAbs*y.2.toNat:=by rw[hp,wB (b:=x.2.toNat) (a▸Nat.gcd_dvd_right _ _)]
 have e2:q*G=y.1.natAbs*x.2.toNat:=by rw[d,wB (b:=y.2.toNat) (a▸Nat.gcd_dvd_left _ _)]
 have g:decide (y.1<0)= !decide (x.1<0):=by
  cases i:decide (x.1<0)<;>cases j:decide (y.1<0)<;>simp[i,j]at h⊢
 rw[OZ hx hy h (by rw[←c,←e2];exact Nat.mul_lt_mul_of_pos_right e f),Nat.sub_mul,c,e2,g]
theorem Ts (hx:ij x)(hy:ij y){p q G:Nat}(a:G=Nat.gcd x.2.toNat y.2.toNat)(hp:p=x.1.natAbs*(y.2.toNat/G))(d:q=y.1.natAbs*(x.2.toNat/G))
 (h:decide (x.1<0)≠decide (y.1<0)) (e:q≤p):gX x y=jS (decide (x.1<0)) ((p-q)*G) (x.2.toNat*y.2.toNat):=by
 have c:p*G=x.1.natAbs*y.2.toNat:=by rw[hp,wB (b:=x.2.toNat) (a▸Nat.gcd_dvd_right _ _)]
 have e2:q*G=y.1.natAbs*x.2.toNat:=by rw[d,wB (b:=y.2.toNat) (a▸Nat.gcd_dvd_left _ _)]
 rw[OY hx hy h (by rw[←c,←e2];exact fC _ e),Nat.sub_mul,c,e2]
theorem Od (hx:ij x)(hy:ij y)(h1:x.1<0)(a:0≤y.1):gK x y= -1:=by
 have b:=hx.pos
 have a2:=hy.pos
 have c:=Int.mul_neg_of_neg_of_pos h1 (show 0<y.2 by omega)
 have d:=Int.mul_nonneg a (show 0≤x.2 by omega)
 unfold gK;rw[aB zE]
theorem Oe (hx:ij x)(hy:ij y)(h1:0≤x.1)(a:y.1<0):gK x y=1:=by
 have b:=hx.pos
 have a2:=hy.pos
 have c:=Int.mul_neg_of_neg_of_pos a (show 0<x.2 by omega)
 have d:=Int.mul_nonneg h1 (show 0≤y.2 by omega)
 unfold gK;rw[aA zE,aA zE]
theorem Og (hx:ij x)(hy:ij y)(h1:0≤x.1)(c:0≤y.1):gK x y=if x.1.natAbs*y.2.toNat<y.1.natAbs*x.2.toNat then-1 else if x.1.natAbs*y.2.toNat=y.1.natAbs*x.2.toNat then 0 else 1:=by
 have d:=hx.pos
 have a2:=hy.pos
 have a:=nz h1 y.2.toNat
 have b:=nz c x.2.toNat
 rw[show(y.2.toNat:Int)=y.2 by omega]at a;rw[show(x.2.toNat:Int)=x.2 by omega]at b;unfold gK;rw[a,b]
 generalize x.1.natAbs*y.2.toNat=A
 generalize y.1.natAbs*x.2.toNat=B
 simp only[Int.ofNat_lt,Int.ofNat_inj]
theorem Oc (hx:ij x)(hy:ij y)(h1:x.1<0)(e:y.1<0):gK x y=if y.1.natAbs*x.2.toNat<x.1.natAbs*y.2.toNat then-1 else if x.1.natAbs*y.2.toNat=y.1.natAbs*x.2.toNat then 0 else 1:=by
 have f:=hx.pos
 have a2:=hy.pos
 have b:=ny h1 y.2.toNat
 have c:=ny e x.2.toNat
 rw[show(y.2.toNat:Int)=y.2 by omega]at b;rw[show(x.2.toNat:Int)=x.2 by omega]at c;unfold gK;rw[b,c]
 generalize x.1.natAbs*y.2.toNat=A
 generalize y.1.natAbs*x.2.toNat=B
 by_cases a:B<A
 ·rw[aB zE,aB a]
 ·by_cases d:A=B
  ·rw[aA zE,aB zE,aA a,aB d]
  ·rw[aA zE,aA zE,aA a,aA d]
end
theorem Ik {n d u v:Nat}(hd:0<d)(b:0<v)(a:Nat.gcd u v=1)(h:u*d=n*v):n/Nat.gcd n d=u∧d/Nat.gcd n d=v:=by
 have h1:v ∣ u*d:=⟨n,by rw[h,Nat.mul_comm]⟩
 have c:v ∣ d:=(Nat.Coprime.dvd_of_dvd_mul_left (show Nat.Coprime v u by rw[Nat.coprime_comm];exact a) h1)
 obtain⟨k,rfl⟩:=c
 have hk:0<k:=Nat.pos_of_mul_pos_left hd
 have e:n=u*k:=by
  have:v*n=v*(u*k):=by rw[Nat.mul_comm v n,←h];grind
  exact Nat.eq_of_mul_eq_mul_left b this
 subst e;rw[Nat.gcd_mul_right,a,nM];exact⟨Nat.mul_div_cancel _ hk,Nat.mul_div_cancel _ hk⟩
theorem qx (a:Int)(d:Nat):(a*(d:Int)).natAbs=a.natAbs*d:=by rw[Int.natAbs_mul,Int.natAbs_natCast]
theorem Dz {n b:Int}{d a:Nat}(hd:0<d)(f:0<a)(h:n*(a:Int)=b*(d:Int)):jB n d=jB b a:=by
 have h1:n.natAbs*a=b.natAbs*d:=by rw[←qx,←qx,h]
 have c:0<Nat.gcd b.natAbs a:=Nat.gcd_pos_of_pos_right _ f
 have i:=Nat.coprime_div_gcd_div_gcd c
 have j:=Nat.div_mul_cancel (Nat.gcd_dvd_left b.natAbs a)
 have e2:=Nat.div_mul_cancel (Nat.gcd_dvd_right b.natAbs a)
 have l:0<a/Nat.gcd b.natAbs a:=Nat.div_pos (Nat.gcd_le_right _ f) c
 have m:decide (n<0)=decide (b<0):=by
  rw[decide_eq_decide]
  have o:(0:Int)<(d:Int):=by omega
  have p:(0:Int)<(a:Int):=by omega
  constructor
  ·intro k
   have:=Int.mul_neg_of_neg_of_pos k p
   rw[h]at this
   apply Decidable.byContradiction
   intro e
   have:=Int.mul_nonneg (show 0≤b by omega) (show(0:Int)≤d by omega)
   omega
  ·intro k
   have:=Int.mul_neg_of_neg_of_pos k o
   rw[←h]at this
   apply Decidable.byContradiction
   intro e
   have:=Int.mul_nonneg (show 0≤n by omega) (show(0:Int)≤a by omega)
   omega
 obtain⟨q,e⟩:=Ik (n:=n.natAbs) hd l i (by
  generalize Nat.gcd b.natAbs a=g at*
  generalize b.natAbs/g=u at*
  generalize a/g=v at*
  have:g*(u*d)=g*(n.natAbs*v):=by
   have r:g*(u*d)=(u*g)*d:=by grind
   have s:g*(n.natAbs*v)=n.natAbs*(v*g):=by grind
   rw[r,s,j,e2,h1]
  exact Nat.eq_of_mul_eq_mul_left c this)
 unfold jB jS;rw[q,e,m]
theorem Mx {a:Int}(h:0≤a):((a.toNat:Nat):Int)=a:=by omega
theorem KI (neg:Bool)(n d:Nat):(qM neg n d).2.1=0∧n≤1152921504606846976∧d≤1152921504606846976∧qM neg n d=((if neg then-(n:Int)else n,(d:Int)),(0,0))∨qM neg n d=((0,0),(18,0)):=by
 unfold qM
 split
 ·right;rfl
 ·rename_i h
  left;exact⟨rfl,by omega,by omega,rfl⟩
theorem CE {n:Int}{d:Nat}(hd:0<d):(ij (jB n d).1∧(jB n d).2=(0,0)∧(jB n d).1.1*(d:Int)=n*(jB n d).1.2)∨jB n d=((0,0),(18,0)):=by
 have b:0<Nat.gcd n.natAbs d:=Nat.gcd_pos_of_pos_right _ hd
 have c:=Nat.coprime_div_gcd_div_gcd b
 have e:=Nat.div_mul_cancel (Nat.gcd_dvd_left n.natAbs d)
 have e2:=Nat.div_mul_cancel (Nat.gcd_dvd_right n.natAbs d)
 have h:0<d/Nat.gcd n.natAbs d:=Nat.div_pos (Nat.gcd_le_right _ hd) b
 unfold jB jS
 generalize Nat.gcd n.natAbs d=g at*
 generalize n.natAbs/g=u at*
 generalize d/g=v at*
 rcases KI (decide (n<0)) u v with⟨_,h1,i,a⟩|a
 ·left
  rw[a]
  have f:(if decide (n<0)=true then-(u:Int)else u)*(g:Int)=n:=by
   have:(u:Int)*(g:Int)=n.natAbs:=by rw[←Int.natCast_mul,e]
   by_cases k:n<0
   ·rw[aB (by simpa using k),Int.neg_mul,this];omega
   ·rw[aA (by simpa using k),this];omega
  refine⟨⟨?_,?_,?_,?_,?_⟩,rfl,?_⟩
  ·dsimp only;split<;>omega
  ·dsimp only;split<;>omega
  ·dsimp only;omega
  ·dsimp only;omega
  ·dsimp only
   rw[xP,show(if decide (n<0)=true then-(u:Int)else u).natAbs=u by split<;>omega];exact c
  ·dsimp only
   generalize (if decide (n<0)=true then-(u:Int)else u)=s at*
   rw[←e2,←f,Int.natCast_mul]
   grind
 ·right;exact a
section
variable {x y z:Pr}
theorem den_pos (hx:ij x)(hy:ij y):0<(x.2*y.2).toNat:=by
 have h1:=hx.pos
 have a:=hy.pos
 rw[toNat_mul zE zE];exact Nat.mul_pos zE zE
theorem yG (hx:ij x)(hy:ij y):(((x.2*y.2).toNat:Nat):Int)=x.2*y.2:=by
 have h1:=hx.pos
 have a:=hy.pos
 exact Mx (Int.mul_nonneg zE zE)
theorem zO (hx:ij x)(hy:ij y):(ij (gX x y).1∧(gX x y).2=(0,0)∧(gX x y).1.1*(x.2*y.2)=(x.1*y.2+y.1*x.2)*(gX x y).1.2)∨gX x y=((0,0),(18,0)):=by
 have h:=CE (n:=x.1*y.2+y.1*x.2) (den_pos hx hy)
 rw[yG hx hy]at h;exact h
theorem Fl (hx:ij x)(hy:ij y):(ij (qA x y).1∧(qA x y).2=(0,0)∧(qA x y).1.1*(x.2*y.2)=(x.1*y.1)*(qA x y).1.2)∨qA x y=((0,0),(18,0)):=by
 have h:=CE (n:=x.1*y.1) (den_pos hx hy)
 rw[yG hx hy]at h;exact h
theorem mul_add {s a b:Pr}(hx:ij x)(hy:ij y)(hz:ij z)(g:ij s)(h:ij a)(i:ij b)(es:s.1*(y.2*z.2)=(y.1*z.2+z.1*y.2)*s.2)
 (n:a.1*(x.2*y.2)=(x.1*y.1)*a.2) (o:b.1*(x.2*z.2)=(x.1*z.1)*b.2):qA x s=gX a b:=by
 unfold qA gX;refine Dz (den_pos hx g) (den_pos h i) ?_;rw[yG hx g,yG h i]
 have r:=hx.pos
 have t:=hy.pos
 have z2:=hz.pos
 obtain⟨j,c⟩:=x;obtain⟨u,d⟩:=y;obtain⟨v,e⟩:=z;obtain⟨s1,s2⟩:=s;obtain⟨l,a2⟩:=a;obtain⟨m,f⟩:=b
 dsimp only at*
 have k:c*d*e≠0:=Int.mul_ne_zero (Int.mul_ne_zero zE zE) zE
 apply Int.eq_of_mul_eq_mul_left k
 have p:c*d*e*(j*s1*(a2*f))=c*(j*(a2*f))*(s1*(d*e)):=by grind
 have q:c*d*e*((l*f+m*a2)*(c*s2))=e*f*(c*s2)*(l*(c*d))+d*a2*(c*s2)*(m*(c*e)):=by grind
 rw[p,q,es,n,o]
 grind
theorem zR:gK y x= -gK x y:=by
 unfold gK
 generalize x.1*y.2=u
 generalize y.1*x.2=v
 by_cases h1:u<v
 ·rw[aB h1,aA zE,aA zE];rfl
 ·by_cases a:u=v
  ·rw[aA h1,aB a,aA zE,aB a.symm];rfl
  ·rw[aA h1,aA a,aB zE]
theorem KH (k:Nat)(x y:Pr):(ij (lL k x y).1∧(lL k x y).2=(0,0))∨((lL k x y).1=(0,0)∧(lL k x y).2.1≠0):=by
 unfold lL
 split
 ·rename_i a
  obtain⟨hx,hy⟩:=mn.1 a
  split
  ·rcases zO hx hy with h|h
   ·exact .inl ⟨h.1,h.2.1⟩
   ·rw[h];exact .inr ⟨rfl,by simp⟩
  ·rcases zO hx (Om hy)with h|h
   ·exact .inl ⟨h.1,h.2.1⟩
   ·rw[h];exact .inr ⟨rfl,by simp⟩
  ·rcases Fl hx hy with h|h
   ·exact .inl ⟨h.1,h.2.1⟩
   ·rw[h];exact .inr ⟨rfl,by simp⟩
  ·split
   ·exact .inr ⟨rfl,by simp⟩
   ·rename_i b
    rcases Fl hx (Oi hy b)with h|h
    ·exact .inl ⟨h.1,h.2.1⟩
    ·rw[h];exact .inr ⟨rfl,by simp⟩
 ·rename_i a
  exact .inr ⟨rfl,a⟩
end
end Go.J
namespace Go.Proofs.YtiefglecbgdaiaaGreatDoor
open Go Go.J Tryz
def vM (r:kM):Nat:=(r.graph.getD (nS r.graph 0).toNat gq).1.toNat
def vq (x:Bg):Nat:=(x.graph.getD 0 gq).1.toNat
def jL (T:List Int)(x:Nat×Int):List Int:=T.set x.1 (T.getD x.1 0+x.2)
def lP (g:fD)(R:List Int):List (Nat×Int):=(g.rules.map vM).zip R
def rH (g:fD)(X:List Int):List (Nat×Int):=(g.aG.map vq).zip X
def y8 (g:fD)(R X:List Int):List Int:=(rH g X).foldl jL ((lP g R).foldl jL (List.replicate g.types.length 0))
def shr (T:List Int)(x:Nat×Int):Pr:=if 0<T.getD x.1 0 then(oQ x.2 (T.getD x.1 0)).1 else(0,1)
def SV (g:fD)(R X:List Int):List Pr:=(lP g R).map (shr (y8 g R X))
def SX (g:fD)(R X:List Int):List Pr:=(rH g X).map (shr (y8 g R X))
mutual
def lh (wr wx:List Pr):dY→Pr→Option Pr
 | .mk r l ks,p=>if(lL 2 p (if r<0 then wx.getD l.toNat (0,0)else wr.getD r.toNat (0,0))).2.1≠0 then none else jV wr wx ks (lL 2 p (if r<0 then wx.getD l.toNat (0,0)else wr.getD r.toNat (0,0))).1
def jV (wr wx:List Pr):List dY→Pr→Option Pr
 | [],p=>some p
 |t::l,p=>(lh wr wx t p).bind λq=>jV wr wx l q
end
theorem wA (wr wx:List Pr):∀(a b:List dY) (p:Pr),jV wr wx (a++b) p=(jV wr wx a p).bind λq=>jV wr wx b q
 | [],b,p=>by rw[xR,jV];rfl
 |t::a,b,p=>by
  rw[se,jV,jV]
  cases lh wr wx t p with
  |none=>rfl
  |some q=>exact wA wr wx a b q
def dm (g:fD)(R X:List Int)(t:dY):Option Pr:=lh (SV g R X) (SX g R X) t (1,1)
mutual
theorem Kk (wr wx:List Pr):∀(t:dY) (p q:Pr),lh wr wx t p=some q→ij q
 | .mk r l ks,p,q,h=>by
  rw[lh]at h
  by_cases c:(lL 2 p (if r<0 then wx.getD l.toNat (0,0)else wr.getD r.toNat (0,0))).2.1≠0
  ·rw[aB c]at h;cases h
  ·rw[aA c]at h
   refine GR wr wx ks _ q ?_ h
   rcases KH 2 p (if r<0 then wx.getD l.toNat (0,0)else wr.getD r.toNat (0,0))with k|k
   ·exact k.1
   ·exact absurd k.2 c
theorem GR (wr wx:List Pr):∀(l:List dY) (p q:Pr),ij p→jV wr wx l p=some q→ij q
 | [],p,q,hp,h=>by rw[jV]at h;rw[←Option.some.inj h];exact hp
 |t::l,p,q,hp,h=>by
  rw[jV]at h;obtain⟨z,h1,a⟩:=oc.1 h;exact GR wr wx l z q (Kk wr wx t p z h1) a
end
abbrev tL (x:Pr):Prop:=aZ x.1∧aZ x.2
theorem pf {x:Pr}(h:ij x):tL x:=by
 obtain⟨h1,a,b,c,_⟩:=h
 unfold tL aZ;omega
theorem J1:tL (0,0):=by unfold tL aZ;omega
theorem KG (k:Nat)(x y:Pr):tL (lL k x y).1:=by
 rcases KH k x y with h|h
 ·exact pf h.1
 ·rw[h.1];exact J1
theorem Lx (n d:Int):tL (oQ n d).1:=by
 unfold oQ
 split
 ·exact J1
 ·unfold jS
  generalize n.natAbs/Nat.gcd n.natAbs d.natAbs=a
  generalize d.natAbs/Nat.gcd n.natAbs d.natAbs=b
  rcases KI (decide (n<0) !=decide (d<0)) a b with⟨_,e,f,c⟩|c
  ·rw[c];unfold tL aZ;dsimp only;split<;>omega
  ·rw[c];exact J1
theorem ZK (T:List Int)(x:Nat×Int):tL (shr T x):=by
 unfold shr
 split
 ·exact Lx _ _
 ·unfold tL aZ;omega
theorem uq {g:fD}{R:List Int}(h:R.length=g.rules.length):(lP g R).length=g.rules.length:=by unfold lP;rw[List.length_zip,aO,h,Nat.min_self]
theorem vE {g:fD}{X:List Int}(h:X.length=g.aG.length):(rH g X).length=g.aG.length:=by unfold rH;rw[List.length_zip,aO,h,Nat.min_self]
theorem LH {g:fD}{R X:List Int}(h:R.length=g.rules.length):(SV g R X).length=g.rules.length:=by unfold SV;rw[aO,uq h]
theorem LI {g:fD}{R X:List Int}(h:X.length=g.aG.length):(SX g R X).length=g.aG.length:=by unfold SX;rw[aO,vE h]
theorem NS (T:List Int)(x:Nat×Int):(jL T x).length=T.length:=ep
theorem qZ (l:List (Nat×Int))(T:List Int):(l.foldl jL T).length=T.length:=by
 induction l generalizing T with
 |nil=>rfl
 |cons x l a=>rw[jX,a,NS]
theorem Tz {T:List Int}{b:Int}(h:∀x∈T,0≤x∧x≤b)(a:0≤b)(i:Nat):0≤T.getD i 0∧T.getD i 0≤b:=by
 rw[ax]
 rcases dI i T.length with hi|hi
 ·rw[bT hi];exact h _ (gl hi)
 ·rw[iR hi];exact⟨Int.le_refl _,a⟩
theorem Sn {T:List Int}{b:Int}(a:0≤b)(h:∀x∈T,0≤x∧x≤b){x:Nat×Int}(hx:0≤x.2∧x.2≤1000000):∀z∈jL T x,0≤z∧z≤b+1000000:=λz hz=>by
 have h1:=Tz h a x.1
 rcases lV hz with hz|rfl
 ·have:=h z hz;omega
 ·omega
theorem u7:∀(l:List (Nat×Int)) (T:List Int) (b:Int),0≤b→(∀x∈T,0≤x∧x≤b)→(∀x∈l,0≤x.2∧x.2≤1000000)→∀z∈l.foldl jL T,0≤z∧z≤b+1000000*(l.length:Int)
 | [],T,b,a,h,_,z,hz=>by have:=h z hz;simp only[List.length_nil];omega
 |x::l,T,b,a,h,c,z,hz=>by
  have:=u7 l (jL T x) (b+1000000) zE (Sn a h (c x (aR ..))) (λy hy=>c y (cO _ hy)) z hz
  rw[fL];push_cast;omega
theorem yY {l:List Nat}{R:List Int}{b:Int}(h:∀x∈R,0≤x∧x≤b):∀x∈l.zip R,0≤x.2∧x.2≤b:=λx hx=>h x.2 (List.of_mem_zip hx).2
structure D8 (g:fD)(R X:List Int):Prop where
 rl:R.length=g.rules.length
 xl:X.length=g.aG.length
 rb:∀x∈R,0≤x∧x≤1000000
 xb:∀x∈X,0≤x∧x≤1000000
theorem Qe {g:fD}(h:tq g){r:kM}(e:r∈g.rules):0≤nS r.graph 0∧(nS r.graph 0).toNat<r.graph.length∧vM r<g.types.length∧((vM r:Nat):Int)=(r.graph.getD (nS r.graph 0).toNat gq).1:=by
 have a:=h.rule r e
 have b:=a.nS 0 (Int.le_refl _) (by have:=a.kids;omega)
 have hp:=a.gr.pos
 have h1:(nS r.graph 0).toNat<r.graph.length:=by
  unfold nS at b⊢
  cases d:(r.graph.getD 0 gq).2.find? λx=>x.1==0 with
  |none=>rw[d]at b;exact absurd b (by decide)
  |some x=>
   have hm:=List.mem_of_find?_eq_some d
   have c:r.graph.getD 0 gq∈r.graph:=by rw[ax,bT hp];exact gl hp
   have:=((a.gr.nd _ c).2.2 x hm).2
   show x.2.toNat<_
   omega
 have c:r.graph.getD (nS r.graph 0).toNat gq∈r.graph:=by rw[ax,bT h1];exact gl h1
 have f:=(a.gr.nd _ c).1
 unfold vM;exact⟨b,h1,by omega,by omega⟩
theorem Pt {g:fD}(h:tq g){x:Bg}(hx:x∈g.aG):0<x.graph.length∧vq x<g.types.length∧((vq x:Nat):Int)=(x.graph.getD 0 gq).1:=by
 have a:=h.lex x hx
 have hp:=a.gr.pos
 have b:x.graph.getD 0 gq∈x.graph:=by rw[ax,bT hp];exact gl hp
 have c:=(a.gr.nd _ b).1
 unfold vq;exact⟨hp,by omega,by omega⟩
theorem ZZ {g:fD}{R X:List Int}(a:D8 g R X)(h:tq g):∀x∈y8 g R X,0≤x∧x≤140000000:=λx hx=>by
 have c:=u7 (lP g R) (List.replicate g.types.length 0) 0 (Int.le_refl _) (λz hz=>by rw[Ao hz];omega) (yY a.rb)
 have b:=u7 (rH g X) _ _ zE c (yY a.xb) x hx
 rw[uq a.rl,vE a.xl]at b
 have:=h.rn
 have:=h.xn
 omega
theorem Ob {x y:Pr}:gK x y≤0↔x.1*y.2≤y.1*x.2:=by
 unfold gK
 split
 ·omega
 ·split<;>omega
theorem zQ (x:Pr):gK x x=0:=by unfold gK;rw[aA zE,aB rfl]
theorem Fj {x y z:Pr}(hx:ij x)(hy:ij y)(hz:ij z)(h:gK x y≤0)(k:gK y z≤0):gK x z≤0:=by
 rw[Ob]at h k⊢
 have d:=hx.pos
 have e:=hy.pos
 have z2:=hz.pos
 have h1:=Int.mul_le_mul_of_nonneg_right h (show 0≤z.2 by omega)
 have a:=Int.mul_le_mul_of_nonneg_right k (show 0≤x.2 by omega)
 have b:x.1*y.2*z.2=x.1*z.2*y.2:=by ac_rfl
 have e2:y.1*x.2*z.2=y.1*z.2*x.2:=by ac_rfl
 have c:z.1*y.2*x.2=z.1*x.2*y.2:=by ac_rfl
 rw[b,e2]at h1;rw[c]at a;exact Int.le_of_mul_le_mul_right (Int.le_trans h1 a) zE
def oJ (l:List Pr):Nat→Nat
 |0=>0
 |k+1=>if 0<gK (l.getD k (0,1)) (l.getD (oJ l k) (0,1))then k else oJ l k
theorem yD {l:List Pr}(b:∀p∈l,ij p)(d:0<l.length):∀k,k≤l.length→oJ l k<l.length∧∀i,i<k→gK (l.getD i (0,1)) (l.getD (oJ l k) (0,1))≤0
 |0,_=>⟨d,λ_ h=>by omega⟩
 |k+1,hk=>by
  obtain⟨i1,i2⟩:=yD b d k zE
  have a:∀i,i<l.length→ij (l.getD i (0,1)):=λi hi=>by rw[ax,bT hi];exact b _ (gl hi)
  rw[oJ]
  by_cases c:0<gK (l.getD k (0,1)) (l.getD (oJ l k) (0,1))
  ·rw[aB c]
   refine⟨by omega,λi hi=> ?_⟩
   rcases dI i k with h|h
   ·refine Fj (a i zE) (a _ i1) (a k zE) (i2 i h) ?_
    rw[zR (x:=l.getD k (0,1)) (y:=l.getD (oJ l k) (0,1))];omega
   ·obtain rfl:i=k:=by omega
    rw[zQ];exact Int.le_refl _
  ·rw[aA c]
   refine⟨i1,λi hi=> ?_⟩
   rcases dI i k with h|h
   ·exact i2 i h
   ·obtain rfl:i=k:=by omega
    omega
end Go.Proofs.YtiefglecbgdaiaaGreatDoor
namespace Go.Proofs.YtiefglecbgdaiaaGreatDoor
open Go Go.J Tryz
theorem N8:(prog.info? 47).bind (λi=>i.zero.map Value.cells)=some #[.int .i64 0,.int .i64 0]:=by kernel_rfl
instance:type_of%(sP.mk N8):=⟨N8⟩
theorem Z8 (w:World):dB prog 47 w= .ok #[(0,1),(1,1)] w:=by kernel_rfl
theorem nG:(prog.info? 47).map (·.size)=some 2:=by kernel_rfl
instance:type_of%(qW.mk nG):=⟨nG⟩
theorem zK:bq prog 47 0=some 0:=by kernel_rfl
instance:type_of%(iV.mk zK):=⟨zK⟩
theorem Dr:bq prog 47 1=some 1:=by kernel_rfl
instance:type_of%(iV.mk Dr):=⟨Dr⟩
theorem Da:aK prog 45:=⟨_,func45,rfl,by kernel_rfl⟩
theorem Lq:aK prog 87:=⟨_,func87,rfl,by kernel_rfl⟩
theorem Xs:aK prog 40:=⟨_,func40,rfl,by kernel_rfl⟩
theorem O3:aK prog 44:=⟨_,func44,rfl,by kernel_rfl⟩
theorem abO:aK prog 140:=⟨_,func140,rfl,by kernel_rfl⟩
theorem abM:aK prog 129:=⟨_,func129,rfl,by kernel_rfl⟩
theorem Xv:aK prog 91:=⟨_,func91,rfl,by kernel_rfl⟩
theorem Xw:aK prog 92:=⟨_,func92,rfl,by kernel_rfl⟩
theorem acO:aK prog 90:=⟨_,func90,rfl,by kernel_rfl⟩
theorem acG:aK prog 43:=⟨_,func43,rfl,by kernel_rfl⟩
theorem abL:aK prog 128:=⟨_,func128,rfl,by kernel_rfl⟩
theorem ajX:aK prog 41:=⟨_,func41,rfl,by kernel_rfl⟩
theorem ajQ:(prog.info? 98).map (·.bytes)=some 152:=by kernel_rfl
theorem RB:(prog.info? 109).map (·.size)=some 8:=by kernel_rfl
instance:type_of%(qW.mk RB):=⟨RB⟩
theorem acK:aK prog 77:=⟨_,func77,rfl,by kernel_rfl⟩
theorem aj7:aK prog 79:=⟨_,func79,rfl,by kernel_rfl⟩
theorem aj6:aK prog 78:=⟨_,func78,rfl,by kernel_rfl⟩
theorem aj5:aK prog 76:=⟨_,func76,rfl,by kernel_rfl⟩
theorem aj2:aK prog 72:=⟨_,func72,rfl,by kernel_rfl⟩
theorem LK:(prog.info? 109).bind (λi=>i.zero.map Value.cells)=some #[.slice none 0 0,.slice none 0 0,.slice none 0 0,.slice none 0 0,.slice none 0 0,.slice none 0 0,.slice none 0 0,.slice none 0 0]:=by kernel_rfl
instance:type_of%(sP.mk LK):=⟨LK⟩
theorem Wh (w:World):dB prog 109 w= .ok #[(0,5),(5,1),(6,1),(7,1)] w:=by kernel_rfl
theorem aj3:aK prog 73:=⟨_,func73,rfl,by kernel_rfl⟩
theorem aj4:aK prog 74:=⟨_,func74,rfl,by kernel_rfl⟩
theorem ajV:aK prog 35:=⟨_,func35,rfl,by kernel_rfl⟩
theorem ajW:aK prog 36:=⟨_,func36,rfl,by kernel_rfl⟩
theorem ab4:aK prog 22:=⟨_,func22,rfl,by kernel_rfl⟩
theorem I9:bq prog 37 1=some 1:=by kernel_rfl
instance:type_of%(iV.mk I9):=⟨I9⟩
theorem I8:bq prog 37 0=some 0:=by kernel_rfl
instance:type_of%(iV.mk I8):=⟨I8⟩
theorem VW:(prog.info? 37).bind (λi=>i.zero.map Value.cells)=some #[.slice none 0 0,.slice none 0 0]:=by kernel_rfl
instance:type_of%(sP.mk VW):=⟨VW⟩
theorem ahF (w:World):dB prog 37 w= .ok #[(0,1),(1,1)] w:=by kernel_rfl
theorem ZT:(prog.info? 37).map (·.size)=some 2:=by kernel_rfl
instance:type_of%(qW.mk ZT):=⟨ZT⟩
theorem Xq:aK prog 21:=⟨_,func21,rfl,by kernel_rfl⟩
theorem aj9:aK prog 84:=⟨_,func84,rfl,by kernel_rfl⟩
theorem Jh:(prog.info? 47).bind (·.zero)=some (Value.agg #[.int .i64 0,.int .i64 0]):=by kernel_rfl
theorem Xm:(prog.info? 47).map (·.bytes)=some 16:=by kernel_rfl
theorem acM:aK prog 83:=⟨_,func83,rfl,by kernel_rfl⟩
theorem acN:aK prog 85:=⟨_,func85,rfl,by kernel_rfl⟩
theorem akA:aK prog 86:=⟨_,func86,rfl,by kernel_rfl⟩
instance:sP prog 186 #[.nilFunc]:=⟨by kernel_rfl⟩
theorem ahS:(prog.info? 186).map (·.size)=some 1:=by kernel_rfl
theorem acC:aK prog 37:=⟨_,func37,rfl,by kernel_rfl⟩
theorem acD:aK prog 38:=⟨_,func38,rfl,by kernel_rfl⟩
theorem acE:aK prog 39:=⟨_,func39,rfl,by kernel_rfl⟩
theorem cb7:aK prog 7:=⟨_,func7,rfl,by kernel_rfl⟩
theorem acF:aK prog 42:=⟨_,func42,rfl,by kernel_rfl⟩
theorem cb9:aK prog 9:=⟨_,func9,rfl,by kernel_rfl⟩
theorem abI:aK prog 12:=⟨_,func12,rfl,by kernel_rfl⟩
theorem abN:aK prog 13:=⟨_,func13,rfl,by kernel_rfl⟩
theorem ajY:aK prog 46:=⟨_,func46,rfl,by kernel_rfl⟩
theorem cb5:aK prog 5:=⟨_,func5,rfl,by kernel_rfl⟩
theorem ajS:aK prog 11:=⟨_,func11,rfl,by kernel_rfl⟩
theorem cb6:aK prog 6:=⟨_,func6,rfl,by kernel_rfl⟩
theorem cb8:aK prog 8:=⟨_,func8,rfl,by kernel_rfl⟩
theorem ajR:aK prog 10:=⟨_,func10,rfl,by kernel_rfl⟩
theorem Lk {a b:Value}(c:a.oneCell'=true)(d:b.oneCell'=true)(w:World):(Instr.build 98 #[(2,a),(3,b)]).run prog w= .ok (.agg #[.string ⟨#[]⟩,.slice none 0 0,a,b,.int .i64 0,.string ⟨#[]⟩,.int .i64 0,.string ⟨#[]⟩,.slice none 0 0,.slice none 0 0]) w:=
 bI SE (ZB w) (by simp[Instr.fill,J.bL,J.cells_one c,J.cells_one d])
theorem Nk {a:Value}(b:a.oneCell'=true)(w:World):(Instr.build 100 #[(2,a)]).run prog w= .ok (.agg #[.string ⟨#[]⟩,.slice none 0 0,a,.int .i64 0,.string ⟨#[]⟩,.int .i64 0,.string ⟨#[]⟩,.slice none 0 0,.slice none 0 0]) w:=
 bI LJ (Wg w) (by simp[Instr.fill,J.bL,J.cells_one b])
theorem Lh {a b:Value}(c:a.oneCell'=true)(d:b.oneCell'=true)(w:World):(Instr.build 51 #[(0,a),(2,b)]).run prog w= .ok (.agg #[a,.int .i64 0,b]) w:=
 bI SC (Z9 w) (by simp[Instr.fill,J.bL,J.cells_one c,J.cells_one d])
theorem T0 (w:World):(Instr.build 109 #[]).run prog w= .ok (.agg #[.slice none 0 0,.slice none 0 0,.slice none 0 0,.slice none 0 0,.slice none 0 0,.slice none 0 0,.slice none 0 0,.slice none 0 0]) w:=
 bI LK (Wh w) (by simp[Instr.fill,J.bL])
theorem Nl {a b c d e:Value}(w:World):(Instr.build 109 #[(0,.agg #[a,b,c,d,e])]).run prog w= .ok (.agg #[a,b,c,d,e,.slice none 0 0,.slice none 0 0,.slice none 0 0]) w:=
 bI LK (Wh w) (by simp[Instr.fill,J.bL])
theorem Lg {a b:Value}(c:a.oneCell'=true)(h1:b.oneCell'=true)(w:World):(Instr.build 37 #[(0,a),(1,b)]).run prog w= .ok (.agg #[a,b]) w:=
 bI VW (ahF w) (by simp[Instr.fill,J.bL,J.cells_one c,J.cells_one h1])
theorem Ht (w:World):(Instr.build 37 #[]).run prog w= .ok (.agg #[.slice none 0 0,.slice none 0 0]) w:=
 bI VW (ahF w) (by simp[Instr.fill,J.bL])
theorem DU {a:Value}(h1:a.oneCell'=true)(w:World):(Instr.build 47 #[(1,a)]).run prog w= .ok (.agg #[.int .i64 0,a]) w:=
 bI N8 (Z8 w) (by simp[Instr.fill,J.bL,J.cells_one h1])
theorem Br {a b:Value}(c:a.oneCell'=true)(h1:b.oneCell'=true)(w:World):(Instr.build 47 #[(0,a),(1,b)]).run prog w= .ok (.agg #[a,b]) w:=
 bI N8 (Z8 w) (by simp[Instr.fill,J.bL,J.cells_one c,J.cells_one h1])
theorem Xk (w:World):(Instr.build 51 #[]).run prog w= .ok (.agg #[.int .i64 0,.int .i64 0,.slice none 0 0]) w:=
 bI SC (Z9 w) (by simp[Instr.fill,J.bL])
theorem mg (w:World):(Instr.build 47 #[]).run prog w= .ok (.agg #[.int .i64 0,.int .i64 0]) w:=
 bI N8 (Z8 w) (by simp[Instr.fill,J.bL])
theorem acT (a0 b:Int)(c d:Int)(w:World):(Op.equalIn 10000 39 (.agg #[.int .i64 a0,.int .i64 c]) (.agg #[.int .i64 b,.int .i64 d])).run prog w= .ok ((a0==b)&&((c==d)&&true)) w:=by
 have e:prog.underlying 39=some (.struct (prog.fieldsOf 39)):=by simp only[Program.fieldsOf,H0]
 have a:∀(xs:Array Value) (k:Nat) (v:Value) w,xs[k]?=some v→(part 3 xs k).run prog w= .ok v w:=λxs k v w f=>zz (by rw[fA]) f
 rw[run_equalIn_struct w 9999 39 _ _ e Tryz.stoodInHeld39]
 simp only[Program.fieldsOf,H0]
 refine uH rfl (λw=>a _ _ _ w rfl) (λw=>a _ _ _ w rfl) (λw=>run_equalIn_int w 9998 3 _ _ _ _ fA) (λw=> ?_) w;refine uH rfl (λw=>a _ _ _ w rfl) (λw=>a _ _ _ w rfl) (λw=>run_equalIn_int w 9998 3 _ _ _ _ fA) (λw=> ?_) w;exact KC _ _ _ _ _
theorem acU (a0 b:Int)(c d:Int)(w:World):(Op.equalIn 10000 47 (.agg #[.int .i64 a0,.int .i64 c]) (.agg #[.int .i64 b,.int .i64 d])).run prog w= .ok ((a0==b)&&((c==d)&&true)) w:=by
 have e:prog.underlying 47=some (.struct (prog.fieldsOf 47)):=by simp only[Program.fieldsOf,vB]
 have a:∀(xs:Array Value) (k:Nat) (v:Value) w,xs[k]?=some v→(part 3 xs k).run prog w= .ok v w:=λxs k v w f=>zz (by rw[fA]) f
 rw[run_equalIn_struct w 9999 47 _ _ e Tryz.stoodInHeld47]
 simp only[Program.fieldsOf,vB]
 refine uH rfl (λw=>a _ _ _ w rfl) (λw=>a _ _ _ w rfl) (λw=>run_equalIn_int w 9998 3 _ _ _ _ fA) (λw=> ?_) w;refine uH rfl (λw=>a _ _ _ w rfl) (λw=>a _ _ _ w rfl) (λw=>run_equalIn_int w 9998 3 _ _ _ _ fA) (λw=> ?_) w;exact KC _ _ _ _ _
theorem FE {g:fD}:∀{l:List dY},xY g l=true→∀t∈l,Ek g t=true
 | [],_,t,ht=>by cases ht
 |s::l,h,t,ht=>by
  rw[xY,nQ]at h
  rcases cN.1 ht with rfl|ht
  ·exact h.1
  ·exact FE h.2 t ht
mutual
theorem RT {g:fD}(i:g.rules.length≤999):∀(t:dY) (d ch:Nat) (s:HK),(oX (g.rules.map kM.kids) g.aG.length t d ch s).2.1=0→tm g t=true∧Ek g t=true∧(oX (g.rules.map kM.kids) g.aG.length t d ch s).1.nodes=s.nodes+nV t∧(oX (g.rules.map kM.kids) g.aG.length t d ch s).1.nodes≤200
 | .mk r x l,d,ch,s,h=>by
  rw[oX]at h⊢
  by_cases h1:200<s.nodes+1∨48<d
  ·rw[aB h1]at h;exact absurd h (by simp)
  rw[aA h1]at h⊢
  by_cases c:r< -1∨(g.rules.map kM.kids).length≤r∨(r= -1∧(x<0∨g.aG.length≤x))
  ·rw[aB c]at h;exact absurd h (by simp)
  rw[aA c]at h⊢
  by_cases e:0≤r∧x≠0
  ·rw[aB e]at h;exact absurd h (by simp)
  rw[aA e]at h⊢
  by_cases a:(l.length:Int)≠(if 0≤r then(g.rules.map kM.kids).getD r.toNat 0 else 0)
  ·rw[aB a]at h;exact absurd h (by simp)
  rw[aA a]at h⊢
  by_cases f:3<(if l.length=1 then ch+1 else 0)
  ·rw[aB f]at h;exact absurd h (by simp)
  rw[aA f]at h⊢;obtain⟨j,k,k3,m⟩:=L6 i l _ _ _ h (show s.nodes+1≤200 by omega);rw[aO]at c
  have a:=eY.1 a
  refine⟨?_,?_,by rw[k3,nV];dsimp only;omega,m⟩
  ·rw[tm]
   by_cases b:r<0
   ·rw[aB b,nQ,gD,gD];omega
   ·rw[aA b,nQ,gD];exact⟨by omega,j⟩
  ·rw[Ek]
   by_cases b:r<0
   ·rw[aA (show ¬0≤r by omega)]at a
    rw[aB b]
    simp only[Bool.and_eq_true,decide_eq_true_eq]
    exact⟨⟨by omega,by omega⟩,by omega⟩
   ·rw[aB (show 0≤r by omega)]at a
    rw[aA b]
    simp only[Bool.and_eq_true,decide_eq_true_eq]
    exact⟨⟨⟨by omega,by omega⟩,by rw[a,ax]⟩,k⟩
theorem L6 {g:fD}(a:g.rules.length≤999):∀(l:List dY) (d ch:Nat) (s:HK),(lq (g.rules.map kM.kids) g.aG.length l d ch s).2.1=0→s.nodes≤200→rD g l=true∧xY g l=true∧(lq (g.rules.map kM.kids) g.aG.length l d ch s).1.nodes=s.nodes+fp l∧(lq (g.rules.map kM.kids) g.aG.length l d ch s).1.nodes≤200
 | [],d,ch,s,_,b=>by rw[lq,rD,xY,fp];exact⟨rfl,rfl,rfl,b⟩
 |x::l,d,ch,s,h,b=>by
  rw[lq]at h⊢
  by_cases h1:(oX (g.rules.map kM.kids) g.aG.length x d ch s).2.1≠0
  ·rw[aB h1]at h;exact absurd h h1
  rw[aA h1]at h⊢;obtain⟨c,a2,a3,a4⟩:=RT a x d ch s (eY.1 h1);obtain⟨e,f,j,i⟩:=L6 a l d ch _ h a4;rw[rD,xY,fp,c,a2,e,f];exact⟨rfl,rfl,by omega,i⟩
end
theorem Gt {g:fD}(e:g.rules.length≤999){t:dY}(h:(lR g t).1=0):tm g t=true∧Ek g t=true∧nV t≤200:=by
 unfold lR at h
 by_cases h1:(oX (g.rules.map kM.kids) g.aG.length t 1 0 ⟨0,0⟩).2.1≠0
 ·rw[aB h1]at h;exact absurd h h1
 obtain⟨a,b,c,d⟩:=RT e t 1 0 ⟨0,0⟩ (eY.1 h1);rw[c]at d
 have d:0+nV t≤200:=d
 exact⟨a,b,by omega⟩
theorem L7 {g:fD}{x:bM}(h:tm g (aN x)=true)(k:Ek g (aN x)=true):(x.rule<0→0≤x.lex∧x.lex<g.aG.length)∧(¬x.rule<0→x.rule<g.rules.length)∧∀y∈x.kids,tm g (aN y)=true∧Ek g (aN y)=true:=by
 rw[fG]at h k;rw[tm]at h;rw[Ek]at k
 by_cases c:x.rule<0
 ·rw[aB c]at h k
  simp only[Bool.and_eq_true,decide_eq_true_eq]at h k
  have k3:(x.kids.map aN).length=0:=k.2
  rw[aO]at k3;refine⟨λ_=>h,λq=>absurd c q,λy hy=> ?_⟩
  rw[ka k3]at hy;cases hy
 ·rw[aA c]at h k
  simp only[Bool.and_eq_true,decide_eq_true_eq]at h k
  refine⟨λq=>absurd q c,λ_=>h.1,λy hy=>⟨AZ h.2 _ (dh hy),FE k.2 _ (dh hy)⟩⟩
structure D9 (g:fD)(R X:List Int)(b:Int):Prop where
 rl:R.length=g.rules.length
 xl:X.length=g.aG.length
 rb:∀z∈R,0≤z∧z≤b
 xb:∀z∈X,0≤z∧z≤b
theorem D9.mono {g:fD}{R X:List Int}{b a:Int}(h:D9 g R X b)(c:b≤a):D9 g R X a:=⟨h.rl,h.xl,λz hz=>by have:=h.rb z hz;omega,λz hz=>by have:=h.xb z hz;omega⟩
theorem D9.an0 {g:fD}{R X:List Int}{b:Int}(h:D9 g R X b){i:Nat}{z:Int}(hz:R[i]?=some z):D9 g (R.set i (z+1)) X (b+1):=by
 have h1:=h.rb z (aY hz)
 refine⟨by rw[ep];exact h.rl,h.xl,λy hy=> ?_,λy hy=>by have:=h.xb y hy;omega⟩
 rcases lV hy with hy|rfl
 ·have:=h.rb y hy;omega
 ·omega
theorem D9.an1 {g:fD}{R X:List Int}{b:Int}(h:D9 g R X b){i:Nat}{z:Int}(hz:X[i]?=some z):D9 g R (X.set i (z+1)) (b+1):=by
 have h1:=h.xb z (aY hz)
 refine⟨h.rl,by rw[ep];exact h.xl,λy hy=>by have:=h.rb y hy;omega,λy hy=> ?_⟩
 rcases lV hy with hy|rfl
 ·have:=h.xb y hy;omega
 ·omega
theorem D9.zero (g:fD):D9 g (List.replicate g.rules.length 0) (List.replicate g.aG.length 0) 0:=⟨mI,mI,λz hz=>by rw[Ao hz];omega,λz hz=>by rw[Ao hz];omega⟩
theorem D9.ok {g:fD}{R X:List Int}{b:Int}(h:D9 g R X b)(a:b≤1000000):D8 g R X:=⟨h.rl,h.xl,λz hz=>by have:=h.rb z hz;omega,λz hz=>by have:=h.xb z hz;omega⟩
theorem OE {R:List Int}{b:Int}(h:∀z∈R,0≤z∧z≤b)(a:b≤1000000000):∀z∈R,aJ.wf z:=λz hz=>by
 have:=h z hz
 show aZ z
 unfold aZ;omega
theorem Mc {l:List bM}{k:Nat}{y:bM}(h:l[k]?=some y):fp ((l.take (k+1)).map aN)=fp ((l.take k).map aN)+nV (aN y)∧fp ((l.take (k+1)).map aN)≤fp (l.map aN):=by
 refine⟨?_,?_⟩
 ·rw[kB h,zu]
  show _+(fp [aN y])=_
  rw[fp,fp,hY]
 ·rw[List.map_take];exact vx _
theorem pn (a b:Int):dK prog 21 #[iv a,iv b] [] (fv (a,b)):=by
 refine dK.gx (args:=[iv a,iv b]) 8 func21 rfl ntmps21 rfl (λc=>g2 ?_);refine St.al (λd=>g6 ?_);refine St.ee (Ev.build (au.aX rfl rfl) (λw=>eV rfl rfl w)) (g4 ?_);refine St.rV [_] [] ?_;rfl
theorem Ep (g:fD)(f h e bw:Nat)(rv xv:ah)(J:f=g.rules.length)(K:h=g.aG.length):∀(x:bM),tm g (aN x)=true→Ek g (aN x)=true→∀(R X:List Int) (b:Int),D9 g R X b→0≤b→b+(nV (aN x):Nat)≤1000000→
 dx prog 22 ([dA x]++ [tW e,tW bw]).toArray ([ae x,kH bw (.func (.func 22) #[] #[tW e,tW bw]),iG e [rv.1,xv.1]].map aD++ [row rv.1 3 1 f (rows aJ R),row xv.1 3 1 h (rows aJ X)]) (λv H'=>∃j l:List Int,v= .tuple #[]∧D9 g j l (b+(nV (aN x):Nat))∧H'=[row rv.1 3 1 f (rows aJ j),row xv.1 3 1 h (rows aJ l)]):=by
 intro x
 induction x using bM.ind
 rename_i x B
 intro C o R X b i D p;refine dx.body (args:=[dA x]++ [tW e,tW bw]) 36 func22 rfl ntmps22 rfl (λc=>go ?_);refine St.cast (H':=[aD (ae x),aD (kH bw (.func (.func 22) #[] #[tW e,tW bw])),aD (iG e [rv.1,xv.1]),row rv.1 3 1 f (rows aJ R),row xv.1 3 1 h (rows aJ X)]) rfl ?_;obtain⟨s,t,u⟩:=L7 C o;refine St.kS x (St.wf x.kv.1 (λM N=>?_))
 have E:=i.rl
 have O:=i.xl
 have q:nV (aN x)=1+fp (x.kids.map aN):=by rw[fG,nV]
 rw[q]at p⊢;refine go ?_;refine St.cC (.mk rfl) rfl (λw=>g2 ?_);refine St.join (ι:=List Int×List Int) (λ⟨a,d⟩ T=>T) (λ⟨a,d⟩=>[row rv.1 3 1 f (rows aJ a),row xv.1 3 1 h (rows aJ d),aD (kH bw (.func (.func 22) #[] #[tW e,tW bw])),aD (iG e [rv.1,xv.1]),aD (sl bR x.kv.1 x.kids),aD (aL ae x.kids),tI w (oA x) 51]) (λ⟨a,d⟩=>D9 g a d (b+1)) (aC.k2 2 3) ?_ ?_
 ·refine g7 ?_
  refine St.cq (λF=> ?_) (λF=> ?_)
  ·have s:=s zE
   obtain⟨z,hz⟩:=aF (show x.lex.toNat<X.length by omega)
   have r:=i.xb z (aY hz)
   refine g2 ?_;refine St.ee (Ev.pb (.mk rfl) bQ trivial rfl) (g2 ?_);refine St.ee (Ev.dV (k:=x.lex.toNat) (.mk rfl) (.mk rfl) bQ dQ zE zE) (St.ee (Ev.dw (.mk rfl) fA trivial zE (pB hz)) (go ?_));refine St.ee (Ev.dV (k:=x.lex.toNat) (.mk rfl) (.mk rfl) bQ dQ zE zE) (St.dF (.mk rfl) (.mk rfl) dQ rfl zE (by decide) ?_);refine St.aP xv.1 rfl (show _=rows aJ (X.set x.lex.toNat (z+1)) by rw[r4]) ?_;refine g2 ?_;refine St.mE ⟨R,X.set x.lex.toNat (z+1)⟩ (i.an1 hz)
  ·have t:=t zE
   obtain⟨z,hz⟩:=aF (show x.rule.toNat<R.length by omega)
   have r:=i.rb z (aY hz)
   refine g2 ?_;refine St.ee (Ev.pb (.mk rfl) bQ trivial rfl) (g2 ?_);refine St.ee (Ev.dV (k:=x.rule.toNat) (.mk rfl) (.mk rfl) bQ dQ zE zE) (St.ee (Ev.dw (.mk rfl) fA trivial zE (pB hz)) (go ?_));refine St.ee (Ev.dV (k:=x.rule.toNat) (.mk rfl) (.mk rfl) bQ dQ zE zE) (St.dF (.mk rfl) (.mk rfl) dQ rfl zE (by decide) ?_);refine St.aP rv.1 rfl (show _=rows aJ (R.set x.rule.toNat (z+1)) by rw[r4]) ?_;refine g2 ?_;refine St.mE ⟨R.set x.rule.toNat (z+1),X⟩ (i.an0 hz)
 ·rintro ⟨a,d⟩ A
  dsimp only at A⊢
  refine g9 ?_;refine St.lH (ι:=Nat×List Int×List Int) (λ⟨k,a,d⟩ T=>(28,iv k)::T) (λ⟨k,a,d⟩=>[row rv.1 3 1 f (rows aJ a),row xv.1 3 1 h (rows aJ d),aD (kH bw (.func (.func 22) #[] #[tW e,tW bw])),aD (iG e [rv.1,xv.1]),aD (sl bR x.kv.1 x.kids),aD (aL ae x.kids),tI w (oA x) 51]) (λ⟨k,a,d⟩=>k≤x.kids.length∧D9 g a d (b+1+(fp ((x.kids.take k).map aN):Nat))) (λ⟨k,a,d⟩=>x.kids.length-k) ⟨0,a,d⟩ (aC.k3 2 26 27) ⟨aQ _,A.mono zE⟩ ?_;rintro ⟨k,a,d⟩ ⟨hk,m⟩
  dsimp only at hk m⊢
  refine g6 ?_;refine St.cq (λG=> ?_) (λG=> ?_)
  ·obtain⟨y,hy⟩:=aF (show k<x.kids.length by omega)
   have n:=aY hy
   refine St.bh ae x.kids (x:=y) n ?_;obtain⟨P,Q⟩:=Mc hy;refine g7 ?_;refine St.ee (Ev.iD (.mk rfl) hy po trivial jo gH.eq) (St.al (λS=>g6 ?_));refine St.slot 33 (dA y) rfl rfl (St.nk (dr:=True) (ds:=[ae y,kH bw (.func (.func 22) #[] #[tW e,tW bw]),iG e [rv.1,xv.1]]) (L:=[row rv.1 3 1 f (rows aJ a),row xv.1 3 1 h (rows aJ d)]) (caps:=[tW e,tW bw]) (λ_=>trivial) (B y n (u y n).1 (u y n).2 a d _ m zE zE) ab4 (.mk rfl) (.aq rfl) rfl ?_);rintro H _ ⟨j,l,rfl,I,rfl⟩;refine St.dD (g8 ?_);refine St.aH ⟨k+1,j,l⟩ ⟨by dsimp only;omega,I.mono (by dsimp only;omega)⟩
  ·obtain rfl:k=x.kids.length:=by omega
   rw[iT]at m;refine g4 ?_;refine St.fi (St.rV [] [row rv.1 3 1 f (rows aJ a),row xv.1 3 1 h (rows aJ d)] ?_);exact⟨a,d,rfl,m.mono (by push_cast;omega),rfl⟩
theorem wc (g:eU)(tv:Value)(trees:List bM):Be prog 5 #[eF g,tv] ([cj g,sl bR tv trees,aL ae trees,tz,u8].map aD) (λv H'=>∃(rv xv:ah) (R X:List Int) (n:Int×Int),v= .tuple #[.agg #[rv.1,xv.1],fv n]∧((km (bK g)).1=0→trees=[]→n.1=0)∧(n.1=0→(km (bK g)).1=0∧D8 (bK g) R X)∧H'=[aD (sl aJ rv.1 R),aD (sl aJ xv.1 X)]):=by
 refine Be.body (args:=[eF g,tv]) 58 func5 rfl ntmps5 rfl (λc D=>St.cast (H':=[aD (cj g),aD (sl bR tv trees),aD (aL ae trees),aD (tz),aD (u8)]) rfl (g2 ?_));refine St.cC (.mk rfl) rfl (λE=>St.al (λu=>St.al (λy=>g4 ?_)));refine St.wf tv (λF S=>g2 ?_);refine St.slot 12 (eF g) rfl rfl (St.ee (Ev.nj D (qo g) Xp (.aq rfl)) (St.slot 13 (.agg #[iv (km (bK g)).1,iv (km (bK g)).2]) rfl rfl (St.al (λU=>g10 ?_))));refine St.cq (λo=> ?_) (λo=> ?_)
 ·refine go ?_
  refine St.jm [u,y] mixed (λG H=>SW.dd 0 rfl (λ_=>Ev.build (ps:=[]) (au.nil) (λw=>Ht w)) (SW.gd 1 ?_));refine SW.slot 18 (fv (km (bK g))) rfl rfl (SW.t1 2 ?_);refine g3 ?_;refine SW.go (SW.t1 3 ?_);refine g3 ?_;refine SW.go (SW.dn (g3 ?_));refine St.gi aJ (St.gi aJ (St.rV [_,_] [aD (sl aJ (.slice none 0 0) []),aD (sl aJ (.slice none 0 0) [])] ?_));exact⟨bx,bx,[],[],(km (bK g)),rfl,λh=>absurd h o,λh=>absurd h o,rfl⟩
 ·have z:(km (bK g)).1=0:=by omega
  have A:=zX z
  have V:g.rules.length≤40:=by have h:(g.rules.map iE).length≤40:=A.rn;rwa[aO]at h
  have W:g.aG.length≤100:=by have h:(g.aG.map jg).length≤100:=A.xn;rwa[aO]at h
  have p:g.rules.length=(bK g).rules.length:=(aO _).symm
  have B:g.aG.length=(bK g).aG.length:=(aO _).symm
  refine St.fF (sl bZ g.rv.1 g.rules) [cj g] (λρ h=>h (cj g) (aR ..) _ (by simp[qO])) ?_;refine St.fF (sl cy g.xv.1 g.aG) [cj g] (λρ h=>h (cj g) (aR ..) _ (by simp[qO])) ?_;refine g10 ?_;refine St.cq (λq=> ?_) (λq=> ?_)
  ·refine g2 ?_
   refine St.ee (Ev.build (au.nil) (λw=>Ht w)) (St.ee (Ev.call (pn 2 (-2)) Xq (.aX rfl rfl)) (g6 ?_));refine St.gi aJ (St.gi aJ (St.rV [_,_] [aD (sl aJ (.slice none 0 0) []),aD (sl aJ (.slice none 0 0) [])] ?_));exact⟨bx,bx,[],[],(2,-2),rfl,λ_ h=>(by rw[h]at q;simp at q),λh=>(by simp at h),rfl⟩
  ·refine g3 ?_
   refine St.jm [] mixed (λG H=>?_)
   repeat' first
    |with_reducible refine SW.me ?_
     first
      |refine SW.gd 0 ?_
      |refine SW.gd 1 ?_
      |refine SW.gd 2 ?_
      |refine SW.gd 4 ?_
      |refine SW.gd 5 ?_
      |refine SW.gd 6 ?_
      |refine SW.dd 8 rfl (λ_=>Ev.build (ps:=[(0,(.tmp 27)),(1,(.tmp 31))]) (au.aX rfl rfl) (λw=>Lg rfl rfl w)) ?_
      |refine SW.Wx (i:=3) (j:=7) (k:=9) (by decide+kernel) rfl rfl rfl ?_ ?_ ?_
      |refine SW.t2 7 9 ?_ ?_
      |refine SW.t1 9 ?_
      |refine SW.t1 10 ?_
      |refine SW.t1 7 ?_
      |refine SW.t2 3 9 ?_ ?_
      |refine SW.t1 3 ?_
      |refine SW.t2 3 7 ?_ ?_
    |with_reducible refine SW.tg 3 ?_
     refine St.nC (m:=g.rules.length) (.mk rfl) (.mk rfl) bQ dQ ec yt rfl rfl zE rfl rfl (λa=> ?_);refine g2 ?_;refine SW.go ?_
    |with_reducible refine SW.tg 7 ?_
     refine St.nC (m:=g.aG.length) (.mk rfl) (.mk rfl) bQ dQ ec yt rfl rfl zE rfl rfl (λb=> ?_);refine g2 ?_;refine SW.go ?_
    |with_reducible refine SW.tg 9 ?_
     refine St.al (λd=>g2 ?_);refine SW.go ?_
    |with_reducible refine SW.tg 10 ?_
     refine g3 ?_;refine SW.go ?_
   all_goals refine SW.dn ?_
   all_goals
    refine g2 ?_;refine St.aP (tO a g.rules.length g.rules.length) (show _=g.rules.length from rfl) (show _=rows aJ (List.replicate g.rules.length 0) by rw[fR,rM]) ?_;refine St.aP (tO b g.aG.length g.aG.length) (show _=g.aG.length from rfl) (show _=rows aJ (List.replicate g.aG.length 0) by rw[fR,rM]) ?_;refine St.re d (go ?_);refine St.al (λe=>g4 ?_);refine St.ee (Ev.func (.aX rfl rfl)) (St.cP (.mk rfl) (.mk rfl) ah1 rfl (by rfl) ?_);refine St.pA e (g11 ?_);refine St.lH (ι:=Nat×List Int×List Int) (λ⟨i,R,X⟩ T=>(36,iv i)::T) (λ⟨i,R,X⟩=>[row (tO a g.rules.length g.rules.length) 3 1 g.rules.length (rows aJ R),row (tO b g.aG.length g.aG.length) 3 1 g.aG.length (rows aJ X),aD (iG d [(tO a g.rules.length g.rules.length),(tO b g.aG.length g.aG.length)]),aD (kH e (.func (.func 22) #[] #[tW d,tW e])),aD (cj g),aD (sl bR tv trees),aD (aL ae trees),tI E (kR g) 32,tI u [(.slice none 0 0),(.slice none 0 0)] 37,tI y [iv 0,iv 0] 39]) (λ⟨i,R,X⟩=>i≤trees.length∧D9 (bK g) R X (200*(i:Int))) (λ⟨i,R,X⟩=>trees.length-i) ⟨0,List.replicate g.rules.length 0,List.replicate g.aG.length 0⟩ (aC.k7 2 4 5 7 8 34 35) ⟨aQ _,by rw[p,B];exact(D9.zero (bK g)).mono zE⟩ ?_;rintro ⟨i,R,X⟩ ⟨hi,f⟩
    dsimp only at hi f⊢
    refine g6 ?_;refine St.cq (λI=> ?_) (λI=> ?_)
    ·obtain⟨t,ht⟩:=aF (show i<trees.length by omega)
     have l:=aY ht
     refine St.bh ae trees (x:=t) l (g8 ?_);refine St.ee (Ev.iD (.mk rfl) ht po trivial jo gH.eq) (St.al (λY=>g8 ?_));refine St.slot 41 (eF g) rfl rfl (go ?_);refine St.slot 42 (dA t) rfl rfl (St.ee (Ev.call (Bd g t (F t l)) ab5 (.aX rfl rfl)) (St.slot 43 (.agg #[iv (lR (bK g) (aN t)).1,iv (lR (bK g) (aN t)).2]) rfl rfl (St.al (λZ=>g10 ?_))));refine St.cq (λC=> ?_) (λC=> ?_)
     ·refine g2 ?_
      refine St.ee (Ev.build (au.nil) (λw=>Ht w)) (g3 ?_);refine St.ee (Ev.call (pn _ _) Xq (.aX rfl rfl)) (g11 ?_);refine St.gi aJ (St.gi aJ (St.rV [_,_] [aD (sl aJ (.slice none 0 0) []),aD (sl aJ (.slice none 0 0) [])] ?_));exact⟨bx,bx,[],[],((lR (bK g) (aN t)).1,(i:Int)),rfl,λ_ h=>(by rw[h]at l;cases l),λh=>absurd h C,rfl⟩
     ·have r:(lR (bK g) (aN t)).1=0:=by omega
      obtain⟨J,s,K⟩:=Gt (by rw[←p];omega) r;refine g5 ?_;refine St.slot 53 (dA t) rfl rfl (St.nk (dr:=True) (ds:=[ae t,kH e (.func (.func 22) #[] #[tW d,tW e]),iG d [(tO a g.rules.length g.rules.length),(tO b g.aG.length g.aG.length)]]) (L:=[row (tO a g.rules.length g.rules.length) 3 1 g.rules.length (rows aJ R),row (tO b g.aG.length g.aG.length) 3 1 g.aG.length (rows aJ X)]) (caps:=[tW d,tW e]) (λ_=>trivial) (Ep (bK g) g.rules.length g.aG.length d e ⟨(tO a g.rules.length g.rules.length),rfl⟩ ⟨(tO b g.aG.length g.aG.length),rfl⟩ p B t J s R X _ f zE zE) ab4 (.mk rfl) (.aq rfl) rfl ?_);rintro v54 _ ⟨M,N,rfl,O,rfl⟩;refine St.dD (g8 ?_);refine St.aH ⟨i+1,M,N⟩ ⟨by dsimp only;omega,O.mono (by dsimp only;push_cast;omega)⟩
    ·have P:=f.rl
     have Q:=f.xl
     refine St.bU (tO a g.rules.length g.rules.length) aJ R rfl zE (OE f.rb zE) (St.bU (tO b g.aG.length g.aG.length) aJ X rfl zE (OE f.xb zE) (g7 ?_));refine St.ee (Ev.EB (.mk rfl) underlying37 trivial (by exact ZT)) ?_;refine St.slot 56 (.agg #[(tO a g.rules.length g.rules.length),(tO b g.aG.length g.aG.length)]) rfl rfl (St.ee (Ev.build (au.nil) (λw=>fP w)) (g5 ?_));refine St.rV [_,_] [aD (sl aJ (tO a g.rules.length g.rules.length) R),aD (sl aJ (tO b g.aG.length g.aG.length) X)] ?_;exact⟨⟨(tO a g.rules.length g.rules.length),rfl⟩,⟨(tO b g.aG.length g.aG.length),rfl⟩,R,X,(0,0),rfl,λ_ _=>rfl,λ_=>⟨z,f.ok zE⟩,rfl⟩
theorem wj (g:eU)(rv xv:ah)(R X:List Int)(n:(km (bK g)).1=0)(b:D8 (bK g) R X):kL prog 37 #[eF g,.agg #[rv.1,xv.1]] [cj g,sl aJ rv.1 R,sl aJ xv.1 X,tz,u8] (fv (0,0)):=by
 refine kL.body (args:=[eF g,.agg #[rv.1,xv.1]]) (ds:=[cj g,sl aJ rv.1 R,sl aJ xv.1 X,tz,u8]) 72 func37 rfl ntmps37 rfl (λc o=>St.cast (H':=[aD (cj g),aD (sl aJ rv.1 R),aD (sl aJ xv.1 X),aD (tz),aD (u8)]) rfl (go ?_));refine St.wf rv.1 (λp y=>St.wf xv.1 (λA B=>?_))
 have q:(bK g).rules.length=g.rules.length:=aO _
 have r:(bK g).aG.length=g.aG.length:=aO _
 have d:=b.rl
 have s:=b.xl
 rw[q]at d;rw[r]at s;refine St.fF (sl bZ g.rv.1 g.rules) [cj g] (λρ h=>h (cj g) (aR ..) _ (by simp[qO])) ?_;refine St.fF (sl cy g.xv.1 g.aG) [cj g] (λρ h=>h (cj g) (aR ..) _ (by simp[qO])) ?_;refine go ?_;refine St.cC (.mk rfl) rfl (λi=>St.cC (.mk rfl) rfl (λj=>St.al (λl=>g6 ?_)));refine St.slot 10 (eF g) rfl rfl (St.ee (Ev.nj o (qo g) Xp (.aq rfl)) (St.slot 11 (.agg #[iv (km (bK g)).1,iv (km (bK g)).2]) rfl rfl (St.al (λC=>g10 ?_))));refine St.cq (λm=> ?_) (λm=> ?_)
 ·exact absurd n m
 ·refine g13 ?_
  refine St.gf _ rfl rfl (λa=>Ev.cU (.mk rfl) I9) rfl (St.gf _ rfl rfl (λa=>Ev.jN (aa.gv rfl a) bQ trivial (by rfl)) rfl ?_);refine St.gf _ rfl rfl (λa=>Ev.gN (aa.gv rfl a) bQ) rfl (St.gf _ rfl rfl (λa=>Ev.cU (.mk rfl) zJ) rfl (St.gf _ rfl rfl (λa=>Ev.jN (aa.gv rfl a) wV trivial (by rfl)) rfl ?_));refine St.gf _ rfl rfl (λa=>Ev.gN (aa.gv rfl a) wV) rfl (St.gf _ rfl rfl (λa=>Ev.neq (aa.gv rfl a) (aa.gv rfl a)) rfl (g3 ?_));refine St.cq (λt=> ?_) (λt=> ?_)
  ·exfalso;omega
  ·refine g12 ?_
   refine St.lH (ι:=Nat) (λk T=>(36,iv k)::T) (λk=>[aD (cj g),aD (sl aJ rv.1 R),aD (sl aJ xv.1 X),aD (tz),aD (u8),tI i (kR g) 32,tI j [rv.1,xv.1] 37,tI l [iv 0,iv 0] 39]) (λk=>k≤R.length) (λk=>R.length-k) 0 (aC.k4 3 4 34 35) (aQ _) ?_;intro k hk;refine g6 ?_;refine St.cq (λu=> ?_) (λu=> ?_)
   ·obtain⟨z,hz⟩:=aF (show k<R.length by omega)
    have e:=b.rb z (aY hz)
    refine g18 ?_;refine St.gf _ rfl rfl (λa=>Ev.move (.mk rfl)) rfl (St.gf _ rfl rfl (λa=>Ev.gtr (aa.gv rfl a) (.mk rfl)) rfl (g3 ?_));refine St.cq (λv=> ?_) (λv=> ?_)
    ·exfalso;omega
    ·refine g8 ?_
     refine St.aH (k+1) zE
   ·refine g15 ?_
    refine St.lH (ι:=Nat) (λk T=>(53,iv k)::T) (λk=>[aD (cj g),aD (sl aJ rv.1 R),aD (sl aJ xv.1 X),aD (tz),aD (u8),tI i (kR g) 32,tI j [rv.1,xv.1] 37,tI l [iv 0,iv 0] 39]) (λk=>k≤X.length) (λk=>X.length-k) 0 (aC.k4 3 4 51 52) (aQ _) ?_;intro k hk;refine g6 ?_;refine St.cq (λx=> ?_) (λx=> ?_)
    ·obtain⟨z,hz⟩:=aF (show k<X.length by omega)
     have e:=b.xb z (aY hz)
     refine g18 ?_;refine St.gf _ rfl rfl (λa=>Ev.move (.mk rfl)) rfl (St.gf _ rfl rfl (λa=>Ev.gtr (aa.gv rfl a) (.mk rfl)) rfl (g3 ?_));refine St.cq (λf=> ?_) (λf=> ?_)
     ·exfalso;omega
     ·refine g8 ?_
      refine St.aH (k+1) zE
    ·refine g7 ?_
     refine St.ee (Ev.build (au.nil) (λw=>fP w)) (g4 ?_);refine St.rV [_] [] ?_;rfl
theorem uve {a b c d:Nat}(h:a=c)(k:b=d):qS [uv a,uv b]= .tuple #[uv c,uv d]:=by rw[h,k];rfl
theorem ube {a b:Nat}{p q:Bool}(h:a=b)(k:p=q):qS [uv a,.bool p]= .tuple #[uv b,.bool q]:=by rw[h,k];rfl
theorem BB {p q:Prop}[Decidable p][Decidable q]:decide (p∧q)=(decide p&&decide q):=by simp
theorem gY (z:Int)(hz:aZ z):dK prog 45 #[iv z] [] (uv z.natAbs):=by
 refine dK.gx (args:=[iv z]) 12 func45 rfl ntmps45 rfl (λc=>g7 ?_);unfold aZ at hz;refine g5 ?_;refine St.cq (λa=> ?_) (λa=> ?_)
 ·refine g4 ?_
  refine St.ee (Ev.neg (.mk rfl) zE) (St.ee (Ev.mj ((-(z+1)).toNat) (.mk rfl) (by rw[fA];rfl) gj zE) ?_);refine St.ee (Ev.DF (b:=1) (.mk rfl) (.mk rfl) zE) (g5 ?_);refine St.rV [_] [] ?_;exact ue zE
 ·refine g5 ?_
  refine St.ee (Ev.mj (z.natAbs) (.mk rfl) (by rw[fA];rfl) gj zE) ?_;refine g4 ?_;refine St.rV [_] [] ?_;exact ue zE
theorem l6 (a b:Nat):dK prog 87 #[uv a,uv b] [] (uv (Nat.gcd a b)):=by
 refine dK.gx (args:=[uv a,uv b]) 12 func87 rfl ntmps87 rfl (λc=>g7 ?_);refine St.lS (ι:=Nat×Nat) (λx T=>(0,uv x.1)::(1,uv x.2)::T) (λx=>Nat.gcd x.1 x.2=Nat.gcd a b) (λx=>x.2) (a,b) (aC.k1 4) rfl ?_;intro x d;refine g7 ?_;refine St.cq (λe=> ?_) (λe=> ?_)
 ·refine g3 ?_
  refine St.rq mixed (by kernel_rfl) (Mm.drawn _ _) ?_;refine g3 ?_;refine Sq.ee (Ev.QS (.mk rfl) (.mk rfl) zE) (g5 ?_);refine St.Hi (x.2,x.1%x.2) ((Ou _ _).trans d) (Nat.mod_lt _ zE) (by repeat(first|exact Sub.nil|refine Sub.cons (by first|rfl|exact congrArg (λz=>some (iv z)) (by first|omega|(dsimp only;omega))|exact congrArg (λz=>some (Value.bool z)) (by first|assumption|exact jI (by assumption))) ?_)) (λ_ hw=>hw.sub)
 ·refine g12 ?_
  refine St.rV [_] [] ?_;exact ue (by rw[←d,show x.2=0 by omega,Nat.gcd_zero_right])
theorem vh (neg:Bool)(a b:Nat):dK prog 92 #[.bool neg,uv a,uv b] [] (Lz (qM neg a b)):=by
 refine dK.gx (args:=[.bool neg,uv a,uv b]) 29 func92 rfl ntmps92 rfl (λc=>g2 ?_);refine St.al (λg=>St.al (λh=>g8 ?_));refine St.gf _ rfl rfl (λe=>Ev.move (.mk rfl)) rfl (St.gf _ rfl rfl (λe=>Ev.gtr (aa.gv rfl e) (.mk rfl)) rfl (g3 ?_));refine St.cq (λf=> ?_) (λf=> ?_)
 ·refine g2 ?_
  refine St.ee (Ev.build (au.nil) (λw=>mg w)) (St.ee (Ev.build (au.aq rfl) (λw=>yC rfl w)) (g6 ?_));refine St.rV [_,_] [] ?_;exact fre (by unfold qM;rw[aB zE])
 ·refine g5 ?_
  refine St.ee (Ev.Dh (.mk rfl) (by rw[gj];rfl) fA zE) ?_;refine go ?_;refine St.ee (Ev.Dh (.mk rfl) (by rw[gj];rfl) fA zE) ?_;refine St.ee (Ev.build (au.aX rfl rfl) (λw=>Br rfl rfl w)) (St.al (λi=>g9 ?_));refine St.cond _ rfl (λd=> ?_) (λd=> ?_)
  focus
   skip
   try simp only[cn]at d
   refine g3 ?_;refine St.ee (Ev.neg (.mk rfl) zE) (go ?_);refine St.cP (.mk rfl) (.mk rfl) dQ rfl (by rfl) ?_;refine go ?_
  rotate_left
  focus
   skip
   try simp only[cn]at d
   refine go ?_
  all_goals
   refine g4 ?_;refine St.ee (Ev.build (au.nil) (λw=>fP w)) (g5 ?_);refine St.rV [_,_] [] ?_;exact fre (by unfold qM;rw[aA zE,d];rfl)
theorem pX (n d at_:Int)(b:aZ n)(hd:aZ d):dK prog 40 #[.agg #[iv n,iv d],iv at_] [] (fv (mD n d at_)):=by
 refine dK.gx (args:=[.agg #[iv n,iv d],iv at_]) 36 func40 rfl ntmps40 rfl (λc=>g2 ?_);refine St.cC (.mk rfl) rfl (λg=>St.al (λh=>g9 ?_));refine St.gf _ rfl rfl (λa=>Ev.cU (.mk rfl) zK) rfl (St.gf _ rfl rfl (λa=>Ev.jN (aa.gv rfl a) fA trivial (by rfl)) rfl ?_);refine St.gf _ rfl rfl (λa=>Ev.gtr (aa.gv rfl a) (.mk rfl)) rfl (g2 ?_);refine St.gf _ rfl rfl (λa=>Ev.cU (.mk rfl) Dr) rfl (St.gf _ rfl rfl (λa=>Ev.jN (aa.gv rfl a) fA trivial (by rfl)) rfl ?_);refine St.gf _ rfl rfl (λa=>Ev.lss (aa.gv rfl a) (.mk rfl)) rfl (g2 ?_);refine St.gf _ rfl rfl (λa=>Ev.cU (.mk rfl) Dr) rfl (St.gf _ rfl rfl (λa=>Ev.jN (aa.gv rfl a) fA trivial (by rfl)) rfl ?_);refine St.gf _ rfl rfl (λa=>Ev.gtr (aa.gv rfl a) (.mk rfl)) rfl (g3 ?_);refine St.cq (λe=> ?_) (λe=> ?_)
 ·refine g3 ?_
  refine St.ee (Ev.build (au.aX rfl rfl) (λw=>eV rfl rfl w)) (g5 ?_);refine St.rV [_] [] ?_;exact fe (by unfold mD;rw[aB zE])
 ·refine g4 ?_
  refine St.rq mixed (by kernel_rfl) (Mm.drawn _ _) ?_;refine g2 ?_;refine Sq.ee (Ev.call (gY n b) Da (.aq rfl)) (g2 ?_);refine Sq.ee (Ev.mj (d.toNat) (.mk rfl) (by rw[fA];rfl) gj zE) ?_;refine Sq.ee (Ev.call (l6 n.natAbs d.toNat) Lq (.aX rfl rfl)) (g3 ?_);refine St.cq (λf=> ?_) (λf=> ?_)
  ·refine g3 ?_
   refine St.ee (Ev.build (au.aX rfl rfl) (λw=>eV rfl rfl w)) (g5 ?_);refine St.rV [_] [] ?_;exact fe (by unfold mD;rw[aA zE,aA zE])
  ·refine g4 ?_
   refine St.ee (Ev.build (au.nil) (λw=>fP w)) (g4 ?_);refine St.rV [_] [] ?_;exact fe (by unfold mD;rw[aA zE,aB zE])
def BN (x:Pr):Prop:=aZ x.1∧aZ x.2
abbrev rY (x:Pr):Value:= .agg #[iv x.1,iv x.2]
theorem yT {x:Pr}(h:ij x):BN x:=by
 obtain⟨h1,a,b,c,_⟩:=h
 unfold BN aZ;omega
theorem xA (x y:Pr)(hx:BN x)(hy:BN y):dK prog 43 #[rY x,rY y] [] (fv (ja x y)):=by
 refine dK.gx (args:=[rY x,rY y]) 14 func43 rfl ntmps43 rfl (λc=>g2 ?_);refine St.cC (.mk rfl) rfl (λb=>St.cC (.mk rfl) rfl (λd=>St.al (λe=>g6 ?_)));refine St.ee (Ev.call (pX x.1 x.2 (-1) hx.1 hx.2) Xs (.aX rfl rfl)) (St.al (λf=>g10 ?_));refine St.cq (λa=> ?_) (λa=> ?_)
 ·refine g8 ?_
  refine St.rV [_] [] ?_;exact fe (by unfold ja;rw[aA (by simpa using a)])
 ·refine g5 ?_
  refine St.ee (Ev.call (pX y.1 y.2 (-2) hy.1 hy.2) Xs (.aX rfl rfl)) (g4 ?_);refine St.rV [_] [] ?_;exact fe (by unfold ja;rw[aB (by simpa using a)])
theorem kQ (a b:Nat)(e:a<18446744073709551616)(f:b<18446744073709551616):dK prog 44 #[uv a,uv b] [] (.tuple #[uv (a*b/18446744073709551616),uv (a*b%18446744073709551616)]):=by
 refine dK.gx (args:=[uv a,uv b]) 51 func44 rfl ntmps44 rfl (λc=>g7 ?_);obtain⟨g,h,i,d⟩:=Lib.mul64_hi a b e f
 have j:=Nat.mul_le_mul (show a/4294967296≤4294967295 by omega) (show b/4294967296≤4294967295 by omega)
 have k:=Nat.mul_le_mul (show a/4294967296≤4294967295 by omega) (show b%4294967296≤4294967295 by omega)
 have l:=Nat.mul_le_mul (show a%4294967296≤4294967295 by omega) (show b/4294967296≤4294967295 by omega)
 refine g2 ?_;refine St.ee (Ev.Hj (b:=4294967295) 32 4294967296 (by decide) (.mk rfl) (.mk rfl) (⟨zE,by decide,by decide⟩)) ?_;refine g6 ?_;refine St.ee (Ev.tQ 32 4294967296 (by decide) (.mk rfl) (.mk rfl) (by decide)) ?_;refine g6 ?_;refine St.ee (Ev.Hj (b:=4294967295) 32 4294967296 (by decide) (.mk rfl) (.mk rfl) (⟨zE,by decide,by decide⟩)) ?_;refine g6 ?_;refine St.ee (Ev.tQ 32 4294967296 (by decide) (.mk rfl) (.mk rfl) (by decide)) ?_;refine g7 ?_;refine St.ee (Ev.GJ (.mk rfl) (.mk rfl) zE) (g7 ?_);refine St.ee (Ev.GJ (.mk rfl) (.mk rfl) zE) (go ?_);refine St.ee (Ev.tQ 32 4294967296 (by decide) (.mk rfl) (.mk rfl) (by decide)) ?_;refine St.ee (Ev.DF (.mk rfl) (.mk rfl) zE) (g6 ?_);refine St.ee (Ev.Hj (b:=4294967295) 32 4294967296 (by decide) (.mk rfl) (.mk rfl) (⟨zE,by decide,by decide⟩)) ?_;refine g6 ?_;refine St.ee (Ev.tQ 32 4294967296 (by decide) (.mk rfl) (.mk rfl) (by decide)) ?_;refine g8 ?_;refine St.ee (Ev.GJ (.mk rfl) (.mk rfl) zE) (St.ee (Ev.DF (.mk rfl) (.mk rfl) zE) (g7 ?_));refine St.ee (Ev.GJ (.mk rfl) (.mk rfl) zE) (go ?_);refine St.ee (Ev.DF (.mk rfl) (.mk rfl) zE) (go ?_);refine St.ee (Ev.tQ 32 4294967296 (by decide) (.mk rfl) (.mk rfl) (by decide)) ?_;refine St.ee (Ev.DF (.mk rfl) (.mk rfl) zE) (g7 ?_);refine St.ee (Ev.Iu (.mk rfl) (.mk rfl)) (g4 ?_);refine St.rV [_,_] [] ?_;exact uve (by first|exact d|(rw[←d])) rfl
theorem mr (a b:Nat)(e:a<18446744073709551616)(f:b<18446744073709551616):dK prog 91 #[uv a,uv b] [] (.tuple #[uv (a*b%18446744073709551616),.bool (decide (a*b≤1152921504606846976))]):=by
 refine dK.gx (args:=[uv a,uv b]) 21 func91 rfl ntmps91 rfl (λc=>g10 ?_);refine St.ee (Ev.call (kQ a b e f) O3 (.aX rfl rfl)) (g13 ?_);refine St.gt _ rfl rfl (λd=>Ev.move (.mk rfl)) rfl (St.gt _ rfl rfl (λd=>Ev.leq (aa.gv rfl d) (.mk rfl)) rfl (g6 ?_));refine St.rV [_,_] [] ?_;exact ube rfl (by rw[←BB];exact decide_eq_decide.2 zE)
end Go.Proofs.YtiefglecbgdaiaaGreatDoor
namespace Go.J
open Go
def iK (x:Nat):Nat:=if x=0 then 0 else Nat.log2 x+1
theorem qq {x:Nat}(k:Nat)(h:2^k≤x):iK x=k+iK (x/2^k):=by
 have hp:0<2^k:=Nat.pow_pos (by decide)
 have a:x≠0:=by omega
 have h1:x/2^k≠0:=by have:=Nat.div_pos h hp;omega
 unfold iK;rw[aA a,aA h1]
 have e:Nat.log2 x=Nat.log2 (x/2^k)+k:=by
  rw[Nat.log2_eq_iff a]
  have c:=Nat.log2_self_le h1
  have b:=Nat.lt_log2_self (n:=x/2^k)
  rw[Nat.le_div_iff_mul_le hp]at c;rw[Nat.div_lt_iff_lt_mul hp]at b;refine⟨by rwa[Nat.pow_add],?_⟩;rw[show Nat.log2 (x/2^k)+k+1=Nat.log2 (x/2^k)+1+k by omega,Nat.pow_add];exact b
 omega
theorem Pa {x:Nat}(h:(4294967296:Int)≤(x:Int)):iK x=32+iK (x/4294967296):=qq 32 zE
theorem PZ {x:Nat}(h:(65536:Int)≤(x:Int)):iK x=16+iK (x/65536):=qq 16 zE
theorem UU {x:Nat}(h:(256:Int)≤(x:Int)):iK x=8+iK (x/256):=qq 8 zE
def len8tab:List UInt8:=([0,1,2,2,3,3,3,3,4,4,4,4,4,4,4,4,5,5,5,5,5,5,5,5,5,5,5,5,5,5,5,5,6,6,6,6,6,6,6,6,6,6,6,6,6,6,6,6,6,6,6,6,6,6,6,6,6,6,6,6,6,6,6,6].append [7,7,7,7,7,7,7,7,7,7,7,7,7,7,7,7,7,7,7,7,7,7,7,7,7,7,7,7,7,7,7,7,7,7,7,7,7,7,7,7,7,7,7,7,7,7,7,7,7,7,7,7,7,7,7,7,7,7,7,7,7,7,7,7]).append ([8,8,8,8,8,8,8,8,8,8,8,8,8,8,8,8,8,8,8,8,8,8,8,8,8,8,8,8,8,8,8,8,8,8,8,8,8,8,8,8,8,8,8,8,8,8,8,8,8,8,8,8,8,8,8,8,8,8,8,8,8,8,8,8].append [8,8,8,8,8,8,8,8,8,8,8,8,8,8,8,8,8,8,8,8,8,8,8,8,8,8,8,8,8,8,8,8,8,8,8,8,8,8,8,8,8,8,8,8,8,8,8,8,8,8,8,8,8,8,8,8,8,8,8,8,8,8,8,8])
theorem len8tab_get:∀k,k<256→(len8tab.getD k 0).toNat=iK k:=by decide+kernel
theorem uU {x:Nat}(h:x<18446744073709551616):iK x≤64:=by
 unfold iK
 split
 ·omega
 ·rename_i a
  have:=(Nat.log2_lt a (k:=64)).2 zE
  omega
theorem Ih {y:Nat}(c:0<y)(h:y<18446744073709551616):9223372036854775808≤y*2^(64-iK y)∧y*2^(64-iK y)<18446744073709551616:=by
 have d:=uU h
 have e:iK y=Nat.log2 y+1:=by unfold iK;rw[aA zE]
 have h1:=Nat.log2_self_le (n:=y) zE
 have a:=Nat.lt_log2_self (n:=y)
 have b:2^Nat.log2 y*2^(64-iK y)=9223372036854775808:=by
  rw[←Nat.pow_add,show Nat.log2 y+(64-iK y)=63 by omega]
 have e2:2^(Nat.log2 y+1)*2^(64-iK y)=18446744073709551616:=by
  rw[←Nat.pow_add,show Nat.log2 y+1+(64-iK y)=64 by omega]
 constructor
 ·rw[←b];exact fC _ h1
 ·rw[←e2];exact Nat.mul_lt_mul_of_pos_right a (Nat.pow_pos (by decide))
structure B7 (u v t:Nat)(x:Nat×Nat):Prop where
 sum:x.1*(v/4294967296)+x.2=u
 low:(4294967296*u+t)/v≤x.1
 top:x.1≤4294967298
 rem:x.2<4294967296
section
variable {u v t:Nat}
theorem C5 (b:9223372036854775808≤v)(c:v<18446744073709551616)(hu:u<v)(ht:t<4294967296):B7 u v t (u/(v/4294967296),u-u/(v/4294967296)*(v/4294967296)):=by
 have hp:0<v/4294967296:=by omega
 have h1:=Nat.div_add_mod u (v/4294967296)
 have d:=Nat.mod_lt u hp
 have f:u/(v/4294967296)*(v/4294967296)≤u:=Nat.div_mul_le_self u _
 rw[Nat.mul_comm]at h1;refine⟨by dsimp only;omega,?_,?_,by dsimp only;omega⟩
 ·dsimp only
  rw[Nat.le_div_iff_mul_le hp]
  have a:=Nat.div_mul_le_self (4294967296*u+t) v
  generalize (4294967296*u+t)/v=Q at a
  have g:Q*v=4294967296*(Q*(v/4294967296))+Q*(v%4294967296):=by
   have e:v=4294967296*(v/4294967296)+v%4294967296:=by omega
   generalize v/4294967296=p at*
   generalize v%4294967296=q at*
   subst e
   grind
  generalize Q*(v/4294967296)=A at*
  generalize Q*(v%4294967296)=C at*
  omega
 ·dsimp only
  have:u/(v/4294967296)<4294967299:=by
   rw[Nat.div_lt_iff_lt_mul hp];omega
  omega
theorem rS (i:9223372036854775808≤v)(j:v<18446744073709551616)(hu:u<v)(ht:t<4294967296){x:Nat×Nat}(h:B7 u v t x)(a:4294967296≤x.1∨4294967296*x.2+t<x.1*(v%4294967296)):
 (4294967296*u+t)/v≤x.1-1∧0<x.1∧(x.1-1)*(v/4294967296)+(x.2+v/4294967296)=u:=by
 obtain⟨h1,d,k,l⟩:=h
 have f:0<x.1:=by
  rcases a with a|a
  ·omega
  ·rcases Nat.eq_zero_or_pos x.1 with e|e
   ·rw[e,rJ]at a;omega
   ·exact e
 have b:(x.1-1)*(v/4294967296)+(x.2+v/4294967296)=u:=by
  obtain⟨q,g⟩:∃q,x.1=q+1:=⟨x.1-1,by omega⟩
  rw[g]at h1⊢;rw[Nat.add_sub_cancel,←h1,jK];omega
 refine⟨?_,f,b⟩
 have:(4294967296*u+t)/v<x.1:=by
  rw[Nat.div_lt_iff_lt_mul zE]
  rcases a with a|a
  ·have m:=fC v a
   generalize x.1*v=A at*
   omega
  ·have c:x.1*v=4294967296*(x.1*(v/4294967296))+x.1*(v%4294967296):=by
    have e:v=4294967296*(v/4294967296)+v%4294967296:=by omega
    generalize v/4294967296=p at*
    generalize v%4294967296=q at*
    subst e
    grind
   rw[c]
   clear c b d
   generalize x.1*(v/4294967296)=A at*
   generalize x.1*(v%4294967296)=C at*
   omega
 exact Nat.le_sub_one_of_lt this
theorem C8 (b:9223372036854775808≤v){q:Nat}(h1:(4294967296*u+t)/v≤q)(a:q*v≤4294967296*u+t):q=(4294967296*u+t)/v:=by
 have:=(Nat.le_div_iff_mul_le (show 0<v by omega)).2 a
 omega
theorem CP (q v:Nat):q*v=4294967296*(q*(v/4294967296))+q*(v%4294967296):=by
 have e:v=4294967296*(v/4294967296)+v%4294967296:=by omega
 generalize v/4294967296=p at*
 generalize v%4294967296=r at*
 subst e
 grind
theorem C7 (a:9223372036854775808≤v){x:Nat×Nat}(h:B7 u v t x)(c:x.1*(v%4294967296)≤4294967296*x.2+t):x.1=(4294967296*u+t)/v:=by
 obtain⟨h1,b,d,e⟩:=h;refine C8 a b ?_;rw[CP]
 generalize x.1*(v/4294967296)=A at*
 generalize x.1*(v%4294967296)=C at*
 omega
theorem zF (a:9223372036854775808≤v)(b:v<18446744073709551616)(hu:u<v)(ht:t<4294967296){x:Nat×Nat}(h:B7 u v t x)(c:4294967296≤x.1∨4294967296*x.2+t<x.1*(v%4294967296))(d:4294967296≤x.2+v/4294967296):
 x.1-1=(4294967296*u+t)/v:=by
 obtain⟨g1,g2,g3⟩:=rS a b hu ht h c
 have e:=h.top
 refine C8 a g1 ?_;rw[CP]
 have f:(x.1-1)*(v%4294967296)≤4294967297*4294967295:=Nat.mul_le_mul zE zE
 generalize (x.1-1)*(v/4294967296)=A at*
 generalize (x.1-1)*(v%4294967296)=C at*
 omega
theorem wo {x:Nat×Nat}(h:(4294967296:Int)≤(x.1:Int)∨((4294967296*x.2+t:Nat):Int)<((x.1*(v%4294967296)%18446744073709551616:Nat):Int)):4294967296≤x.1∨4294967296*x.2+t<x.1*(v%4294967296):=by
 rcases h with h|h
 ·left;omega
 ·right
  have:=Nat.mod_le (x.1*(v%4294967296)) 18446744073709551616
  generalize x.1*(v%4294967296)=C at*
  omega
theorem wm {x:Nat×Nat}(h:¬(4294967296≤x.1)∧¬(4294967296*x.2+t<x.1*(v%4294967296)%18446744073709551616)):x.1*(v%4294967296)≤4294967296*x.2+t:=by
 have h1:x.1*(v%4294967296)≤4294967295*4294967295:=Nat.mul_le_mul zE zE
 have a:=h.2
 rw[fh zE]at a;omega
theorem C6 (a:9223372036854775808≤v)(b:v<18446744073709551616)(hu:u<v)(ht:t<4294967296){x:Nat×Nat}(h:B7 u v t x)(c:4294967296≤x.1∨4294967296*x.2+t<x.1*(v%4294967296))(d:x.2+v/4294967296<4294967296):
 B7 u v t (x.1-1,x.2+v/4294967296):=by
 obtain⟨g1,g2,g3⟩:=rS a b hu ht h c
 have:=h.top
 exact⟨g3,g1,by dsimp only;omega,d⟩
end
theorem Cb {lo s:Nat}(c:s≤64)(b:lo<18446744073709551616):lo*2^s=18446744073709551616*(lo/2^(64-s))+lo*2^s%18446744073709551616∧lo/2^(64-s)<2^s:=by
 have e:(18446744073709551616:Nat)=2^(64-s)*2^s:=by rw[←Nat.pow_add,show 64-s+s=64 by omega]
 have hp:0<2^s:=Nat.pow_pos (by decide)
 constructor
 ·have h1:lo*2^s/18446744073709551616=lo/2^(64-s):=by rw[e,Nat.mul_div_mul_right _ _ hp]
  have a:=Nat.div_add_mod (lo*2^s) 18446744073709551616
  rw[h1]at a;exact a.symm
 ·rw[Nat.div_lt_iff_lt_mul (Nat.pow_pos (by decide)),Nat.mul_comm,←e];exact b
theorem Ls {hi lo y s u v z:Nat}(b:s≤64)(a:hi<y)(c:lo<18446744073709551616)(e:v=y*2^s)(hu:u=hi*2^s+lo/2^(64-s))(hz:z=lo*2^s%18446744073709551616):
 u<v∧18446744073709551616*u+z=(18446744073709551616*hi+lo)*2^s:=by
 obtain⟨h1,f⟩:=Cb b c
 have d:(hi+1)*2^s≤y*2^s:=fC _ a
 rw[jK,nM]at d;refine⟨by omega,?_⟩;rw[jK,h1,←hz,hu,Nat.mul_add,Nat.mul_assoc];omega
theorem Lr {N y s u v z b h f g:Nat}(hy:0<y)(i:v=y*2^s)(hz:18446744073709551616*u+z=N*2^s)(h1:b*v+h=4294967296*u+z/4294967296)(n:f*v+g=4294967296*h+z%4294967296)(l:g<v):
 N/y=4294967296*b+f∧N%y=g/2^s:=by
 have hp:0<2^s:=Nat.pow_pos (by decide)
 have e:N*2^s=v*(4294967296*b+f)+g:=by
  have m:v*(4294967296*b+f)=4294967296*(b*v)+f*v:=by grind
  rw[m]
  generalize b*v=A at*
  generalize f*v=C at*
  omega
 have j:=(Nat.div_mod_unique (show 0<v by omega) (a:=N*2^s) (c:=g) (d:=4294967296*b+f)).2 ⟨by omega,l⟩
 constructor
 ·rw[←Nat.mul_div_mul_right N y hp,←i];exact j.1
 ·have k:=j.2
  rw[i,Nat.mul_mod_mul_right]at k;rw[←k,Nat.mul_div_cancel _ hp]
theorem FW {X t Y r v:Nat}(h:Y+r=X+t)(a:r<v)(b:v<18446744073709551616):((X%18446744073709551616+t)%18446744073709551616+18446744073709551616-Y%18446744073709551616)%18446744073709551616=r:=by omega
theorem ZV {k:Nat}(h:k<256):Value.int .u8 ((len8tab.getD k 0).toNat:Int)=Value.int .u8 (iK k:Int):=by rw[len8tab_get k h]
end Go.J
namespace Go.Proofs.YtiefglecbgdaiaaGreatDoor
open Go Go.J Tryz
set_option maxRecDepth 100000 in
theorem Dy (x:Nat)(hx:x<18446744073709551616):dK prog 140 #[uv x] [] (iv (iK x)):=by
 refine dK.gx (args:=[uv x]) 25 func140 rfl ntmps140 rfl (λc=>go ?_)
 have h:=uU hx
 refine g11 ?_;refine St.cond _ rfl (λa=> ?_) (λa=> ?_)
 focus
  skip
  try simp only[cn]at a
  have f:=Pa a
  refine g3 ?_;refine St.ee (Ev.tQ 32 4294967296 (by decide) (.mk rfl) (.mk rfl) (by decide)) ?_;refine g6 ?_
 rotate_left
 focus
  skip
  try simp only[cn]at a
  refine go ?_
 all_goals
  refine g8 ?_;refine St.cond _ rfl (λb=> ?_) (λb=> ?_)
  focus
   skip
   try simp only[cn]at b
   have g:=PZ b
   refine g3 ?_;refine St.ee (Ev.tQ 16 65536 (by decide) (.mk rfl) (.mk rfl) (by decide)) ?_;refine g8 ?_
  rotate_left
  focus
   skip
   try simp only[cn]at b
   refine go ?_
  all_goals
   refine g8 ?_;refine St.cond _ rfl (λd=> ?_) (λd=> ?_)
   focus
    skip
    try simp only[cn]at d
    have e:=UU d
    refine g3 ?_;refine St.ee (Ev.tQ 8 256 (by decide) (.mk rfl) (.mk rfl) (by decide)) ?_;refine g8 ?_
   rotate_left
   focus
    skip
    try simp only[cn]at d
    refine go ?_
   all_goals
    refine g5 ?_;refine St.ee (Ev.acQ (.mk rfl) (by rw[gj];rfl) EZ (ah5 zE)) ?_;refine St.ee (Ev.UL (.mk rfl) (.mk rfl) wX rfl (by show _<256;omega)) ?_;refine St.slot 22 _ rfl (ZV zE) (St.ee (Ev.Dh (.mk rfl) (by rw[EZ];rfl) fA zE) ?_);refine g5 ?_;refine St.rV [_] [] ?_;exact ie zE
theorem qL (x:Nat)(hx:x<18446744073709551616):dK prog 129 #[uv x] [] (iv (64-(iK x:Int))):=by
 refine dK.gx (args:=[uv x]) 6 func129 rfl ntmps129 rfl (λc=>go ?_)
 have a:=uU hx
 refine g7 ?_;refine St.ee (Ev.call (Dy x hx) abO (.aq rfl)) (g5 ?_);refine St.rV [_] [] ?_;rfl
theorem uQ (hi lo y:Nat)(I:hi<y)(Y:lo<18446744073709551616)(hy:y<18446744073709551616):dK prog 90 #[uv hi,uv lo,uv y] [] (.tuple #[uv ((18446744073709551616*hi+lo)/y),uv ((18446744073709551616*hi+lo)%y)]):=by
 refine dK.gx (args:=[uv hi,uv lo,uv y]) 135 func90 rfl ntmps90 rfl (λc=>g13 ?_);refine St.cq (λJ=> ?_) (λJ=> ?_)
 ·exfalso;omega
 ·refine g10 ?_
  refine St.cq (λh24=> ?_) (λh24=> ?_)
  ·exfalso;omega
  ·refine g9 ?_
   refine St.cq (λK=> ?_) (λK=> ?_)
   ·refine go ?_
    refine St.any mixed (Mm.drawn _ _) (St.defer 0 (by repeat(first|refine NP.then ?_|refine NP.inBlock ?_|exact NP.body)) (by kernel_rfl) rfl (Es.move (.mk rfl)) (by kernel_rfl) rfl ?_);refine St.defer 1 (by repeat(first|refine NP.then ?_|refine NP.inBlock ?_|exact NP.body)) (by kernel_rfl) rfl (Es.move (.mk rfl)) (by kernel_rfl) rfl ?_;refine St.defer 3 (by repeat(first|refine NP.then ?_|refine NP.inBlock ?_|exact NP.body)) (by kernel_rfl) rfl (Es.move (.mk rfl)) (by kernel_rfl) rfl ?_;refine St.defer 4 (by repeat(first|refine NP.then ?_|refine NP.inBlock ?_|exact NP.body)) (by kernel_rfl) rfl (Es.move (.mk rfl)) (by kernel_rfl) rfl ?_;refine St.aiC (i:=2) (j:=5) (by kernel_rfl) rfl rfl ?_ ?_
    ·refine St.ee (Ev.tM (.mk rfl) (.mk rfl) zE) ?_
     refine g2 ?_;refine St.defer 6 (by repeat(first|refine NP.then ?_|refine NP.inBlock ?_|exact NP.body)) (by kernel_rfl) rfl (Es.assign (.mk rfl)) (by kernel_rfl) rfl ?_;refine St.aaN (i:=5) (by kernel_rfl) rfl ?_;refine St.ee (Ev.QS (.mk rfl) (.mk rfl) zE) (g2 ?_);refine St.defer 7 (by repeat(first|refine NP.then ?_|refine NP.inBlock ?_|exact NP.body)) (by kernel_rfl) rfl (Es.assign (.mk rfl)) (by kernel_rfl) rfl ?_;refine St.FD (by kernel_rfl) ?_;refine g3 ?_;refine St.rV [_,_] [] ?_;exact uve (by rw[show hi=0 by omega];simp) (by rw[show hi=0 by omega];simp)
    ·refine St.ee (Ev.QS (.mk rfl) (.mk rfl) zE) ?_
     refine g2 ?_;refine St.aaN (i:=2) (by kernel_rfl) rfl ?_;refine St.ee (Ev.tM (.mk rfl) (.mk rfl) zE) (g2 ?_);refine St.defer 6 (by repeat(first|refine NP.then ?_|refine NP.inBlock ?_|exact NP.body)) (by kernel_rfl) rfl (Es.assign (.mk rfl)) (by kernel_rfl) rfl ?_;refine St.defer 7 (by repeat(first|refine NP.then ?_|refine NP.inBlock ?_|exact NP.body)) (by kernel_rfl) rfl (Es.assign (.mk rfl)) (by kernel_rfl) rfl ?_;refine St.FD (by kernel_rfl) ?_;refine g3 ?_;refine St.rV [_,_] [] ?_;exact uve (by rw[show hi=0 by omega];simp) (by rw[show hi=0 by omega];simp)
   ·have hl:=uU hy
    have w:=Ih (show 0<y by omega) hy
    refine g5 ?_;refine St.ee (Ev.call (qL y hy) abM (.aq rfl)) (St.ee (Ev.mj (64-iK y) (.mk rfl) (by rw[fA];rfl) xL zE) ?_)
    have L:64-iK y≤64:=Nat.sub_le _ _
    generalize 64-iK y=s at w L⊢
    refine g7 ?_;refine St.ee (Ev.V2 (s) (2^s) rfl (.mk rfl) (.mk rfl) zE) ?_
    obtain⟨v,G⟩:∃v,v=y*2^s:=⟨_,rfl⟩
    refine St.slot 39 (uv v) rfl (by rw[G,fh w.2]) ?_;rw[←G]at w
    have h:=w.1
    have g:=w.2
    obtain⟨u,hu⟩:∃u,u=hi*2^s+lo/2^(64-s):=⟨_,rfl⟩
    obtain⟨z,hz⟩:∃z,z=lo*2^s%18446744073709551616:=⟨_,rfl⟩
    obtain⟨A,hN⟩:=Ls L I Y G hu hz
    have hz2:z<18446744073709551616:=by rw[hz];exact Nat.mod_lt _ (by decide)
    have M:=(Cb L Y).2
    have k:z/4294967296<4294967296:=by omega
    have l:z%4294967296<4294967296:=by omega
    refine g6 ?_;refine St.ee (Ev.tQ 32 4294967296 (by decide) (.mk rfl) (.mk rfl) (by decide)) ?_;refine g6 ?_;refine St.ee (Ev.Hj (b:=4294967295) 32 4294967296 (by decide) (.mk rfl) (.mk rfl) (⟨zE,by decide,by decide⟩)) ?_;refine g7 ?_;refine St.ee (Ev.V2 (s) (2^s) rfl (.mk rfl) (.mk rfl) zE) (St.slot 46 (uv (hi*2^s)) rfl (by rw[fh (oZ (dH (Nat.le_add_right (hi*2^s) (lo/2^(64-s))) (Nat.le_of_eq hu.symm)) (Nat.lt_trans A g))]) ?_);refine g2 ?_;refine St.ee (Ev.R7 (a:=64) (.mk rfl) (.mk rfl) zE) (St.ee (Ev.tQ (64-s) _ rfl (.mk rfl) (.mk rfl) zE) (St.ee (Ev.orU (s) (.mk rfl) (.mk rfl) (⟨M,by rw[←hu];omega⟩)) ?_));refine St.slot 51 (uv u) rfl (by rw[hu]) ?_;refine g7 ?_;refine St.ee (Ev.V2 (s) (2^s) rfl (.mk rfl) (.mk rfl) zE) (St.slot 54 (uv z) rfl (by rw[hz]) ?_);refine g6 ?_;refine St.ee (Ev.tQ 32 4294967296 (by decide) (.mk rfl) (.mk rfl) (by decide)) ?_;refine g6 ?_;refine St.ee (Ev.Hj (b:=4294967295) 32 4294967296 (by decide) (.mk rfl) (.mk rfl) (⟨zE,by decide,by decide⟩)) ?_;refine g7 ?_;refine St.ee (Ev.tM (.mk rfl) (.mk rfl) zE) ?_
    obtain⟨B,N⟩:∃q,q=u/(v/4294967296):=⟨_,rfl⟩
    refine St.slot 61 (uv B) rfl (by rw[N]) ?_
    have hd0:B7 u v (z/4294967296) (B,u-B*(v/4294967296)):=by rw[N];exact C5 h g A k
    have n:=Nat.div_mul_le_self u (v/4294967296)
    rw[←N]at n;refine g8 ?_;refine St.ee (Ev.GJ (.mk rfl) (.mk rfl) (oZ n zE)) (St.ee (Ev.R7 (.mk rfl) (.mk rfl) (⟨n,by omega⟩)) ?_);refine g3 ?_;refine St.join (ι:=Nat) (λp T=>(15,uv p)::T) (λp=>[]) (λp=>p=(4294967296*u+z/4294967296)/v) (aC.k9 2 6 7 8 9 10 11 13 14) ?_ ?_
    ·refine go ?_
     refine St.lS (ι:=Nat×Nat) (λx T=>(15,uv x.1)::(16,uv x.2)::T) (λx=>B7 u v (z/4294967296) x) (λx=>x.1) (B,u-B*(v/4294967296)) (aC.k9 2 6 7 8 9 10 11 13 14) hd0 ?_;intro x e
     have O:=e.rem
     have P:=e.top
     refine g6 ?_;refine St.gf _ rfl rfl (λd=>Ev.move (.mk rfl)) rfl (St.gf _ rfl rfl (λd=>Ev.move (.mk rfl)) rfl (St.gf _ rfl rfl (λd=>Ev.Iu (aa.gv rfl d) (aa.gv rfl d)) rfl (St.gf _ rfl rfl (λd=>Ev.move (.mk rfl)) rfl (St.gf _ rfl rfl (λd=>Ev.GJ (a:=4294967296) (.mk rfl) (aa.gv rfl d) (by first|omega|(simp only[cn]at d;omega))) rfl ?_))));refine St.gf _ rfl rfl (λd=>Ev.move (.mk rfl)) rfl (St.gf _ rfl rfl (λd=>Ev.DF (aa.gv rfl d) (aa.gv rfl d) (by first|omega|(simp only[cn]at d;omega))) rfl ?_);refine St.gf _ rfl rfl (λd=>Ev.gtr (aa.gv rfl d) (aa.gv rfl d)) rfl (g3 ?_);refine St.cond _ rfl (λm=> ?_) (λm=> ?_)
     ·simp only[cn]at m
      have o:=wo m
      obtain⟨k1,k2,k3⟩:=rS h g A k e o;refine g6 ?_;refine St.ee (Ev.R7 (b:=1) (.mk rfl) (.mk rfl) zE) (g7 ?_);refine St.ee (Ev.DF (.mk rfl) (.mk rfl) zE) (g9 ?_);refine St.cq (λQ=> ?_) (λQ=> ?_)
      ·refine g5 ?_
       refine St.mE (x.1-1) (zF h g A k e o zE)
      ·refine g3 ?_
       refine St.aS (x.1-1,x.2+v/4294967296) (C6 h g A k e o zE)
     ·simp only[cn]at m
      have R:=C7 h e (wm zE)
      refine g5 ?_;refine St.mE x.1 R
    ·intro p e
     refine g3 ?_;refine St.ee (Ev.Q4 (b:=4294967296) (.mk rfl) (.mk rfl)) (go ?_);refine St.ee (Ev.Sp (.mk rfl) (.mk rfl)) (g2 ?_);refine St.ee (Ev.Iu (.mk rfl) (.mk rfl)) (St.ee (Ev.ZS (.mk rfl) (.mk rfl) zE) ?_)
     obtain⟨f,Z⟩:∃r,r=(4294967296*u+z/4294967296)%v:=⟨_,rfl⟩
     have C:f<v:=by rw[Z];exact Nat.mod_lt _ zE
     have D:p*v+f=4294967296*u+z/4294967296:=by rw[e,Z,Nat.mul_comm];exact Nat.div_add_mod _ _
     refine St.slot 93 (uv f) rfl (by rw[FW D C g]) ?_;refine g7 ?_;refine St.ee (Ev.tM (.mk rfl) (.mk rfl) zE) ?_
     obtain⟨E,S⟩:∃q,q=f/(v/4294967296):=⟨_,rfl⟩
     refine St.slot 96 (uv E) rfl (by rw[S]) ?_
     have U:B7 f v (z%4294967296) (E,f-E*(v/4294967296)):=by rw[S];exact C5 h g C l
     have V:=Nat.div_mul_le_self f (v/4294967296)
     rw[←S]at V;refine g8 ?_;refine St.ee (Ev.GJ (.mk rfl) (.mk rfl) (oZ V zE)) (St.ee (Ev.R7 (.mk rfl) (.mk rfl) (⟨V,by omega⟩)) ?_);refine g3 ?_;refine St.join (ι:=Nat) (λt T=>(18,uv t)::T) (λt=>[]) (λt=>t=(4294967296*f+z%4294967296)/v) (aC.k7 2 6 7 8 14 15 17) ?_ ?_
     ·refine go ?_
      refine St.lS (ι:=Nat×Nat) (λx T=>(18,uv x.1)::(16,uv x.2)::T) (λx=>B7 f v (z%4294967296) x) (λx=>x.1) (E,f-E*(v/4294967296)) (aC.k9 2 6 7 8 9 10 14 15 17) U ?_;intro x e
      have O:=e.rem
      have P:=e.top
      refine g6 ?_;refine St.gf _ rfl rfl (λd=>Ev.move (.mk rfl)) rfl (St.gf _ rfl rfl (λd=>Ev.move (.mk rfl)) rfl (St.gf _ rfl rfl (λd=>Ev.Iu (aa.gv rfl d) (aa.gv rfl d)) rfl (St.gf _ rfl rfl (λd=>Ev.move (.mk rfl)) rfl (St.gf _ rfl rfl (λd=>Ev.GJ (a:=4294967296) (.mk rfl) (aa.gv rfl d) (by first|omega|(simp only[cn]at d;omega))) rfl ?_))));refine St.gf _ rfl rfl (λd=>Ev.move (.mk rfl)) rfl (St.gf _ rfl rfl (λd=>Ev.DF (aa.gv rfl d) (aa.gv rfl d) (by first|omega|(simp only[cn]at d;omega))) rfl ?_);refine St.gf _ rfl rfl (λd=>Ev.gtr (aa.gv rfl d) (aa.gv rfl d)) rfl (g3 ?_);refine St.cond _ rfl (λH=> ?_) (λH=> ?_)
      ·simp only[cn]at H
       have o:=wo H
       obtain⟨k1,k2,k3⟩:=rS h g C l e o;refine g6 ?_;refine St.ee (Ev.R7 (b:=1) (.mk rfl) (.mk rfl) zE) (g7 ?_);refine St.ee (Ev.DF (.mk rfl) (.mk rfl) zE) (g9 ?_);refine St.cq (λW=> ?_) (λW=> ?_)
       ·refine g5 ?_
        refine St.mE (x.1-1) (zF h g C l e o zE)
       ·refine g3 ?_
        refine St.aS (x.1-1,x.2+v/4294967296) (C6 h g C l e o zE)
      ·simp only[cn]at H
       have R:=C7 h e (wm zE)
       refine g5 ?_;refine St.mE x.1 R
     ·intro t e
      refine g3 ?_;refine St.ee (Ev.Q4 (b:=4294967296) (.mk rfl) (.mk rfl)) (go ?_);refine St.ee (Ev.Sp (.mk rfl) (.mk rfl)) (go ?_);refine St.ee (Ev.Q4 (b:=4294967296) (.mk rfl) (.mk rfl)) (go ?_);refine St.ee (Ev.Sp (.mk rfl) (.mk rfl)) (g2 ?_);refine St.ee (Ev.Iu (.mk rfl) (.mk rfl)) (St.ee (Ev.ZS (.mk rfl) (.mk rfl) zE) ?_)
      obtain⟨X,hr0⟩:∃r,r=(4294967296*f+z%4294967296)%v:=⟨_,rfl⟩
      have N9:X<v:=by rw[hr0];exact Nat.mod_lt _ zE
      have F:t*v+X=4294967296*f+z%4294967296:=by rw[e,hr0,Nat.mul_comm];exact Nat.div_add_mod _ _
      refine St.slot 132 (uv X) rfl (by rw[FW F N9 g]) ?_;obtain⟨f1,f2⟩:=Lr (show 0<y by omega) G hN D F N9
      have f3:(18446744073709551616*hi+lo)/y<18446744073709551616:=by rw[Nat.div_lt_iff_lt_mul zE];omega
      refine go ?_;refine St.ee (Ev.tQ (s) (2^s) rfl (.mk rfl) (.mk rfl) zE) (g5 ?_);refine St.rV [_,_] [] ?_;exact uve zE f2.symm
theorem uc {a b:Nat}(c:a≤1152921504606846976)(d:b≤1152921504606846976):a*b≤1329227995784915872903807060280344576:=Nat.mul_le_mul c d
theorem KJ {r r':Pr×Pr}(h:r=r'):qS [.agg #[iv r.1.1,iv r.1.2],.agg #[iv r.2.1,iv r.2.2]]=Lz r':=by rw[h];rfl
theorem OX {r:Pr×Pr}{a b c d:Int}(h:r=((a,b),(c,d))):qS [.agg #[iv a,iv b],.agg #[iv c,iv d]]=Lz r:=by rw[h];rfl
theorem acX {r:Pr×Pr}{f:Pr}(h:r=((0,0),f)):qS [.agg #[iv 0,iv 0],.agg #[iv f.1,iv f.2]]=Lz r:=by rw[h];rfl
theorem Jk:Extern.find Tryz.f88=some add64Entry:=by kernel_rfl
theorem yV:Extern.find Tryz.f89=some sub64Entry:=by kernel_rfl
theorem II (x y:Pr)(hx:ij x)(hy:ij y):dK prog 128 #[rY x,rY y] [] (Lz (qA x y)):=by
 refine dK.gx (args:=[rY x,rY y]) 78 func128 rfl ntmps128 rfl (λc=>go ?_)
 have hm:=Uj (show 0<x.2.toNat by have:=hx.pos;omega) (show 0<y.2.toNat by have:=hy.pos;omega) hx.cop hy.cop (decide (x.1<0) !=decide (y.1<0))
 rw[←Oj hx hy]at hm
 have f:=hx
 have b:=hy
 obtain⟨k,l,x3,m,n⟩:=f;obtain⟨o,p,y3,y4,q⟩:=b
 have g:0<Nat.gcd x.1.natAbs y.2.toNat:=Nat.gcd_pos_of_pos_right _ zE
 have r:0<Nat.gcd y.1.natAbs x.2.toNat:=Nat.gcd_pos_of_pos_right _ zE
 have s:=Nat.div_le_self x.1.natAbs (Nat.gcd x.1.natAbs y.2.toNat)
 have t:=Nat.div_le_self y.1.natAbs (Nat.gcd y.1.natAbs x.2.toNat)
 have u:=Nat.div_le_self x.2.toNat (Nat.gcd y.1.natAbs x.2.toNat)
 have v:=Nat.div_le_self y.2.toNat (Nat.gcd x.1.natAbs y.2.toNat)
 refine go ?_;refine St.cC (.mk rfl) rfl (λz=>St.cC (.mk rfl) rfl (λA=>St.al (λB=>St.al (λC=>g3 ?_))));refine St.jm [] mixed (λd e=>SW.gd 0 ?_);refine SW.gd 1 ?_;refine SW.dd 2 rfl (λ_=>Ev.call (gY x.1 (yT hx).1) Da (.aq rfl)) (SW.gd 3 ?_);refine SW.gd 4 ?_;refine SW.dd 5 rfl (λ_=>Ev.mj (x.2.toNat) (.mk rfl) (by rw[fA];rfl) gj zE) ?_;refine SW.gd 6 ?_;refine SW.gd 7 ?_;refine SW.dd 8 rfl (λ_=>Ev.call (gY y.1 (yT hy).1) Da (.aq rfl)) (SW.gd 9 ?_);refine SW.gd 10 ?_;refine SW.dd 11 rfl (λ_=>Ev.mj (y.2.toNat) (.mk rfl) (by rw[fA];rfl) gj zE) ?_;refine SW.gd 12 ?_;refine SW.gd 13 ?_;refine SW.gd 14 ?_;refine SW.gd 15 ?_;refine SW.dn (g5 ?_);refine St.ee (Ev.call (l6 x.1.natAbs y.2.toNat) Lq (.aX rfl rfl)) (g2 ?_);refine St.ee (Ev.call (l6 y.1.natAbs x.2.toNat) Lq (.aX rfl rfl)) (g5 ?_);refine St.jm [] mixed (λd e=>SW.gd 0 ?_);refine SW.gd 1 ?_;refine SW.dd 2 rfl (λ_=>Ev.tM (.mk rfl) (.mk rfl) zE) (SW.gd 3 ?_);refine SW.gd 4 ?_;refine SW.dd 5 rfl (λ_=>Ev.tM (.mk rfl) (.mk rfl) zE) (SW.dd 6 rfl (λ_=>Ev.call (mr (x.1.natAbs/Nat.gcd x.1.natAbs y.2.toNat) (y.1.natAbs/Nat.gcd y.1.natAbs x.2.toNat) zE zE) Xv (.aX rfl rfl)) (SW.gd 7 ?_));refine SW.gd 8 ?_;refine SW.gd 9 ?_;refine SW.gd 10 ?_;refine SW.gd 11 ?_;refine SW.dn (g2 ?_);refine St.jm [] mixed (λd e=>SW.gd 0 ?_);refine SW.gd 1 ?_;refine SW.dd 2 rfl (λ_=>Ev.tM (.mk rfl) (.mk rfl) zE) (SW.gd 3 ?_);refine SW.gd 4 ?_;refine SW.dd 5 rfl (λ_=>Ev.tM (.mk rfl) (.mk rfl) zE) (SW.dd 6 rfl (λ_=>Ev.call (mr (x.2.toNat/Nat.gcd y.1.natAbs x.2.toNat) (y.2.toNat/Nat.gcd x.1.natAbs y.2.toNat) zE zE) Xv (.aX rfl rfl)) (SW.gd 7 ?_));refine SW.gd 8 ?_;refine SW.gd 9 ?_;refine SW.gd 10 ?_;refine SW.gd 11 ?_;refine SW.dn (g3 ?_)
 generalize x.1.natAbs/Nat.gcd x.1.natAbs y.2.toNat*(y.1.natAbs/Nat.gcd y.1.natAbs x.2.toNat)=N at hm⊢
 generalize x.2.toNat/Nat.gcd y.1.natAbs x.2.toNat*(y.2.toNat/Nat.gcd x.1.natAbs y.2.toNat)=D at hm⊢
 refine g4 ?_;refine St.gf _ rfl rfl (λa=>Ev.move (.mk rfl)) rfl (St.gf _ rfl rfl (λa=>Ev.not (aa.gv rfl a)) rfl (g3 ?_));refine St.cq (λh=> ?_) (λh=> ?_)
 ·refine g2 ?_
  refine St.ee (Ev.build (au.nil) (λw=>mg w)) (St.ee (Ev.build (au.aq rfl) (λw=>yC rfl w)) (g6 ?_));refine St.rV [_,_] [] ?_;exact OX (hm.trans (Fm zE))
 ·have i:N%18446744073709551616=N:=fh zE
  have j:D%18446744073709551616=D:=fh zE
  refine g10 ?_;refine St.ee (Ev.uF (.mk rfl) (.mk rfl) EY) (go ?_);refine St.gt _ rfl rfl (λa=>Ev.move (.mk rfl)) rfl (St.gt _ rfl rfl (λa=>Ev.gtr (aa.gv rfl a) (.mk rfl)) rfl (g3 ?_));refine St.ee (Ev.call (vh _ _ _) Xw (.eI rfl rfl rfl)) (g7 ?_);refine St.rV [_,_] [] ?_;exact KJ (by rw[hm,i,j,Oo];rfl)
theorem IH (x y:Pr)(hx:ij x)(hy:ij y):dK prog 41 #[rY x,rY y] [] (Lz (gX x y)):=by
 refine dK.gx (args:=[rY x,rY y]) 164 func41 rfl ntmps41 rfl (λc=>go ?_)
 have F:=hx
 have o:=hy
 obtain⟨S,U,x3,V,W⟩:=F;obtain⟨X,Y,y3,y4,Z⟩:=o
 have d0:=yJ hx hy
 obtain⟨G,d⟩:∃G,G=Nat.gcd x.2.toNat y.2.toNat:=⟨_,rfl⟩
 have e:0<G:=by rw[d];exact Nat.gcd_pos_of_pos_left _ zE
 have H:G≤1152921504606846976:=by rw[d];exact dH (Nat.gcd_le_left _ zE) zE
 have r:dK prog 87 #[uv x.2.toNat,uv y.2.toNat] [] (uv G):=by rw[d];exact l6 _ _
 have q1:=Nat.div_le_self x.2.toNat G
 have q2:=Nat.div_le_self y.2.toNat G
 obtain⟨p,hp⟩:∃p,p=x.1.natAbs*(y.2.toNat/G):=⟨_,rfl⟩
 obtain⟨q,l⟩:∃q,q=y.1.natAbs*(x.2.toNat/G):=⟨_,rfl⟩
 have mp:p≤1329227995784915872903807060280344576:=by rw[hp];exact uc zE zE
 have mq:q≤1329227995784915872903807060280344576:=by rw[l];exact uc zE zE
 have s:dK prog 44 #[uv x.1.natAbs,uv (y.2.toNat/G)] [] (.tuple #[uv (p/18446744073709551616),uv (p%18446744073709551616)]):=by rw[hp];exact kQ _ _ zE zE
 have t:dK prog 44 #[uv y.1.natAbs,uv (x.2.toNat/G)] [] (.tuple #[uv (q/18446744073709551616),uv (q%18446744073709551616)]):=by rw[l];exact kQ _ _ zE zE
 refine go ?_;refine St.cC (.mk rfl) rfl (λI=>St.cC (.mk rfl) rfl (λJ=>St.al (λK=>St.al (λL=>g3 ?_))));refine St.jm [] mixed (λu v=>SW.gd 0 ?_);refine SW.gd 1 ?_;refine SW.dd 2 rfl (λ_=>Ev.mj (x.2.toNat) (.mk rfl) (by rw[fA];rfl) gj zE) ?_;refine SW.gd 3 ?_;refine SW.gd 4 ?_;refine SW.dd 5 rfl (λ_=>Ev.mj (y.2.toNat) (.mk rfl) (by rw[fA];rfl) gj zE) ?_;refine SW.gd 6 ?_;refine SW.gd 7 ?_;refine SW.dn (g5 ?_);refine St.ee (Ev.call r Lq (.aX rfl rfl)) (g4 ?_);refine St.jm [] mixed (λu v=>SW.gd 0 ?_);refine SW.gd 1 ?_;refine SW.dd 2 rfl (λ_=>Ev.call (gY x.1 (yT hx).1) Da (.aq rfl)) (SW.gd 3 ?_);refine SW.gd 4 ?_;refine SW.dd 5 rfl (λ_=>Ev.tM (.mk rfl) (.mk rfl) zE) (SW.dd 6 rfl (λ_=>Ev.call s O3 (.aX rfl rfl)) (SW.gd 7 ?_));refine SW.gd 8 ?_;refine SW.gd 9 ?_;refine SW.gd 10 ?_;refine SW.gd 11 ?_;refine SW.dn (g2 ?_);refine St.jm [] mixed (λu v=>SW.gd 0 ?_);refine SW.gd 1 ?_;refine SW.dd 2 rfl (λ_=>Ev.call (gY y.1 (yT hy).1) Da (.aq rfl)) (SW.gd 3 ?_);refine SW.gd 4 ?_;refine SW.dd 5 rfl (λ_=>Ev.tM (.mk rfl) (.mk rfl) zE) (SW.dd 6 rfl (λ_=>Ev.call t O3 (.aX rfl rfl)) (SW.gd 7 ?_));refine SW.gd 8 ?_;refine SW.gd 9 ?_;refine SW.gd 10 ?_;refine SW.gd 11 ?_;refine SW.dn (g15 ?_);refine St.join (ι:=Nat×Bool) (λz T=>(13,.bool z.2)::(14,uv (z.1/18446744073709551616))::(15,uv (z.1%18446744073709551616))::T) (λz=>[aW I (.cells #[iv x.1,iv x.2] 47 (0,0)),aW J (.cells #[iv y.1,iv y.2] 47 (0,0)),aW K (.cells #[iv 0,iv 0] 47 (0,0)),aW L (.cells #[iv 0,iv 0] 39 (0,0))]) (λz=>z.1≤2658455991569831745807614120560689152∧(z.1=p+q∨z.1+q=p∨z.1+p=q)∧gX x y=jS z.2 (z.1*G) (x.2.toNat*y.2.toNat)) (aC.k5 4 5 6 7 8) ?_ ?_
 ·refine g6 ?_
  refine St.ee (Ev.Ju (.mk rfl) (.mk rfl) EY) (g2 ?_);refine St.cond _ rfl (λb=> ?_) (λb=> ?_)
  ·skip
   replace b:=beq_iff_eq.1 b
   refine g9 ?_;refine St.ee (Ev.Vb (c:=0) func88 (by kernel_rfl) (by kernel_rfl) (by kernel_rfl) Jk (.eI rfl rfl rfl) zE) ?_;refine g11 ?_;refine St.ee (Ev.Vb func88 (by kernel_rfl) (by kernel_rfl) (by kernel_rfl) Jk (.eI rfl rfl rfl) zE) ?_;refine g6 ?_;refine St.slot 14 (uv ((p+q)/18446744073709551616)) rfl (congrArg (λn=>uv n) zE) (St.slot 15 (uv ((p+q)%18446744073709551616)) rfl (congrArg (λn=>uv n) zE) ?_);refine St.mE (p+q,decide (x.1<0)) ⟨by dsimp only;omega,.inl rfl,Tu hx hy d hp l b⟩
  ·skip
   replace b:¬(decide (x.1<0)=decide (y.1<0)):=λk=>by rw[beq_iff_eq.2 k]at b;cases b
   refine g7 ?_;refine St.gf _ rfl rfl (λa=>Ev.move (.mk rfl)) rfl (St.gf _ rfl rfl (λa=>Ev.move (.mk rfl)) rfl (St.gf _ rfl rfl (λa=>Ev.eql (aa.gv rfl a) (aa.gv rfl a)) rfl (St.gf _ rfl rfl (λa=>Ev.move (aa.gv rfl a)) rfl (St.CG _ rfl rfl (λa=>Ev.move (.mk rfl)) rfl (St.CG _ rfl rfl (λa=>Ev.move (.mk rfl)) rfl (St.CG _ rfl rfl (λa=>Ev.lss (aa.gv rfl a) (aa.gv rfl a)) rfl (St.gf _ rfl rfl (λa=>Ev.and (aa.gv rfl a) (λhp=>aa.gv rfl (yk a hp))) rfl (g3 ?_))))))));refine St.cq (λA=> ?_) (λA=> ?_)
   ·have f:p<q:=by omega
    refine g23 ?_;refine St.ee (Ev.Kt (c:=0) func89 (by kernel_rfl) (by kernel_rfl) (by kernel_rfl) yV (.eI rfl rfl rfl) zE) ?_;refine g11 ?_;refine St.ee (Ev.Kt func89 (by kernel_rfl) (by kernel_rfl) (by kernel_rfl) yV (.eI rfl rfl rfl) (by split<;>omega)) ?_;refine g6 ?_;refine St.slot 14 (uv ((q-p)/18446744073709551616)) rfl (congrArg (λn=>uv n) (by split<;>omega)) ?_;refine St.slot 15 (uv ((q-p)%18446744073709551616)) rfl (congrArg (λn=>uv n) zE) ?_;refine St.mE (q-p,!decide (x.1<0)) ⟨by dsimp only;omega,.inr (.inr (by dsimp only;omega)),Tt hx hy d hp l b f⟩
   ·have f:q≤p:=by omega
    refine g11 ?_;refine St.ee (Ev.Kt (c:=0) func89 (by kernel_rfl) (by kernel_rfl) (by kernel_rfl) yV (.eI rfl rfl rfl) zE) ?_;refine g11 ?_;refine St.ee (Ev.Kt func89 (by kernel_rfl) (by kernel_rfl) (by kernel_rfl) yV (.eI rfl rfl rfl) (by split<;>omega)) ?_;refine g6 ?_;refine St.slot 14 (uv ((p-q)/18446744073709551616)) rfl (congrArg (λn=>uv n) (by split<;>omega)) ?_;refine St.slot 15 (uv ((p-q)%18446744073709551616)) rfl (congrArg (λn=>uv n) zE) ?_;refine St.mE (p-q,decide (x.1<0)) ⟨by dsimp only;omega,.inr (.inl (by dsimp only;omega)),Ts hx hy d hp l b f⟩
 ·rintro ⟨T,ng⟩ ⟨B,g,i⟩
  dsimp only at B g i⊢
  rw[hp,l]at g
  have C:=Lw hx hy d g i
  obtain⟨h,m⟩:∃h,h=Nat.gcd T G:=⟨_,rfl⟩
  have j:0<h:=by rw[m];exact Nat.gcd_pos_of_pos_right _ e
  have M:h≤G:=by rw[m];exact Nat.gcd_le_right _ e
  rw[←m]at C
  have D:dK prog 87 #[uv (T%G),uv G] [] (uv h):=by rw[m,←Tw];exact l6 _ _
  have q3:=Nat.div_le_self y.2.toNat h
  have N:=Nat.mod_lt (T/18446744073709551616) e
  have O:=Nat.mod_lt (T/18446744073709551616) j
  refine g6 ?_;refine St.gt _ rfl rfl (λa=>Ev.move (.mk rfl)) rfl (St.gt _ rfl rfl (λa=>Ev.eql (aa.gv rfl a) (.mk rfl)) rfl (g3 ?_));refine St.cq (λP=> ?_) (λP=> ?_)
  ·refine g2 ?_
   refine St.ee (Ev.build (au.aq rfl) (λw=>DU rfl w)) (St.ee (Ev.build (au.nil) (λw=>fP w)) (g6 ?_));refine St.rV [_,_] [] ?_;exact OX (by rw[i,show T=0 by omega,rJ,mo _ d0])
  ·refine g6 ?_
   refine St.ee (Ev.QS (.mk rfl) (.mk rfl) zE) (g2 ?_);refine St.ee (Ev.call (uQ (T/18446744073709551616%G) (T%18446744073709551616) G N zE zE) acO (.eI rfl rfl rfl)) (g3 ?_);refine St.slot 124 (uv (T%G)) rfl (congrArg (λn=>uv n) (S2 T G)) (g8 ?_);refine St.ee (Ev.call D Lq (.aX rfl rfl)) (g7 ?_);refine St.ee (Ev.tM (.mk rfl) (.mk rfl) zE) (g7 ?_);refine St.ee (Ev.QS (.mk rfl) (.mk rfl) zE) (g2 ?_);refine St.ee (Ev.call (uQ (T/18446744073709551616%h) (T%18446744073709551616) h O zE zE) acO (.eI rfl rfl rfl)) (g8 ?_);refine St.jm [] mixed (λu v=>SW.gd 0 ?_);refine SW.gd 1 ?_;refine SW.dd 2 rfl (λ_=>Ev.tM (.mk rfl) (.mk rfl) zE) (SW.gd 3 ?_);refine SW.gd 4 ?_;refine SW.dd 5 rfl (λ_=>Ev.tM (.mk rfl) (.mk rfl) zE) (SW.dd 6 rfl (λ_=>Ev.call (mr (x.2.toNat/G) (y.2.toNat/h) zE zE) Xv (.aX rfl rfl)) (SW.gd 7 ?_));refine SW.gd 8 ?_;refine SW.gd 9 ?_;refine SW.gd 10 ?_;refine SW.gd 11 ?_;refine SW.dn (g7 ?_);refine St.gf _ rfl rfl (λa=>Ev.move (.mk rfl)) rfl (St.gf _ rfl rfl (λa=>Ev.not (aa.gv rfl a)) rfl (g3 ?_));refine St.cq (λE=> ?_) (λE=> ?_)
   ·refine g2 ?_
    refine St.ee (Ev.build (au.nil) (λw=>mg w)) (St.ee (Ev.build (au.aq rfl) (λw=>yC rfl w)) (g6 ?_));refine St.rV [_,_] [] ?_
    have Q:1152921504606846976<T/h∨1152921504606846976<x.2.toNat/G*(y.2.toNat/h):=by
     by_cases hu:T/18446744073709551616/h=0
     ·right;omega
     ·left;have:=Rz j hu;omega
    exact OX (C.trans (Fm Q))
   ·have hu:T/18446744073709551616/h=0:=by omega
    refine g7 ?_;refine St.ee (Ev.call (vh _ _ _) Xw (.eI rfl rfl rfl)) (g7 ?_);refine St.rV [_,_] [] ?_
    have R:x.2.toNat/G*(y.2.toNat/h)%18446744073709551616=x.2.toNat/G*(y.2.toNat/h):=fh zE
    exact KJ (by rw[C,S1 j hu,R])
theorem IE (x y:Pr)(hx:BN x)(hy:BN y):dK prog 86 #[rY x,rY y] [] (Lz (lL 2 x y)):=by
 refine dK.gx (args:=[rY x,rY y]) 20 func86 rfl ntmps86 rfl (λc=>g2 ?_);refine St.cC (.mk rfl) rfl (λh=>St.cC (.mk rfl) rfl (λi=>St.al (λe=>St.al (λf=>g7 ?_))));refine St.ee (Ev.call (xA x y hx hy) acG (.aX rfl rfl)) (St.al (λj=>g10 ?_));refine St.cq (λb=> ?_) (λb=> ?_)
 ·have a:¬(ja x y).1=0:=by simpa using b
  refine go ?_;refine St.jm [e,f] mixed (λk l=>SW.dd 0 rfl (λ_=>Ev.build (ps:=[]) (au.nil) (λw=>mg w)) (SW.gd 1 ?_));refine SW.t1 2 ?_;refine g3 ?_;refine SW.go (SW.t1 3 ?_);refine g3 ?_;refine SW.go (SW.dn (g3 ?_));refine St.rV [_,_] [] ?_;exact acX (by unfold lL;rw[aA a])
 ·have a:(ja x y).1=0:=by simpa using b
  obtain⟨g,d⟩:=mn.1 a;obtain⟨m,n,y3,y4,o⟩:=d
  have d:=(mn.1 a).2
  refine g6 ?_;refine St.ee (Ev.call (II x y g d) abL (.aX rfl rfl)) (g7 ?_);refine St.rV [_,_] [] ?_;exact KJ (by unfold lL;exact(aB a).symm)
theorem cme {a b c:Int}{r:Int×Pr}(h:r=(a,(b,c))):qS [iv a,.agg #[iv b,iv c]]= .tuple #[iv r.1,fv r.2]:=by rw[h];rfl
theorem cmb {f:Pr}{r:Int×Pr}(h:r=(0,f)):qS [iv 0,.agg #[iv f.1,iv f.2]]= .tuple #[iv r.1,fv r.2]:=by rw[h];rfl
theorem mM {x y:Pr}{k:Int}(a:(ja x y).1=0)(h:gK x y=k):jM x y=(k,(0,0)):=by unfold jM;rw[aB a,h]
theorem qn (x y:Pr)(hx:BN x)(hy:BN y):dK prog 12 #[rY x,rY y] [] (.tuple #[iv (jM x y).1,fv (jM x y).2]):=by
 refine dK.gx (args:=[rY x,rY y]) 89 func12 rfl ntmps12 rfl (λc=>g2 ?_);refine St.cC (.mk rfl) rfl (λt=>St.cC (.mk rfl) rfl (λu=>go ?_));refine St.al (λs=>g7 ?_);refine St.ee (Ev.call (xA x y hx hy) acG (.aX rfl rfl)) (St.al (λv=>g10 ?_));refine St.cq (λd=> ?_) (λd=> ?_)
 ·have b:¬(ja x y).1=0:=by simpa using d
  refine go ?_;refine St.jm [s] mixed (λo r=>SW.gd 0 ?_);refine SW.gd 1 ?_;refine SW.t1 2 ?_;refine g3 ?_;refine SW.go (SW.dn (g3 ?_));refine St.rV [_,_] [] ?_;exact cmb (by unfold jM;rw[aA b])
 ·have b:(ja x y).1=0:=by simpa using d
  obtain⟨e,f⟩:=mn.1 b;obtain⟨z,A,x3,B,C⟩:=e;obtain⟨D,E,y3,y4,F⟩:=f;obtain⟨e,f⟩:=mn.1 b
  obtain⟨p,hp⟩:∃p,p=x.1.natAbs*y.2.toNat:=⟨_,rfl⟩
  obtain⟨q,g⟩:∃q,q=y.1.natAbs*x.2.toNat:=⟨_,rfl⟩
  have mp:p≤1329227995784915872903807060280344576:=by rw[hp];exact uc zE zE
  have G:q≤1329227995784915872903807060280344576:=by rw[g];exact uc zE zE
  have h:dK prog 44 #[uv x.1.natAbs,uv y.2.toNat] [] (.tuple #[uv (p/18446744073709551616),uv (p%18446744073709551616)]):=by rw[hp];exact kQ _ _ zE zE
  have i:dK prog 44 #[uv y.1.natAbs,uv x.2.toNat] [] (.tuple #[uv (q/18446744073709551616),uv (q%18446744073709551616)]):=by rw[g];exact kQ _ _ zE zE
  refine g3 ?_;refine St.jm [] mixed (λo r=>SW.gd 0 ?_);refine SW.gd 1 ?_;refine SW.dd 2 rfl (λ_=>Ev.call (gY x.1 hx.1) Da (.aq rfl)) (SW.gd 3 ?_);refine SW.gd 4 ?_;refine SW.dd 5 rfl (λ_=>Ev.mj (y.2.toNat) (.mk rfl) (by rw[fA];rfl) gj zE) ?_;refine SW.dd 6 rfl (λ_=>Ev.call h O3 (.aX rfl rfl)) (SW.gd 7 ?_);refine SW.gd 8 ?_;refine SW.gd 9 ?_;refine SW.gd 10 ?_;refine SW.gd 11 ?_;refine SW.dn (g2 ?_);refine St.jm [] mixed (λo r=>SW.gd 0 ?_);refine SW.gd 1 ?_;refine SW.dd 2 rfl (λ_=>Ev.call (gY y.1 hy.1) Da (.aq rfl)) (SW.gd 3 ?_);refine SW.gd 4 ?_;refine SW.dd 5 rfl (λ_=>Ev.mj (x.2.toNat) (.mk rfl) (by rw[fA];rfl) gj zE) ?_;refine SW.dd 6 rfl (λ_=>Ev.call i O3 (.aX rfl rfl)) (SW.gd 7 ?_);refine SW.gd 8 ?_;refine SW.gd 9 ?_;refine SW.gd 10 ?_;refine SW.gd 11 ?_;refine SW.dn (g14 ?_);refine St.gt _ rfl rfl (λa=>Ev.cU (.mk rfl) zK) rfl (St.gt _ rfl rfl (λa=>Ev.jN (aa.gv rfl a) fA trivial (by rfl)) rfl ?_);refine St.gt _ rfl rfl (λa=>Ev.geq (aa.gv rfl a) (.mk rfl)) rfl (g4 ?_);refine St.cond _ rfl (λj=> ?_) (λj=> ?_)
  focus
   skip
   try simp only[cn]at j
   refine g2 ?_;refine St.ee (Ev.build (au.nil) (λw=>fP w)) (g7 ?_);refine St.rV [_,_] [] ?_;exact cme (mM b (Od e f zE zE))
  focus
   skip
   try simp only[cn]at j
   refine g6 ?_;refine St.gt _ rfl rfl (λa=>Ev.cU (.mk rfl) zK) rfl (St.gt _ rfl rfl (λa=>Ev.jN (aa.gv rfl a) fA trivial (by rfl)) rfl ?_);refine St.gt _ rfl rfl (λa=>Ev.lss (aa.gv rfl a) (.mk rfl)) rfl (g4 ?_);refine St.cond _ rfl (λk=> ?_) (λk=> ?_)
   focus
    skip
    try simp only[cn]at k
    refine g2 ?_;refine St.ee (Ev.build (au.nil) (λw=>fP w)) (g7 ?_);refine St.rV [_,_] [] ?_;exact cme (mM b (Oe e f zE zE))
   focus
    skip
    try simp only[cn]at k
    refine g6 ?_;refine St.gf _ rfl rfl (λa=>Ev.move (.mk rfl)) rfl (St.gf _ rfl rfl (λa=>Ev.move (.mk rfl)) rfl (St.gf _ rfl rfl (λa=>Ev.eql (aa.gv rfl a) (aa.gv rfl a)) rfl (St.gf _ rfl rfl (λa=>Ev.move (aa.gv rfl a)) rfl (St.CG _ rfl rfl (λa=>Ev.move (.mk rfl)) rfl (St.CG _ rfl rfl (λa=>Ev.move (.mk rfl)) rfl (St.CG _ rfl rfl (λa=>Ev.gtr (aa.gv rfl a) (aa.gv rfl a)) rfl (St.gf _ rfl rfl (λa=>Ev.and (aa.gv rfl a) (λhp=>aa.gv rfl (yk a hp))) rfl (g4 ?_))))))));refine St.cond _ rfl (λl=> ?_) (λl=> ?_)
    focus
     skip
     try simp only[cn]at l
     refine g3 ?_
    rotate_left
    focus
     skip
     try simp only[cn]at l
     refine g6 ?_;refine St.gf _ rfl rfl (λa=>Ev.move (.mk rfl)) rfl (St.gf _ rfl rfl (λa=>Ev.move (.mk rfl)) rfl (St.gf _ rfl rfl (λa=>Ev.lss (aa.gv rfl a) (aa.gv rfl a)) rfl (g4 ?_)));refine St.cond _ rfl (λm=> ?_) (λm=> ?_)
     focus
      skip
      try simp only[cn]at m
      refine g3 ?_
     rotate_left
     focus
      skip
      try simp only[cn]at m
      refine go ?_
  all_goals
   refine g10 ?_;refine St.cq (λn=> ?_) (λn=> ?_)
   ·refine g2 ?_
    refine St.ee (Ev.neg (.mk rfl) zE) (g6 ?_);refine St.ee (Ev.build (au.nil) (λw=>fP w)) (g5 ?_);refine St.rV [_,_] [] (cme (mM b ?_));rw[Oc e f zE zE,←hp,←g]
    split<;>(try split)<;>omega
   ·refine g5 ?_
    refine St.ee (Ev.build (au.nil) (λw=>fP w)) (g5 ?_);refine St.rV [_,_] [] (cme (mM b ?_));rw[Og e f zE zE,←hp,←g]
    split<;>(try split)<;>omega
end Go.Proofs.YtiefglecbgdaiaaGreatDoor
