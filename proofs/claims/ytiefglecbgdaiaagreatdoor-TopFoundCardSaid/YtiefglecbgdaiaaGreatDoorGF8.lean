/-
  Laws of walks through programs, and facts on grammars, trees and queries.
  Conditions: none.
-/
import Derived.Test.YtiefglecbgdaiaaGreatDoorGF7
set_option maxHeartbeats 4000000
set_option maxRecDepth 20000
set_option linter.unusedVariables false
set_option linter.unusedSimpArgs false
namespace Go.Proofs.YtiefglecbgdaiaaGreatDoor
open Go Go.J Tryz
theorem aaP {x:ab}(h:bZ.wf x):x.length<9223372036854775807:=by
 have:x.length≤140737488351232:=h
 omega
theorem AY (v0:Value)(s:List ab)(a:Int):kC prog 47 #[v0,iv a] [sl bZ v0 s,u8] (fv (pg s a)):=by
 refine kC.body (args:=[v0,iv a]) (ds:=[(sl bZ v0 s),u8]) 30 func47 rfl ntmps47 rfl (λc h=> ?_)
 change St _ _ (Mm c [aD (sl bZ v0 s),aD u8]) _
 refine go ?_;refine St.wf v0 (λi hlen=> ?_);refine go ?_;refine St.al (λm=> ?_);refine g9 ?_;refine St.gf _ rfl rfl (λd=>Ev.move (.mk rfl)) rfl ?_;refine St.gf _ rfl rfl (λd=>Ev.eu (aX.gv rfl d) kZ) rfl ?_;refine St.gf _ rfl rfl (λd=>Ev.gtr (aX.gv rfl d) (.mk rfl)) rfl ?_;refine g3 ?_;refine St.cq (λj=> ?_) (λj=> ?_)
 ·refine g3 ?_
  refine St.ee (Ev.build (bC.ah rfl rfl) (λw=>dJ rfl rfl w)) ?_;refine g5 ?_;refine St.rV [_] [] ?_;exact fe (by unfold pg;rw[aB zE])
 ·refine g11 ?_
  refine St.lS (ι:=Nat) (λk T=>(19,iv k)::T) (λk=>k≤s.length∧(s.take k).all isWord=true) (λk=>s.length-k) 0 (aC.k4 1 4 17 18) ⟨aP _,rfl⟩ ?_;intro k l;obtain⟨hk,e⟩:=l;refine g6 ?_;refine St.cq (λf=> ?_) (λf=> ?_)
  ·obtain⟨w,hw⟩:=aF (show k<s.length by omega)
   have g:=aa hw
   refine g14 ?_;refine St.ee (Ev.lp h (lO w (aaP (i w g))) MV (.ay rfl)) ?_;refine g3 ?_;refine St.cond _ rfl (λb=> ?_) (λb=> ?_)
   ·simp only[Bool.not_eq_true',Bool.not_eq_false']at b
    refine g3 ?_;refine St.ee (Ev.build (bC.ah rfl rfl) (λw=>dJ rfl rfl w)) ?_;refine g9 ?_;refine St.rV [_] [] ?_;exact fe (by unfold pg;rw[aA zE,aA (by intro q;rw[j8.1 q w g]at b;cases b)])
   ·simp only[Bool.not_eq_true',Bool.not_eq_false']at b
    refine g8 ?_;refine St.aS (k+1) ⟨by omega,kO e hw b⟩
  ·refine g7 ?_
   refine St.ee (Ev.build (bC.nil) (λw=>fC w)) ?_;refine g4 ?_;refine St.rV [_] [] ?_;exact fe (by unfold pg;rw[aA zE,aB (by rw[dV zE]at e;exact e)])
theorem wW (x:ab):cX prog 194 #[sv x] [] (.bool false):=by
 refine cX.l5 (args:=[sv x]) 6 func194 rfl ntmps194 rfl (λc=> ?_);refine g14 ?_;refine St.rV [_] [] ?_;exact be (by simp)
theorem u7 (x:ab):cX prog 141 #[sv x] [] (.bool false):=by
 refine cX.l5 (args:=[sv x]) 6 func141 rfl ntmps141 rfl (λc=> ?_);refine g14 ?_;refine St.rV [_] [] ?_;exact be (by simp)
theorem Hr (x y:ab):cX prog 136 #[sv x,sv y] [] (.bool (Op.bytesLess x y)):=by
 refine cX.l5 (args:=[sv x,sv y]) 17 func136 rfl ntmps136 rfl (λc=> ?_);refine g8 ?_;refine St.ee (Ev.call (wW x) Ww (.ay rfl)) ?_;refine go ?_;refine St.gt _ rfl rfl (λa=>Ev.move (.mk rfl)) rfl ?_;refine St.gt _ rfl rfl (λa=>Ev.call (wW y) Ww (.cons (aX.gv rfl a) .nil)) rfl ?_;refine St.gt _ rfl rfl (λa=>Ev.not (aX.gv rfl a)) rfl ?_;refine g2 ?_;refine St.gf _ rfl rfl (λa=>Ev.move (.mk rfl)) rfl ?_;refine St.gf _ rfl rfl (λa=>Ev.move (.mk rfl)) rfl ?_;refine St.gf _ rfl rfl (λa=>Ev.Zu (aX.gv rfl a) (aX.gv rfl a)) rfl ?_;refine g5 ?_;refine St.rV [_] [] ?_;exact be (by simp)
theorem OY (W:List ab)(w:ab):below W w≤W.length:=List.countP_le_length
def Rk (W:List ab)(w:ab):Value:= .tuple #[iv (below W w:Nat),.bool (decide (W[below W w]?=some w))]
theorem zr {W:List ab}{w:ab}{k:Nat}{b:Bool}(h1:below W w=k)(a:b=decide (W[k]?=some w)):GZ [iv (k:Nat),.bool b]=Rk W w:=by unfold Rk;rw[h1,a];rfl
theorem tE (v0:Value)(W:List ab)(w:ab)(f:OG W)(D:W.length≤1000000):cX prog 95 #[v0,sv w] [sl bZ v0 W] (Rk W w):=by
 refine cX.l6 (args:=[v0,sv w]) 54 func95 rfl ntmps95 rfl (λc=> ?_);refine g22 ?_;refine St.lS (ι:=Nat×Nat) (λx T=>(7,iv x.1)::(8,iv x.2)::T) (λx=>x.1≤x.2∧x.2≤W.length∧(∀j y,j<x.1→W[j]?=some y→Op.bytesLess y w=true)∧(∀j y,x.2≤j→W[j]?=some y→Op.bytesLess y w=false)) (λx=>x.2-x.1) (0,W.length) (aC.k5 0 1 4 5 6) ⟨aP _,aQ _,λj y r=>absurd r (Nat.not_lt_zero j),λj y r h=>by have:=ag h;omega⟩ ?_;rintro ⟨i,j⟩ ⟨t,l,m,n⟩
 dsimp only at t l m n⊢
 refine g8 ?_;refine St.cq (λu=> ?_) (λu=> ?_)
 ·have v:i≤(i+j)/2:=by omega
  have E:(i+j)/2<j:=by omega
  obtain⟨y,hy⟩:=aF (show(i+j)/2<W.length by omega);refine g8 ?_;refine St.ee (Ev.IM ((i+j)) (.mk rfl) (by rw[eK];rfl) qp zE) ?_;refine St.ee (Ev.Rf 1 2 (by decide) (.mk rfl) (.mk rfl) (by decide)) ?_;refine St.ee (Ev.IP (.mk rfl) (by rw[qp];rfl) eK zE) ?_;refine g7 ?_;refine St.ee (Ev.cM (k:=((i+j)/2)) (.mk rfl) (.mk rfl) kZ CH zE zE) ?_;refine g2 ?_;refine St.ee (Ev.call (Hr y w) ab2 (.ah rfl rfl)) ?_;refine g2 ?_;refine St.cond _ rfl (λe=> ?_) (λe=> ?_)
  ·skip
   refine g7 ?_
   have o:∀q y,q<(i+j)/2+1→W[q]?=some y→Op.bytesLess y w=true:=by
    intro q z A hz
    rcases cJ q ((i+j)/2)with g|g
    ·exact lV (Rl f hz hy g) e
    ·obtain rfl:q=(i+j)/2:=by omega
     rw[hy]at hz;exact Option.some.inj hz▸e
   refine St.aS ((i+j)/2+1,j) ⟨by show(i+j)/2+1≤j;omega,l,o,n⟩
  ·skip
   refine g6 ?_
   have o:∀q y,(i+j)/2≤q→W[q]?=some y→Op.bytesLess y w=false:=by
    intro q z A hz
    rcases cJ ((i+j)/2) q with g|g
    ·cases B:Op.bytesLess z w with
     |false=>rfl
     |true=>have:=lV (Rl f hy hz g) B;rw[e]at this;cases this
    ·obtain rfl:q=(i+j)/2:=by omega
     rw[hy]at hz;exact Option.some.inj hz▸e
   refine St.aS (i,(i+j)/2) ⟨v,by show(i+j)/2≤W.length;omega,m,o⟩
 ·have C:i=j:=by omega
  subst C
  have p:=OX f l m n
  refine g11 ?_;refine St.split 34 _ rfl (λb=> ?_) (λb=> ?_)
  ·have d:i<W.length:=by simpa using b
   obtain⟨y,hy⟩:=aF d;refine go ?_;refine St.cZ rfl rfl ?_;refine go ?_;refine St.cZ rfl rfl ?_;refine go ?_;refine St.cZ rfl rfl ?_;refine go ?_;refine St.cZ rfl rfl ?_;refine go ?_;refine St.cZ rfl rfl ?_;refine go ?_;refine St.cZ rfl rfl ?_;refine go ?_;refine St.split 41 _ rfl (λa=> ?_) (λa=> ?_)
   ·refine St.cZ rfl rfl ?_
    refine go ?_;refine St.cS rfl rfl rfl ?_;refine St.cS rfl rfl rfl ?_;refine St.cS rfl rfl rfl ?_;refine St.cS rfl rfl rfl ?_;refine St.cS rfl rfl rfl ?_;refine St.cS rfl rfl rfl ?_;refine St.qj rfl rfl rfl ?_;refine St.qj rfl rfl rfl ?_;refine St.cS rfl rfl rfl ?_;refine St.cZ rfl rfl ?_;refine St.ee (Ev.jt (.mk rfl) rfl (.mk rfl)) ?_;refine St.ee (Ev.jt (.mk rfl) rfl (.mk rfl)) ?_;refine g5 ?_;refine St.rV [_,_] [] ?_;exact zr p (by rw[hy,eq_comm,eJ,qu.1 a])
   ·refine St.cZ rfl rfl ?_
    refine go ?_;refine St.cZ rfl rfl ?_;refine go ?_;refine St.cZ rfl rfl ?_;refine go ?_;refine St.cZ rfl rfl ?_;refine go ?_;refine St.cZ rfl rfl ?_;refine go ?_;refine St.cZ rfl rfl ?_;refine St.ee (Ev.call (u7 y) Wg (.ay rfl)) ?_;refine St.cZ rfl rfl ?_;refine go ?_;refine St.gt _ rfl rfl (λs=>Ev.move (.mk rfl)) rfl ?_;refine St.gt _ rfl rfl (λs=>Ev.call (u7 w) Wg (.cons (aX.gv rfl s) .nil)) rfl ?_;refine St.cZ rfl rfl ?_;refine go ?_;refine St.cZ rfl rfl ?_;refine St.ee (Ev.mI (.mk rfl) rfl (.mk rfl)) ?_;refine St.ee (Ev.jt (.mk rfl) rfl (.mk rfl)) ?_;refine g5 ?_;refine St.rV [_,_] [] ?_;exact zr p (by rw[hy,eq_comm];simp only[Bool.and_false,Bool.false_and,decide_eq_false_iff_not,Option.some.injEq];intro q;rw[q]at a;simp at a)
  ·have d:W.length≤i:=by simpa using b
   refine go ?_;refine St.cS rfl rfl rfl ?_;refine St.cS rfl rfl rfl ?_;refine St.cS rfl rfl rfl ?_;refine St.cS rfl rfl rfl ?_;refine St.cS rfl rfl rfl ?_;refine St.cS rfl rfl rfl ?_;refine St.cS rfl rfl rfl ?_;refine St.qj rfl rfl rfl ?_;refine St.qj rfl rfl rfl ?_;refine St.qj rfl rfl rfl ?_;refine St.qj rfl rfl rfl ?_;refine St.qj rfl rfl rfl ?_;refine St.qj rfl rfl rfl ?_;refine St.qj rfl rfl rfl ?_;refine St.qj rfl rfl rfl ?_;refine St.qj rfl rfl rfl ?_;refine St.cS rfl rfl rfl ?_;refine St.ee (Ev.mI (.mk rfl) rfl (.mk rfl)) ?_;refine g5 ?_;refine St.rV [_,_] [] ?_;exact zr p (by rw[fT d];rfl)
theorem wZ (vl b d e f:Value)(W:List ab)(w:ab)(g:OG W)(h:W.length≤1000000):cX prog 51 #[.agg #[vl,b,d,e,f],sv w] [sl bZ b W] (iv (numOf W w:Nat)):=by
 refine cX.l6 (args:=[.agg #[vl,b,d,e,f],sv w]) 18 func51 rfl ntmps51 rfl (λc=> ?_);refine go ?_
 have i:=OY W w
 refine go ?_;refine St.cW (.mk rfl) rfl (λj=> ?_);refine g8 ?_;refine St.ee (Ev.call (tE b W w g h) ahQ (.ah rfl rfl)) ?_;refine g14 ?_;refine St.cond _ rfl (λa=> ?_) (λa=> ?_)
 ·simp only[Bool.not_eq_true',Bool.not_eq_false',decide_eq_true_eq,decide_eq_false_iff_not]at a
  refine g7 ?_;refine St.rV [_] [] ?_;exact ie (by unfold numOf;rw[aA a];rfl)
 ·simp only[Bool.not_eq_true',Bool.not_eq_false',decide_eq_true_eq,decide_eq_false_iff_not]at a
  refine g10 ?_;refine St.rV [_] [] ?_;exact ie (by unfold numOf;rw[aB a];omega)
theorem yA (v0:Value)(xs:List Int)(y:Int):cX prog 101 #[v0,iv y] [sl aI v0 xs] (.bool (xs.any (λx=>decide (y=x)))):=(qH v0 xs y)
theorem wL (v0:Value)(l:List ab)(h:l.length≤1000000):
 dR prog 48 #[v0] ([sl bZ v0 l].map aD) (λv H'=>v.oneCell'=true∧H'=[row v 9 1 l.length (rows bZ l)]):=by
 refine dR.Om (args:=[v0]) 8 func48 rfl ntmps48 rfl (λc=> ?_);refine go ?_;refine St.shape v0 (λad cap d e=> ?_);subst d;refine g8 ?_;refine St.ee (Ev.slnil (.mk rfl) kZ) ?_;refine g2 ?_;refine St.cq (λb=> ?_) (λb=> ?_)
 ·refine g7 ?_
  have f:l=[]:=e (by cases ad<;>simp[isNil]at b;rfl)
  subst f;refine St.dH 9 1 ?_;refine St.rV [_] [row (.slice none 0 0) 9 1 0 []] ?_;exact⟨rfl,rfl⟩
 ·refine g4 ?_
  refine St.hS rfl (.nil) kZ CH Xp rfl rfl (by simp[Value.cells]) rfl rfl (λi=> ?_);refine go ?_;refine St.oA (.mk rfl) (.mk rfl) kZ CH Xp by9 (mJ _ _) zE zE rfl rfl trivial rfl (λa g=> ?_);refine g4 ?_;refine St.aN a (show _=l.length by simp) (show _=rows bZ l by rfl) ?_;refine St.bQ a (λh1 _=> ?_);refine St.rV [_] [row a 9 bZ.size l.length (rows bZ l)] ?_;exact⟨h1,rfl⟩
end Go.Proofs.YtiefglecbgdaiaaGreatDoor
namespace Go.J
open Go Go.Proofs Go.Shelf Go.RowKit Go.Lib Go.Sort
theorem lU (xs:List ab):rows bZ xs=xs.map (λx=>sv x):=by
 induction xs with
 |nil=>rfl
 |cons x xs a=>simp only[rows,List.flatMap_cons,List.map_cons]at a⊢;rw[a];rfl
theorem Jk {P:Program}{tD:Ren}(L:SlLaysM.n6 P tD)(v:Value)(e:TypeId)(xs:List ab)(hlen:xs.length<4611686018427387904):
 dR P (tD.f 6) #[v] [row v e 1 xs.length (rows bZ xs)] (λu H'=>u= .tuple #[]∧H'=[row v e 1 xs.length (rows bZ (xs.mergeSort λx y=>decide (x≤y)))]):=by
 intro w ρ b
 have st:Start (([]:List dQ).map aD++ [row v e 1 xs.length (xs.map encStr)]) ρ w:=by
  rw[lU]at b;exact b
 have hO:j0 [row v e 1 xs.length (rows bZ xs)]=j0 (([]:List dQ).map aD++ [row v e 1 xs.length (xs.map encStr)]):=by rw[lU];rfl
 rw[hO]
 have h:=dP.1 (st.dC _ (iY _ (pq _)))
 have none:∀(p:Option Addr) (cap:Nat),v= .slice p 0 cap→xs=[]→Calls P (tD.f 6) #[v] w λi w'=>∃c H',i= .returned c∧
  (c= .tuple #[]∧H'=[row v e 1 xs.length (rows bZ (xs.mergeSort λx y=>decide (x≤y)))])∧Mm ⟨w,ρ,j0 (([]:List dQ).map aD++ [row v e 1 xs.length (xs.map encStr)]),True⟩ H' w':=by
  intro p cap a d
  have g:=AnyM.slices_Sort_string_none (P:=P) (ρ:=tD) L p cap w
  rw[←a]at g;refine g.mono ?_;rintro j w' ⟨rfl,rfl⟩;refine⟨_,_,rfl,⟨rfl,rfl⟩,?_⟩;rw[lU,d,show([]:List ab).mergeSort (λx y=>decide (x≤y))=[]from List.mergeSort_nil];rw[d]at st;exact st.stays
 rcases h.2 with⟨a,k⟩|⟨g0,cap,cur,a,_,l,m,o,q,r⟩
 ·exact none _ _ a (gg k)
 ·by_cases hz:xs.length=0
  ·rw[hz]at a;exact none _ _ a (gg hz)
  ·obtain⟨hH,hblk,hle,s⟩:=Start.sorted st a l m o q r
   have main:=AnyM.slices_Sort_string L g0 0 cap xs w hH hblk hlen
   rw[←a]at main;refine main.mono ?_;rintro j w' ⟨rfl,n,os,rfl⟩;refine⟨_,_,rfl,⟨rfl,rfl⟩,?_⟩;rw[lU]
   have:=s n (xs.mergeSort λx y=>decide (x≤y)).toArray os (by simp)
   exact this
end Go.J
namespace Go.Proofs.YtiefglecbgdaiaaGreatDoor
open Go Go.J Tryz
theorem Ve {enc:Nat→Value}{l:List Nat}{k:Nat}(h:k<l.length):(l.map enc)[k*1+0]?=some (enc (l.getD k 0)):=by
 rw[e8,fU,aw,dm 0 h];rfl
theorem RG (enc:Nat→Value)(l:List Nat)(k x:Nat):(l.map enc).set (k*1+0) (enc x)=(l.set k x).map enc:=by rw[e8,fU,k9]
theorem Gq (v:Value)(xs:List ab)(hlen:xs.length<4611686018427387904):dR prog 49 #[v] [row v 9 1 xs.length (rows bZ xs)] (λu H'=>u= .tuple #[]∧H'=[row v 9 1 xs.length (rows bZ (xs.mergeSort λx y=>decide (x≤y)))]):=
 Jk Tryz.zD v 9 xs hlen
theorem AX (en:Nat→ab)(v:Value)(l:List Nat)(hlen:l.length≤1000000):
 dR prog 50 #[v] [row v 9 1 l.length (l.map (λi=>sv (en i)))] (λu H'=>u.oneCell'=true∧H'=[row u 9 1 (dd (λa b=>en a==en b) l).length ((dd (λa b=>en a==en b) l).map (λi=>sv (en i)))]):=by
 refine dR.body (args:=[v]) 61 func50 rfl ntmps50 rfl (λc=> ?_);refine go ?_;refine St.bQ v (λA _=> ?_)
 generalize heq:(λa b=>en a==en b)=eq
 have f:∀a b,(en a==en b)=eq a b:=λa b=>by rw[←heq]
 refine g12 ?_;refine St.cq (λE=> ?_) (λE=> ?_)
 ·refine g8 ?_
  have d:=xc eq (l:=l) l.length (aQ _) (λj h1 p=>by omega)
  rw[fW]at d;refine St.rV [_] [row v 9 1 l.length (l.map (λi=>sv (en i)))] ?_
  rw[d];exact⟨A,rfl⟩
 ·refine g9 ?_
  refine St.lS (ι:=Nat) (λk T=>(3,iv k)::T) (λk=>1≤k∧k≤l.length∧∀j,0<j→j<k→eq (l.getD j 0) (l.getD (j-1) 0)=false) (λk=>l.length-k) 1 (aC.k1 0) ⟨aQ _,by omega,λj h1 p=>by omega⟩ ?_;intro k F;obtain⟨L,M,s⟩:=F;refine g9 ?_;refine St.cq (λt=> ?_) (λt=> ?_)
  ·have B:k<l.length:=by omega
   refine g5 ?_;refine St.rq mixed (by kernel_rfl) (Mm.drawn _ _) ?_;refine g3 ?_;refine Sq.ee (Ev.cx (.mk rfl) oc trivial zE (Ve B)) ?_;refine g3 ?_;refine Sq.ee (Ev.cw (k:=(k-1)) (.mk rfl) (.mk rfl) kZ CH zE zE) ?_;refine Sq.ee (Ev.cx (.mk rfl) oc trivial zE (Ve zE)) ?_;refine g3 ?_;refine St.cond _ rfl (λg=> ?_) (λg=> ?_)
   ·rw[f]at g
    refine g4 ?_;refine St.ee (Ev.sj (l:=k) (.mk rfl) (.mk rfl) kZ CH rfl zE) ?_;refine g10 ?_;refine St.lH (ι:=Nat×Nat×List Nat) (λx T=>(5,iv x.1)::(3,iv x.2.1)::T) (λx=>[row v 9 1 l.length (x.2.2.map (λi=>sv (en i)))]) (λx=>1≤x.1∧CF eq l (k+x.1) x.2.1 x.2.2) (λx=>l.length-(k+x.1)) (1,k,l) (aC.k2 0 4) ⟨aQ _,CF.start eq zE B s g⟩ ?_;rintro ⟨q,r,W⟩ ⟨G,e⟩
    dsimp only at G e⊢
    have H:=e.kj
    have I:=e.jl
    have J:=e.len
    refine g5 ?_;refine St.ee (Ev.ZJ (.mk rfl) kZ) ?_;refine g3 ?_;refine St.cq (λK=> ?_) (λK=> ?_)
    ·have C:k+q<l.length:=by omega
     have D:(W.map (λi=>sv (en i)))[(k+q)*1+0]?=some (sv (en (l.getD (k+q) 0))):=by rw[Ve zE,e.rest (k+q) zE]
     have e2:(W.map (λi=>sv (en i)))[(k+(q-1))*1+0]?=some (sv (en (l.getD (k+q-1) 0))):=by rw[Ve zE,e.rest (k+(q-1)) zE,show k+(q-1)=k+q-1 by have:=e.kj;omega]
     refine g5 ?_;refine St.rq mixed (by kernel_rfl) (Mm.drawn _ _) ?_;refine g2 ?_;refine Sq.ee (Ev.sV (j:=q) (.mk rfl) (.mk rfl) kZ CH rfl zE (aQ _)) ?_;refine Sq.ee (Ev.cx (.mk rfl) oc trivial zE D) ?_;refine g3 ?_;refine Sq.ee (Ev.sV (j:=(q-1)) (.mk rfl) (.mk rfl) kZ CH zE zE (aQ _)) ?_;refine Sq.ee (Ev.cx (.mk rfl) oc trivial zE e2) ?_;refine g3 ?_;refine St.cond _ rfl (λm=> ?_) (λm=> ?_)
     ·simp only[Bool.not_eq_true',Bool.not_eq_false',f]at m
      refine g6 ?_;refine St.ee (Ev.sV (j:=q) (.mk rfl) (.mk rfl) kZ CH rfl zE (aQ _)) ?_;refine St.ee (Ev.cx (.mk rfl) oc trivial zE D) ?_;refine go ?_;refine St.bz (.mk rfl) (.mk rfl) CH rfl zE (by decide) ?_;refine St.uQ v (RG (λi=>sv (en i)) _ _ _) ?_;refine g15 ?_;refine St.p5 (q+1,r+1,W.set r (l.getD (k+q) 0)) ⟨by show 1≤q+1;omega,e.pF eq C m⟩ (by show l.length-(k+(q+1))<l.length-(k+q);omega) (by repeat(first|exact Sub.nil|refine Sub.cons (by first|rfl|exact congrArg (λz=>some (iv z)) (by first|omega|(dsimp only;omega))|exact congrArg (λz=>some (Value.bool z)) (by first|assumption|exact ke (by assumption))) ?_)) (λ_ hw=>hw.sub)
     ·simp only[Bool.not_eq_true',Bool.not_eq_false',f]at m
      refine g9 ?_;refine St.p5 (q+1,r,W) ⟨by show 1≤q+1;omega,e.skip eq C m⟩ (by show l.length-(k+(q+1))<l.length-(k+q);omega) (by repeat(first|exact Sub.nil|refine Sub.cons (by first|rfl|exact congrArg (λz=>some (iv z)) (by first|omega|(dsimp only;omega))|exact congrArg (λz=>some (Value.bool z)) (by first|assumption|exact ke (by assumption))) ?_)) (λ_ hw=>hw.sub)
    ·have w:k+q=l.length:=by omega
     have n:=e.out
     have o:=e.num
     rw[w,fW]at n o;refine g9 ?_;refine St.ee (Ev.sj (l:=r) (.mk rfl) (.mk rfl) kZ CH rfl zE) ?_;refine St.Eu (.mk rfl) kZ Xp rfl rfl zE rfl ?_;refine g6 ?_;refine St.ee (Ev.mN (h:=r) (.mk rfl) (.mk rfl) kZ CH zE zE) ?_;refine g9 ?_;refine St.zd v r zE ?_;refine St.bQ (mX v 1 0 r) (λy _=> ?_);refine St.aN (mX v 1 0 r) o (show _=(dd eq l).map (λi=>sv (en i)) by rw[e8,List.take_append_of_le_length (by rw[cy,aR];omega),List.take_take,Nat.min_self,←List.map_take,n]) ?_;refine St.rV [_] [row (mX v 1 0 r) 9 1 (dd eq l).length ((dd eq l).map (λi=>sv (en i)))] ?_;exact⟨y,rfl⟩
   ·rw[f]at g
    refine g9 ?_;refine St.aS (k+1) ⟨by omega,by omega,λj h1 p=>by rcases cJ j k with q|q;exact s j h1 q;obtain rfl:j=k:=zE;exact g⟩
  ·have d:=xc eq (l:=l) l.length (aQ _) (λj h1 p=>s j h1 zE)
   rw[fW]at d;refine g12 ?_;refine St.rV [_] [row v 9 1 l.length (l.map (λi=>sv (en i)))] ?_
   rw[d];exact⟨A,rfl⟩
def kT:Rp (Nat×Nat):=⟨2,by decide,λx=>[iv (x.1:Nat),iv (x.2:Nat)],λ_=>True,λ_=>rfl,λ_ u h=>by simp at h;rcases h with rfl|rfl<;>rfl⟩
instance (x:Nat×Nat):gX kT x [iv (x.1:Nat),iv (x.2:Nat)]:=⟨rfl⟩
noncomputable abbrev Df (vl a b c d:Value) (l:List (List ab)):List dQ:=[Aq bZ vl l,sl bZ a (ak l),sl aI b (ints (fF l)),sl aI c (ints (dh (ints (fF l)))),sl kT d (cC 0 l)]
noncomputable def pC (vl a b c d:Value) (l:List (List ab)):dQ:=eY (Df vl a b c d l)
abbrev Iy (vl a b c d:Value):Value:= .agg #[vl,a,b,c,d]
def ZY (l:List (List ab)):List (List ab):=if(rP l).1=0 then l else []
theorem LN {l:List (List ab)}(h:(rP l).1=0):ZY l=l:=by unfold ZY;rw[aB h]
theorem Qp {l:List (List ab)}(h:(rP l).1≠0):ZY l=[]:=by unfold ZY;rw[aA h]
theorem Qo (l:List (List ab)):ow (ZY l):=by
 by_cases h:(rP l).1=0
 ·rw[LN h];exact(DG h).2
 ·rw[Qp h];exact ow.nil
theorem Gh {p:List Int}(h1:p.length≤2000)(a:∀x∈p,0≤x∧x≤1114111):fG p=(0,0):=by
 have key:∀(l:List Int) (k:Int),(∀x∈l,0≤x∧x≤1114111)→kI k l=(0,0):=by
  intro l
  induction l with
  |nil=>intro k _;rfl
  |cons x l b=>
   intro k h
   have:=h x (aV ..)
   rw[kI,aA zE]
   exact b _ λy hy=>h y (bV _ hy)
 unfold fG;rw[aA zE];exact key p 0 a
theorem Bn {l:List (List ab)}(h:ow l):fG (ints (fF l))=(0,0):=by
 refine Gh (by have:=sb h;rw[bO];omega) λx hx=> ?_
 obtain⟨n,a,rfl⟩:=cA.1 hx
 have:=Bm h n a
 omega
theorem L4 (ρ:Ro):(pC (.slice none 0 0) (.slice none 0 0) (.slice none 0 0) (.slice none 0 0) (.slice none 0 0) []).f ρ:=by
 have a:ak []=[]:=by
  have h:=Ki (qk ([]:List (List ab)).flatten)
  rw[vx]at h;exact gg (by unfold ak;simpa using h)
 have e2:fF []=[]:=rfl
 have b:dh (ints [])=[]:=gg (by rw[y7];rfl)
 unfold pC eY;intro d hd
 simp only[Df,a,e2,b,cC,List.mem_cons,List.not_mem_nil,or_false]at hd
 rcases hd with rfl|rfl|rfl|rfl|rfl
 ·exact⟨[],rfl,j1 _ _,λi u l h=>by simp at h⟩
 ·exact j1 _ _
 ·exact j1 _ _
 ·exact j1 _ _
 ·exact j1 _ _
theorem sf {X Y:List Nat}{n:Nat}(h:Y=X++ [n]):rows aI (ints X)++ [iv (n:Nat)]=rows aI (ints Y):=by rw[h,Mt,bB];rfl
theorem se {X Y:List (Nat×Nat)}{n:Nat×Nat}(h:Y=X++ [n]):rows kT X++ [iv (n.1:Nat),iv (n.2:Nat)]=rows kT Y:=by rw[h,bB];rfl
theorem JZ (xs:List ab):rows bZ xs=(List.range xs.length).map (λi=>sv (Ac xs i)):=by
 rw[lU]
 conv=>lhs;rw[←Bt xs]
 rw[iX];rfl
theorem Vg (xs:List ab):(dd (λa b=>Ac xs a==Ac xs b) (List.range xs.length)).map (λi=>sv (Ac xs i))=rows bZ (UP xs):=by
 rw[lU,UP,iX];rfl
theorem G6 {s:List ab}{k:Nat}{w:ab}(hw:s[k]?=some w)(f:ab→Nat)(X:List Nat):X++(s.take (k+1)).map f=(X++(s.take k).map f)++ [f w]:=by rw[aO hw];simp
theorem GS (i k:Nat)(X:List (Nat×Nat)):X++(List.range (k+1)).map (λk=>(i,k))=(X++(List.range k).map (λk=>(i,k)))++ [(i,k)]:=by rw[mU];simp
theorem Bo {l:List (List ab)}{i:Nat}{s:List ab}(a:l[i]?=some s)(f:ab→Nat):ew f (l.take (i+1))=(ew f (l.take i)++s.map f)++ [0]:=by rw[aO a,JR,cr]
theorem Br {l:List (List ab)}{i:Nat}{s:List ab}(a:l[i]?=some s):cC 0 (l.take (i+1))=(cC 0 (l.take i)++(List.range s.length).map (λk=>(i,k)))++ [(i,s.length)]:=by
 have b:=ag a
 rw[aO a,uJ,mU,cy,gB zE];simp
theorem uM {l:List (List ab)}(h:ow l)(i:Nat)(f:ab→Nat):(ew f (l.take i)).length≤1300:=by
 rw[vZ]
 have b:=ly (l:=l.take i) (m:=12) λs a=>(h.each s (xA a)).2.1
 have:=h.len
 have:(l.take i).length≤l.length:=List.length_take_le' ..
 omega
theorem Dv {l:List (List ab)}(h:ow l)(i:Nat):(cC 0 (l.take i)).length≤1300:=by
 rw[pN (λ_=>0)];exact uM h i _
theorem Ad {l:List (List ab)}(h:ow l)(i:Nat):(l.take i).flatten.length≤1200:=by
 have b:=ly (l:=l.take i) (m:=12) λs a=>(h.each s (xA a)).2.1
 have:=h.len
 have:(l.take i).length≤l.length:=List.length_take_le' ..
 omega
theorem BX {l:List (List ab)}{i:Nat}{s:List ab}(a:l[i]?=some s):(l.take (i+1)).flatten=(l.take i).flatten++s:=by rw[aO a];simp
theorem LJ {l:List (List ab)}(h:ow l){i:Nat}{s:List ab}(a:l[i]?=some s):s.length≤12:=(h.each s (aa a)).2.1
theorem wK (v0:Value)(l:List (List ab)):AK prog 14 #[v0] ([Aq bZ v0 l,u8].map aD) (λu H'=>∃vl f b g d,u= .tuple #[Iy vl f b g d,fv (rP l)]∧vl.oneCell'=true∧f.oneCell'=true∧b.oneCell'=true∧g.oneCell'=true∧d.oneCell'=true∧H'=[aD (pC vl f b g d (ZY l))]):=by
 refine AK.body (args:=[v0]) 117 func14 rfl ntmps14 rfl (λc TC=> ?_);refine go ?_;refine St.cast (H':=[aD (Aq bZ v0 l),aD u8]) rfl ?_;refine St.Ds v0 (λvs G=> ?_);refine St.wf v0 (λhwf hlen=> ?_);refine St.afQ vs G (λr=> ?_);refine go ?_;refine St.al (λB=> ?_);refine St.al (λC=> ?_);refine g10 ?_;refine St.cq (λh16=> ?_) (λh16=> ?_)
 ·have t:rP l=(2,-1):=by unfold rP;rw[aB zE]
  refine g2 ?_;refine St.ee (Ev.build (bC.nil) (λw=>Oj w)) ?_;refine St.ee (Ev.build (bC.ah rfl rfl) (λw=>dJ rfl rfl w)) ?_;refine g6 ?_;refine St.fact _ (λρ _ _=>L4 ρ) ?_;refine St.rV [_,_] [aD (pC (.slice none 0 0) (.slice none 0 0) (.slice none 0 0) (.slice none 0 0) (.slice none 0 0) [])] ?_
  rw[Qp (by rw[t];decide),t];exact⟨_,_,_,_,_,rfl,rfl,rfl,rfl,rfl,rfl,rfl⟩
 ·refine g11 ?_
  refine St.lS (ι:=Nat) (λk T=>(21,iv k)::T) (λk=>k≤l.length∧rP l=lF k (l.drop k)) (λk=>l.length-k) 0 (aC.k5 0 2 3 19 20) ⟨aP _,by unfold rP;rw[aA zE];rfl⟩ ?_;intro k Mn;obtain⟨hk,H⟩:=Mn;refine g6 ?_;refine St.cq (λh22=> ?_) (λh22=> ?_)
  ·obtain⟨s,a⟩:=aF (show k<l.length by omega)
   obtain⟨u,hu⟩:=aF (show k<vs.length by omega);refine St.pf (vs:=vs) k hu a ?_;refine g17 ?_;refine St.ee (Ev.lp TC (AY u.1 s k) ag5 (.ah rfl rfl)) ?_;refine St.al (λb6=> ?_);refine g10 ?_;refine St.cq (λI=> ?_) (λI=> ?_)
   ·have U:rP l=pg s k:=by rw[H,tY a,aB I]
    refine go ?_;refine St.qe [B,C] mixed (λV W=> ?_);refine SW.dd 0 rfl (λ_=>Ev.build (ps:=[]) (bC.nil) (λw=>Oj w)) ?_;refine SW.gd 1 ?_;refine SW.t1 2 ?_;refine g3 ?_;refine SW.go ?_;refine SW.t1 3 ?_;refine g3 ?_;refine SW.go ?_;refine SW.dn ?_;refine g7 ?_;refine St.fact _ (λρ _ _=>L4 ρ) ?_;refine St.rV [_,_] [aD (pC (.slice none 0 0) (.slice none 0 0) (.slice none 0 0) (.slice none 0 0) (.slice none 0 0) [])] ?_
    rw[Qp (by rw[U];exact I),U];exact⟨_,_,_,_,_,rfl,rfl,rfl,rfl,rfl,rfl,rfl⟩
   ·refine g8 ?_
    refine St.aS (k+1) ⟨by omega,by rw[H,tY a,aA zE]⟩
  ·have j:rP l=(0,0):=by rw[H,fS zE];rfl
   have e:=(DG (l:=l) (by rw[j])).2
   have adZ:=e.len
   refine g7 ?_;refine St.al (λv=> ?_);refine g11 ?_;refine St.dH 9 1 ?_;refine St.aN (.slice none 0 0) (show _=((l.take 0).flatten).length from rfl) (show _=rows bZ (l.take 0).flatten from rfl) ?_;refine St.dH 34 1 ?_;refine St.aN (.slice none 0 0) (show _=0 from rfl) (show _=rows bU []from rfl) ?_;refine St.sd bZ ?_;refine St.cast (H':=_::_) (show aD (pf bZ [] [])::_=aD (pf bZ [] (l.take 0))::_ from rfl) ?_;refine St.pb (ι:=Nat) (κ:=Value×Value×List aY) (λk z T=>(37,iv k)::T) (λk z=>[tI v [z.1,z.2.1,.slice none 0 0,.slice none 0 0,.slice none 0 0] 63,row z.1 34 1 k (rows bU z.2.2),aD (pf bZ z.2.2 (l.take k)),row z.2.1 9 1 (l.take k).flatten.length (rows bZ (l.take k).flatten),aD (sl bU v0 vs),aD (pf bZ vs l),tI C [iv 0,iv 0] 39,tI B [.slice none 0 0,.slice none 0 0,.slice none 0 0,.slice none 0 0,.slice none 0 0] 63]) (λk z=>k≤l.length∧z.2.2.length=k∧z.1.oneCell'=true∧z.2.1.oneCell'=true) (λk z=>l.length-k) 0 (.slice none 0 0,.slice none 0 0,[]) (aC.k5 2 3 7 35 36) ⟨aP _,rfl,rfl,rfl⟩ ?_;rintro k ⟨vl,f,us⟩ ⟨hk,D,K,hw1⟩
   dsimp only at D K hw1⊢
   have TD:=Ad e k
   refine g6 ?_;refine St.cq (λh38=> ?_) (λh38=> ?_)
   ·obtain⟨s,a⟩:=aF (show k<l.length by omega)
    obtain⟨u,hu⟩:=aF (show k<vs.length by omega);refine St.pf (vs:=vs) k hu a ?_
    have L:=LJ e a
    refine g12 ?_;refine St.dZ [tI v [vl,f,.slice none 0 0,.slice none 0 0,.slice none 0 0] 63,row vl 34 1 k (rows bU us)] mixed (λV W=> ?_)
    repeat' first
     |with_reducible refine SW.me ?_
      first
       |refine SW.gd 0 ?_
       |refine SW.gd 2 ?_
       |refine SW.gd 6 ?_
       |refine SW.t2 1 3 ?_ ?_
       |refine SW.t1 3 ?_
       |refine SW.t1 4 ?_
       |refine SW.t1 5 ?_
       |refine SW.t1 7 ?_
       |refine SW.t2 1 4 ?_ ?_
       |refine SW.t1 1 ?_
     |with_reducible refine SW.tg 1 ?_
      refine g3 ?_;refine SW.go ?_
     |with_reducible refine SW.tg 3 ?_
      refine St.dt (wL u.1 s zE) acX (.ay rfl) rfl ?_;rintro v44 _ ⟨m,rfl⟩;refine St.eZ ?_;refine St.bI v44 bZ s rfl rfl (r s (aa a)) ?_;refine g2 ?_;refine SW.go ?_
     |with_reducible refine SW.tg 4 ?_
      refine St.hS rfl (.ay rfl) K4 Jt aaU rfl rfl (by simp[J.cells_one m]) rfl rfl (λb45=> ?_);refine g2 ?_;refine SW.go ?_
     |with_reducible refine SW.tg 5 ?_
      refine St.aq (.mk rfl) (.mk rfl) K4 Jt aaU agT (by simp[J.cells_one m,m]) zE zE rfl rfl rfl rfl (λv46 ai2=> ?_);refine St.aN v46 (show _=k+1 from rfl) (show _=rows bU (us++ [⟨v44,m⟩]) by rw[bB];simp[J.cells_one m];rfl) ?_;refine St.bQ v46 (λX _=> ?_);refine g2 ?_;refine SW.go ?_
     |with_reducible refine SW.tg 7 ?_
      refine St.bL (.mk rfl) (.mk rfl) ajQ X (by rfl) ?_;refine g2 ?_;refine SW.go ?_
    all_goals refine SW.dn ?_
    all_goals
     refine g5 ?_;refine St.oA (.mk rfl) (.mk rfl) kZ CH Xp by9 (mJ _ _) zE zE rfl rfl trivial rfl (λv51 alB=> ?_);refine St.Zj v51 (show _=1 from rfl) (show _=(l.take (k+1)).flatten.length by rw[BX a];simp) (show _=rows bZ (l.take (k+1)).flatten by rw[BX a];simp[rows]) ?_;refine St.bQ v51 (λY _=> ?_);refine go ?_;refine St.bL (.mk rfl) (.mk rfl) Jt Y (by rfl) ?_;refine g8 ?_;refine St.Dz us ⟨v44,m⟩ (by rw[cy];omega) ?_;rw[←aO a];refine St.py (k+1) (v46,v51,us++ [⟨v44,m⟩]) ⟨by omega,by simp[D],X,Y⟩
   ·obtain rfl:k=l.length:=by omega
    rw[fW]at TD⊢
    have Mq:=kb e
    have ET:=vx l.flatten
    refine g9 ?_;refine St.call (Gq f l.flatten zE) ag6 (.ay rfl) rfl ?_;rintro v56 _ ⟨rfl,rfl⟩;refine St.eZ ?_;refine St.aN f (show _=(List.range (qk l.flatten).length).length by rw[db,ET]) (show _=(List.range (qk l.flatten).length).map (λi=>sv (Ac (qk l.flatten) i))from JZ _) ?_;refine g6 ?_;refine St.call (AX (Ac (qk l.flatten)) f (List.range (qk l.flatten).length) (by rw[db];omega)) ag7 (.ay rfl) rfl ?_;rintro v59 _ ⟨o,rfl⟩;refine St.eZ ?_;refine St.aN v59 (show _=(ak l).length by unfold ak UP;rw[aR]) (show _=rows bZ (ak l)from Vg _) ?_;refine St.bI v59 bZ (ak l) rfl rfl (λw hw=>by obtain⟨s,a,hw⟩:=(qt l w).1 hw;exact r s a w hw) ?_;refine go ?_;refine St.bL (.mk rfl) (.mk rfl) Jt o (by rfl) ?_;refine g4 ?_;refine St.bI vl bU us rfl D.symm (λ_ _=>trivial) ?_
    have aiZ:=nN l
    refine g8 ?_;refine St.dH 133 2 ?_;refine St.aN (.slice none 0 0) (show _=(cC 0 (l.take 0)).length from rfl) (show _=rows kT (cC 0 (l.take 0))from rfl) ?_;refine St.dH 3 1 ?_;refine St.aN (.slice none 0 0) (show _=(ew (numOf (ak l)) (l.take 0)).length from rfl) (show _=rows aI (ints (ew (numOf (ak l)) (l.take 0)))from rfl) ?_;refine St.pb (ι:=Nat) (κ:=Value×Value) (λi z T=>(64,iv i)::T) (λi z=>[tI v [vl,v59,z.1,.slice none 0 0,z.2] 63,row z.1 3 1 (ew (numOf (ak l)) (l.take i)).length (rows aI (ints (ew (numOf (ak l)) (l.take i)))),row z.2 133 2 (cC 0 (l.take i)).length (rows kT (cC 0 (l.take i))),aD (sl bU vl us),aD (pf bZ us l),aD (sl bZ v59 (ak l)),tI C [iv 0,iv 0] 39,tI B [.slice none 0 0,.slice none 0 0,.slice none 0 0,.slice none 0 0,.slice none 0 0] 63]) (λi z=>i≤l.length∧z.1.oneCell'=true∧z.2.oneCell'=true) (λi z=>l.length-i) 0 (.slice none 0 0,.slice none 0 0) (aC.k5 2 3 7 62 63) ⟨aP _,rfl,rfl⟩ ?_;rintro i ⟨b,d⟩ ⟨hi,E,F⟩
    dsimp only at E F⊢
    have M:=uM e i (numOf (ak l))
    have N:=Dv e i
    refine g6 ?_;refine St.cq (λO=> ?_) (λO=> ?_)
    ·obtain⟨s,a⟩:=aF (show i<l.length by omega)
     obtain⟨u,hu⟩:=aF (show i<us.length by omega);refine St.pf (vs:=us) i hu a ?_
     have L:=LJ e a
     refine g22 ?_;refine St.aN b (show _=(ew (numOf (ak l)) (l.take i)++(s.take 0).map (numOf (ak l))).length by simp) (show _=rows aI (ints (ew (numOf (ak l)) (l.take i)++(s.take 0).map (numOf (ak l)))) by simp) ?_;refine St.aN d (show _=(cC 0 (l.take i)++(List.range 0).map (λk=>(i,k))).length by simp) (show _=rows kT (cC 0 (l.take i)++(List.range 0).map (λk=>(i,k))) by simp) ?_;refine St.pb (ι:=Nat) (κ:=Value×Value) (λk z T=>(71,iv k)::T) (λk z=>[tI v [vl,v59,z.1,.slice none 0 0,z.2] 63,row z.1 3 1 (ew (numOf (ak l)) (l.take i)++(s.take k).map (numOf (ak l))).length (rows aI (ints (ew (numOf (ak l)) (l.take i)++(s.take k).map (numOf (ak l))))),row z.2 133 2 (cC 0 (l.take i)++(List.range k).map (λk=>(i,k))).length (rows kT (cC 0 (l.take i)++(List.range k).map (λk=>(i,k)))),aD (sl bZ u.1 s),aD (sl bU vl us),aD (pf bZ us l),aD (sl bZ v59 (ak l)),tI C [iv 0,iv 0] 39,tI B [.slice none 0 0,.slice none 0 0,.slice none 0 0,.slice none 0 0,.slice none 0 0] 63]) (λk z=>k≤s.length∧z.1.oneCell'=true∧z.2.oneCell'=true) (λk z=>s.length-k) 0 (b,d) (aC.k10 2 3 7 10 11 62 63 64 69 70) ⟨aP _,E,F⟩ ?_;rintro k ⟨wp,Z⟩ ⟨hk3,P,Q⟩
     dsimp only at P Q⊢
     have hp3:(ew (numOf (ak l)) (l.take i)++(s.take k).map (numOf (ak l))).length≤1312:=by rw[bJ,aR,cy];omega
     have hc3:(cC 0 (l.take i)++(List.range k).map (λk=>(i,k))).length≤1312:=by rw[bJ,aR,db];omega
     refine g6 ?_;refine St.cq (λR=> ?_) (λR=> ?_)
     ·obtain⟨w,hw⟩:=aF (show k<s.length by omega)
      refine g14 ?_;refine St.dZ [tI v [vl,v59,wp,.slice none 0 0,Z] 63,row wp 3 1 (ew (numOf (ak l)) (l.take i)++(s.take k).map (numOf (ak l))).length (rows aI (ints (ew (numOf (ak l)) (l.take i)++(s.take k).map (numOf (ak l)))))] mixed (λV W=> ?_)
      repeat' first
       |with_reducible refine SW.me ?_
        first
         |refine SW.gd 0 ?_
         |refine SW.gd 3 ?_
         |refine SW.dd 4 rfl (λ_=>Ev.call (wZ vl v59 wp (.slice none 0 0) Z (ak l) w aiZ zE) acY (.ah rfl rfl)) ?_
         |refine SW.gd 7 ?_
         |refine SW.t2 1 2 ?_ ?_
         |refine SW.t1 2 ?_
         |refine SW.t1 5 ?_
         |refine SW.t1 6 ?_
         |refine SW.t1 8 ?_
         |refine SW.t2 1 5 ?_ ?_
         |refine SW.t1 1 ?_
       |with_reducible refine SW.tg 1 ?_
        refine g3 ?_;refine SW.go ?_
       |with_reducible refine SW.tg 2 ?_
        refine g3 ?_;refine SW.go ?_
       |with_reducible refine SW.tg 5 ?_
        refine St.hS rfl (.ay rfl) cP eL jF rfl rfl (by simp[Value.cells]) rfl rfl (λb81=> ?_);refine g2 ?_;refine SW.go ?_
       |with_reducible refine SW.tg 6 ?_
        refine St.aq (.mk rfl) (.mk rfl) cP eL jF vD (by simp[Value.oneCell',Value.cells]) zE zE rfl rfl rfl rfl (λv82 aeK=> ?_);refine St.aN v82 (show _=(ew (numOf (ak l)) (l.take i)++(s.take (k+1)).map (numOf (ak l))).length by rw[G6 hw];exact cH) (show _=rows aI (ints (ew (numOf (ak l)) (l.take i)++(s.take (k+1)).map (numOf (ak l))))from sf (G6 hw _ _)) ?_;refine St.bQ v82 (λh82 _=> ?_);refine g2 ?_;refine SW.go ?_
       |with_reducible refine SW.tg 8 ?_
        refine St.bL (.mk rfl) (.mk rfl) jm h82 (by rfl) ?_;refine g2 ?_;refine SW.go ?_
      all_goals refine SW.dn ?_
      all_goals
       refine g6 ?_;refine St.ee (Ev.build (bC.ah rfl rfl) (λw=>yR rfl rfl w)) ?_;refine St.hS rfl (.ay rfl) HJ sH Ce rfl rfl (by simp[Value.cells]) rfl rfl (λb89=> ?_);refine St.aq (.mk rfl) (.mk rfl) HJ sH Ce Oq (by simp[Value.oneCell',Value.cells]) zE zE rfl rfl rfl rfl (λp alL=> ?_);refine St.aN p (show _=(cC 0 (l.take i)++(List.range (k+1)).map (λk=>(i,k))).length by rw[GS];exact cH) (show _=rows kT (cC 0 (l.take i)++(List.range (k+1)).map (λk=>(i,k)))from se (n:=(i,k)) (GS _ _ _)) ?_;refine St.bQ p (λy _=> ?_);refine go ?_;refine St.bL (.mk rfl) (.mk rfl) af8 y (by rfl) ?_;refine g8 ?_;refine St.py (k+1) (v82,p) ⟨by omega,h82,y⟩
     ·obtain rfl:k=s.length:=by omega
      refine g9 ?_;refine St.hS rfl (.ay rfl) cP eL jF rfl rfl (by simp[Value.cells]) rfl rfl (λb95=> ?_);refine St.aq (.mk rfl) (.mk rfl) cP eL jF vD (by simp[Value.oneCell',Value.cells]) zE zE rfl rfl rfl rfl (λS aeL=> ?_);refine St.aN S (show _=(ew (numOf (ak l)) (l.take (i+1))).length by rw[Bo a,fW];exact cH) (show _=rows aI (ints (ew (numOf (ak l)) (l.take (i+1))))from sf (by rw[Bo a,fW])) ?_;refine St.bQ S (λPg _=> ?_);refine go ?_;refine St.bL (.mk rfl) (.mk rfl) jm Pg (by rfl) ?_;refine g8 ?_;refine St.ee (Ev.build (bC.ah rfl rfl) (λw=>yR rfl rfl w)) ?_;refine St.hS rfl (.ay rfl) HJ sH Ce rfl rfl (by simp[Value.cells]) rfl rfl (λagQ=> ?_);refine St.aq (.mk rfl) (.mk rfl) HJ sH Ce Oq (by simp[Value.oneCell',Value.cells]) zE zE rfl rfl rfl rfl (λv105 aeI=> ?_);refine St.aN v105 (show _=(cC 0 (l.take (i+1))).length by rw[Br a];exact cH) (show _=rows kT (cC 0 (l.take (i+1)))from se (n:=(i,s.length)) (Br a)) ?_;refine St.bQ v105 (λIm _=> ?_);refine go ?_;refine St.bL (.mk rfl) (.mk rfl) af8 Im (by rfl) ?_;refine g8 ?_;refine St.py (i+1) (S,v105) ⟨by omega,Pg,Im⟩
    ·obtain rfl:i=l.length:=by omega
     rw[fW]at M N⊢
     have A:=Bn e
     have hnl:=sb e
     refine St.bI b aI (ints (fF l)) rfl (bO _).symm (yz λx hx=>by have:=Bm e x hx;omega) ?_;refine St.bI d kT (cC 0 l) rfl rfl (λ_ _=>trivial) ?_;refine g9 ?_;refine St.dt (Ay b (ints (fF l))) ag8 (.ay rfl) rfl ?_;rintro Ni _ ⟨g,rfl,q,rfl⟩;refine St.eZ ?_;rw[WT (by rw[A]),A];refine St.bI g aI (ints (dh (ints (fF l)))) rfl (bO _).symm (Ru (by rw[bO];omega)) ?_;refine g4 ?_;refine St.bL (.mk rfl) (.mk rfl) jm q (by rfl) ?_;refine g5 ?_;refine St.ee (Ev.build (bC.nil) (λw=>fC w)) ?_;refine St.sA (.mk rfl) (.mk rfl) S1 ?_ (h1:=(by simp[K,o,E,q,F]));refine g4 ?_;refine St.JF (Rr:=bZ) (l:=l) vl (vs:=us) D ?_;refine St.gW (pC vl v59 b g d l) (Df vl v59 b g d l) (λρ h=>h) ?_;refine St.rV [_,_] [aD (pC vl v59 b g d l)] ?_
     rw[LN (by rw[j]),j];exact⟨_,_,_,_,_,rfl,K,o,E,q,F,rfl⟩
theorem Q3 {a b:List Nat}:ints a=ints b↔a=b:=by
 constructor
 ·intro h
  have:=congrArg (List.map Int.toNat) h
  simpa[ints,List.map_map,Function.comp_def]using this
 ·intro h;rw[h]
theorem GR (a b:List Nat):placesOf (ints a) (ints b)=(List.range a.length).filter λi=>decide ((a.drop i).take b.length=b):=by
 unfold placesOf
 simp only[bO]
 apply List.filter_congr
 intro i _
 have e:pre (ints a) b.length i=ints ((a.drop i).take b.length):=by
  unfold pre
  simp[ints,List.map_drop,List.map_take]
 rw[e];exact decide_eq_decide.2 Q3
def fnH (l:List (List ab))(p:List ab):List (Nat×Nat):=if(pe p).1=0 then fP l p else []
theorem PZ {l:List (List ab)}{p:List ab}(h:(pe p).1=0):fnH l p=fP l p:=by unfold fnH;rw[aB h]
theorem X4 {l:List (List ab)}{p:List ab}(h:(pe p).1≠0):fnH l p=[]:=by unfold fnH;rw[aA h]
theorem JJ {l:List (List ab)}(h:ow l)(p:List ab):∀x∈ints (p.map (numOf (ak l))),aI.wf x:=yz λi a=>by
 obtain⟨w,_,rfl⟩:=cA.1 a
 have:=GK (ak l) w
 have:=kb h
 omega
theorem NL {p part:List Int}(h:p.length≤2000):∀x∈ints (placesOf p part),aI.wf x:=yz λi a=>by have:=wa a;omega
theorem JN (p part:List Int):(placesOf p part).length≤p.length:=by
 have:=AJ (λi=>decide (pre p part.length i=part)) (List.range p.length)
 rw[db]at this;exact this
theorem any_zero (xs:List Nat):((ints xs).any λx=>decide ((0:Int)=x))=decide ((0:Nat)∈xs):=by
 rw[rh,uq,eJ]
 constructor
 ·rintro ⟨x,hx,h⟩
  obtain⟨i,a,rfl⟩:=cA.1 hx
  have h:=gU h
  rw[show(0:Nat)=i by omega];exact a
 ·intro h
  exact⟨0,cA.2 ⟨0,h,rfl⟩,by simp⟩
theorem Ze {l:List (List ab)}{i:Nat}(h:i<(fF l).length):i<(cC 0 l).length:=by rw[pN (numOf (ak l))];exact h
theorem NK {l:List (List ab)}{b:List Int}{i:Nat}(h:i∈placesOf (ints (fF l)) b):i<(cC 0 l).length:=by
 have:=wa h
 rw[bO]at this;exact Ze this
theorem Ps {l:List (List ab)}{p:List ab}(hp:p≠ [])(a:(0:Nat)∉p.map (numOf (ak l))):(placesOf (ints (fF l)) (ints (p.map (numOf (ak l))))).map (λi=>(cC 0 l).getD i (0,0))=fP l p:=by
 have:=FR (l:=l) hp
 rw[aA a]at this
 rw[GR];exact this
theorem Ml {l:List (List ab)}{p:List ab}(hp:p≠ [])(a:(0:Nat)∈p.map (numOf (ak l))):fP l p=[]:=by
 have:=FR (l:=l) hp
 rw[aB a]at this;exact this.symm
theorem Pt {l:List (List ab)}(h:ow l)(p:List ab):(fP l p).length≤1200:=by
 have key:∀(l:List (List ab)) (i:Nat),(gn p i l).length≤l.flatten.length:=by
  intro l
  induction l with
  |nil=>intro i;simp[gn]
  |cons s l b=>
   intro i
   have h1:=b (i+1)
   have a:=AJ (λk=>ja s k p) (List.range s.length)
   rw[db]at a
   simp only[gn,Iv,List.length_append,List.length_map,List.flatten_cons]
   omega
 have h1:=key l 0
 have a:=ly (m:=12) λs c=>(h.each s c).2.1
 have:=h.len
 unfold fP;omega
theorem KB (vl j e f g v1:Value)(l:List (List ab))(p:List ab)(x:ow l):AK prog 54 #[Iy vl j e f g,v1] ([pC vl j e f g l,sl bZ v1 p,u8].map aD) (λu H'=>∃A,u= .tuple #[A,fv (pe p)]∧A.oneCell'=true∧H'=[aD (sl kT A (fnH l p))]):=by
 refine AK.body (args:=[Iy vl j e f g,v1]) 71 func54 rfl ntmps54 rfl (λc O=> ?_);refine go ?_;refine St.cast (H':=[aD (pC vl j e f g l),aD (sl bZ v1 p),aD u8]) rfl ?_;refine St.gG (pC vl j e f g l) (λ_:Unit=>Df vl j e f g l) (λρ h=>⟨(),h⟩) (λ_=> ?_);unfold Df;refine St.YE ?_;refine St.wf v1 (λP hlen=> ?_)
 have Mq:=kb x
 have Q:=nN l
 have B:=Bn x
 have hnl:=sb x
 refine go ?_;refine St.cW (.mk rfl) rfl (λJ=> ?_);refine go ?_;refine St.al (λK=> ?_);refine g9 ?_;refine St.gf _ rfl rfl (λy=>Ev.move (.mk rfl)) rfl ?_;refine St.gf _ rfl rfl (λy=>Ev.eu (aX.gv rfl y) kZ) rfl ?_;refine St.gf _ rfl rfl (λy=>Ev.gtr (aX.gv rfl y) (.mk rfl)) rfl ?_;refine g3 ?_;refine St.cq (λL=> ?_) (λL=> ?_)
 ·have r:pe p=(9,-1):=by unfold pe;rw[aB zE]
  refine g2 ?_;refine St.ee (Ev.build (bC.ah rfl rfl) (λw=>dJ rfl rfl w)) ?_;refine g6 ?_;refine St.gb kT ?_;refine St.rV [_,_] [aD (sl kT (.slice none 0 0) [])] ?_
  rw[X4 (by rw[r];decide),r];exact⟨_,rfl,rfl,rfl⟩
 ·refine g16 ?_
  refine St.dH 3 1 ?_;refine St.aN (.slice none 0 0) (show _=((p.take 0).map (numOf (ak l))).length from rfl) (show _=rows aI (ints ((p.take 0).map (numOf (ak l))))from rfl) ?_;refine St.pb (ι:=Nat) (κ:=Value) (λk z T=>(25,iv k)::(6,z)::T) (λk z=>[row z 3 1 ((p.take k).map (numOf (ak l))).length (rows aI (ints ((p.take k).map (numOf (ak l))))),tI J [vl,j,e,f,g] 63,tI K [iv 0,iv 0] 39,aD (Aq bZ vl l),aD (sl bZ j (ak l)),aD (sl aI e (ints (fF l))),aD (sl aI f (ints (dh (ints (fF l))))),aD (sl kT g (cC 0 l)),aD (sl bZ v1 p),aD u8]) (λk z=>k≤p.length∧z.oneCell'=true∧pe p=j5 k (p.drop k)) (λk z=>p.length-k) 0 (.slice none 0 0) (aC.k4 2 5 23 24) ⟨aP _,rfl,by unfold pe;rw[aA zE];rfl⟩ ?_;intro k z C;obtain⟨hk,TJ,D⟩:=C
  have R:((p.take k).map (numOf (ak l))).length≤12:=by rw[aR,cy];omega
  refine g6 ?_;refine St.cq (λS=> ?_) (λS=> ?_)
  ·obtain⟨w,hw⟩:=aF (show k<p.length by omega)
   have U:=aa hw
   refine g17 ?_;refine St.ee (Ev.lp O (lO w (aaP (P w U))) MV (.ay rfl)) ?_;refine g3 ?_;refine St.cond _ rfl (λs=> ?_) (λs=> ?_)
   ·simp only[Bool.not_eq_true',Bool.not_eq_false']at s
    have r:pe p=(10,(k:Int)):=by rw[D,kP hw,aA (by rw[s];decide)]
    refine g3 ?_;refine St.ee (Ev.build (bC.ah rfl rfl) (λw=>dJ rfl rfl w)) ?_;refine g11 ?_;refine St.gb kT ?_;refine St.rV [_,_] [aD (sl kT (.slice none 0 0) [])] ?_
    rw[X4 (by rw[r];show(10:Int)≠0;decide),r];exact⟨_,rfl,rfl,rfl⟩
   ·simp only[Bool.not_eq_true',Bool.not_eq_false']at s
    refine g6 ?_;refine St.ee (Ev.call (wZ vl j e f g (ak l) w Q zE) acY (.ah rfl rfl)) ?_;refine St.hS rfl (.ay rfl) cP eL jF rfl rfl (by simp[Value.cells]) rfl rfl (λV=> ?_);refine St.aq (.mk rfl) (.mk rfl) cP eL jF vD (by simp[Value.oneCell',Value.cells]) zE zE rfl rfl rfl rfl (λv40 W=> ?_);refine St.aN v40 (show _=((p.take (k+1)).map (numOf (ak l))).length by rw[aO hw,cL];exact cH) (show _=rows aI (ints ((p.take (k+1)).map (numOf (ak l))))from sf (by rw[aO hw];simp)) ?_;refine St.bQ v40 (λX _=> ?_);refine g9 ?_;refine St.py (k+1) v40 ⟨by omega,X,by rw[D,kP hw,aB s]⟩
  ·obtain rfl:k=p.length:=by omega
   rw[fW]at R⊢
   have m:pe p=(0,0):=by rw[D,fS zE];rfl
   have t:p≠ []:=by rintro rfl;simp at L
   refine St.bI z aI (ints (p.map (numOf (ak l)))) rfl (bO _).symm (JJ x p) ?_;refine g9 ?_;refine St.ee (Ev.call (yA z (ints (p.map (numOf (ak l)))) 0) WZ (.ah rfl rfl)) ?_;refine g2 ?_;refine St.cond _ rfl (λd=> ?_) (λd=> ?_)
   ·rw[any_zero]at d;simp only[decide_eq_true_eq,decide_eq_false_iff_not]at d
    refine g2 ?_;refine St.ee (Ev.build (bC.nil) (λw=>fC w)) ?_;refine g6 ?_;refine St.gb kT ?_;refine St.rV [_,_] [aD (sl kT (.slice none 0 0) [])] ?_
    rw[PZ (by rw[m]),Ml t d,m];exact⟨_,rfl,rfl,rfl⟩
   ·rw[any_zero]at d;simp only[decide_eq_true_eq,decide_eq_false_iff_not]at d
    refine g9 ?_;refine St.dt (MD e f z (ints (fF l)) (ints (dh (ints (fF l)))) (ints (p.map (numOf (ak l)))) (by rw[bO,aR];omega)) abR (.fk rfl rfl rfl) rfl ?_;rintro v51 _ ⟨uf,rfl,Y,rfl⟩;refine St.eZ ?_
    have v:=D2 (p:=ints (fF l)) (ord:=ints (dh (ints (fF l)))) (by rw[B]) rfl
    rw[X5 (by rw[v]),v];refine St.bI uf aI (ints (placesOf (ints (fF l)) (ints (p.map (numOf (ak l)))))) rfl (bO _).symm (NL (by rw[bO];omega)) ?_
    generalize o:placesOf (ints (fF l)) (ints (p.map (numOf (ak l))))=a
    have E:∀i∈a,i<(cC 0 l).length:=λi q=>NK (b:=ints (p.map (numOf (ak l)))) (by rw[o];exact q)
    have Z:a.length≤1300:=by have:=JN (ints (fF l)) (ints (p.map (numOf (ak l))));rw[o,bO]at this;omega
    have hip:=bO a
    refine g3 ?_;refine St.al (λb10=> ?_);refine g18 ?_;refine St.dH 133 2 ?_;refine St.aN (.slice none 0 0) (show _=((a.take 0).map (λi=>(cC 0 l).getD i (0,0))).length from rfl) (show _=rows kT ((a.take 0).map (λi=>(cC 0 l).getD i (0,0)))from rfl) ?_;refine St.pb (ι:=Nat) (κ:=Value) (λk z2 T=>(56,iv k)::(11,z2)::T) (λk z2=>[row z2 133 2 ((a.take k).map (λi=>(cC 0 l).getD i (0,0))).length (rows kT ((a.take k).map (λi=>(cC 0 l).getD i (0,0)))),tI J [vl,j,e,f,g] 63,tI K [iv 0,iv 0] 39,aD (sl aI uf (ints a)),aD (sl kT g (cC 0 l))]) (λk z2=>k≤a.length∧z2.oneCell'=true) (λk z2=>a.length-k) 0 (.slice none 0 0) (aC.k4 2 5 54 55) ⟨aP _,rfl⟩ ?_;intro k z2 C;obtain⟨hk,F⟩:=C
    have Nz:((a.take k).map (λi=>(cC 0 l).getD i (0,0))).length≤1300:=by rw[aR,cy];omega
    refine g6 ?_;refine St.cq (λG=> ?_) (λG=> ?_)
    ·obtain⟨i,q⟩:=aF (show k<a.length by omega)
     have H:=E i (aa q)
     have hii:(ints a)[k]?=some ((i:Nat):Int):=by rw[aw,q];rfl
     obtain⟨h,M⟩:=aF H;refine g17 ?_;refine St.ee (Ev.j2 (.mk rfl) M underlying133 trivial sH gX.eq) ?_;refine St.hS rfl (.ay rfl) HJ sH Ce rfl rfl (by simp[Value.cells]) rfl rfl (λb66=> ?_);refine St.aq (.mk rfl) (.mk rfl) HJ sH Ce Oq (by simp[Value.oneCell',Value.cells]) zE zE rfl rfl rfl rfl (λv67 alG=> ?_);refine St.aN v67 (show _=((a.take (k+1)).map (λi=>(cC 0 l).getD i (0,0))).length by rw[aO q,cL];exact cH) (show _=rows kT ((a.take (k+1)).map (λi=>(cC 0 l).getD i (0,0)))from se (n:=h) (by rw[aO q,cL,eV,jz,Db M])) ?_;refine St.bQ v67 (λI _=> ?_);refine g9 ?_;refine St.py (k+1) v67 ⟨by omega,I⟩
    ·obtain rfl:k=a.length:=by omega
     rw[fW]
     have N:=Ps (l:=l) t d
     rw[o]at N;rw[N];refine g8 ?_;refine St.ee (Ev.build (bC.nil) (λw=>fC w)) ?_;refine g5 ?_;refine St.bI z2 kT (fP l p) rfl rfl (λ_ _=>trivial) ?_;refine St.rV [_,_] [aD (sl kT z2 (fP l p))] ?_
     rw[PZ (by rw[m]),m];exact⟨_,rfl,F,rfl⟩
structure Hd where
 s:Nat
 a:Nat
 l:List ab
 r:List ab
 deriving DecidableEq
def hR4:Rp (Nat×Nat×aY×aY):=⟨4,by decide,λx=>[iv (x.1:Nat),iv (x.2.1:Nat),x.2.2.1.1,x.2.2.2.1],λ_=>True,λ_=>rfl,λx u h=>by
 simp at h;rcases h with rfl|rfl|rfl|rfl
 ·rfl
 ·rfl
 ·exact x.2.2.1.2
 ·exact x.2.2.2.2⟩
def hdR (x:Hd)(u:aY×aY):Nat×Nat×aY×aY:=(x.s,x.a,u.1,u.2)
abbrev aiY (v:Value)(xs:List Hd)(a:List (aY×aY)):List dQ:=[sl hR4 v (List.zipWith hdR xs a),pf bZ (a.map Prod.fst) (xs.map Hd.l),pf bZ (a.map Prod.snd) (xs.map Hd.r)]
def ET (v:Value)(xs:List Hd):dQ:=⟨λρ=>∃a:List (aY×aY),a.length=xs.length∧∀d∈aiY v xs a,d.f ρ,λρ mY h ⟨a,h1,b⟩=>⟨a,h1,λd hd=>d.mono _ _ h (b d hd)⟩⟩
theorem I3 (vl a b d e:Value)(l:List (List ab))(f:ow l):dR prog 17 #[Iy vl a b d e] ([pC vl a b d e l].map aD) (λv H'=>v.oneCell'=true∧H'=[row v 9 1 (ak l).length (rows bZ (ak l))]):=by
 refine dR.body (args:=[Iy vl a b d e]) 6 func17 rfl ntmps17 rfl (λc=> ?_);refine go ?_;refine St.cast (H':=[aD (pC vl a b d e l)]) rfl ?_;refine St.gG (pC vl a b d e l) (λ_:Unit=>Df vl a b d e l) (λρ h=>⟨(),h⟩) (λ_=> ?_);unfold Df;refine St.YE ?_
 have i:=kb f
 refine go ?_;refine St.cW (.mk rfl) rfl (λj=> ?_);refine g7 ?_;refine St.dt (wL a (ak l) zE) acX (.ay rfl) rfl ?_;rintro v5 _ ⟨g,rfl⟩;refine St.eZ ?_;refine g4 ?_;refine St.rV [_] [row v5 9 1 (ak l).length (rows bZ (ak l))] ?_;exact⟨g,rfl⟩
theorem zt:∀{X Y:List ab},OG X→OG Y→(∀w,w∈X↔w∈Y)→X=Y
 | [],[],_,_,_=>rfl
 | [],y::Y,_,_,h=>by have:=(h y).2 (aV ..);cases this
 |x::X,[],_,_,h=>by have:=(h x).1 (aV ..);cases this
 |x::X,y::Y,d,g,h=>by
  have h1:=fw.1 d
  have a:=fw.1 g
  have b:x=y:=by
   rcases bT.1 ((h x).1 (aV ..))with e|e
   ·exact e
   ·rcases bT.1 ((h y).2 (aV ..))with f|f
    ·exact f.symm
    ·have i:=a.1 x e
     have c:=h1.1 y f
     rw[vu i]at c;cases c
  subst b
  rw[zt h1.2 a.2 λw=>⟨λhw=>by
   rcases bT.1 ((h w).1 (bV _ hw))with e|e
   ·have:=h1.1 w hw;rw[e,mO]at this;cases this
   ·exact e,λhw=>by
   rcases bT.1 ((h w).2 (bV _ hw))with e|e
   ·have:=a.1 w hw;rw[e,mO]at this;cases this
   ·exact e⟩]
def od (ws:List ab):Int×Int:=if 12<ws.length then(2,-1)else j5 0 ws
def tX (l:List (List ab))(w:ab)(i:Nat):Nat:=(fP l [w]).countP λh=>decide (h.1=i)
def hasAll (l:List (List ab))(ws:List ab)(i:Nat):Bool:=ws.all λw=> !decide (tX l w i=0)
def HR (l:List (List ab))(ws:List ab):List Nat:=if(od ws).1=0 then(List.range l.length).filter (hasAll l ws)else []
theorem M5 {l:List (List ab)}{ws:List ab}(h:(od ws).1=0):HR l ws=(List.range l.length).filter (hasAll l ws):=by unfold HR;rw[aB h]
theorem M4 {l:List (List ab)}{ws:List ab}(h:(od ws).1≠0):HR l ws=[]:=by unfold HR;rw[aA h]
theorem Bq {w:ab}(h:isWord w=true):pe [w]=(0,0):=by simp[pe,j5,h]
theorem Fa {l:List (List ab)}{ws:List ab}{k:Nat}{w:ab}(hw:ws[k]?=some w)(i:Nat):hasAll l (ws.take (k+1)) i=(hasAll l (ws.take k) i&& !decide (tX l w i=0)):=by
 unfold hasAll;rw[aO hw,List.all_append];simp
theorem IW {l:List (List ab)}{ws:List ab}{k:Nat}{w:ab}(hw:ws[k]?=some w)(n:Nat):((List.range n).filter (hasAll l (ws.take k))).filter (λi=> !decide (tX l w i=0))=(List.range n).filter (hasAll l (ws.take (k+1))):=by
 rw[List.filter_filter]
 apply List.filter_congr
 intro i _;rw[Fa hw,Bool.and_comm]
theorem FP (l:List (List ab))(ws:List ab)(n:Nat):(List.range n).filter (hasAll l (ws.take 0))=List.range n:=List.filter_eq_self.2 λi _=>rfl
def nA (n k:Nat):List Nat:=List.range k++List.replicate (n-k) 0
theorem J0 (n:Nat):nA n 0=List.replicate n 0:=by simp[nA]
theorem Mu (n:Nat):nA n n=List.range n:=by simp[nA]
theorem r7 {n k:Nat}(h:k≤n):(nA n k).length=n:=by simp[nA];omega
theorem Mv {n k:Nat}(h:k<n):(nA n k).set k k=nA n (k+1):=by
 unfold nA;rw[mV _ _ (by simp),db,eX,show n-k=(n-(k+1))+1 by omega,List.replicate_succ,xB,mU]
 simp
structure DF (pr:Int→Bool)(xs:List Int)(j i:Nat)(W:List Int):Prop where
 ij:i<j
 jn:j≤xs.length
 len:W.length=xs.length
 out:W.take i=(xs.take j).filter λx=> !pr x
 rest:∀q,j≤q→W[q]?=xs[q]?
theorem DF.start {pr:Int→Bool}{xs:List Int}{k:Nat}{x:Int}(hk:xs[k]?=some x)(hp:pr x=true)(h:∀j y,j<k→xs[j]?=some y→pr y=false):DF pr xs (k+1) k xs:=by
 have a:=ag hk
 refine⟨Nat.lt_succ_self _,a,rfl,?_,λ_ _=>rfl⟩;rw[aO hk,List.filter_append]
 have e:(xs.take k).filter (λx=> !pr x)=xs.take k:=by
  rw[List.filter_eq_self];intro y hy;obtain⟨j,b,he⟩:=lB.1 hy;rw[cy]at b;rw[List.getElem_take]at he
  rw[h j y zE (by rw[aj zE,he])];rfl
 rw[e]
 simp[hp]
theorem DF.skip {pr:Int→Bool}{xs W:List Int}{j i:Nat}{x:Int}(h:DF pr xs j i W)(hx:xs[j]?=some x)(hp:pr x=true):DF pr xs (j+1) i W:=by
 refine⟨by have:=h.ij;omega,ag hx,h.len,?_,λq a=>h.rest q zE⟩
 rw[h.out,aO hx,List.filter_append];simp[hp]
theorem DF.pF {pr:Int→Bool}{xs W:List Int}{j i:Nat}{x:Int}(h:DF pr xs j i W)(hx:xs[j]?=some x)(hp:pr x=false):DF pr xs (j+1) (i+1) (W.set i x):=by
 have a:=ag hx
 have c:=h.ij
 have b:=h.len
 refine⟨by omega,a,by rw[eC];exact b,?_,λq d=> ?_⟩
 ·have e:(W.set i x)[i]?=some x:=by rw[fp zE]
  rw[aO e,List.take_set_of_le (aQ _),h.out,aO hx,List.filter_append];simp[hp]
 ·rw[gV zE];exact h.rest q zE
theorem DF.fin {pr:Int→Bool}{xs W:List Int}{j i:Nat}(h:DF pr xs j i W)(a:xs.length≤j):W.take i=xs.filter (λx=> !pr x):=by
 rw[h.out,dV a]
theorem Q4 {pr:Int→Bool}{xs:List Int}(h:ix pr xs≠ -1):∃(k:Nat) (x:Int),ix pr xs=k∧xs[k]?=some x∧pr x=true∧∀j y,j<k→xs[j]?=some y→pr y=false:=by
 rcases z8 pr xs with⟨h1,_⟩|⟨k,x,h1,a,b,c⟩
 ·exact absurd h1 h
 ·exact⟨k,x,b,h1,a,c⟩
theorem aeN {pr:Int→Bool}{xs:List Int}(h:ix pr xs= -1):xs.filter (λx=> !pr x)=xs:=by
 rcases z8 pr xs with⟨_,a⟩|⟨k,x,_,_,b,_⟩
 ·rw[List.filter_eq_self];intro x hx;rw[a x hx];rfl
 ·omega
theorem RJ {W:List Int}{k:Nat}{x:Int}(h:W[k]?=some x):(rows aI W)[k*1+0]?=some (iv x):=by
 rw[gN,e8,fU,aw,h];rfl
theorem Fc (pr:Nat→Bool)(q:Int→Bool)(l:List Nat)(h:∀i∈l,q (i:Int)=pr i):(ints l).filter (λx=> !q x)=ints (l.filter λi=> !pr i):=by
 induction l with
 |nil=>rfl
 |cons i l b=>
  have h1:=h i (aV ..)
  have a:=b λj c=>h j (bV _ c)
  simp only[ints,List.map_cons,List.filter_cons,h1]at a⊢
  cases pr i<;>simp[a]
theorem xE (v:Value)(xs:List Int)(g:FuncId)(m:aG prog g)(caps:List Value)(D:dQ)(pr:Int→Bool)(r:∀x∈xs,aI.wf x)(hlen:xs.length≤1000000)(n:∀x∈xs,cX prog g ([iv x]++caps).toArray [D] (.bool (pr x))):
 dR prog 55 #[v,.func (.func g) #[] caps.toArray] ([D].map aD++ [row v 3 1 xs.length (rows aI xs)]) (λu H'=>u.oneCell'=true∧H'=[row u 3 1 (xs.filter λx=> !pr x).length (rows aI (xs.filter λx=> !pr x))]):=by
 refine dR.body (args:=[v,.func (.func g) #[] caps.toArray]) 42 func55 rfl ntmps55 rfl (λc=> ?_);refine go ?_;refine St.cast (H':=[aD D,row v 3 1 xs.length (rows aI xs)]) rfl ?_;refine St.bQ v (λs _=> ?_);refine g8 ?_;refine St.ee (Ev.qQ (yC v xs g m caps D pr n) Wa (.ah rfl rfl) (cm.row (cm.aD cm.nil) rfl rfl rfl r)) ?_;refine g10 ?_;refine St.cq (λt=> ?_) (λt=> ?_)
 ·have w:=aeN (pr:=pr) (xs:=xs) zE
  refine g8 ?_;refine St.rV [_] [row v 3 1 xs.length (rows aI xs)] ?_
  rw[w];exact⟨s,rfl⟩
 ·obtain⟨o,x0,d,p,A,e⟩:=Q4 (pr:=pr) (xs:=xs) zE
  rw[d]
  have B:=ag p
  refine g11 ?_;refine St.lH (ι:=Nat×Nat×List Int) (λx T=>(6,iv x.1)::(5,iv x.2.1)::T) (λx=>[row v 3 1 xs.length (rows aI x.2.2),aD D]) (λx=>DF pr xs x.1 x.2.1 x.2.2) (λx=>xs.length-x.1) (o+1,o,xs) (aC.k3 0 1 4) (DF.start p A e) ?_;rintro ⟨j,i,W⟩ a
  dsimp only at a⊢
  have C:=a.ij
  have E:=a.jn
  have F:=a.len
  refine g9 ?_;refine St.cq (λG=> ?_) (λG=> ?_)
  ·obtain⟨y,hy⟩:=aF (show j<xs.length by omega)
   have f:W[j]?=some y:=by rw[a.rest j (aQ _)];exact hy
   have H:=aa hy
   refine g9 ?_;refine St.ee (Ev.cx (.mk rfl) eK trivial zE (RJ f)) ?_;refine g7 ?_;refine St.ee (Ev.fg (n y H) m (.mk rfl) (.ay rfl)) ?_;refine g3 ?_;refine St.cond _ rfl (λb=> ?_) (λb=> ?_)
   ·simp only[Bool.not_eq_true',Bool.not_eq_false']at b
    refine g6 ?_;refine St.bz (.mk rfl) (.mk rfl) eL rfl zE (by decide) ?_;refine St.uQ v (oO _ _ _) ?_;refine g15 ?_;refine St.p5 (j+1,i+1,W.set i y) (a.pF hy b) (by show xs.length-(j+1)<xs.length-j;omega) (by repeat(first|exact Sub.nil|refine Sub.cons (by first|rfl|exact congrArg (λz=>some (iv z)) (by first|omega|(dsimp only;omega))|exact congrArg (λz=>some (Value.bool z)) (by first|assumption|exact ke (by assumption))) ?_)) (λ_ hw=>hw.sub)
   ·simp only[Bool.not_eq_true',Bool.not_eq_false']at b
    refine g9 ?_;refine St.p5 (j+1,i,W) (a.skip hy b) (by show xs.length-(j+1)<xs.length-j;omega) (by repeat(first|exact Sub.nil|refine Sub.cons (by first|rfl|exact congrArg (λz=>some (iv z)) (by first|omega|(dsimp only;omega))|exact congrArg (λz=>some (Value.bool z)) (by first|assumption|exact ke (by assumption))) ?_)) (λ_ hw=>hw.sub)
  ·have q:=a.fin zE
   refine g9 ?_;refine St.ee (Ev.sj (l:=i) (.mk rfl) (.mk rfl) cP eL rfl zE) ?_;refine St.Eu (.mk rfl) cP jF rfl rfl zE rfl ?_;refine g6 ?_;refine St.ee (Ev.mN (h:=i) (.mk rfl) (.mk rfl) cP eL zE zE) ?_;refine g4 ?_;refine St.zd v i zE ?_;refine St.bQ (mX v 1 0 i) (λk _=> ?_)
   have I:i=(xs.filter λx=> !pr x).length:=by rw[←q,cy];omega
   refine St.aN (mX v 1 0 i) I (show _=rows aI (xs.filter λx=> !pr x) by rw[gN,gN,e8,List.take_append_of_le_length (by rw[cy,aR];omega),List.take_take,Nat.min_self,←List.map_take,q]) ?_;refine St.rV [_] [row (mX v 1 0 i) 3 1 (xs.filter λx=> !pr x).length (rows aI (xs.filter λx=> !pr x))] ?_;exact⟨k,rfl⟩
theorem I1 (b a:Nat)(m:List (Int×Value))(g:Nat)(i:Nat)(hm:(nc m (i:Int)).getD (iv 0)=iv (g:Nat)):cX prog 56 #[iv (i:Nat),tW b] [fx b (.map (some a)),ZT mkInt a m] (.bool (decide (g=0))):=by
 refine cX.lj (args:=[iv (i:Nat),tW b]) 8 func56 rfl ntmps56 rfl (λc=> ?_);refine g9 ?_;refine St.ee (Ev.VG mkInt (k:=(i:Int)) (.mk rfl) (.mk rfl) HG (by exact eK) jF) ?_;refine St.slot 6 (iv (g:Nat)) rfl hm ?_;refine g5 ?_;refine St.rV [_] [] ?_;exact be (decide_eq_decide.2 zE)
theorem Ef (b a:Nat)(m:List (Int×Value))(g:Nat)(i:Nat)(hm:(nc m (i:Int)).getD (iv 0)=iv (g:Nat)):cX prog 56 ([iv (i:Nat)]++ [tW b]).toArray [fx b (.map (some a)),ZT mkInt a m] (.bool (decide (g=0))):=I1 b a m g i hm
theorem PL {a:List (Nat×Nat)}{k:Nat}{h:Nat×Nat}(b:a[k]?=some h)(i:Nat):(a.take (k+1)).countP (λx=>decide (x.1=i))=(a.take k).countP (λx=>decide (x.1=i))+if h.1=i then 1 else 0:=by
 rw[aO b,List.countP_append];congr 1
 by_cases e:h.1=i<;>simp[e]
def O6 (m:List (Int×Value))(a:List (Nat×Nat))(k:Nat):Prop:=∀i:Nat,(nc m (i:Int)).getD (iv 0)=iv (((a.take k).countP (λx=>decide (x.1=i)):Nat):Int)
theorem O6.step {m:List (Int×Value)}{a:List (Nat×Nat)}{k:Nat}{h:Nat×Nat}(b:O6 m a k)(c:a[k]?=some h):O6 (jP m (h.1:Int) (iv ((((a.take k).countP (λx=>decide (x.1=h.1)):Nat):Int)+1))) a (k+1):=by
 intro i;rw[zN,PL c i]
 by_cases e:i=h.1
 ·subst e;simp
 ·rw[aA zE,b i,aA (λq=>e q.symm)];rfl
theorem CT {n:Nat}(q:Nat→Bool)(b:n≤1000):∀x∈ints ((List.range n).filter q),aI.wf x:=yz λi a=>by
 have:=cU.1 (po.1 a).1;omega
theorem filter_le (q:Nat→Bool)(n:Nat):((List.range n).filter q).length≤n:=by
 have:=AJ q (List.range n);rwa[db]at this
theorem MM (vl b d e f v1:Value)(l:List (List ab))(ws:List ab)(A:ow l):AK prog 18 #[Iy vl b d e f,v1] ([pC vl b d e f l,sl bZ v1 ws,u8].map aD) (λu H'=>∃B,u= .tuple #[B,fv (od ws)]∧B.oneCell'=true∧H'=[aD (sl aI B (ints (HR l ws)))]):=by
 refine AK.body (args:=[Iy vl b d e f,v1]) 80 func18 rfl ntmps18 rfl (λc I=> ?_);refine go ?_;refine St.cast (H':=[aD (pC vl b d e f l),aD (sl bZ v1 ws),aD u8]) rfl ?_;refine St.gG (pC vl b d e f l) (λ_:Unit=>Df vl b d e f l) (λρ h=>⟨(),h⟩) (λ_=> ?_);unfold Df;refine St.YE ?_;refine St.wf v1 (λJ hlen=> ?_)
 have N:=A.len
 refine go ?_;refine St.cW (.mk rfl) rfl (λC=> ?_);refine go ?_;refine St.al (λD=> ?_);refine g10 ?_;refine St.cq (λO=> ?_) (λO=> ?_)
 ·have o:od ws=(2,-1):=by unfold od;rw[aB zE]
  refine g2 ?_;refine St.ee (Ev.build (bC.ah rfl rfl) (λw=>dJ rfl rfl w)) ?_;refine g6 ?_;refine St.gb aI ?_;refine St.rV [_,_] [aD (sl aI (.slice none 0 0) [])] ?_
  rw[M4 (by rw[o];decide),o];exact⟨_,rfl,rfl,rfl⟩
 ·refine g11 ?_
  refine St.lS (ι:=Nat) (λk T=>(23,iv k)::T) (λk=>k≤ws.length∧od ws=j5 k (ws.drop k)∧(ws.take k).all isWord=true) (λk=>ws.length-k) 0 (aC.k5 1 2 5 21 22) ⟨aP _,by unfold od;rw[aA zE];rfl,rfl⟩ ?_;intro k p;obtain⟨hk,E,F⟩:=p;refine g6 ?_;refine St.cq (λP=> ?_) (λP=> ?_)
  ·obtain⟨w,hw⟩:=aF (show k<ws.length by omega)
   have y:=aa hw
   refine g16 ?_;refine St.ee (Ev.lp I (lO w (aaP (J w y))) MV (.ay rfl)) ?_;refine g3 ?_;refine St.cond _ rfl (λj=> ?_) (λj=> ?_)
   ·simp only[Bool.not_eq_true',Bool.not_eq_false']at j
    have o:od ws=(10,(k:Int)):=by rw[E,kP hw,aA (by rw[j];decide)]
    refine g3 ?_;refine St.ee (Ev.build (bC.ah rfl rfl) (λw=>dJ rfl rfl w)) ?_;refine g10 ?_;refine St.gb aI ?_;refine St.rV [_,_] [aD (sl aI (.slice none 0 0) [])] ?_
    rw[M4 (by rw[o];show(10:Int)≠0;decide),o];exact⟨_,rfl,rfl,rfl⟩
   ·simp only[Bool.not_eq_true',Bool.not_eq_false']at j
    refine g8 ?_;refine St.aS (k+1) ⟨by omega,by rw[E,kP hw,aB j],kO F hw j⟩
  ·have r:od ws=(0,0):=by rw[E,fS zE];rfl
   have G:∀w∈ws,isWord w=true:=by rw[dV zE]at F;exact j8.1 F
   refine St.Ds vl (λvs Q=> ?_);refine g10 ?_;refine St.kr (m:=l.length) (.mk rfl) (.mk rfl) cP eL jF vD zE zE zE rfl rfl (λg=> ?_);refine St.aN (tO g l.length l.length) (r7 (aP _)).symm (show _=rows aI (ints (nA l.length 0)) by rw[J0,gN];simp[ints]) ?_;refine g8 ?_;refine St.slot 39 (iv (l.length:Nat)) rfl (by rw[r7 (aP _)]) ?_;refine g4 ?_;refine St.lH (ι:=Nat) (λk T=>(40,iv k)::T) (λk=>[row (tO g l.length l.length) 3 1 (nA l.length k).length (rows aI (ints (nA l.length k))),tI C [vl,b,d,e,f] 63,tI D [iv 0,iv 0] 39,aD (Aq bZ vl l),aD (pC vl b d e f l),aD (sl bZ v1 ws),aD u8]) (λk=>k≤l.length) (λk=>l.length-k) 0 (aC.k5 1 2 5 8 39) (aP _) ?_;intro k p
   have S:=r7 p
   refine g6 ?_;refine St.cq (λU=> ?_) (λU=> ?_)
   ·refine g15 ?_
    refine St.bz (.mk rfl) (.mk rfl) eL rfl zE (by decide) ?_;refine St.aN (tO g l.length l.length) (show _=(nA l.length (k+1)).length by rw[S,r7 zE]) (show _=rows aI (ints (nA l.length (k+1))) by rw[NN,Mv zE]) ?_;refine g8 ?_;refine St.aH (k+1) zE
   ·obtain rfl:k=l.length:=by omega
    rw[Mu];refine St.aN (tO g l.length l.length) (show _=((List.range l.length).filter (hasAll l (ws.take 0))).length by rw[FP,db]) (show _=rows aI (ints ((List.range l.length).filter (hasAll l (ws.take 0)))) by rw[FP]) ?_;refine g14 ?_;refine St.pb (ι:=Nat) (κ:=Value) (λk z T=>(50,iv k)::(8,z)::T) (λk z=>[row z 3 1 ((List.range l.length).filter (hasAll l (ws.take k))).length (rows aI (ints ((List.range l.length).filter (hasAll l (ws.take k))))),tI C [vl,b,d,e,f] 63,tI D [iv 0,iv 0] 39,aD (Aq bZ vl l),aD (pC vl b d e f l),aD (sl bZ v1 ws),aD u8]) (λk z=>k≤ws.length∧z.oneCell'=true) (λk z=>ws.length-k) 0 (tO g l.length l.length) (aC.k4 2 5 48 49) ⟨aP _,rfl⟩ ?_;intro k z p;obtain⟨hk2,hz⟩:=p
    have V:=filter_le (hasAll l (ws.take k)) l.length
    refine g6 ?_;refine St.cq (λW=> ?_) (λW=> ?_)
    ·obtain⟨w,hw⟩:=aF (show k<ws.length by omega)
     have y:=aa hw
     have K:=G w y
     refine g15 ?_;refine St.hS rfl (.ay rfl) kZ CH Xp rfl rfl (by simp[Value.cells]) rfl rfl (λs=> ?_);refine St.bI (tO s 1 1) bZ [w] rfl rfl (λx hx=>by rw[bN.1 hx];exact J w y) ?_;refine St.p7 I (KB vl b d e f (tO s 1 1) l [w] A) ag9 (.ah rfl rfl) rfl ?_;rintro v58 _ ⟨uf,rfl,X,rfl⟩;refine St.eZ ?_;rw[Bq K,PZ (by rw[Bq K])]
     have Y:=Pt A [w]
     refine g3 ?_;refine St.al (λYG=> ?_);refine g6 ?_;refine St.makeMap mkInt rfl (λa=> ?_);refine St.al (λn=> ?_);refine St.bL (.mk rfl) (.mk rfl) afY rfl (by rfl) ?_;refine g11 ?_;refine St.pb (ι:=Nat) (κ:=List (Int×Value)) (λq m T=>(64,iv q)::T) (λq m=>[aU a (df mkInt m),tI n [.map (some a)] 138,aD (sl kT uf (fP l [w])),row z 3 1 ((List.range l.length).filter (hasAll l (ws.take k))).length (rows aI (ints ((List.range l.length).filter (hasAll l (ws.take k))))),tI C [vl,b,d,e,f] 63,tI D [iv 0,iv 0] 39,aD (Aq bZ vl l),aD (pC vl b d e f l),aD (sl bZ v1 ws),aD u8]) (λq m=>q≤(fP l [w]).length∧O6 m (fP l [w]) q) (λq m=>(fP l [w]).length-q) 0 [] (aC.k9 2 5 8 14 48 49 50 62 63) ⟨aP _,λi=>rfl⟩ ?_;rintro q m ⟨hq,t⟩;refine g6 ?_;refine St.cq (λH=> ?_) (λH=> ?_)
     ·obtain⟨h,M⟩:=aF (show q<(fP l [w]).length by omega)
      have Z:((fP l [w]).take q).countP (λx=>decide (x.1=h.1))≤1200:=cz List.countP_le_length (by rw[cy];omega)
      refine g7 ?_;refine St.ee (Ev.j2 (.mk rfl) M underlying133 trivial sH gX.eq) ?_;refine St.al (λb16=> ?_);refine g7 ?_;refine St.ee (Ev.lookup mkInt (k:=(h.1:Int)) (.mk rfl) (.mk rfl) HG (by exact eK) jF) ?_;refine St.slot 71 (iv ((((fP l [w]).take q).countP (λx=>decide (x.1=h.1)):Nat):Int)) rfl (t h.1) ?_;refine go ?_;refine St.mapUpdate mkInt (k:=(h.1:Int)) (.mk rfl) (.mk rfl) (.mk rfl) HG (by exact eK) ?_;refine g8 ?_;refine St.py (q+1) (jP m (h.1:Int) (iv ((((fP l [w]).take q).countP (λx=>decide (x.1=h.1)):Nat)+1))) ⟨by omega,t.step M⟩
     ·obtain rfl:q=(fP l [w]).length:=by omega
      unfold O6 at t
      simp only[List.take_length]at t
      refine St.R6 a ?_;refine St.GU n ?_;refine g5 ?_;refine St.aN z (bO _).symm rfl ?_;refine g2 ?_;refine St.ee (Ev.func (.ay rfl)) ?_;refine St.Eo (ds:=[eY [fx n (.map (some a)),ZT mkInt a m]]) (L:=[row z 3 1 (ints ((List.range l.length).filter (hasAll l (ws.take k)))).length (rows aI (ints ((List.range l.length).filter (hasAll l (ws.take k)))))]) (R:=_) (xE z (ints ((List.range l.length).filter (hasAll l (ws.take k)))) 56 ahB [tW n] (eY [fx n (.map (some a)),ZT mkInt a m]) (λx=>decide (tX l w x.toNat=0)) (CT _ zE) (by rw[bO];omega) (λx hx=>by obtain⟨i,hi,rfl⟩:=cA.1 hx;exact(Ef n a m (tX l w i) i (t i)).all)) ahA (.ah rfl rfl) (eF.eY (eF.aD (eF.aD eF.nil))) (dz.row dz.nil) (λu H' h=>by obtain⟨_,rfl⟩:=h;exact dz.row dz.nil) rfl ?_;rintro v76 _ ⟨h76,rfl⟩;refine St.Tg ?_
      have v:=Fc (λi=>decide (tX l w i=0)) (λx=>decide (tX l w x.toNat=0)) ((List.range l.length).filter (hasAll l (ws.take k))) (λi _=>rfl)
      refine St.aN v76 (show _=(((List.range l.length).filter (hasAll l (ws.take k))).filter (λi=> !decide (tX l w i=0))).length by rw[v,bO]) (show _=rows aI (ints (((List.range l.length).filter (hasAll l (ws.take k))).filter (λi=> !decide (tX l w i=0)))) by rw[v]) ?_;refine g9 ?_;rw[IW hw];refine St.py (k+1) v76 ⟨by omega,h76⟩
    ·obtain rfl:k=ws.length:=by omega
     rw[fW]at V⊢;refine g8 ?_;refine St.ee (Ev.build (bC.nil) (λw=>fC w)) ?_;refine g5 ?_;refine St.bI z aI (ints ((List.range l.length).filter (hasAll l ws))) rfl (bO _).symm (CT _ zE) ?_;refine St.rV [_,_] [aD (sl aI z (ints ((List.range l.length).filter (hasAll l ws))))] ?_
     rw[M5 (by rw[r]),r];exact⟨_,rfl,hz,rfl⟩
theorem OV {l:List dq}(a:Asc l)(b:∀x∈l,0≤x.cu):∀(i:Nat) (x:dq),l[i]?=some x→(i:Int)≤x.cu
 |0,x,hx=>b x (aa hx)
 |i+1,x,hx=>by
  obtain⟨y,hy⟩:=aF (show i<l.length by have:=ag hx;omega)
  have h1:=OV a b i y hy
  have c:=a i (i+1) y x (Nat.lt_succ_self i) hy hx
  omega
theorem Th {l:List dq}(b:Asc l){nf:Nat}(a:∀x∈l,0≤x.cu∧x.cu<nf):l.length≤nf:=by
 rcases Nat.eq_zero_or_pos l.length with h|h
 ·omega
 ·obtain⟨y,hy⟩:=aF (show l.length-1<l.length by omega)
  have h1:=OV b (λx hx=>(a x hx).1) _ y hy
  have c:=(a y (aa hy)).2
  omega
theorem Ba {n:Int}:∀{l:List o7} {known:List ab} {i:Nat},(mA n known i l).1=0→∀f∈l,0≤f.2.1∧f.2.1<n∧0≤f.2.2∧f.2.2<n
 | [],_,_,_=>λf a=>by cases a
 |t::l,known,i,h=>by
  rw[mA]at h
  by_cases h1:isName t.1=false
  ·rw[aB h1]at h;exact absurd h (by simp)
  rw[aA h1]at h
  by_cases b:t.1∈known
  ·rw[aB b]at h;exact absurd h (by simp)
  rw[aA b]at h
  by_cases c:t.2.1<0∨n≤t.2.1∨t.2.2<0∨n≤t.2.2
  ·rw[aB c]at h;exact absurd h (by simp)
  rw[aA c]at h;intro f a
  rcases bT.1 a with rfl|a
  ·omega
  ·exact Ba h f a
theorem Uv {T:List eM}{Fs:List o7}(h:(ig T Fs).1=0):0<T.length∧iJ T∧Fs.length≤40∧∀f∈Fs,0≤f.2.1∧f.2.1<T.length∧0≤f.2.2∧f.2.2<T.length:=by
 unfold ig at h
 by_cases h1:40<Fs.length
 ·rw[aB h1]at h;exact absurd h (by simp)
 rw[aA h1]at h
 by_cases a:(B6 T).1≠0
 ·rw[aB a]at h;exact absurd h a
 rw[aA a]at h;obtain⟨_,c,d⟩:=Jy (fK.1 a)
 cases e:x8 T with
 |some b=>rw[e]at h;exact absurd h (by simp)
 |none=>rw[e]at h;exact⟨c,d,by omega,Ba h⟩
mutual
theorem Jx {rk:List Int}{nl:Nat}:∀(t:dA) (d ch:Nat) (s:HZ),(nu rk nl t d ch s).2.1=0→s.leaves≤s.nodes→(nu rk nl t d ch s).1.nodes≤200∧(nu rk nl t d ch s).1.leaves≤(nu rk nl t d ch s).1.nodes
 | .mk r x l,d,ch,s,h,f=>by
  rw[nu]at h⊢
  by_cases h1:200<s.nodes+1∨48<d
  ·rw[aB h1]at h;exact absurd h (by simp)
  rw[aA h1]at h⊢
  by_cases a:r< -1∨rk.length≤r∨(r= -1∧(x<0∨nl≤x))
  ·rw[aB a]at h;exact absurd h (by simp)
  rw[aA a]at h⊢
  by_cases b:0≤r∧x≠0
  ·rw[aB b]at h;exact absurd h (by simp)
  rw[aA b]at h⊢
  by_cases c:(l.length:Int)≠(if 0≤r then rk.getD r.toNat 0 else 0)
  ·rw[aB c]at h;exact absurd h (by simp)
  rw[aA c]at h⊢
  by_cases e:3<(if l.length=1 then ch+1 else 0)
  ·rw[aB e]at h;exact absurd h (by simp)
  rw[aA e]at h⊢;exact Lu l _ _ _ h (show s.nodes+1≤200 by omega) (by dsimp only;split<;>omega)
theorem Lu {rk:List Int}{nl:Nat}:∀(l:List dA) (d ch:Nat) (s:HZ),(kX rk nl l d ch s).2.1=0→s.nodes≤200→s.leaves≤s.nodes→(kX rk nl l d ch s).1.nodes≤200∧(kX rk nl l d ch s).1.leaves≤(kX rk nl l d ch s).1.nodes
 | [],d,ch,s,_,b,a=>by rw[kX];exact⟨b,a⟩
 |x::l,d,ch,s,h,b,a=>by
  rw[kX]at h⊢
  by_cases h1:(nu rk nl x d ch s).2.1≠0
  ·rw[aB h1]at h;exact absurd h h1
  rw[aA h1]at h⊢;obtain⟨c,a2⟩:=Jx x d ch s (fK.1 h1) a;exact Lu l d ch _ h c a2
end
theorem agA (rk:List Int)(nl:Nat)(x:bH)(d ch:Nat)(s:HZ):nu rk nl (aM x) d ch s=
 if 200<s.nodes+1∨48<d then(⟨s.nodes+1,s.leaves⟩,1,(s.nodes:Int))
 else if x.rule< -1∨rk.length≤x.rule∨(x.rule= -1∧(x.lex<0∨nl≤x.lex))then(⟨s.nodes+1,s.leaves⟩,3,(s.nodes:Int))
 else if 0≤x.rule∧x.lex≠0 then(⟨s.nodes+1,s.leaves⟩,5,(s.nodes:Int))
 else if(x.kids.length:Int)≠(if 0≤x.rule then rk.getD x.rule.toNat 0 else 0)then(⟨s.nodes+1,if 0≤x.rule then s.leaves else s.leaves+1⟩,9,(s.nodes:Int))
 else if 3<(if x.kids.length=1 then ch+1 else 0)then(⟨s.nodes+1,if 0≤x.rule then s.leaves else s.leaves+1⟩,14,(s.nodes:Int))
 else kX rk nl (x.kids.map aM) (d+1) (if x.kids.length=1 then ch+1 else 0) ⟨s.nodes+1,if 0≤x.rule then s.leaves else s.leaves+1⟩:=by
 cases x with
 |mk r y v l=>rw[aM,jE,nu,aR];rfl
theorem Nd {rk:List Int}{nl:Nat}{l:List bH}{k:Nat}{y:bH}(h:l[k]?=some y)(d ch:Nat)(s:HZ):kX rk nl ((l.map aM).drop k) d ch s=if(nu rk nl (aM y) d ch s).2.1≠0 then nu rk nl (aM y) d ch s else kX rk nl ((l.map aM).drop (k+1)) d ch (nu rk nl (aM y) d ch s).1:=by
 rw[bA (show(l.map aM)[k]?=some (aM y) by rw[aw,h];rfl),kX]
theorem SI {rk:List Int}{nl:Nat}{l:List bH}{k:Nat}(h:l.length≤k)(d ch:Nat)(s:HZ):kX rk nl ((l.map aM).drop k) d ch s=(s,0,0):=by
 rw[fS (by rw[aR];exact h),kX]
theorem W6 (g:ei)(t:bH):jv (dG g) (aM t)=if(nu (g.rules.map dL.kids) g.aK.length (aM t) 1 0 ⟨0,0⟩).2.1≠0 then(nu (g.rules.map dL.kids) g.aK.length (aM t) 1 0 ⟨0,0⟩).2
 else if 12<(nu (g.rules.map dL.kids) g.aK.length (aM t) 1 0 ⟨0,0⟩).1.leaves then(2,-2)else(0,0):=by
 have a:(dG g).rules.map ry.kids=g.rules.map dL.kids:=by show(g.rules.map l8).map ry.kids=_;rw[iX];rfl
 have e2:(dG g).aK.length=g.aK.length:=aR ..
 unfold jv;rw[a,e2]
theorem B4 (e f b h:Nat)(g:ei):∀(x:bH) (d ch:Nat) (s:HZ),bP.wf x→d≤100→ch≤100→s.nodes≤200→s.leaves≤s.nodes→dR prog 70 ([eG x,iv (d:Nat),iv (ch:Nat)]++ [tW e,tW f,tW b,tW h]).toArray [aD (ae x),tI e [iv ((s.nodes:Nat):Int)] 3,tI f [g.tv.1,g.fv.1,g.rv.1,g.xv.1,g.start.nv.1] 32,tI b [iv ((s.leaves:Nat):Int)] 3,tI h [(.func (.func 70) #[] [tW e,tW f,tW b,tW h].toArray)] 161,aD (sl bX g.rv.1 g.rules),aD (sl dT g.xv.1 g.aK)] (λv H'=>v=fv (nu (g.rules.map dL.kids) g.aK.length (aM x) d ch s).2∧H'=[tI e [iv (((nu (g.rules.map dL.kids) g.aK.length (aM x) d ch s).1.nodes:Nat):Int)] 3,tI f [g.tv.1,g.fv.1,g.rv.1,g.xv.1,g.start.nv.1] 32,tI b [iv (((nu (g.rules.map dL.kids) g.aK.length (aM x) d ch s).1.leaves:Nat):Int)] 3,tI h [(.func (.func 70) #[] [tW e,tW f,tW b,tW h].toArray)] 161]):=by
 intro x
 induction x using bH.ind
 rename_i x U
 intro d ch s hw hd hch C ET;refine dR.body (args:=[eG x,iv (d:Nat),iv (ch:Nat)]++ [tW e,tW f,tW b,tW h]) 118 func70 rfl ntmps70 rfl (λc=> ?_);refine go ?_
 have i:=agA (g.rules.map dL.kids) g.aK.length x d ch s
 have TE:(g.rules.map dL.kids).length=g.rules.length:=aR ..
 refine St.oL x ?_;refine St.wf x.kv.1 (λV TI=> ?_);obtain⟨j,l⟩:=s
 dsimp only at i C ET⊢
 refine St.wf g.rv.1 (λ_ W=> ?_);refine St.wf g.xv.1 (λ_ X=> ?_)
 generalize P:(if 0≤x.rule then(g.rules.map dL.kids).getD x.rule.toNat 0 else 0)=r at i
 generalize p:(if 0≤x.rule then l else l+1)=lv at i
 generalize Q:(if x.kids.length=1 then ch+1 else 0)=c2 at i
 refine go ?_;refine St.cW (.mk rfl) rfl (λR=> ?_);refine St.al (λD=> ?_);refine g12 ?_;refine St.bL (.mk rfl) (.mk rfl) eL rfl (by rfl) ?_;refine St.jq e (L':=[iv ((j+1:Nat):Int)]) rfl ?_;refine g7 ?_;refine St.join (ι:=Unit) (λu T=>(12,iv r)::T) (λu=>[tI R (sK x) 51,tI D [iv 0,iv 0] 39,tI e [iv ((j+1:Nat):Int)] 3,tI f [g.tv.1,g.fv.1,g.rv.1,g.xv.1,g.start.nv.1] 32,tI b [iv ((lv:Nat):Int)] 3,tI h [(.func (.func 70) #[] [tW e,tW f,tW b,tW h].toArray)] 161,aD (sl bP x.kv.1 x.kids),aD (aL ae x.kids),aD (sl bX g.rv.1 g.rules),aD (sl dT g.xv.1 g.aK)]) (λu=>(nu (g.rules.map dL.kids) g.aK.length (aM x) d ch ⟨j,l⟩=if(x.kids.length:Int)≠r then(⟨j+1,lv⟩,9,(j:Int))else if 3<c2 then(⟨j+1,lv⟩,14,(j:Int))else kX (g.rules.map dL.kids) g.aK.length (x.kids.map aM) (d+1) c2 ⟨j+1,lv⟩)∧j+1≤200∧d≤48) (aC.k6 1 2 6 7 10 11) ?_ ?_
 ·refine g6 ?_
  refine St.gf _ rfl rfl (λa=>Ev.move (.mk rfl)) rfl ?_;refine St.gf _ rfl rfl (λa=>Ev.gtr (aX.gv rfl a) (.mk rfl)) rfl ?_;refine g4 ?_;refine St.cond _ rfl (λE=> ?_) (λE=> ?_)
  focus
   skip
   try simp only[bj]at E
   rw[aB zE]at i;refine g3 ?_;refine St.ee (Ev.call (fO 1 j) MX (.ah rfl rfl)) ?_;refine g6 ?_;refine St.rV [_] [tI e [iv ((j+1:Nat):Int)] 3,tI f [g.tv.1,g.fv.1,g.rv.1,g.xv.1,g.start.nv.1] 32,tI b [iv ((l:Nat):Int)] 3,tI h [(.func (.func 70) #[] [tW e,tW f,tW b,tW h].toArray)] 161] ?_;rw[i];exact⟨rfl,rfl⟩
  focus
   skip
   try simp only[bj]at E
   rw[aA zE]at i;refine g6 ?_;refine St.gf _ rfl rfl (λa=>Ev.cB (.mk rfl) DU) rfl ?_;refine St.gf _ rfl rfl (λa=>Ev.gh (aX.gv rfl a) eK trivial (by rfl)) rfl ?_;refine St.gf _ rfl rfl (λa=>Ev.cB (.mk rfl) Ic) rfl ?_;refine St.gf _ rfl rfl (λa=>Ev.gh (aX.gv rfl a) B7 trivial (by rfl)) rfl ?_;refine St.gf _ rfl rfl (λa=>Ev.eu (aX.gv rfl a) B7) rfl ?_;refine St.gf _ rfl rfl (λa=>Ev.geq (aX.gv rfl a) (aX.gv rfl a)) rfl ?_;refine g2 ?_;refine St.gf _ rfl rfl (λa=>Ev.cB (.mk rfl) DU) rfl ?_;refine St.gf _ rfl rfl (λa=>Ev.gh (aX.gv rfl a) eK trivial (by rfl)) rfl ?_;refine St.gf _ rfl rfl (λa=>Ev.eql (aX.gv rfl a) (.mk rfl)) rfl ?_;refine St.gf _ rfl rfl (λa=>Ev.move (aX.gv rfl a)) rfl ?_;refine St.Pd _ rfl rfl (λa=>Ev.cB (.mk rfl) yp) rfl ?_;refine St.Pd _ rfl rfl (λa=>Ev.gh (aX.gv rfl a) eK trivial (by rfl)) rfl ?_;refine St.Pd _ rfl rfl (λa=>Ev.lss (aX.gv rfl a) (.mk rfl)) rfl ?_;refine St.Pd _ rfl rfl (λa=>Ev.move (aX.gv rfl a)) rfl ?_;refine St.gcf _ rfl rfl (λa=>Ev.cB (.mk rfl) yp) rfl ?_;refine St.gcf _ rfl rfl (λa=>Ev.gh (aX.gv rfl a) eK trivial (by rfl)) rfl ?_;refine St.gcf _ rfl rfl (λa=>Ev.cB (.mk rfl) DT) rfl ?_;refine St.gcf _ rfl rfl (λa=>Ev.gh (aX.gv rfl a) B8 trivial (by rfl)) rfl ?_;refine St.gcf _ rfl rfl (λa=>Ev.eu (aX.gv rfl a) B8) rfl ?_;refine St.gcf _ rfl rfl (λa=>Ev.geq (aX.gv rfl a) (aX.gv rfl a)) rfl ?_;refine St.Pd _ rfl rfl (λa=>Ev.or (aX.gv rfl a) (λhp=>aX.gv rfl (KM a hp))) rfl ?_;refine St.gf _ rfl rfl (λa=>Ev.and (aX.gv rfl a) (λhp=>aX.gv rfl (KM a hp))) rfl ?_;refine g4 ?_;refine St.cond _ rfl (λF=> ?_) (λF=> ?_)
   focus
    skip
    try simp only[bj]at F
    rw[aB zE]at i;refine g3 ?_;refine St.ee (Ev.call (fO 3 j) MX (.ah rfl rfl)) ?_;refine g6 ?_;refine St.rV [_] [tI e [iv ((j+1:Nat):Int)] 3,tI f [g.tv.1,g.fv.1,g.rv.1,g.xv.1,g.start.nv.1] 32,tI b [iv ((l:Nat):Int)] 3,tI h [(.func (.func 70) #[] [tW e,tW f,tW b,tW h].toArray)] 161] ?_;rw[i];exact⟨rfl,rfl⟩
   focus
    skip
    try simp only[bj]at F
    rw[aA zE]at i;refine g6 ?_;refine St.gt _ rfl rfl (λa=>Ev.cB (.mk rfl) yp) rfl ?_;refine St.gt _ rfl rfl (λa=>Ev.gh (aX.gv rfl a) eK trivial (by rfl)) rfl ?_;refine St.gt _ rfl rfl (λa=>Ev.neq (aX.gv rfl a) (.mk rfl)) rfl ?_;refine g4 ?_;refine St.cond _ rfl (λG=> ?_) (λG=> ?_)
    focus
     skip
     try simp only[bj]at G
     rw[aB zE]at i;refine g3 ?_;refine St.ee (Ev.call (fO 5 j) MX (.ah rfl rfl)) ?_;refine g6 ?_;refine St.rV [_] [tI e [iv ((j+1:Nat):Int)] 3,tI f [g.tv.1,g.fv.1,g.rv.1,g.xv.1,g.start.nv.1] 32,tI b [iv ((l:Nat):Int)] 3,tI h [(.func (.func 70) #[] [tW e,tW f,tW b,tW h].toArray)] 161] ?_;rw[i];exact⟨rfl,rfl⟩
    focus
     skip
     try simp only[bj]at G
     rw[aA zE]at i;refine g8 ?_;refine St.cond _ rfl (λq=> ?_) (λq=> ?_)
     focus
      skip
      try simp only[bj]at q
      obtain⟨Y,Z⟩:=aF (show x.rule.toNat<g.rules.length by omega)
      have H:r=Y.kids:=by rw[←P,aB zE,aZ,aw,Z];rfl
      have I:lv=l:=by rw[←p,aB zE]
      refine g5 ?_;refine St.ee (Ev.cM (k:=x.rule.toNat) (.mk rfl) (.mk rfl) B7 oW zE zE) ?_;refine g2 ?_;refine St.slot 83 (iv r) rfl (congrArg iv H.symm) ?_;refine St.jq b (L':=[iv ((lv:Nat):Int)]) (by rw[I]) ?_;refine g2 ?_
     rotate_left
     focus
      skip
      try simp only[bj]at q
      have H:r=0:=by rw[←P,aA zE]
      have I:lv=l+1:=by rw[←p,aA zE]
      refine St.slot 12 (iv r) rfl (congrArg iv H.symm) ?_;refine g3 ?_;refine St.bL (.mk rfl) (.mk rfl) eL rfl (by rfl) ?_;refine St.jq b (L':=[iv ((lv:Nat):Int)]) (by rw[I];rfl) ?_;refine go ?_
  all_goals
   refine g2 ?_;refine St.mE () ⟨i,by omega,by omega⟩
 ·rintro _ ⟨i,ak4,akS⟩
  refine g10 ?_;refine St.cq (λJ=> ?_) (λJ=> ?_)
  ·rw[aB zE]at i
   refine g3 ?_;refine St.ee (Ev.call (fO 9 j) MX (.ah rfl rfl)) ?_;refine g5 ?_;refine St.rV [_] [tI e [iv ((j+1:Nat):Int)] 3,tI f [g.tv.1,g.fv.1,g.rv.1,g.xv.1,g.start.nv.1] 32,tI b [iv ((lv:Nat):Int)] 3,tI h [(.func (.func 70) #[] [tW e,tW f,tW b,tW h].toArray)] 161] ?_;rw[i];exact⟨rfl,rfl⟩
  ·rw[aA zE]at i
   refine g2 ?_;refine St.join (ι:=Unit) (λu T=>(2,iv (c2:Nat))::T) (λu=>[tI R (sK x) 51,tI D [iv 0,iv 0] 39,tI e [iv ((j+1:Nat):Int)] 3,tI f [g.tv.1,g.fv.1,g.rv.1,g.xv.1,g.start.nv.1] 32,tI b [iv ((lv:Nat):Int)] 3,tI h [(.func (.func 70) #[] [tW e,tW f,tW b,tW h].toArray)] 161,aD (sl bP x.kv.1 x.kids),aD (aL ae x.kids),aD (sl bX g.rv.1 g.rules),aD (sl dT g.xv.1 g.aK)]) (λu=>True) (aC.k5 1 6 7 10 11) ?_ ?_
   ·refine g13 ?_
    refine St.cq (λK=> ?_) (λK=> ?_)
    ·have L:c2=0:=by rw[←Q,aA zE]
     refine g4 ?_;refine St.mE () trivial
    ·have L:c2=ch+1:=by rw[←Q,aB zE]
     refine g2 ?_;refine St.mE () trivial
   ·intro _ _
    refine g7 ?_;refine St.cq (λPg=> ?_) (λPg=> ?_)
    ·rw[aB zE]at i
     refine g3 ?_;refine St.ee (Ev.call (fO 14 j) MX (.ah rfl rfl)) ?_;refine g5 ?_;refine St.rV [_] [tI e [iv ((j+1:Nat):Int)] 3,tI f [g.tv.1,g.fv.1,g.rv.1,g.xv.1,g.start.nv.1] 32,tI b [iv ((lv:Nat):Int)] 3,tI h [(.func (.func 70) #[] [tW e,tW f,tW b,tW h].toArray)] 161] ?_;rw[i];exact⟨rfl,rfl⟩
    ·rw[aA zE]at i
     refine g12 ?_;refine St.pb (ι:=Nat) (κ:=HZ) (λk z T=>(102,iv k)::T) (λk z=>[tI D [iv 0,iv 0] 39,tI e [iv ((z.nodes:Nat):Int)] 3,tI f [g.tv.1,g.fv.1,g.rv.1,g.xv.1,g.start.nv.1] 32,tI b [iv ((z.leaves:Nat):Int)] 3,tI h [(.func (.func 70) #[] [tW e,tW f,tW b,tW h].toArray)] 161,aD (sl bP x.kv.1 x.kids),aD (aL ae x.kids),aD (sl bX g.rv.1 g.rules),aD (sl dT g.xv.1 g.aK)]) (λk z=>k≤x.kids.length∧nu (g.rules.map dL.kids) g.aK.length (aM x) d ch ⟨j,l⟩=kX (g.rules.map dL.kids) g.aK.length ((x.kids.map aM).drop k) (d+1) c2 z∧z.nodes≤200∧z.leaves≤z.nodes) (λk z=>x.kids.length-k) 0 ⟨j+1,lv⟩ (aC.k6 1 2 6 10 100 101) ⟨aP _,i,by dsimp only;omega,by dsimp only;rw[←p];split<;>omega⟩ ?_;rintro k ⟨n,o⟩ ⟨hk,m,t,M⟩
     dsimp only at t M⊢
     refine g6 ?_;refine St.cq (λIl=> ?_) (λIl=> ?_)
     ·obtain⟨y,hy⟩:=aF (show k<x.kids.length by omega)
      have N:=aa hy
      refine St.cN ae x.kids (x:=y) N ?_
      have B:=Nd (rk:=(g.rules.map dL.kids)) (nl:=g.aK.length) hy (d+1) c2 ⟨n,o⟩
      refine g7 ?_;refine St.ee (Ev.j2 (.mk rfl) hy A9 trivial mP gX.eq) ?_;refine St.al (λT7=> ?_);refine g4 ?_;refine St.dup (sl bX g.rv.1 g.rules) ?_;refine St.dup (sl dT g.xv.1 g.aK) ?_;refine g5 ?_;refine St.slot 109 (iv ((d+1:Nat):Int)) rfl rfl ?_;refine go ?_;refine St.fg (U y N (d+1) c2 ⟨n,o⟩ (V y N) zE zE t M) ac0 (.mk rfl) (.fk rfl rfl rfl) rfl ?_;rintro Ni _ ⟨rfl,rfl⟩;refine St.abB ?_;refine St.al (λb15=> ?_);refine g10 ?_;refine St.cond _ rfl (λO=> ?_) (λO=> ?_)
      ·skip
       rw[aB (show(nu (g.rules.map dL.kids) g.aK.length (aM y) (d+1) c2 ⟨n,o⟩).2.1≠0 by simpa using O)]at B;rw[B]at m;refine g12 ?_;refine St.rV [_] [tI e [iv (((nu (g.rules.map dL.kids) g.aK.length (aM y) (d+1) c2 ⟨n,o⟩).1.nodes:Nat):Int)] 3,tI f [g.tv.1,g.fv.1,g.rv.1,g.xv.1,g.start.nv.1] 32,tI b [iv (((nu (g.rules.map dL.kids) g.aK.length (aM y) (d+1) c2 ⟨n,o⟩).1.leaves:Nat):Int)] 3,tI h [(.func (.func 70) #[] [tW e,tW f,tW b,tW h].toArray)] 161] ?_
       rw[m];exact⟨rfl,rfl⟩
      ·skip
       have A:¬(nu (g.rules.map dL.kids) g.aK.length (aM y) (d+1) c2 ⟨n,o⟩).2.1≠0:=by simpa using O
       rw[aA A]at B
       have S:=Jx (aM y) (d+1) c2 ⟨n,o⟩ (fK.1 A) M
       refine g8 ?_;refine St.py (k+1) (nu (g.rules.map dL.kids) g.aK.length (aM y) (d+1) c2 ⟨n,o⟩).1 ⟨by omega,m.trans B,S.1,S.2⟩
     ·rw[SI zE]at m
      refine g7 ?_;refine St.ee (Ev.build (bC.nil) (λw=>fC w)) ?_;refine g4 ?_;refine St.rV [_] [tI e [iv ((n:Nat):Int)] 3,tI f [g.tv.1,g.fv.1,g.rv.1,g.xv.1,g.start.nv.1] 32,tI b [iv ((o:Nat):Int)] 3,tI h [(.func (.func 70) #[] [tW e,tW f,tW b,tW h].toArray)] 161] ?_
      rw[m];exact⟨rfl,rfl⟩
theorem ME (g:ei)(t:bH)(hw:bP.wf t):cX prog 23 #[gK g,eG t] [eD g,ae t] (fv (jv (dG g) (aM t))):=by
 unfold cX;refine dR.body (args:=[gK g,eG t]) 21 func23 rfl ntmps23 rfl (λc=> ?_);refine St.cast (H':=[aD (eD g),aD (ae t)]) rfl ?_;refine go ?_
 refine St.gG (eD g) (λ_:Unit=>Af g) (λρ h=>⟨(),h⟩) λ_=> ?_
 refine St.cast (H':=[aD (sl pj g.tv.1 g.types),aD (aL wj g.types),aD (sl gD g.fv.1 g.bh),aD (sl bX g.rv.1 g.rules),aD (aL cR g.rules),aD (sl dT g.xv.1 g.aK),aD (aL eO g.aK),aD (aJ g.start),aD (eD g),aD (ae t)]) rfl ?_
 have a:=W6 g t
 refine go ?_;refine St.cW (.mk rfl) rfl (λi=> ?_);refine St.cW (.mk rfl) rfl (λl=> ?_);refine St.al (λm=> ?_);refine g4 ?_;refine St.al (λe=> ?_);refine St.al (λf=> ?_);refine St.bL (.mk rfl) (.mk rfl) eL rfl (by rfl) ?_;refine St.jq e (L':=[iv ((0:Nat):Int)]) rfl ?_;refine St.bL (.mk rfl) (.mk rfl) eL rfl (by rfl) ?_;refine St.jq f (L':=[iv ((0:Nat):Int)]) rfl ?_;refine g4 ?_;refine St.al (λj=> ?_);refine g4 ?_;refine St.ee (Ev.func (.pL rfl rfl rfl rfl)) ?_;refine St.bL (.mk rfl) (.mk rfl) afZ rfl (by rfl) ?_;refine g4 ?_;refine St.dup (sl bX g.rv.1 g.rules) ?_;refine St.dup (sl dT g.xv.1 g.aK) ?_;refine St.dup (ae t) ?_;refine g3 ?_;refine St.fg (B4 e i f j g t 1 0 ⟨0,0⟩ hw zE zE (by simp) (by simp)) ac0 (.mk rfl) (.fk rfl rfl rfl) rfl ?_;rintro v12 _ ⟨rfl,rfl⟩;refine St.abB ?_;refine St.al (λn=> ?_);refine g10 ?_;refine St.cond _ rfl (λd=> ?_) (λd=> ?_)
 ·skip
  rw[aB (show(nu (g.rules.map dL.kids) g.aK.length (aM t) 1 0 ⟨0,0⟩).2.1≠0 by simpa using d)]at a;refine g8 ?_;refine St.rV [_] [] ?_;exact congrArg fv a.symm
 ·skip
  have b:¬(nu (g.rules.map dL.kids) g.aK.length (aM t) 1 0 ⟨0,0⟩).2.1≠0:=by simpa using d
  rw[aA b]at a
  have o:=Jx (aM t) 1 0 ⟨0,0⟩ (fK.1 b) (aQ _)
  refine g9 ?_;refine St.cq (λk=> ?_) (λk=> ?_)
  ·rw[aB zE]at a
   refine g2 ?_;refine St.ee (Ev.call (fO 2 (-2)) MX (.ah rfl rfl)) ?_;refine g5 ?_;refine St.rV [_] [] ?_;exact congrArg fv a.symm
  ·rw[aA zE]at a
   refine g4 ?_;refine St.ee (Ev.build (bC.nil) (λw=>fC w)) ?_;refine g4 ?_;refine St.rV [_] [] ?_;exact congrArg fv a.symm
theorem ae5 (x:bH):GL (aM x)=1+uG (x.kids.map aM):=by cases x;rw[aM,jE,GL];rfl
theorem ae0 (x:bH):AM (aM x)=(if x.rule<0 then 1 else 0)+pI (x.kids.map aM):=by cases x;rw[aM,jE,AM];rfl
theorem ae4 (G:ep)(x:bH)(k:Nat)(up:Int)(w:Nat):rS G (aM x) k up w=⟨k,decide (x.rule<0),N6 G x.rule x.lex,up,k+(1+uG (x.kids.map aM)),w,w+((if x.rule<0 then 1 else 0)+pI (x.kids.map aM))⟩::sB G (x.kids.map aM) (k+1) k (w+(if x.rule<0 then 1 else 0)):=by
 cases x;rw[aM,jE,rS];rfl
theorem Bb {nr nl:Nat}:∀{l:List dA},mC nr nl l→∀t∈l,jU nr nl t
 | [],_,t,h=>by cases h
 |x::l,h,t,ht=>by
  rw[mC]at h
  rcases bT.1 ht with rfl|ht
  ·exact h.1
  ·exact Bb h.2 t ht
theorem Ul {nr nl:Nat}(x:bH)(h:jU nr nl (aM x)):(-1≤x.rule∧x.rule<nr)∧(x.rule<0→x.kids=[]∧0≤x.lex∧x.lex<nl)∧∀y∈x.kids,jU nr nl (aM y):=by
 cases x with
 |mk r y v l=>
  rw[aM,jE,jU]at h;refine⟨h.1,λa=> ?_,λy hy=>Bb h.2.2.2 _ (di hy)⟩;obtain⟨h1,b,c⟩:=h.2.1 a;exact⟨List.map_eq_nil_iff.1 h1,b,c⟩
theorem LM:∀l m:List dA,uG (l++m)=uG l+uG m
 | [],m=>by rw[nQ,uG];omega
 |x::l,m=>by rw[jg,uG,LM l,uG];omega
theorem Dn:∀l m:List dA,pI (l++m)=pI l+pI m
 | [],m=>by rw[nQ,pI];omega
 |x::l,m=>by rw[jg,pI,Dn l,pI];omega
theorem LL (G:ep):∀(l m:List dA) (k:Nat) (up:Int) (w:Nat),sB G (l++m) k up w=sB G l k up w++sB G m (k+uG l) up (w+pI l)
 | [],m,k,up,w=>by rw[nQ,sB,uG,pI];rfl
 |x::l,m,k,up,w=>by rw[jg,sB,LL G l,sB,uG,pI,cr,pt,pt]
def He (G:ep)(l:List dA)(n w k:Nat):List Nq:=sB G (l.take k) (n+1) n w
theorem Ft (G:ep)(l:List dA)(n w:Nat):He G l n w 0=[]:=by unfold He;rw[nR,sB]
theorem Fq (G:ep){l:List dA}{k:Nat}{t:dA}(h:l[k]?=some t)(n w:Nat):He G l n w (k+1)=He G l n w k++rS G t (n+1+uG (l.take k)) n (w+pI (l.take k)):=by
 unfold He;rw[aO h,LL,sB,sB,fV]
theorem V5 (G:ep)(l:List dA)(n w k:Nat):(He G l n w k).length=uG (l.take k):=Dr ..
theorem L7 (G:ep)(l:List dA)(n w:Nat){k:Nat}(h:l.length≤k):He G l n w k=sB G l (n+1) n w:=by unfold He;rw[dV h]
theorem Qm {l:List dA}{k:Nat}{t:dA}(h:l[k]?=some t):uG (l.take k)+GL t≤uG l:=by
 conv=>rhs;rw[←jN k l]
 rw[bA h,LM,uG];omega
theorem QV {l:List dA}{k:Nat}{t:dA}(h:l[k]?=some t):pI (l.take (k+1))=pI (l.take k)+AM t∧pI (l.take k)+AM t≤pI l:=by
 refine⟨by rw[aO h,Dn,pI,pI];omega,?_⟩
 conv=>rhs;rw[←jN k l]
 rw[bA h,Dn,pI];omega
theorem zQ (f b h i:Nat)(g:ei):∀(x:bH) (up:Int) (L:List Nq) (w:Nat) (vl:Value),vl.oneCell'=true→bP.wf x→jU g.rules.length g.aK.length (aM x)→L.length+GL (aM x)≤200→w+AM (aM x)≤200→dR prog 104 ([eG x,iv up]++ [tW f,tW b,tW h,tW i]).toArray [aD (ae x),tI f [vl] 142,row vl 147 6 (L).length (rows j4 (L)),tI b [iv ((w:Nat):Int)] 3,tI h [g.tv.1,g.fv.1,g.rv.1,g.xv.1,g.start.nv.1] 32,tI i [(.func (.func 104) #[] [tW f,tW b,tW h,tW i].toArray)] 202,aD (sl bX g.rv.1 g.rules),aD (sl dT g.xv.1 g.aK)] (λv H'=>∃v2,v2.oneCell'=true∧H'=[tI f [v2] 142,row v2 147 6 (L++rS (dG g) (aM x) L.length up w).length (rows j4 (L++rS (dG g) (aM x) L.length up w)),tI b [iv ((w+AM (aM x):Nat):Int)] 3,tI h [g.tv.1,g.fv.1,g.rv.1,g.xv.1,g.start.nv.1] 32,tI i [(.func (.func 104) #[] [tW f,tW b,tW h,tW i].toArray)] 202]):=by
 intro x
 induction x using bH.ind
 rename_i x Q
 intro up L w vl R hw S U V;refine dR.body (args:=[eG x,iv up]++ [tW f,tW b,tW h,tW i]) 73 func104 rfl ntmps104 rfl (λc=> ?_);refine go ?_
 have G:=ae4 (dG g) x L.length up w
 obtain⟨hrl,hle,H⟩:=Ul x S;rw[ae5]at U
 have s:=ae0 x
 rw[s]at V;refine St.oL x ?_;refine St.wf x.kv.1 (λW TI=> ?_)
 have n:(L++ [(⟨L.length,false,[],up,0,w,0⟩:Nq)]).length=L.length+1:=by rw[bJ];rfl
 obtain⟨a,t⟩:∃a,a=w+(if x.rule<0 then 1 else 0):=⟨_,rfl⟩
 obtain⟨d,o⟩:∃d,d=decide (x.rule<0):=⟨_,rfl⟩
 obtain⟨e,p⟩:∃e,e=N6 (dG g) x.rule x.lex:=⟨_,rfl⟩
 have A:(L++ [(⟨L.length,d,e,up,0,w,0⟩:Nq)]).length=L.length+1:=by rw[bJ];rfl
 rw[←t,←o,←p]at G
 have X:a≤w+(if x.rule<0 then 1 else 0):=by omega
 refine go ?_;refine St.cW (.mk rfl) rfl (λY=> ?_);refine g14 ?_;refine St.ee (Ev.build (bC.ah rfl rfl) (λw=>I9 rfl rfl w)) ?_;refine St.hS rfl (.ay rfl) oY oU Xm rfl rfl (by simp[Value.cells]) rfl rfl (λb17=> ?_);refine St.aq (.mk rfl) (.mk rfl) oY oU Xm abJ (by simp[Value.oneCell',Value.cells]) zE zE rfl rfl rfl rfl (λj Z=> ?_);refine St.aN j (show _=(L++ [(⟨L.length,false,[],up,0,w,0⟩:Nq)]).length from n.symm) (show _=rows j4 (L++ [(⟨L.length,false,[],up,0,w,0⟩:Nq)]) by rw[bB];rfl) ?_;refine St.bQ j (λJ _=> ?_);refine St.j6 j zE (λbs cs l=> ?_);refine St.bL (.mk rfl) (.mk rfl) Xd J (by rfl) ?_;refine g2 ?_;refine St.join (ι:=Unit) (λu T=>T) (λu=>[tI Y (sK x) 51,tI f [j] 142,row j 147 6 (L++ [(⟨L.length,d,e,up,0,w,0⟩:Nq)]).length (rows j4 (L++ [(⟨L.length,d,e,up,0,w,0⟩:Nq)])),tI b [iv ((a:Nat):Int)] 3,tI h [g.tv.1,g.fv.1,g.rv.1,g.xv.1,g.start.nv.1] 32,tI i [(.func (.func 104) #[] [tW f,tW b,tW h,tW i].toArray)] 202,aD (sl bP x.kv.1 x.kids),aD (aL ae x.kids),aD (sl bX g.rv.1 g.rules),aD (sl dT g.xv.1 g.aK)]) (λu=>True) (aC.k5 2 3 5 6 8) ?_ ?_
 ·refine g7 ?_
  refine St.cq (λB=> ?_) (λB=> ?_)
  ·obtain⟨hk0,V1,hx1⟩:=hle B
   obtain⟨K,Bd⟩:=aF (show x.lex.toNat<g.aK.length by omega)
   have q:d=true:=by rw[o];exact dI B
   have r:e=K.word:=by rw[p,N6,aB B,aZ,show(dG g).aK=g.aK.map qD from rfl,aw,Bd];rfl
   have I:a=w+1:=by rw[t,aB B]
   subst q;subst r
   refine go ?_;refine St.dZ [row j 147 6 (L++ [(⟨L.length,false,[],up,0,w,0⟩:Nq)]).length (rows j4 (L++ [(⟨L.length,false,[],up,0,w,0⟩:Nq)]))] mixed (λM N=> ?_);refine SW.gd 0 ?_;refine SW.gd 1 ?_;refine SW.gd 2 ?_;refine SW.gd 3 ?_;refine SW.gd 4 ?_;refine SW.gd 5 ?_;refine SW.gd 6 ?_;refine SW.gd 7 ?_;refine SW.dd 8 rfl (λ_=>Ev.cM (k:=x.lex.toNat) (.mk rfl) (.mk rfl) B8 nH zE zE) ?_;refine SW.gd 9 ?_;refine SW.gd 10 ?_;refine SW.dd 11 rfl (λ_=>Ev.kF (k:=L.length) l (.mk rfl) (.mk rfl) oY oU zE zE) ?_;refine SW.dd 12 rfl (λ_=>Ev.pA l (.mk rfl) DM) ?_;refine SW.t1 13 ?_;refine St.bz (.mk rfl) (.mk rfl) CG rfl zE (by decide) ?_;refine g2 ?_;refine SW.go ?_;refine SW.dd 14 rfl (λ_=>Ev.kF (k:=L.length) l (.mk rfl) (.mk rfl) oY oU zE zE) ?_;refine SW.dd 15 rfl (λ_=>Ev.pA l (.mk rfl) xg) ?_;refine SW.t1 16 ?_;refine St.bz (.mk rfl) (.mk rfl) CH rfl zE (by decide) ?_;refine g2 ?_;refine SW.go ?_;refine SW.dn ?_;refine g4 ?_;refine St.bL (.mk rfl) (.mk rfl) eL rfl (by rfl) ?_;refine St.jq b (L':=[iv ((w+1:Nat):Int)]) rfl ?_;refine g2 ?_;refine St.aN j (n.trans A.symm) (show _=rows j4 (L++ [(⟨L.length,true,K.word,up,0,w,0⟩:Nq)])from(by simp only[bB,zh];rfl)) ?_;refine St.jq b (L':=[iv ((a:Nat):Int)]) (by rw[I]) ?_;refine St.mE () trivial
  ·obtain⟨O,Uz⟩:=aF (show x.rule.toNat<g.rules.length by omega)
   have q:d=false:=by rw[o];exact e9 zE
   have r:e=O.name:=by rw[p,N6,aA zE,aZ,show(dG g).rules=g.rules.map l8 from rfl,aw,Uz];rfl
   have I:a=w:=by rw[t,aA zE];rfl
   subst q;subst r
   refine St.dZ [row j 147 6 (L++ [(⟨L.length,false,[],up,0,w,0⟩:Nq)]).length (rows j4 (L++ [(⟨L.length,false,[],up,0,w,0⟩:Nq)]))] mixed (λM N=> ?_);refine SW.gd 0 ?_;refine SW.gd 1 ?_;refine SW.gd 2 ?_;refine SW.gd 3 ?_;refine SW.gd 4 ?_;refine SW.gd 5 ?_;refine SW.dd 6 rfl (λ_=>Ev.cM (k:=x.rule.toNat) (.mk rfl) (.mk rfl) B7 oW zE zE) ?_;refine SW.gd 7 ?_;refine SW.gd 8 ?_;refine SW.dd 9 rfl (λ_=>Ev.kF (k:=L.length) l (.mk rfl) (.mk rfl) oY oU zE zE) ?_;refine SW.dd 10 rfl (λ_=>Ev.pA l (.mk rfl) xg) ?_;refine SW.t1 11 ?_;refine St.bz (.mk rfl) (.mk rfl) CH rfl zE (by decide) ?_;refine g2 ?_;refine SW.go ?_;refine SW.dn ?_;refine go ?_;refine St.aN j (n.trans A.symm) (show _=rows j4 (L++ [(⟨L.length,false,O.name,up,0,w,0⟩:Nq)])from(by simp only[bB,zh];rfl)) ?_;refine St.jq b (L':=[iv ((a:Nat):Int)]) (by rw[I]) ?_;refine St.mE () trivial
 ·intro _ _
  refine g10 ?_;refine St.aN j (show _=(L++(⟨L.length,d,e,up,0,w,0⟩:Nq)::He (dG g) (x.kids.map aM) L.length a 0).length by rw[Ft]) (show _=rows j4 (L++(⟨L.length,d,e,up,0,w,0⟩:Nq)::He (dG g) (x.kids.map aM) L.length a 0) by rw[Ft]) ?_;refine St.jq b (L':=[iv ((a+pI ((x.kids.map aM).take 0):Nat):Int)]) (by rw[nR,pI];rfl) ?_;refine St.pb (ι:=Nat) (κ:=Value) (λk z T=>(53,iv k)::T) (λk z=>[tI f [z] 142,row z 147 6 (L++(⟨L.length,d,e,up,0,w,0⟩:Nq)::He (dG g) (x.kids.map aM) L.length a k).length (rows j4 (L++(⟨L.length,d,e,up,0,w,0⟩:Nq)::He (dG g) (x.kids.map aM) L.length a k)),tI b [iv ((a+pI ((x.kids.map aM).take k):Nat):Int)] 3,tI h [g.tv.1,g.fv.1,g.rv.1,g.xv.1,g.start.nv.1] 32,tI i [(.func (.func 104) #[] [tW f,tW b,tW h,tW i].toArray)] 202,aD (sl bP x.kv.1 x.kids),aD (aL ae x.kids),aD (sl bX g.rv.1 g.rules),aD (sl dT g.xv.1 g.aK)]) (λk z=>k≤x.kids.length∧z.oneCell'=true) (λk z=>x.kids.length-k) 0 j (aC.k6 2 3 5 8 51 52) ⟨aP _,J⟩ ?_;rintro k z ⟨hk,P⟩
  have m:(L++(⟨L.length,d,e,up,0,w,0⟩:Nq)::He (dG g) (x.kids.map aM) L.length a k).length=L.length+1+uG ((x.kids.map aM).take k):=by rw[bJ,eU,V5];omega
  refine g6 ?_;refine St.cq (λh54=> ?_) (λh54=> ?_)
  ·obtain⟨y,hy⟩:=aF (show k<x.kids.length by omega)
   have D:=aa hy
   have E:(x.kids.map aM)[k]?=some (aM y):=by rw[aw,hy];rfl
   refine St.cN ae x.kids (x:=y) D ?_
   have hnt:=Qm E
   obtain⟨TG,hl2⟩:=QV E;refine g7 ?_;refine St.ee (Ev.j2 (.mk rfl) hy A9 trivial mP gX.eq) ?_;refine St.al (λb10=> ?_);refine g3 ?_;refine St.dup (sl bX g.rv.1 g.rules) ?_;refine St.dup (sl dT g.xv.1 g.aK) ?_;refine g4 ?_;refine St.fg (Q y D (L.length:Nat) (L++(⟨L.length,d,e,up,0,w,0⟩:Nq)::He (dG g) (x.kids.map aM) L.length a k) (a+pI ((x.kids.map aM).take k)) z P (W y D) (H y D) zE zE) Wb (.mk rfl) (.ah rfl rfl) rfl ?_;rintro v60 _ ⟨C,Pz,rfl⟩;refine St.yP ?_;refine St.aN C (show _=(L++(⟨L.length,d,e,up,0,w,0⟩:Nq)::He (dG g) (x.kids.map aM) L.length a (k+1)).length by rw[m,Fq _ E,cr];rfl) (show _=rows j4 (L++(⟨L.length,d,e,up,0,w,0⟩:Nq)::He (dG g) (x.kids.map aM) L.length a (k+1)) by rw[m,Fq _ E,cr];rfl) ?_;refine St.jq b (L':=[iv ((a+pI ((x.kids.map aM).take (k+1)):Nat):Int)]) (by rw[TG,pt]) ?_;refine g8 ?_;refine St.py (k+1) C ⟨by omega,Pz⟩
  ·have F:(x.kids.map aM).length≤k:=by rw[aR];omega
   rw[L7 _ _ _ _ F,dV F];rw[L7 _ _ _ _ F,dV F]at m;refine St.j6 z zE (λbs cs l=> ?_);refine g5 ?_;refine St.dZ [row z 147 6 (L++(⟨L.length,d,e,up,0,w,0⟩:Nq)::sB (dG g) (x.kids.map aM) (L.length+1) L.length a).length (rows j4 (L++(⟨L.length,d,e,up,0,w,0⟩:Nq)::sB (dG g) (x.kids.map aM) (L.length+1) L.length a))] mixed (λM N=> ?_);refine SW.gd 0 ?_;refine SW.gd 1 ?_;refine SW.gd 2 ?_;refine SW.gd 3 ?_;refine SW.gd 4 ?_;refine SW.gd 6 ?_;refine SW.slot 68 (iv ((w+((if x.rule<0 then 1 else 0)+pI (x.kids.map aM)):Nat):Int)) rfl (congrArg iv (by rw[t];omega)) ?_;refine SW.t1 5 ?_;refine go ?_;refine St.slot 67 (iv ((L.length+(1+uG (x.kids.map aM)):Nat):Int)) rfl (congrArg iv (by rw[m];omega)) ?_;refine g2 ?_;refine SW.go ?_;refine SW.dd 7 rfl (λ_=>Ev.kF (k:=L.length) l (.mk rfl) (.mk rfl) oY oU zE zE) ?_;refine SW.dd 8 rfl (λ_=>Ev.pA l (.mk rfl) Kr) ?_;refine SW.t1 9 ?_;refine St.bz (.mk rfl) (.mk rfl) eL rfl zE (by decide) ?_;refine g2 ?_;refine SW.go ?_;refine SW.dd 10 rfl (λ_=>Ev.kF (k:=L.length) l (.mk rfl) (.mk rfl) oY oU zE zE) ?_;refine SW.dd 11 rfl (λ_=>Ev.pA l (.mk rfl) DN) ?_;refine SW.t1 12 ?_;refine St.bz (.mk rfl) (.mk rfl) eL rfl zE (by decide) ?_;refine g2 ?_;refine SW.go ?_;refine SW.dn ?_;refine St.fL ?_;refine St.aN z (show _=(L++rS (dG g) (aM x) L.length up w).length by rw[G,bJ,bJ];rfl) (show _=rows j4 (L++rS (dG g) (aM x) L.length up w) by rw[G];simp only[Vf,zh];rfl) ?_;refine St.jq b (L':=[iv ((w+AM (aM x):Nat):Int)]) (by rw[s,t,pt]) ?_;refine St.rV [] [tI f [z] 142,row z 147 6 (L++rS (dG g) (aM x) L.length up w).length (rows j4 (L++rS (dG g) (aM x) L.length up w)),tI b [iv ((w+AM (aM x):Nat):Int)] 3,tI h [g.tv.1,g.fv.1,g.rv.1,g.xv.1,g.start.nv.1] 32,tI i [(.func (.func 104) #[] [tW f,tW b,tW h,tW i].toArray)] 202] ?_;exact⟨z,P,rfl⟩
theorem JI (g:ei)(t:bH)(hw:bP.wf t)(d:jU g.rules.length g.aK.length (aM t))(e:GL (aM t)≤200)(a:AM (aM t)≤200):dR prog 58 #[gK g,eG t] ([eD g,ae t].map aD) (λv H'=>v.oneCell'=true∧H'=[aD (sl j4 v (rS (dG g) (aM t) 0 (-1) 0))]):=by
 refine dR.body (args:=[gK g,eG t]) 13 func58 rfl ntmps58 rfl (λc=> ?_);refine St.cast (H':=[aD (eD g),aD (ae t)]) rfl ?_;refine go ?_
 refine St.gG (eD g) (λ_:Unit=>Af g) (λρ h=>⟨(),h⟩) λ_=> ?_
 refine St.cast (H':=[aD (sl pj g.tv.1 g.types),aD (aL wj g.types),aD (sl gD g.fv.1 g.bh),aD (sl bX g.rv.1 g.rules),aD (aL cR g.rules),aD (sl dT g.xv.1 g.aK),aD (aL eO g.aK),aD (aJ g.start),aD (eD g),aD (ae t)]) rfl ?_;refine go ?_;refine St.cW (.mk rfl) rfl (λf=> ?_);refine St.cW (.mk rfl) rfl (λl=> ?_);refine g5 ?_;refine St.al (λi=> ?_);refine g4 ?_;refine St.al (λb=> ?_);refine St.bL (.mk rfl) (.mk rfl) eL rfl (by rfl) ?_;refine St.jq b (L':=[iv ((0:Nat):Int)]) rfl ?_;refine g4 ?_;refine St.al (λj=> ?_);refine g4 ?_;refine St.ee (Ev.func (.pL rfl rfl rfl rfl)) ?_;refine St.bL (.mk rfl) (.mk rfl) af1 rfl (by rfl) ?_;refine g3 ?_;refine St.dup (sl bX g.rv.1 g.rules) ?_;refine St.dup (sl dT g.xv.1 g.aK) ?_;refine St.dup (ae t) ?_;refine St.dH 147 6 ?_;refine St.aN (.slice none 0 0) (show _=([]:List Nq).length from rfl) (show _=rows j4 []from rfl) ?_;refine g3 ?_;refine St.fg (zQ i b f j g t (-1) [] 0 (.slice none 0 0) rfl hw d (by simpa using e) (by simpa using a)) Wb (.mk rfl) (.ah rfl rfl) rfl ?_;rintro v11 _ ⟨v2,k,rfl⟩;refine St.yP ?_;refine g9 ?_;refine St.aN v2 (show _=(rS (dG g) (aM t) 0 (-1) 0).length from rfl) (show _=rows j4 (rS (dG g) (aM t) 0 (-1) 0)from rfl) ?_;refine St.bI v2 j4 (rS (dG g) (aM t) 0 (-1) 0) rfl rfl (λ_ _=>trivial) ?_;refine St.rV [_] [aD (sl j4 v2 (rS (dG g) (aM t) 0 (-1) 0))] ?_;exact⟨k,rfl⟩
theorem Mb (b:gl)(x:Nq):cX prog 60 #[.agg #[sv b.name,iv b.kind,sv b.label],.agg #[.bool x.leaf,sv x.label,iv x.up,iv (x.fin:Int),iv (x.frm:Int),iv (x.tqo:Int)]] [] (.bool (s6 b x)):=by
 refine cX.l5 (args:=[.agg #[sv b.name,iv b.kind,sv b.label],.agg #[.bool x.leaf,sv x.label,iv x.up,iv (x.fin:Int),iv (x.frm:Int),iv (x.tqo:Int)]]) 34 func60 rfl ntmps60 rfl (λc=> ?_);refine g2 ?_;refine St.cW (.mk rfl) rfl (λg=> ?_);refine St.cW (.mk rfl) rfl (λh=> ?_);refine g17 ?_;refine St.cond _ rfl (λd=> ?_) (λd=> ?_)
 focus
  skip
  try simp only[bj]at d
  refine g6 ?_;refine St.gt _ rfl rfl (λa=>Ev.cB (.mk rfl) xg) rfl ?_;refine St.gt _ rfl rfl (λa=>Ev.gh (aX.gv rfl a) oc trivial (by rfl)) rfl ?_;refine St.gt _ rfl rfl (λa=>Ev.cB (.mk rfl) yq) rfl ?_;refine St.gt _ rfl rfl (λa=>Ev.gh (aX.gv rfl a) oc trivial (by rfl)) rfl ?_;refine St.gt _ rfl rfl (λa=>Ev.Gy (aX.gv rfl a) (aX.gv rfl a)) rfl ?_;refine g7 ?_;refine St.rV [_] [] ?_;exact be (by unfold s6;rw[aB d];congr 1;rw[rh,qu,eJ])
 focus
  skip
  try simp only[bj]at d
  refine g6 ?_;refine St.cond _ rfl (λe=> ?_) (λe=> ?_)
  focus
   skip
   try simp only[bj]at e
   refine g5 ?_;refine St.gt _ rfl rfl (λa=>Ev.cB (.mk rfl) xg) rfl ?_;refine St.gt _ rfl rfl (λa=>Ev.gh (aX.gv rfl a) oc trivial (by rfl)) rfl ?_;refine St.gt _ rfl rfl (λa=>Ev.cB (.mk rfl) yq) rfl ?_;refine St.gt _ rfl rfl (λa=>Ev.gh (aX.gv rfl a) oc trivial (by rfl)) rfl ?_;refine St.gt _ rfl rfl (λa=>Ev.Gy (aX.gv rfl a) (aX.gv rfl a)) rfl ?_;refine g7 ?_;refine St.rV [_] [] ?_;exact be (by unfold s6;rw[aA d,aB e];congr 1;rw[rh,qu,eJ])
  focus
   skip
   try simp only[bj]at e
   refine g6 ?_;refine St.cond _ rfl (λf=> ?_) (λf=> ?_)
   focus
    skip
    try simp only[bj]at f
    refine g10 ?_;refine St.rV [_] [] ?_;exact be (by unfold s6;rw[aA d,aA e,aB f])
   focus
    skip
    try simp only[bj]at f
    refine go ?_
 all_goals
  refine g8 ?_;refine St.rV [_] [] ?_;exact be (by unfold s6;rw[aA d,aA e,aA f])
theorem Fx (v:Value)(L:List Nq)(k:Int)(a b:Nat)(n:a<L.length)(o:b<L.length):cX prog 61 #[v,iv k,iv a,iv b] [sl j4 v L] (.bool (zG L k a b)):=by
 refine cX.l6 (args:=[v,iv k,iv a,iv b]) 75 func61 rfl ntmps61 rfl (λc=> ?_);refine go ?_
 have m:=getD_some n
 have j:=getD_some o
 refine St.wf v (λ_ p=> ?_)
 generalize e:L.getD a ux=A at m
 generalize f:L.getD b ux=B at j
 refine g17 ?_;refine St.cond _ rfl (λg=> ?_) (λg=> ?_)
 focus
  skip
  try simp only[bj]at g
  refine g15 ?_;refine St.rV [_] [] ?_;exact be (by unfold zG;rw[aB g,f])
 focus
  skip
  try simp only[bj]at g
  refine g6 ?_;refine St.cond _ rfl (λh=> ?_) (λh=> ?_)
  focus
   skip
   try simp only[bj]at h
   refine g6 ?_;refine St.gt _ rfl rfl (λd=>Ev.move (.mk rfl)) rfl ?_;refine St.gt _ rfl rfl (λd=>Ev.move (.mk rfl)) rfl ?_;refine St.gt _ rfl rfl (λd=>Ev.move (.mk rfl)) rfl ?_;refine St.gt _ rfl rfl (λd=>Ev.cM (k:=a) (aX.gv rfl d) (aX.gv rfl d) oY oU (by first|omega|(simp only[bj]at d;omega)) zE) rfl ?_;refine St.gt _ rfl rfl (λd=>Ev.FV (aX.gv rfl d) (by first|omega|(simp only[bj]at d;omega)) Kr) rfl ?_;refine St.gt _ rfl rfl (λd=>Ev.ld1 (aX.gv rfl d) m eK trivial rfl) rfl ?_;refine St.gt _ rfl rfl (λd=>Ev.lss (aX.gv rfl d) (aX.gv rfl d)) rfl ?_;refine g7 ?_;refine St.rV [_] [] ?_;exact be (by unfold zG;rw[aA g,aB h,e];congr 1<;>exact decide_eq_decide.2 zE)
  focus
   skip
   try simp only[bj]at h
   refine g6 ?_;refine St.cond _ rfl (λi=> ?_) (λi=> ?_)
   focus
    skip
    try simp only[bj]at i
    refine go ?_;refine St.rq mixed (by kernel_rfl) (Mm.drawn _ _) ?_;refine g17 ?_;refine St.rV [_] [] ?_;exact be (by unfold zG;rw[aA g,aA h,aB i,e,f];exact decide_eq_decide.2 zE)
   focus
    skip
    try simp only[bj]at i
    refine g6 ?_;refine St.cond _ rfl (λl=> ?_) (λl=> ?_)
    focus
     skip
     try simp only[bj]at l
     refine go ?_;refine St.rq mixed (by kernel_rfl) (Mm.drawn _ _) ?_;refine g17 ?_;refine St.rV [_] [] ?_;exact be (by unfold zG;rw[aA g,aA h,aA i,aB l,e,f];exact decide_eq_decide.2 zE)
    focus
     skip
     try simp only[bj]at l
     refine go ?_
 all_goals
  refine g3 ?_;refine St.rq mixed (by kernel_rfl) (Mm.drawn _ _) ?_;refine g4 ?_;refine Sq.gt _ rfl rfl (λd=>Ev.move (.mk rfl)) rfl ?_;refine Sq.gt _ rfl rfl (λd=>Ev.move (.mk rfl)) rfl ?_;refine Sq.gt _ rfl rfl (λd=>Ev.cM (k:=a) (aX.gv rfl d) (aX.gv rfl d) oY oU (by first|omega|(simp only[bj]at d;omega)) (by first|omega|(simp only[bj]at d;omega))) rfl ?_;refine Sq.gt _ rfl rfl (λd=>Ev.FV (aX.gv rfl d) (by first|omega|(simp only[bj]at d;omega)) xh) rfl ?_;refine Sq.gt _ rfl rfl (λd=>Ev.ld1 (aX.gv rfl d) m eK trivial rfl) rfl ?_;refine Sq.gt _ rfl rfl (λd=>Ev.move (.mk rfl)) rfl ?_;refine Sq.gt _ rfl rfl (λd=>Ev.move (.mk rfl)) rfl ?_;refine Sq.gt _ rfl rfl (λd=>Ev.cM (k:=b) (aX.gv rfl d) (aX.gv rfl d) oY oU (by first|omega|(simp only[bj]at d;omega)) (by first|omega|(simp only[bj]at d;omega))) rfl ?_;refine Sq.gt _ rfl rfl (λd=>Ev.FV (aX.gv rfl d) (by first|omega|(simp only[bj]at d;omega)) xh) rfl ?_;refine Sq.gt _ rfl rfl (λd=>Ev.ld1 (aX.gv rfl d) j eK trivial rfl) rfl ?_;refine Sq.gt _ rfl rfl (λd=>Ev.eql (aX.gv rfl d) (aX.gv rfl d)) rfl ?_;refine g5 ?_;refine St.rV [_] [] ?_;exact be (by unfold zG;rw[aA g,aA h,aA i,aA l,e,f];rw[rh];simp only[Bool.and_eq_true,decide_eq_true_eq,bne_iff_ne,beq_iff_eq,ne_eq,Int.ofNat_inj,Int.natCast_inj,Bool.not_eq_true',decide_eq_false_iff_not])
end Go.Proofs.YtiefglecbgdaiaaGreatDoor
