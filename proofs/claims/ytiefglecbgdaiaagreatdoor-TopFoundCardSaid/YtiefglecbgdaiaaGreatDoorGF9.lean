/-
  Laws of walks through programs, and facts on grammars, trees and queries.
  Conditions: none.
-/
import Derived.Test.YtiefglecbgdaiaaGreatDoorGF8
set_option maxHeartbeats 4000000
set_option maxRecDepth 20000
set_option linter.unusedVariables false
set_option linter.unusedSimpArgs false
namespace Go.Proofs.YtiefglecbgdaiaaGreatDoor
open Go Go.J Tryz
theorem LU {W:List Int}{k:Nat}{x:Int}(h:W[k]?=some x):(rows aI W)[k*1+0]?=some (iv x):=by
 rw[ez,e8,fU,aw,h];rfl
theorem RL (n:Nat):List.replicate n (iv 0)=rows aI (List.replicate n 0):=by rw[ez,uw]
theorem Q1 {l:List Nat}(h:∀i∈l,i≤9223372036854775807):∀x∈ints l,aI.wf x:=by
 intro x hx;obtain⟨i,a,rfl⟩:=cA.1 hx
 have:=h i a
 show bR (i:Int)
 unfold bR;omega
def ph (L:List Nq)(ks:List kR)(v:gl)(vs:List gl)(p:List Nat)(O:List (List Nat))(i:Nat):List (List Nat):=if 500<O.length then O else if Nx L ks v p i then B5 L ks vs (p++ [i]) O else O
theorem Nf (L:List Nq)(ks:List kR)(v:gl)(vs:List gl)(p:List Nat)(O:List (List Nat)):B5 L ks (v::vs) p O=(List.range L.length).foldl (ph L ks v vs p) O:=rfl
theorem fold_succ {α:Type}(f:α→Nat→α)(O:α)(i:Nat):(List.range (i+1)).foldl f O=f ((List.range i).foldl f O) i:=by rw[mU,qv];rfl
theorem C9 {L:List Nq}{ks:List kR}{v:gl}{vs:List gl}{p:List Nat}{O:List (List Nat)}{i:Nat}(h:500<((List.range i).foldl (ph L ks v vs p) O).length):∀m,(List.range (i+m)).foldl (ph L ks v vs p) O=(List.range i).foldl (ph L ks v vs p) O
 |0=>rfl
 |m+1=>by
  have a:=C9 h m
  rw[show i+(m+1)=(i+m)+1 by omega,fold_succ,a]
  unfold ph;rw[aB];exact h
theorem SM (L:List Nq)(ks:List kR)(vs:List gl)(p:List Nat)(O:List (List Nat))(h:O.length≤501)(a:vs=[]→O.length≤500):(B5 L ks vs p O).length≤501:=by
 rw[EE L ks vs p O h a,cy];omega
theorem Lp {B:List Int}{r:List Nat}{m j:Nat}(h:B.take m=ints r)(hm:r.length=m)(a:j<m):B[j]?=some ((r.getD j 0:Nat):Int):=by
 have h1:(B.take m)[j]?=B[j]?:=by rw[om,aB a]
 rw[←h1,h,ints,aw,aZ,aj zE];rfl
theorem take_set {A:List Int}{p:List Nat}{i:Nat}(h:A.take p.length=ints p)(a:p.length<A.length):(A.set p.length (i:Int)).take (p.length+1)=ints (p++ [i]):=by
 have b:(A.set p.length (i:Int))[p.length]?=some (i:Int):=by rw[fp a]
 rw[aO b,List.take_set,h,ints,ints,cL,List.set_eq_of_length_le (by rw[aR];exact aQ _)];rfl
theorem CI {A B:List Int}{p:List Nat}{i:Nat}(h:A.take (p++ [i]).length=ints (p++ [i])):A.take p.length=ints p:=by
 have h1:(A.take (p++ [i]).length).take p.length=A.take p.length:=by rw[List.take_take,bJ];congr 1;simp only[List.length_cons,List.length_nil];omega
 rw[←h1,h,ints,ints,cL,List.take_left' (by simp)]
theorem FY {p:List Nat}{n j:Nat}(h:∀y∈p,y<n)(a:j<p.length):p.getD j 0<n:=by
 rw[aZ,aj a];exact h _ (fq a)
theorem drop_cons {α:Type}{l:List α}{k:Nat}{v:α}{vs:List α}(h:l.drop k=v::vs):l[k]?=some v∧l.drop (k+1)=vs:=by
 have h1:l[k]?=some v:=by
  have:=congrArg (λm=>m[0]?) h
  rw[x9,fU]at this;exact this
 refine⟨h1,?_⟩
 have a:=bA h1
 rw[h,List.cons.injEq]at a;exact a.2.symm
theorem EF (l g n o bt:Nat)(r vl:Value)(L:List Nq)(q:Cn)(hq:WQ q.vars q.aW):∀(m:Nat) (vs:List gl) (p:List Nat) (O:List (List Nat)) (A:List Int) (N:Value) (us:List aY) (T:List (List Nat)),vs.length=m→T=B5 L q.aW vs p O→q.vars.drop p.length=vs→p.length+vs.length=q.vars.length→A.length=q.vars.length→A.take p.length=ints p→(∀y∈p,y<L.length)→N.oneCell'=true→us.length=O.length→O.length≤501→(vs=[]→O.length≤500)→
 dR prog 59 ([iv ((p.length:Nat):Int)]++ [tW l,tW g,tW n,tW o,tW bt]).toArray [tI l [r] 35,row r 3 1 q.vars.length (rows aI (A)),tI g [N] 70,row N 35 1 (O).length (rows bU (us)),aD (pf aI (us) ((O).map ints)),tI n [vl] 142,tI o [q.vv.1,q.kv.1] 78,tI bt [(.func (.func 59) #[] [tW l,tW g,tW n,tW o,tW bt].toArray)] 144,aD (sl j4 vl L),aD (sl ui q.vv.1 q.vars),aD (sl vc q.kv.1 q.aW)] (λv H'=>∃A' P Q,A'.length=q.vars.length∧A'.take p.length=ints p∧P.oneCell'=true∧Q.length=T.length∧H'=[tI l [r] 35,row r 3 1 q.vars.length (rows aI (A')),tI g [P] 70,row P 35 1 (T).length (rows bU (Q)),aD (pf aI (Q) ((T).map ints)),tI n [vl] 142,tI o [q.vv.1,q.kv.1] 78,tI bt [(.func (.func 59) #[] [tW l,tW g,tW n,tW o,tW bt].toArray)] 144]):=by
 intro m
 induction m using Nat.strongRecOn
 rename_i m ih
 intro vs p O A N us T hm hT adT hlen hA S hpb hvo hul hO hO0;refine dR.body (args:=[iv ((p.length:Nat):Int)]++ [tW l,tW g,tW n,tW o,tW bt]) 82 func59 rfl ntmps59 rfl (λc=> ?_);refine g2 ?_;refine St.wf vl (λ_ hll=> ?_);refine St.wf q.vv.1 (λhvw _=> ?_)
 have hN4:=hq.BW
 have hN0:=hq.pos
 have hK8:=hq.aW
 refine g7 ?_;refine St.cq (λh14=> ?_) (λh14=> ?_)
 ·have H:vs=[]:=gg zE
  have hAp:A=ints p:=by rw[←S,dV zE]
  have hO5:=hO0 H
  have U:T=O++ [p]:=by rw[hT,H];rfl
  have hpl:(ints p).length=p.length:=bO p
  refine go ?_;refine St.dZ [tI g [N] 70,row N 35 1 (O).length (rows bU (us))] mixed (λd e=> ?_)
  repeat' first
   |with_reducible refine SW.me ?_
    first
     |refine SW.gd 2 ?_
     |refine SW.t2 0 1 ?_ ?_
     |refine SW.t1 1 ?_
     |refine SW.t1 3 ?_
     |refine SW.t1 4 ?_
     |refine SW.t1 5 ?_
     |refine SW.t1 6 ?_
     |refine SW.t2 0 3 ?_ ?_
     |refine SW.t2 0 4 ?_ ?_
     |refine SW.t1 0 ?_
   |with_reducible refine SW.tg 0 ?_
    refine g3 ?_;refine SW.go ?_
   |with_reducible refine SW.tg 1 ?_
    refine St.hS rfl (.nil) cP eL jF rfl rfl (by simp[Value.cells]) rfl rfl (λb16=> ?_);refine g2 ?_;refine SW.go ?_
   |with_reducible refine SW.tg 3 ?_
    refine St.I5 (.mk rfl) (.mk rfl) cP eL jF vD (mJ _ _) zE zE rfl rfl zE rfl (λM ak7=> ?_);refine St.aN M (show _=(ints p).length by rw[hpl];omega) (show _=rows aI (ints p) by rw[hAp];rfl) ?_;refine St.bQ M (λI _=> ?_);refine St.bI M aI (ints p) rfl rfl (Q1 λi hi=>by have:=hpb i hi;omega) ?_;refine g2 ?_;refine SW.go ?_
   |with_reducible refine SW.tg 4 ?_
    refine St.hS rfl (.ay rfl) B9 jm aaV rfl rfl (by simp[J.cells_one I]) rfl rfl (λb19=> ?_);refine g2 ?_;refine SW.go ?_
   |with_reducible refine SW.tg 5 ?_
    refine St.aq (.mk rfl) (.mk rfl) B9 jm aaV abP (by simp[J.cells_one I,I]) zE zE rfl rfl rfl rfl (λv20 ak8=> ?_);refine St.aN v20 (show _=T.length by rw[U,bJ];rfl) (show _=rows bU (us++ [⟨M,I⟩]) by rw[bB];simp[J.cells_one I];rfl) ?_;refine St.bQ v20 (λh20 _=> ?_);refine g2 ?_;refine SW.go ?_
   |with_reducible refine SW.tg 6 ?_
    refine St.bL (.mk rfl) (.mk rfl) ajR h20 (by rfl) ?_;refine g2 ?_;refine SW.go ?_
  all_goals refine SW.dn ?_
  all_goals
   refine g3 ?_;refine St.Dz us ⟨M,I⟩ (by rw[aR];exact hul) ?_;rw[show O.map ints++ [ints p]=T.map ints by rw[U,cL];rfl];refine St.rV [] [tI l [r] 35,row r 3 1 q.vars.length (rows aI (A)),tI g [v20] 70,row v20 35 1 (T).length (rows bU (us++ [⟨M,I⟩])),aD (pf aI (us++ [⟨M,I⟩]) ((T).map ints)),tI n [vl] 142,tI o [q.vv.1,q.kv.1] 78,tI bt [(.func (.func 59) #[] [tW l,tW g,tW n,tW o,tW bt].toArray)] 144] ?_;exact⟨A,v20,us++ [⟨M,I⟩],hA,S,h20,by rw[U,bJ,bJ,hul];rfl,rfl⟩
 ·obtain⟨G,ws,H⟩:=List.exists_cons_of_length_pos (show 0<vs.length by omega)
  subst H;rw[Nf]at hT;obtain⟨hvr,TC⟩:=drop_cons adT;rw[eU]at hlen hm;refine g10 ?_;refine St.pb (ι:=Nat) (κ:=List Int×Value×List aY×List (List Nat)) (λi z T=>(23,iv i)::T) (λi z=>[tI l [r] 35,row r 3 1 q.vars.length (rows aI (z.1)),tI g [z.2.1] 70,row z.2.1 35 1 (z.2.2.2).length (rows bU (z.2.2.1)),aD (pf aI (z.2.2.1) ((z.2.2.2).map ints)),tI n [vl] 142,tI o [q.vv.1,q.kv.1] 78,tI bt [(.func (.func 59) #[] [tW l,tW g,tW n,tW o,tW bt].toArray)] 144,aD (sl j4 vl L),aD (sl ui q.vv.1 q.vars),aD (sl vc q.kv.1 q.aW)]) (λi z=>i≤L.length∧z.1.length=q.vars.length∧z.1.take p.length=ints p∧z.2.1.oneCell'=true∧z.2.2.1.length=z.2.2.2.length∧z.2.2.2.length≤501∧z.2.2.2=(List.range i).foldl (ph L q.aW G ws p) O) (λi z=>L.length-i) 0 (A,N,us,O) (aC.k7 0 1 2 3 4 5 22) ⟨aP _,hA,S,hvo,hul,hO,rfl⟩ ?_;rintro i ⟨B,w,D,t⟩ ⟨hi,hB,E,u,Z,Ph,s⟩
  dsimp only at hB E u Z Ph s⊢
  refine g6 ?_;refine St.cq (λh24=> ?_) (λh24=> ?_)
  ·obtain⟨nq,hnq⟩:=aF (show i<L.length by omega)
   have hgd:L.getD i ux=nq:=by rw[aZ,hnq];rfl
   have V:∀y∈p++ [i],y<L.length:=λy hy=>by rcases cI.1 hy with h|h;exact hpb y h;rw[bN.1 h];omega
   refine g18 ?_;refine St.cq (λh28=> ?_) (λh28=> ?_)
   ·have W:t=T:=by rw[hT,show L.length=i+(L.length-i) by omega,C9 (by rw[←s];omega),s]
    subst W;refine g6 ?_;refine St.rV [] [tI l [r] 35,row r 3 1 q.vars.length (rows aI (B)),tI g [w] 70,row w 35 1 (t).length (rows bU (D)),aD (pf aI (D) ((t).map ints)),tI n [vl] 142,tI o [q.vv.1,q.kv.1] 78,tI bt [(.func (.func 59) #[] [tW l,tW g,tW n,tW o,tW bt].toArray)] 144] ?_;exact⟨B,w,D,hB,E,u,Z,rfl⟩
   ·refine g4 ?_
    refine St.rq mixed (by kernel_rfl) (Mm.drawn _ _) ?_;refine g3 ?_;refine Sq.ee (Ev.cM (k:=p.length) (.mk rfl) (.mk rfl) HK NZ zE zE) ?_;refine Sq.ee (Ev.j2 (.mk rfl) hvr underlying74 trivial NZ gX.eq) ?_;refine g3 ?_;refine Sq.ee (Ev.j2 (.mk rfl) hnq underlying147 trivial oU gX.eq) ?_;refine Sq.ee (Ev.call (Mb G nq) ahE (.ah rfl rfl)) ?_;refine g3 ?_;refine St.cond _ rfl (λh39=> ?_) (λh39=> ?_)
    ·skip
     have Mj:s6 G nq=false:=by simpa using h39
     have F:Nx L q.aW G p i=false:=by unfold Nx;rw[hgd,Mj];rfl
     have O0:t=(List.range (i+1)).foldl (ph L q.aW G ws p) O:=by rw[fold_succ,←s,ph,aA zE,F];rfl
     refine g9 ?_;refine St.py (i+1) (B,w,D,t) ⟨by omega,hB,E,u,Z,Ph,O0⟩
    ·skip
     have Mj:s6 G nq=true:=by simpa using h39
     refine g7 ?_;refine St.ee (Ev.cw (k:=p.length) (.mk rfl) (.mk rfl) cP eL zE zE) ?_;refine St.bz (.mk rfl) (.mk rfl) eL rfl zE (by decide) ?_;refine St.uQ r (oO _ _ _) ?_
     have hC:=take_set (i:=i) E zE
     have X:(B.set p.length (i:Int)).length=q.vars.length:=by rw[eC];exact hB
     generalize hBC:B.set p.length (i:Int)=C at hC X⊢
     have K:(p++ [i]).length=p.length+1:=by rw[bJ];rfl
     refine g17 ?_;refine St.lH (ι:=Nat) (λj T=>(47,iv j)::(8,.bool true)::T) (λj=>[tI l [r] 35,row r 3 1 q.vars.length (rows aI (C)),tI g [w] 70,row w 35 1 (t).length (rows bU (D)),aD (pf aI (D) ((t).map ints)),tI n [vl] 142,tI o [q.vv.1,q.kv.1] 78,tI bt [(.func (.func 59) #[] [tW l,tW g,tW n,tW o,tW bt].toArray)] 144,aD (sl j4 vl L),aD (sl ui q.vv.1 q.vars),aD (sl vc q.kv.1 q.aW)]) (λj=>j≤q.aW.length∧∀x∈q.aW.take j,wY L (p++ [i]) x=true) (λj=>q.aW.length-j) 0 (aC.k10 0 1 2 3 4 5 22 23 45 46) ⟨aP _,λx hx=>by simp at hx⟩ ?_;rintro j ⟨hj,vO⟩;refine g6 ?_;refine St.cq (λh48=> ?_) (λh48=> ?_)
     ·obtain⟨x,hx⟩:=aF (show j<q.aW.length by omega)
      have XH:=aa hx
      obtain⟨hx1,hx2,hx3,hx4,hx5,hx6,hx7⟩:=hq.link x XH;refine g7 ?_;refine St.ee (Ev.j2 (.mk rfl) hx underlying149 trivial Lk gX.eq) ?_;refine St.al (λb10=> ?_);refine g4 ?_;refine St.dZ [] mixed (λd e=> ?_);refine SW.gd 0 ?_;refine SW.gd 1 ?_;refine SW.gd 2 ?_;refine SW.gd 3 ?_;refine SW.dd 4 rfl (λ_=>Ev.ai8 (.mk rfl) (.mk rfl)) ?_;refine SW.gd 5 ?_;refine SW.gd 6 ?_;refine SW.split 57 _ rfl (λPw=> ?_) (λPw=> ?_)
      ·have hmx:max x.a x.b=((p++ [i]).length:Int)-1:=by rw[K];simp only[decide_eq_true_eq,beq_iff_eq]at Pw;split at Pw<;>omega
       have XG:x.a.toNat<p.length+1:=by omega
       have hxb:x.b.toNat<p.length+1:=by omega
       have Uy:=Lp hC K XG
       have hrb:=Lp hC K hxb
       have hla:=FY V (show x.a.toNat<(p++ [i]).length by omega)
       have hlb:=FY V (show x.b.toNat<(p++ [i]).length by omega)
       refine SW.gd 7 ?_;refine SW.slot 58 (.bool true) rfl (congrArg Value.bool rfl) ?_;refine SW.gt 8 _ d e rfl rfl rfl (λR _=>Ev.gh (.mk rfl) oY trivial (by rfl)) (by kernel_rfl) rfl ?_;refine SW.slot 59 _ rfl (dD rfl _) ?_;refine SW.gt 9 _ d e rfl rfl rfl (λR _=>Ev.cB (.mk rfl) xi) (by kernel_rfl) rfl ?_;refine SW.slot 60 _ rfl (dD rfl _) ?_;refine SW.gt 10 _ d e rfl rfl rfl (λR _=>Ev.gh (.mk rfl) eK trivial (by rfl)) (by kernel_rfl) rfl ?_;refine SW.slot 61 _ rfl (dD rfl _) ?_;refine SW.gt 11 _ d e rfl rfl rfl (λR _=>Ev.gh (.mk rfl) cP trivial (by rfl)) (by kernel_rfl) rfl ?_;refine SW.slot 62 _ rfl (dD rfl _) ?_;refine SW.gt 12 _ d e rfl rfl rfl (λR _=>Ev.cB (.mk rfl) xj) (by kernel_rfl) rfl ?_;refine SW.slot 63 _ rfl (dD rfl _) ?_;refine SW.gt 13 _ d e rfl rfl rfl (λR _=>Ev.gh (.mk rfl) eK trivial (by rfl)) (by kernel_rfl) rfl ?_;refine SW.slot 64 _ rfl (dD rfl _) ?_;refine SW.gt 14 _ d e rfl rfl rfl (λR _=>Ev.cw (k:=x.a.toNat) (.mk rfl) (.mk rfl) cP eL zE zE) (by kernel_rfl) rfl ?_;refine SW.slot 65 _ rfl (dD rfl _) ?_;refine SW.gt 15 _ d e rfl rfl rfl (λR _=>Ev.cx (.mk rfl) eK trivial zE (LU Uy)) (by kernel_rfl) rfl ?_;refine SW.slot 66 _ rfl (dD rfl _) ?_;refine SW.gt 16 _ d e rfl rfl rfl (λR _=>Ev.gh (.mk rfl) cP trivial (by rfl)) (by kernel_rfl) rfl ?_;refine SW.slot 67 _ rfl (dD rfl _) ?_;refine SW.gt 17 _ d e rfl rfl rfl (λR _=>Ev.cB (.mk rfl) td) (by kernel_rfl) rfl ?_;refine SW.slot 68 _ rfl (dD rfl _) ?_;refine SW.gt 18 _ d e rfl rfl rfl (λR _=>Ev.gh (.mk rfl) eK trivial (by rfl)) (by kernel_rfl) rfl ?_;refine SW.slot 69 _ rfl (dD rfl _) ?_;refine SW.gt 19 _ d e rfl rfl rfl (λR _=>Ev.cw (k:=x.b.toNat) (.mk rfl) (.mk rfl) cP eL zE zE) (by kernel_rfl) rfl ?_;refine SW.slot 70 _ rfl (dD rfl _) ?_;refine SW.gt 20 _ d e rfl rfl rfl (λR _=>Ev.cx (.mk rfl) eK trivial zE (LU hrb)) (by kernel_rfl) rfl ?_;refine SW.slot 71 _ rfl (dD rfl _) ?_;refine SW.gt 21 _ d e rfl rfl rfl (λR _=>Ev.call (Fx vl L x.kind _ _ hla hlb) ahF (.pL rfl rfl rfl rfl)) (by kernel_rfl) rfl ?_;refine SW.slot 72 _ rfl (dD rfl _) ?_;refine SW.gt 22 _ d e rfl rfl rfl (λR _=>Ev.not (.mk rfl)) (by kernel_rfl) rfl ?_;refine SW.slot 73 _ rfl (dD rfl _) ?_;refine SW.dd 23 rfl (λ_=>Ev.jt (.mk rfl) rfl (.mk rfl)) ?_;refine SW.dn ?_;refine go ?_;refine St.cond _ rfl (λT9=> ?_) (λT9=> ?_)
       ·skip
        have Yu:wY L (p++ [i]) x=false:=by unfold wY;rw[dI hmx];simpa using T9
        have hok:okB L q.aW (p++ [i])=false:=by unfold okB;rw[List.all_eq_false];exact⟨x,XH,by rw[Yu];decide⟩
        have F:Nx L q.aW G p i=false:=by unfold Nx;rw[hok,Bool.and_false]
        have O0:t=(List.range (i+1)).foldl (ph L q.aW G ws p) O:=by rw[fold_succ,←s,ph,aA zE,F];rfl
        refine g16 ?_;refine St.BS _ rfl rfl ?_;refine g8 ?_;refine St.py (i+1) (C,w,D,t) ⟨by omega,X,CI (B:=C) (i:=i) (by rw[K];exact hC),u,Z,Ph,O0⟩
       ·skip
        have TG:wY L (p++ [i]) x=true:=by unfold wY;rw[dI hmx];simpa using T9
        refine g8 ?_;refine St.aH (j+1) ⟨by omega,λz hz=>by rw[aO hx]at hz;rcases cI.1 hz with h|h;exact vO z h;rw[bN.1 h];exact TG⟩
      ·have TG:wY L (p++ [i]) x=true:=by unfold wY;rw[e9 (by rw[K];simp only[decide_eq_false_iff_not,beq_eq_false_iff_ne]at Pw;split at Pw<;>omega)];rfl
       refine SW.gd 7 ?_;refine SW.slot 58 (.bool false) rfl (congrArg Value.bool rfl) ?_;refine SW.gt 8 undef d e rfl rfl rfl (λR f=>by cases f) (by kernel_rfl) rfl ?_;refine SW.slot 59 undef rfl (bF rfl _) ?_;refine SW.gt 9 undef d e rfl rfl rfl (λR f=>by cases f) (by kernel_rfl) rfl ?_;refine SW.slot 60 undef rfl (bF rfl _) ?_;refine SW.gt 10 undef d e rfl rfl rfl (λR f=>by cases f) (by kernel_rfl) rfl ?_;refine SW.slot 61 undef rfl (bF rfl _) ?_;refine SW.gt 11 undef d e rfl rfl rfl (λR f=>by cases f) (by kernel_rfl) rfl ?_;refine SW.slot 62 undef rfl (bF rfl _) ?_;refine SW.gt 12 undef d e rfl rfl rfl (λR f=>by cases f) (by kernel_rfl) rfl ?_;refine SW.slot 63 undef rfl (bF rfl _) ?_;refine SW.gt 13 undef d e rfl rfl rfl (λR f=>by cases f) (by kernel_rfl) rfl ?_;refine SW.slot 64 undef rfl (bF rfl _) ?_;refine SW.gt 14 undef d e rfl rfl rfl (λR f=>by cases f) (by kernel_rfl) rfl ?_;refine SW.slot 65 undef rfl (bF rfl _) ?_;refine SW.gt 15 undef d e rfl rfl rfl (λR f=>by cases f) (by kernel_rfl) rfl ?_;refine SW.slot 66 undef rfl (bF rfl _) ?_;refine SW.gt 16 undef d e rfl rfl rfl (λR f=>by cases f) (by kernel_rfl) rfl ?_;refine SW.slot 67 undef rfl (bF rfl _) ?_;refine SW.gt 17 undef d e rfl rfl rfl (λR f=>by cases f) (by kernel_rfl) rfl ?_;refine SW.slot 68 undef rfl (bF rfl _) ?_;refine SW.gt 18 undef d e rfl rfl rfl (λR f=>by cases f) (by kernel_rfl) rfl ?_;refine SW.slot 69 undef rfl (bF rfl _) ?_;refine SW.gt 19 undef d e rfl rfl rfl (λR f=>by cases f) (by kernel_rfl) rfl ?_;refine SW.slot 70 undef rfl (bF rfl _) ?_;refine SW.gt 20 undef d e rfl rfl rfl (λR f=>by cases f) (by kernel_rfl) rfl ?_;refine SW.slot 71 undef rfl (bF rfl _) ?_;refine SW.gt 21 undef d e rfl rfl rfl (λR f=>by cases f) (by kernel_rfl) rfl ?_;refine SW.slot 72 undef rfl (bF rfl _) ?_;refine SW.gt 22 undef d e rfl rfl rfl (λR f=>by cases f) (by kernel_rfl) rfl ?_;refine SW.slot 73 undef rfl (bF rfl _) ?_;refine SW.dd 23 rfl (λ_=>Ev.mI (.mk rfl) rfl (.mk rfl)) ?_;refine SW.dn ?_;refine go ?_;refine St.cond _ rfl (λT9=> ?_) (λT9=> ?_)
       ·skip
        cases T9
       ·skip
        refine g8 ?_;refine St.aH (j+1) ⟨by omega,λz hz=>by rw[aO hx]at hz;rcases cI.1 hz with h|h;exact vO z h;rw[bN.1 h];exact TG⟩
     ·have hok:okB L q.aW (p++ [i])=true:=by unfold okB;rw[j8];intro z hz;exact vO z (by rw[dV zE];exact hz)
      have F:Nx L q.aW G p i=true:=by unfold Nx;rw[hgd,Mj,hok];rfl
      refine g10 ?_;refine St.X0 _ rfl rfl ?_;refine St.dup (sl j4 vl L) ?_;refine St.dup (sl ui q.vv.1 q.vars) ?_;refine St.dup (sl vc q.kv.1 q.aW) ?_
      obtain⟨T3,Y⟩:∃T3,T3=B5 L q.aW ws (p++ [i]) t:=⟨_,rfl⟩
      refine g4 ?_;refine St.slot 79 (iv (((p++ [i]).length:Nat):Int)) rfl (congrArg iv (by rw[K];rfl)) ?_;refine St.fg (ih ws.length zE ws (p++ [i]) t C w D T3 rfl Y (by rw[K];exact TC) (by rw[K];omega) X (by rw[K];exact hC) V u Z Ph (λ_=>by omega)) acZ (.mk rfl) (.ay rfl) rfl ?_;rintro v80 _ ⟨C3,vo3,us3,hC3,aiB,ai5,ai1,rfl⟩;refine St.abC ?_
      have O0:T3=(List.range (i+1)).foldl (ph L q.aW G ws p) O:=by rw[fold_succ,←s,ph,aA zE,F,Y];rfl
      have aiE:T3.length≤501:=by rw[Y];exact SM _ _ _ _ _ Ph (λ_=>by omega)
      refine g8 ?_;refine St.py (i+1) (C3,vo3,us3,T3) ⟨by omega,hC3,CI (B:=C3) (i:=i) aiB,ai5,ai1,aiE,O0⟩
  ·obtain rfl:i=L.length:=by omega
   have W:t=T:=by rw[s,hT]
   subst W;refine g4 ?_;refine St.fL ?_;refine St.rV [] [tI l [r] 35,row r 3 1 q.vars.length (rows aI (B)),tI g [w] 70,row w 35 1 (t).length (rows bU (D)),aD (pf aI (D) ((t).map ints)),tI n [vl] 142,tI o [q.vv.1,q.kv.1] 78,tI bt [(.func (.func 59) #[] [tW l,tW g,tW n,tW o,tW bt].toArray)] 144] ?_;exact⟨B,w,D,hB,E,u,Z,rfl⟩
theorem VB (T:List eM)(Fs:List o7)(x:km):uA T Fs (qD x)=if isWord x.word=false then 10 else if x.weight<0∨1000000<x.weight then 3 else if(dB T Fs (ao x.graph)).1≠0 then(dB T Fs (ao x.graph)).1 else(qo (dx x.fY)).1:=rfl
theorem RX (T:List eM)(Fs:List o7)(x:dL):nE T Fs (l8 x)=if x.kids<1∨3<x.kids∨x.weight<0∨1000000<x.weight then 3 else if(dB T Fs (ao x.graph)).1≠0 then(dB T Fs (ao x.graph)).1 else if nD (ao x.graph) x.kids=false then 5 else(qo (dx x.fY)).1:=rfl
theorem EM {T:List eM}{Fs:List o7}{G:de}(h:(dB T Fs G).1=0):(fE T.length Fs.length G).1=0:=by
 rcases Decidable.em ((fE T.length Fs.length G).1=0)with h1|h1
 ·exact h1
 ·rw[CU h1]at h;exact h
theorem BC {T:List eM}{Fs:List o7}(c:Fs.length≤40){g:ct}(h:(dB T Fs (ao g)).1=0):0<g.nodes.length∧∀n∈g.nodes,Asc n.aW∧n.aW.length≤1000000:=by
 have h1:=EM h
 obtain⟨b,_,d⟩:=zJ h1;refine⟨by rw[cj]at b;exact b,λn a=>⟨Bg h1 n a,?_⟩⟩
 have e:=(d (lR n) (di a)).2
 have:=Th (Bg h1 n a) (nf:=Fs.length) (λx hx=>by
  have:=e (fB x) (di hx)
  exact⟨this.1,this.2.1⟩)
 omega
theorem Hl (tv xv e g:aY)(a:List yK)(b:List jG)(x:km)(o:iJ (a.map cn))(p:∀f∈b,0≤f.EU∧f.EU<a.length∧0≤f.value∧f.value<a.length)(hw:dT.wf x):kC prog 68 #[.agg #[tv.1,xv.1],jc e g,aeY x] [sl pj tv.1 a,sl gD xv.1 b,sl ax e.1 (dN (a.map cn)),sl ax g.1 (dM (a.map cn)),eO x,u8] (iv (uA (a.map cn) (b.map gj) (qD x))):=by
 refine kC.body (args:=[.agg #[tv.1,xv.1],jc e g,aeY x]) (ds:=[sl pj tv.1 a,sl gD xv.1 b,sl ax e.1 (dN (a.map cn)),sl ax g.1 (dM (a.map cn)),eO x,u8]) 34 func68 rfl ntmps68 rfl (λc q=> ?_);refine St.cast (H':=[aD (sl pj tv.1 a),aD (sl gD xv.1 b),aD (sl ax e.1 (dN (a.map cn))),aD (sl ax g.1 (dM (a.map cn))),aD (eO x),aD (u8)]) rfl ?_;refine go ?_
 refine St.gG (eO x) (λ_:Unit=>VD x) (λρ h=>⟨(),h⟩) λ_=> ?_
 refine St.cast (H':=[aD (aJ x.graph),aD (iV x.fY),aD (sl pj tv.1 a),aD (sl gD xv.1 b),aD (sl ax e.1 (dN (a.map cn))),aD (sl ax g.1 (dM (a.map cn))),aD (eO x),aD (u8)]) rfl ?_
 have d:=VB (a.map cn) (b.map gj) x
 obtain⟨n,s,k⟩:=hw
 replace n:x.word.length≤140737488351232:=n
 refine go ?_;refine St.cW (.mk rfl) rfl (λt=> ?_);refine St.cW (.mk rfl) rfl (λu=> ?_);refine St.cW (.mk rfl) rfl (λv=> ?_);refine g8 ?_;refine St.ee (Ev.lp q (lO x.word zE) MV (.ay rfl)) ?_;refine g3 ?_;refine St.cond _ rfl (λi=> ?_) (λi=> ?_)
 ·skip
  rw[aB (by simpa using i)]at d;refine g7 ?_;refine St.rV [_] [] ?_;exact ie d.symm
 ·skip
  rw[aA (by simpa using i)]at d;refine g9 ?_;refine St.gf _ rfl rfl (λj=>Ev.cB (.mk rfl) DL) rfl ?_;refine St.gf _ rfl rfl (λj=>Ev.gh (aX.gv rfl j) eK trivial (by rfl)) rfl ?_;refine St.gf _ rfl rfl (λj=>Ev.gtr (aX.gv rfl j) (.mk rfl)) rfl ?_;refine g3 ?_;refine St.cq (λr=> ?_) (λr=> ?_)
  ·rw[aB zE]at d
   refine g7 ?_;refine St.rV [_] [] ?_;exact ie d.symm
  ·rw[aA zE]at d
   refine g8 ?_;refine St.ee (Ev.iz 1 (.mk rfl) mh trivial jk rfl rfl) ?_;refine St.slot 23 (au x.graph) rfl rfl ?_;refine St.ee (Ev.call (qN tv xv e g a b x.graph o p) YP (.fk rfl rfl rfl)) ?_;refine St.al (λw=> ?_);refine g10 ?_;refine St.cond _ rfl (λl=> ?_) (λl=> ?_)
   ·skip
    have m:(dB (a.map cn) (b.map gj) (ao x.graph)).1≠0:=by simpa using l
    rw[aB m]at d;refine g9 ?_;refine St.rV [_] [] ?_;exact ie d.symm
   ·skip
    have m:¬(dB (a.map cn) (b.map gj) (ao x.graph)).1≠0:=by simpa using l
    rw[aA m]at d;refine g5 ?_;refine St.ee (Ev.iz 6 (.mk rfl) BA trivial rY rfl rfl) ?_;refine St.slot 31 (wh x.fY) rfl rfl ?_;refine St.ee (Ev.call (ua x.fY k) Wc (.ay rfl)) ?_;refine St.ee (Ev.DJ (.mk rfl) Ng rfl (by first|rw[eK]|(dsimp only;rw[eK])|kernel_rfl) rfl) ?_;refine g4 ?_;refine St.rV [_] [] ?_;exact ie d.symm
theorem ML (tv xv g i:aY)(a:List yK)(d:List jG)(x:dL)(o:iJ (a.map cn))(p:∀f∈d,0≤f.EU∧f.EU<a.length∧0≤f.value∧f.value<a.length)(q:d.length≤40)(hw:bX.wf x):cX prog 67 #[.agg #[tv.1,xv.1],jc g i,XZ x] [sl pj tv.1 a,sl gD xv.1 d,sl ax g.1 (dN (a.map cn)),sl ax i.1 (dM (a.map cn)),cR x] (iv (nE (a.map cn) (d.map gj) (l8 x))):=by
 unfold cX;refine dR.body (args:=[.agg #[tv.1,xv.1],jc g i,XZ x]) 46 func67 rfl ntmps67 rfl (λc=> ?_);refine St.cast (H':=[aD (sl pj tv.1 a),aD (sl gD xv.1 d),aD (sl ax g.1 (dN (a.map cn))),aD (sl ax i.1 (dM (a.map cn))),aD (cR x)]) rfl ?_;refine go ?_
 refine St.gG (cR x) (λ_:Unit=>LV x) (λρ h=>⟨(),h⟩) λ_=> ?_
 refine St.cast (H':=[aD (aJ x.graph),aD (iV x.fY),aD (sl pj tv.1 a),aD (sl gD xv.1 d),aD (sl ax g.1 (dN (a.map cn))),aD (sl ax i.1 (dM (a.map cn))),aD (cR x)]) rfl ?_
 have e:=RX (a.map cn) (d.map gj) x
 obtain⟨v,r,s,k⟩:=hw;refine go ?_;refine St.cW (.mk rfl) rfl (λw=> ?_);refine St.cW (.mk rfl) rfl (λy=> ?_);refine St.cW (.mk rfl) rfl (λz=> ?_);refine g10 ?_;refine St.gf _ rfl rfl (λb=>Ev.cB (.mk rfl) DZ) rfl ?_;refine St.gf _ rfl rfl (λb=>Ev.gh (aX.gv rfl b) eK trivial (by rfl)) rfl ?_;refine St.gf _ rfl rfl (λb=>Ev.gtr (aX.gv rfl b) (.mk rfl)) rfl ?_;refine g2 ?_;refine St.gf _ rfl rfl (λb=>Ev.cB (.mk rfl) Da) rfl ?_;refine St.gf _ rfl rfl (λb=>Ev.gh (aX.gv rfl b) eK trivial (by rfl)) rfl ?_;refine St.gf _ rfl rfl (λb=>Ev.lss (aX.gv rfl b) (.mk rfl)) rfl ?_;refine g2 ?_;refine St.gf _ rfl rfl (λb=>Ev.cB (.mk rfl) Da) rfl ?_;refine St.gf _ rfl rfl (λb=>Ev.gh (aX.gv rfl b) eK trivial (by rfl)) rfl ?_;refine St.gf _ rfl rfl (λb=>Ev.gtr (aX.gv rfl b) (.mk rfl)) rfl ?_;refine g3 ?_;refine St.cq (λt=> ?_) (λt=> ?_)
 ·rw[aB zE]at e
  refine g7 ?_;refine St.rV [_] [] ?_;exact ie e.symm
 ·rw[aA zE]at e
  refine g8 ?_;refine St.ee (Ev.iz 1 (.mk rfl) mh trivial jk rfl rfl) ?_;refine St.slot 29 (au x.graph) rfl rfl ?_;refine St.ee (Ev.call (qN tv xv g i a d x.graph o p) YP (.fk rfl rfl rfl)) ?_;refine St.al (λA=> ?_);refine g10 ?_;refine St.cond _ rfl (λl=> ?_) (λl=> ?_)
  ·skip
   have j:(dB (a.map cn) (d.map gj) (ao x.graph)).1≠0:=by simpa using l
   rw[aB j]at e;refine g9 ?_;refine St.rV [_] [] ?_;exact ie e.symm
  ·skip
   have j:¬(dB (a.map cn) (d.map gj) (ao x.graph)).1≠0:=by simpa using l
   rw[aA j]at e;obtain⟨m,u⟩:=BC (by rw[aR];exact q) (fK.1 j);refine g6 ?_;refine St.ee (Ev.iz 1 (.mk rfl) mh trivial jk rfl rfl) ?_;refine St.slot 37 (au x.graph) rfl rfl ?_;refine g2 ?_;refine St.ee (Ev.call (Ec x.graph x.kids m u) abT (.ah rfl rfl)) ?_;refine g3 ?_;refine St.cond _ rfl (λn=> ?_) (λn=> ?_)
   ·skip
    rw[aB (by simpa using n)]at e;refine g7 ?_;refine St.rV [_] [] ?_;exact ie e.symm
   ·skip
    rw[aA (by simpa using n)]at e;refine g5 ?_;refine St.ee (Ev.iz 6 (.mk rfl) BA trivial rY rfl rfl) ?_;refine St.slot 43 (wh x.fY) rfl rfl ?_;refine St.ee (Ev.call (ua x.fY k) Wc (.ay rfl)) ?_;refine St.ee (Ev.DJ (.mk rfl) Ng rfl (by first|rw[eK]|(dsimp only;rw[eK])|kernel_rfl) rfl) ?_;refine g4 ?_;refine St.rV [_] [] ?_;exact ie e.symm
theorem Ge {T:List eM}{Fs:List o7}{l:List ry}{k:Nat}{t:ry}(ht:l[k]?=some t)(known:List ab):gz T Fs known k (l.drop k)=if isName t.name=false then(10,(k:Int))else if t.name∈known then(7,(k:Int))else if nE T Fs t≠0 then(nE T Fs t,(k:Int))else gz T Fs (known++ [t.name]) (k+1) (l.drop (k+1)):=by rw[bA ht,gz]
theorem Ja {T:List eM}{Fs:List o7}{l:List ry}{k:Nat}(h:l.length≤k)(known:List ab):gz T Fs known k (l.drop k)=(0,0):=by rw[fS h,gz]
theorem G4 {T:List eM}{Fs:List o7}{l:List Eb}{k:Nat}{t:Eb}(ht:l[k]?=some t):gy T Fs k (l.drop k)=if uA T Fs t≠0 then(uA T Fs t,(k:Int))else gy T Fs (k+1) (l.drop (k+1)):=by rw[bA ht,gy]
theorem JB {T:List eM}{Fs:List o7}{l:List Eb}{k:Nat}(h:l.length≤k):gy T Fs k (l.drop k)=(0,0):=by rw[fS h,gy]
theorem Un (g:ei):kq (dG g)=if(ig (g.types.map cn) (g.bh.map gj)).1≠0 then ig (g.types.map cn) (g.bh.map gj)else if(g.bh.map gj).length≤3 then(9,-1)else if 40<(g.rules.map l8).length∨100<(g.aK.map qD).length then(2,-1)
 else if(gz (g.types.map cn) (g.bh.map gj) [] 0 (g.rules.map l8)).1≠0 then gz (g.types.map cn) (g.bh.map gj) [] 0 (g.rules.map l8)else if(gy (g.types.map cn) (g.bh.map gj) 0 (g.aK.map qD)).1≠0 then gy (g.types.map cn) (g.bh.map gj) 0 (g.aK.map qD)
 else if(dB (g.types.map cn) (g.bh.map gj) (ao g.start)).1≠0 then((dB (g.types.map cn) (g.bh.map gj) (ao g.start)).1,-1)else(0,0):=rfl
theorem mz {r x E:Int×Int}{c i:Int}(h:x=if r.1≠0 then r else E)(e:r=(c,i))(a:c≠0):x=(c,i):=by rw[h,aB (by rw[e];exact a),e]
theorem Di {r x E:Int×Int}(h:x=if r.1≠0 then r else E)(e:r=(0,0)):x=E:=by rw[h,aA (by rw[e];simp)]
theorem wU (g:ei):kC prog 20 #[gK g] [eD g,tz,u8] (fv (kq (dG g))):=by
 refine kC.body (args:=[gK g]) (ds:=[eD g,tz,u8]) 112 func20 rfl ntmps20 rfl (λc P=> ?_);refine St.cast (H':=[aD (eD g),aD (tz),aD (u8)]) rfl ?_;refine go ?_
 refine St.gG (eD g) (λ_:Unit=>Af g) (λρ h=>⟨(),h⟩) λ_=> ?_
 refine St.cast (H':=[aD (sl pj g.tv.1 g.types),aD (aL wj g.types),aD (sl gD g.fv.1 g.bh),aD (sl bX g.rv.1 g.rules),aD (aL cR g.rules),aD (sl dT g.xv.1 g.aK),aD (aL eO g.aK),aD (aJ g.start),aD (eD g),aD (tz),aD (u8)]) rfl ?_
 have a:=Un g
 have Q:(g.types.map cn).length=g.types.length:=aR ..
 have hFl:(g.bh.map gj).length=g.bh.length:=aR ..
 have R:(g.rules.map l8).length=g.rules.length:=aR ..
 have S:(g.aK.map qD).length=g.aK.length:=aR ..
 refine St.wf g.rv.1 (λu hrl=> ?_);refine St.wf g.xv.1 (λU TI=> ?_);refine go ?_;refine St.cW (.mk rfl) rfl (λJ=> ?_);refine St.al (λK=> ?_);refine g5 ?_;refine St.ee (Ev.iz 2 (.mk rfl) underlying25 trivial Zz rfl rfl) ?_;refine St.slot 17 (.agg #[g.tv.1,g.fv.1]) rfl rfl ?_;refine St.al (λL=> ?_);refine g7 ?_;refine St.ee (Ev.call (Dd g.tv g.fv g.types g.bh) ahG (.ay rfl)) ?_;refine St.al (λb4=> ?_);refine g10 ?_;refine St.cond _ rfl (λA=> ?_) (λA=> ?_)
 ·skip
  have v:(ig (g.types.map cn) (g.bh.map gj)).1≠0:=by simpa using A
  rw[aB v]at a;refine g8 ?_;refine St.rV [_] [] ?_;exact congrArg fv a.symm
 ·skip
  have v:¬(ig (g.types.map cn) (g.bh.map gj)).1≠0:=by simpa using A
  rw[aA v]at a;obtain⟨_,y,V,B⟩:=Uv (fK.1 v)
  have C:∀f∈g.bh,0≤f.EU∧f.EU<g.types.length∧0≤f.value∧f.value<g.types.length:=λf W=>by have:=B (gj f) (di W);rw[Q]at this;exact this
  refine g11 ?_;refine St.cq (λX=> ?_) (λX=> ?_)
  ·rw[aB zE]at a
   refine g2 ?_;refine St.ee (Ev.call (eN 9 (-1)) II (.ah rfl rfl)) ?_;refine g5 ?_;refine St.rV [_] [] ?_;exact congrArg fv a.symm
  ·rw[aA zE]at a
   refine g10 ?_;refine St.gf _ rfl rfl (λr=>Ev.cB (.mk rfl) DT) rfl ?_;refine St.gf _ rfl rfl (λr=>Ev.gh (aX.gv rfl r) B8 trivial (by rfl)) rfl ?_;refine St.gf _ rfl rfl (λr=>Ev.eu (aX.gv rfl r) B8) rfl ?_;refine St.gf _ rfl rfl (λr=>Ev.gtr (aX.gv rfl r) (.mk rfl)) rfl ?_;refine g3 ?_;refine St.cq (λY=> ?_) (λY=> ?_)
   ·rw[aB zE]at a
    refine g2 ?_;refine St.ee (Ev.call (eN 2 (-1)) II (.ah rfl rfl)) ?_;refine g5 ?_;refine St.rV [_] [] ?_;exact congrArg fv a.symm
   ·rw[aA zE]at a
    refine g6 ?_;refine St.dt (qL g.tv.1 g.types y) YO (.ay rfl) rfl ?_;rintro v42 _ ⟨e,i,rfl,rfl⟩;refine St.mZ ?_;refine St.al (λM=> ?_);refine g5 ?_;refine St.makeMap mkStr rfl (λD=> ?_);refine g13 ?_;refine St.pb (ι:=Nat) (κ:=List (ab×Value)) (λk m T=>(47,iv k)::T) (λk m=>[aU D (df mkStr m),tI J [g.tv.1,g.fv.1,g.rv.1,g.xv.1,g.start.nv.1] 32,tI K [iv 0,iv 0] 39,tI L [g.tv.1,g.fv.1] 25,tI M [e.1,i.1] 154,aD (sl pj g.tv.1 g.types),aD (aL wj g.types),aD (sl gD g.fv.1 g.bh),aD (sl bX g.rv.1 g.rules),aD (aL cR g.rules),aD (sl dT g.xv.1 g.aK),aD (aL eO g.aK),aD (aJ g.start),aD (sl ax e.1 (dN (g.types.map cn))),aD (sl ax i.1 (dM (g.types.map cn))),aD (u8)]) (λk m=>k≤g.rules.length∧gz (g.types.map cn) (g.bh.map gj) [] 0 (g.rules.map l8)=gz (g.types.map cn) (g.bh.map gj) ((g.rules.take k).map dL.name) k ((g.rules.map l8).drop k)∧Hq m ((g.rules.take k).map dL.name)) (λk m=>g.rules.length-k) 0 [] (aC.k7 1 2 3 5 6 45 46) ⟨aP _,rfl,Hq.nil⟩ ?_;rintro k m ⟨hk,s,N⟩;refine g6 ?_;refine St.cq (λE=> ?_) (λE=> ?_)
    ·obtain⟨t,ht⟩:=aF (show k<g.rules.length by omega)
     have F:=aa ht
     have b:=Ge (T:=(g.types.map cn)) (Fs:=(g.bh.map gj)) (l:=g.rules.map l8) (k:=k) (t:=l8 t) (by rw[aw,ht];rfl) ((g.rules.take k).map dL.name)
     have Z:t.name.length≤9223372036854775807:=by have:=(u t F).1;simp only[vt]at this;omega
     refine St.cN cR g.rules (x:=t) F ?_;refine g8 ?_;refine St.ee (Ev.j2 (.mk rfl) ht EH trivial oW gX.eq) ?_;refine St.al (λb8=> ?_);refine g9 ?_;refine St.ee (Ev.call (lM t.name Z) MW (.ay rfl)) ?_;refine g3 ?_;refine St.cq (λj=> ?_) (λj=> ?_)
     ·rw[aB (show isName (l8 t).name=false from(by simpa using j:isName t.name=false))]at b
      refine g3 ?_;refine St.ee (Ev.call (eN 10 k) II (.ah rfl rfl)) ?_;refine g10 ?_;refine St.rV [_] [] ?_;exact congrArg fv (mz a (s.trans b) (by decide)).symm
     ·rw[aA (show ¬isName (l8 t).name=false from(by simpa using j:¬isName t.name=false))]at b
      refine g8 ?_;refine St.ee (Ev.r8 mkStr (k:=t.name) (.mk rfl) (.mk rfl) nL (by exact oc) jF) ?_;refine g3 ?_;refine St.slot 64 (.bool (decide (t.name∈(g.rules.take k).map dL.name))) rfl (congrArg Value.bool (N t.name)) ?_;refine g9 ?_;refine St.cq (λn=> ?_) (λn=> ?_)
      ·rw[aB (show(l8 t).name∈(g.rules.take k).map dL.name from n)]at b
       refine g3 ?_;refine St.ee (Ev.call (eN 7 k) II (.ah rfl rfl)) ?_;refine g10 ?_;refine St.rV [_] [] ?_;exact congrArg fv (mz a (s.trans b) (by decide)).symm
      ·rw[aA (show ¬(l8 t).name∈(g.rules.take k).map dL.name from n)]at b
       refine g8 ?_;refine St.mapUpdate mkStr (k:=t.name) (.mk rfl) (.mk rfl) (.mk rfl) nL (by exact oc) ?_;refine g7 ?_;refine St.ee (Ev.call (ML g.tv g.fv e i g.types g.bh t y C zE (u t F)) ahH (.fk rfl rfl rfl)) ?_;refine g9 ?_;refine St.cond _ rfl (λG=> ?_) (λG=> ?_)
       ·skip
        have d:nE (g.types.map cn) (g.bh.map gj) (l8 t)≠0:=by simpa using G
        rw[aB d]at b;refine g4 ?_;refine St.ee (Ev.call (eN (nE (g.types.map cn) (g.bh.map gj) (l8 t)) k) II (.ah rfl rfl)) ?_;refine g9 ?_;refine St.rV [_] [] ?_;exact congrArg fv (mz a (s.trans b) d).symm
       ·skip
        have d:¬nE (g.types.map cn) (g.bh.map gj) (l8 t)≠0:=by simpa using G
        rw[aA d]at b;refine g8 ?_;refine St.py (k+1) (jP m t.name (iv k)) ⟨by omega,by rw[s,b,ec dL.name ht];rfl,by rw[ec dL.name ht];exact N.snoc _ _⟩
    ·rw[Ja zE]at s
     replace a:=Di a s
     refine g15 ?_;refine St.lH (ι:=Nat) (λq T=>(85,iv q)::T) (λq=>[tI J [g.tv.1,g.fv.1,g.rv.1,g.xv.1,g.start.nv.1] 32,tI K [iv 0,iv 0] 39,tI L [g.tv.1,g.fv.1] 25,tI M [e.1,i.1] 154,aD (sl pj g.tv.1 g.types),aD (aL wj g.types),aD (sl gD g.fv.1 g.bh),aD (sl bX g.rv.1 g.rules),aD (aL cR g.rules),aD (sl dT g.xv.1 g.aK),aD (aL eO g.aK),aD (aJ g.start),aD (sl ax e.1 (dN (g.types.map cn))),aD (sl ax i.1 (dM (g.types.map cn))),aD (u8)]) (λq=>q≤g.aK.length∧gy (g.types.map cn) (g.bh.map gj) 0 (g.aK.map qD)=gy (g.types.map cn) (g.bh.map gj) q ((g.aK.map qD).drop q)) (λq=>g.aK.length-q) 0 (aC.k6 1 2 3 5 83 84) ⟨aP _,rfl⟩ ?_;rintro q ⟨hq,z⟩;refine g6 ?_;refine St.cq (λH=> ?_) (λH=> ?_)
     ·obtain⟨x,hx⟩:=aF (show q<g.aK.length by omega)
      have O:=aa hx
      have b:=G4 (T:=(g.types.map cn)) (Fs:=(g.bh.map gj)) (l:=g.aK.map qD) (k:=q) (t:=qD x) (by rw[aw,hx];rfl)
      refine St.cN eO g.aK (x:=x) O ?_;refine g8 ?_;refine St.ee (Ev.j2 (.mk rfl) hx A6 trivial nH gX.eq) ?_;refine St.al (λYG=> ?_);refine g9 ?_;refine St.ee (Ev.lp P (Hl g.tv g.fv e i g.types g.bh x y C (U x O)) ahI (.fk rfl rfl rfl)) ?_;refine g9 ?_;refine St.cond _ rfl (λI=> ?_) (λI=> ?_)
      ·skip
       have d:uA (g.types.map cn) (g.bh.map gj) (qD x)≠0:=by simpa using I
       rw[aB d]at b;refine g4 ?_;refine St.ee (Ev.call (eN (uA (g.types.map cn) (g.bh.map gj) (qD x)) q) II (.ah rfl rfl)) ?_;refine g9 ?_;refine St.rV [_] [] ?_;exact congrArg fv (mz a (z.trans b) d).symm
      ·skip
       have d:¬uA (g.types.map cn) (g.bh.map gj) (qD x)≠0:=by simpa using I
       rw[aA d]at b;refine g8 ?_;refine St.aH (q+1) ⟨by omega,z.trans b⟩
     ·rw[JB zE]at z
      replace a:=Di a z
      refine g11 ?_;refine St.ee (Ev.iz 1 (.mk rfl) mh trivial jk rfl rfl) ?_;refine St.slot 103 (au g.start) rfl rfl ?_;refine St.ee (Ev.call (qN g.tv g.fv e i g.types g.bh g.start y C) YP (.fk rfl rfl rfl)) ?_;refine St.al (λb15=> ?_);refine g10 ?_;refine St.cond _ rfl (λo=> ?_) (λo=> ?_)
      ·skip
       have p:(dB (g.types.map cn) (g.bh.map gj) (ao g.start)).1≠0:=by simpa using o
       rw[aB p]at a;refine g4 ?_;refine St.ee (Ev.call (eN (dB (g.types.map cn) (g.bh.map gj) (ao g.start)).1 (-1)) II (.ah rfl rfl)) ?_;refine g5 ?_;refine St.rV [_] [] ?_;exact congrArg fv a.symm
      ·skip
       have p:¬(dB (g.types.map cn) (g.bh.map gj) (ao g.start)).1≠0:=by simpa using o
       rw[aA p]at a;refine g4 ?_;refine St.ee (Ev.build (bC.nil) (λw=>fC w)) ?_;refine g4 ?_;refine St.rV [_] [] ?_;exact congrArg fv a.symm
theorem HQ {l:List gl}{k:Nat}{v:gl}(ht:l[k]?=some v)(known:List ab):gQ known k (l.drop k)=if v.kind<1∨4<v.kind then(4,(k:Int))else if isName v.name=false∨(v.kind=2∧isName v.label=false)∨(v.kind=3∧isWord v.label=false)then(10,(k:Int))
 else if v.name∈known then(7,(k:Int))else if(v.kind=1∨v.kind=4)∧v.label≠ []then(5,(k:Int))else gQ (known++ [v.name]) (k+1) (l.drop (k+1)):=by rw[bA ht,gQ]
theorem K8 {l:List gl}{k:Nat}(h:l.length≤k)(known:List ab):gQ known k (l.drop k)=(0,0):=by rw[fS h,gQ]
theorem GV {n:Int}{m:Nat}{l:List kR}{k:Nat}{x:kR}(ht:l[k]?=some x):jC n (m+k) (l.drop k)=if x.kind<1∨5<x.kind then(4,((m+k:Nat):Int))else if x.a<0∨n≤x.a∨x.b<0∨n≤x.b then(3,((m+k:Nat):Int))else if x.a=x.b then(5,((m+k:Nat):Int))else jC n (m+(k+1)) (l.drop (k+1)):=by rw[bA ht,jC];rfl
theorem JT {n:Int}{l:List kR}{k m:Nat}(h:l.length≤k):jC n m (l.drop k)=(0,0):=by rw[fS h,jC]
theorem VZ (vs:List gl)(ks:List kR):uN vs ks=if 4<vs.length∨8<ks.length then(2,-1)else if vs.length=0 then(9,-1)else if(gQ [] 0 vs).1≠0 then gQ [] 0 vs else jC vs.length vs.length ks:=rfl
theorem GW (q:Cn):kC prog 57 #[E2 q] [nh q,u8] (fv (uN q.vars q.aW)):=by
 refine kC.body (args:=[E2 q]) (ds:=[nh q,u8]) 165 func57 rfl ntmps57 rfl (λc L=> ?_);refine St.cast (H':=[aD (nh q),aD (u8)]) rfl ?_;refine go ?_
 refine St.gG (nh q) (λ_:Unit=>JU q) (λρ h=>⟨(),h⟩) λ_=> ?_
 refine St.cast (H':=[aD (sl ui q.vv.1 q.vars),aD (sl vc q.kv.1 q.aW),aD (nh q),aD (u8)]) rfl ?_
 have e:=VZ q.vars q.aW
 refine St.wf q.vv.1 (λy M=> ?_);refine St.wf q.kv.1 (λV W=> ?_);refine go ?_;refine St.cW (.mk rfl) rfl (λz=> ?_);refine St.al (λA=> ?_);refine g10 ?_;refine St.gf _ rfl rfl (λa=>Ev.cB (.mk rfl) Ie) rfl ?_;refine St.gf _ rfl rfl (λa=>Ev.gh (aX.gv rfl a) underlying76 trivial (by rfl)) rfl ?_;refine St.gf _ rfl rfl (λa=>Ev.eu (aX.gv rfl a) underlying76) rfl ?_;refine St.gf _ rfl rfl (λa=>Ev.gtr (aX.gv rfl a) (.mk rfl)) rfl ?_;refine g3 ?_;refine St.cq (λB=> ?_) (λB=> ?_)
 ·rw[aB zE]at e
  refine g2 ?_;refine St.ee (Ev.call (dc 2 (-1)) Ab (.ah rfl rfl)) ?_;refine g5 ?_;refine St.rV [_] [] ?_;exact congrArg fv e.symm
 ·rw[aA zE]at e
  have N:q.vars.length≤4:=by omega
  have O:q.aW.length≤8:=by omega
  refine g11 ?_;refine St.cq (λP=> ?_) (λP=> ?_)
  ·rw[aB zE]at e
   refine g2 ?_;refine St.ee (Ev.call (dc 9 (-1)) Ab (.ah rfl rfl)) ?_;refine g5 ?_;refine St.rV [_] [] ?_;exact congrArg fv e.symm
  ·rw[aA zE]at e
   refine g4 ?_;refine St.makeMap mkStr rfl (λI=> ?_);refine g13 ?_;refine St.pb (ι:=Nat) (κ:=List (ab×Value)) (λk m T=>(31,iv k)::T) (λk m=>[aU I (df mkStr m),tI z [q.vv.1,q.kv.1] 78,tI A [iv 0,iv 0] 39,aD (sl ui q.vv.1 q.vars),aD (sl vc q.kv.1 q.aW),aD (u8)]) (λk m=>k≤q.vars.length∧gQ [] 0 q.vars=gQ ((q.vars.take k).map gl.name) k (q.vars.drop k)∧Hq m ((q.vars.take k).map gl.name)) (λk m=>q.vars.length-k) 0 [] (aC.k5 1 2 3 29 30) ⟨aP _,rfl,Hq.nil⟩ ?_;rintro k m ⟨hk,i,J⟩;refine g6 ?_;refine St.cq (λQ=> ?_) (λQ=> ?_)
   ·obtain⟨d,ht⟩:=aF (show k<q.vars.length by omega)
    have R:=aa ht
    have b:=HQ ht ((q.vars.take k).map gl.name)
    obtain⟨s,S,t⟩:=y d R
    replace s:d.name.length≤140737488351232:=s
    replace t:d.label.length≤140737488351232:=t
    refine g8 ?_;refine St.ee (Ev.j2 (.mk rfl) ht underlying74 trivial NZ gX.eq) ?_;refine St.al (λU=> ?_);refine g9 ?_;refine St.ee (Ev.r8 mkStr (k:=d.name) (.mk rfl) (.mk rfl) nL (by exact oc) jF) ?_;refine g3 ?_;refine St.slot 42 (.bool (decide (d.name∈(q.vars.take k).map gl.name))) rfl (congrArg Value.bool (J d.name)) ?_;refine g10 ?_;refine St.mapUpdate mkStr (k:=d.name) (.mk rfl) (.mk rfl) (.mk rfl) nL (by exact oc) ?_;refine g9 ?_;refine St.gf _ rfl rfl (λa=>Ev.cB (.mk rfl) DV) rfl ?_;refine St.gf _ rfl rfl (λa=>Ev.gh (aX.gv rfl a) eK trivial (by rfl)) rfl ?_;refine St.gf _ rfl rfl (λa=>Ev.gtr (aX.gv rfl a) (.mk rfl)) rfl ?_;refine g4 ?_;refine St.cond _ rfl (λj=> ?_) (λj=> ?_)
    focus
     skip
     try simp only[bj]at j
     rw[aB zE]at b;refine g3 ?_;refine St.ee (Ev.call (dc 4 k) Ab (.ah rfl rfl)) ?_;refine g10 ?_;refine St.rV [_] [] ?_;exact congrArg fv (mz e (i.trans b) (by decide)).symm
    focus
     skip
     try simp only[bj]at j
     rw[aA zE]at b;refine St.join (ι:=Bool) (λu T=>(58,.bool u)::T) (λu=>[tI U [sv d.name,iv d.kind,sv d.label] 74,aU I (df mkStr (jP m d.name (iv k))),tI z [q.vv.1,q.kv.1] 78,tI A [iv 0,iv 0] 39,aD (sl ui q.vv.1 q.vars),aD (sl vc q.kv.1 q.aW),aD (u8)]) (λu=>(u=true↔(isName d.name=false∨(d.kind=2∧isName d.label=false)∨(d.kind=3∧isWord d.label=false)))) (aC.k9 1 2 3 4 5 7 29 30 31) ?_ ?_
     focus
      skip
      refine g4 ?_;refine St.ee (Ev.call (lM d.name zE) MW (.ay rfl)) ?_;refine g4 ?_;refine St.cond _ rfl (λf=> ?_) (λf=> ?_)
      ·skip
       refine g2 ?_;refine St.mE true (by first|(simp only[Bool.and_eq_true,decide_eq_true_eq,Bool.not_eq_true']at l;exact⟨λ_=>Or.inr (Or.inl l),λ_=>rfl⟩)|(simp only[Bool.not_eq_true']at f;exact⟨λ_=>Or.inl f,λ_=>rfl⟩))
      ·skip
       refine g6 ?_;refine St.gt _ rfl rfl (λa=>Ev.cB (.mk rfl) yq) rfl ?_;refine St.gt _ rfl rfl (λa=>Ev.gh (aX.gv rfl a) oc trivial (by rfl)) rfl ?_;refine St.gt _ rfl rfl (λa=>Ev.call (lM d.label zE) MW (.cons (aX.gv rfl a) .nil)) rfl ?_;refine St.gt _ rfl rfl (λa=>Ev.not (aX.gv rfl a)) rfl ?_;refine g4 ?_;refine St.cond _ rfl (λl=> ?_) (λl=> ?_)
       ·skip
        refine g2 ?_;refine St.mE true (by first|(simp only[Bool.and_eq_true,decide_eq_true_eq,Bool.not_eq_true']at l;exact⟨λ_=>Or.inr (Or.inl l),λ_=>rfl⟩)|(simp only[Bool.not_eq_true']at f;exact⟨λ_=>Or.inl f,λ_=>rfl⟩))
       ·skip
        refine g5 ?_;refine St.gt _ rfl rfl (λa=>Ev.cB (.mk rfl) yq) rfl ?_;refine St.gt _ rfl rfl (λa=>Ev.gh (aX.gv rfl a) oc trivial (by rfl)) rfl ?_;refine St.gt _ rfl rfl (λa=>Ev.lp L (lO d.label zE) MV (.cons (aX.gv rfl a) .nil)) rfl ?_;refine St.gt _ rfl rfl (λa=>Ev.not (aX.gv rfl a)) rfl ?_;refine g4 ?_;refine St.mE (decide (d.kind=3)&& !isWord d.label) (by simp only[Bool.not_eq_false',Bool.and_eq_false_iff,decide_eq_false_iff_not]at f l;simp only[Bool.and_eq_true,decide_eq_true_eq,Bool.not_eq_true'];exact⟨λh=>Or.inr (Or.inr h),λh=>by rcases h with h|⟨h,K⟩|h;(rw[f]at h;cases h);(rcases l with C|C;exact absurd h C;rw[C]at K;cases K);exact h⟩)
     focus
      skip
      intro u v;refine St.cond _ rfl (λf=> ?_) (λf=> ?_)
      focus
       skip
       skip
       refine go ?_;rw[aB (v.1 f)]at b;refine g2 ?_;refine St.ee (Ev.call (dc 10 k) Ab (.ah rfl rfl)) ?_;refine g10 ?_;refine St.rV [_] [] ?_;exact congrArg fv (mz e (i.trans b) (by decide)).symm
      focus
       skip
       skip
       refine go ?_;rw[aA (λhp=>by rw[v.2 hp]at f;cases f)]at b;refine g5 ?_;refine St.cond _ rfl (λg=> ?_) (λg=> ?_)
       focus
        skip
        try simp only[bj]at g
        rw[aB g]at b;refine g3 ?_;refine St.ee (Ev.call (dc 7 k) Ab (.ah rfl rfl)) ?_;refine g10 ?_;refine St.rV [_] [] ?_;exact congrArg fv (mz e (i.trans b) (by decide)).symm
       focus
        skip
        try simp only[bj]at g
        rw[aA g]at b;refine g6 ?_;refine St.gf _ rfl rfl (λa=>Ev.cB (.mk rfl) DV) rfl ?_;refine St.gf _ rfl rfl (λa=>Ev.gh (aX.gv rfl a) eK trivial (by rfl)) rfl ?_;refine St.gf _ rfl rfl (λa=>Ev.eql (aX.gv rfl a) (.mk rfl)) rfl ?_;refine g2 ?_;refine St.gt _ rfl rfl (λa=>Ev.cB (.mk rfl) yq) rfl ?_;refine St.gt _ rfl rfl (λa=>Ev.gh (aX.gv rfl a) oc trivial (by rfl)) rfl ?_;refine St.gt _ rfl rfl (λa=>Ev.Xc (aX.gv rfl a) (.mk rfl)) rfl ?_;refine g4 ?_;refine St.cond _ rfl (λo=> ?_) (λo=> ?_)
        focus
         skip
         skip
         rw[aB (by simpa using o)]at b;refine g3 ?_;refine St.ee (Ev.call (dc 5 k) Ab (.ah rfl rfl)) ?_;refine g10 ?_;refine St.rV [_] [] ?_;exact congrArg fv (mz e (i.trans b) (by decide)).symm
        focus
         skip
         skip
         rw[aA (by simpa using o)]at b;refine go ?_
    all_goals
     refine g8 ?_;refine St.py (k+1) (jP m d.name (iv k)) ⟨by omega,by rw[i,b,ec gl.name ht],by rw[ec gl.name ht];exact J.snoc _ _⟩
   ·rw[K8 zE]at i
    replace e:=Di e i
    refine g15 ?_;refine St.lH (ι:=Nat) (λp T=>(107,iv p)::T) (λp=>[tI z [q.vv.1,q.kv.1] 78,tI A [iv 0,iv 0] 39,aD (sl ui q.vv.1 q.vars),aD (sl vc q.kv.1 q.aW),aD (u8)]) (λp=>p≤q.aW.length∧jC q.vars.length q.vars.length q.aW=jC q.vars.length (q.vars.length+p) (q.aW.drop p)) (λp=>q.aW.length-p) 0 (aC.k4 1 2 105 106) ⟨aP _,rfl⟩ ?_;rintro p ⟨hp,r⟩;refine g6 ?_;refine St.cq (λD=> ?_) (λD=> ?_)
    ·obtain⟨x,hx⟩:=aF (show p<q.aW.length by omega)
     have b:=GV (n:=q.vars.length) (m:=q.vars.length) hx
     refine g8 ?_;refine St.ee (Ev.j2 (.mk rfl) hx underlying149 trivial Lk gX.eq) ?_;refine St.al (λX=> ?_);refine g11 ?_;refine St.slot 116 (iv ((q.vars.length+p:Nat):Int)) rfl rfl ?_;refine g10 ?_;refine St.gf _ rfl rfl (λa=>Ev.cB (.mk rfl) xi) rfl ?_;refine St.gf _ rfl rfl (λa=>Ev.gh (aX.gv rfl a) eK trivial (by rfl)) rfl ?_;refine St.gf _ rfl rfl (λa=>Ev.gtr (aX.gv rfl a) (.mk rfl)) rfl ?_;refine g4 ?_;refine St.cond _ rfl (λE=> ?_) (λE=> ?_)
     focus
      skip
      try simp only[bj]at E
      rw[aB zE]at b;refine g3 ?_;refine St.ee (Ev.call (dc 4 ((q.vars.length+p:Nat):Int)) Ab (.ah rfl rfl)) ?_;refine g10 ?_;refine St.rV [_] [] ?_;exact congrArg fv (e.trans (r.trans b)).symm
     focus
      skip
      try simp only[bj]at E
      rw[aA zE]at b;refine g6 ?_;refine St.gf _ rfl rfl (λa=>Ev.cB (.mk rfl) xj) rfl ?_;refine St.gf _ rfl rfl (λa=>Ev.gh (aX.gv rfl a) eK trivial (by rfl)) rfl ?_;refine St.gf _ rfl rfl (λa=>Ev.cB (.mk rfl) DW) rfl ?_;refine St.gf _ rfl rfl (λa=>Ev.gh (aX.gv rfl a) HK trivial (by rfl)) rfl ?_;refine St.gf _ rfl rfl (λa=>Ev.eu (aX.gv rfl a) HK) rfl ?_;refine St.gf _ rfl rfl (λa=>Ev.geq (aX.gv rfl a) (aX.gv rfl a)) rfl ?_;refine g2 ?_;refine St.gf _ rfl rfl (λa=>Ev.cB (.mk rfl) td) rfl ?_;refine St.gf _ rfl rfl (λa=>Ev.gh (aX.gv rfl a) eK trivial (by rfl)) rfl ?_;refine St.gf _ rfl rfl (λa=>Ev.lss (aX.gv rfl a) (.mk rfl)) rfl ?_;refine g2 ?_;refine St.gf _ rfl rfl (λa=>Ev.cB (.mk rfl) td) rfl ?_;refine St.gf _ rfl rfl (λa=>Ev.gh (aX.gv rfl a) eK trivial (by rfl)) rfl ?_;refine St.gf _ rfl rfl (λa=>Ev.cB (.mk rfl) DW) rfl ?_;refine St.gf _ rfl rfl (λa=>Ev.gh (aX.gv rfl a) HK trivial (by rfl)) rfl ?_;refine St.gf _ rfl rfl (λa=>Ev.eu (aX.gv rfl a) HK) rfl ?_;refine St.gf _ rfl rfl (λa=>Ev.geq (aX.gv rfl a) (aX.gv rfl a)) rfl ?_;refine g4 ?_;refine St.cond _ rfl (λF=> ?_) (λF=> ?_)
      focus
       skip
       try simp only[bj]at F
       rw[aB zE]at b;refine g3 ?_;refine St.ee (Ev.call (dc 3 ((q.vars.length+p:Nat):Int)) Ab (.ah rfl rfl)) ?_;refine g10 ?_;refine St.rV [_] [] ?_;exact congrArg fv (e.trans (r.trans b)).symm
      focus
       skip
       try simp only[bj]at F
       rw[aA zE]at b;refine g10 ?_;refine St.cond _ rfl (λG=> ?_) (λG=> ?_)
       focus
        skip
        try simp only[bj]at G
        rw[aB zE]at b;refine g3 ?_;refine St.ee (Ev.call (dc 5 ((q.vars.length+p:Nat):Int)) Ab (.ah rfl rfl)) ?_;refine g10 ?_;refine St.rV [_] [] ?_;exact congrArg fv (e.trans (r.trans b)).symm
       focus
        skip
        try simp only[bj]at G
        rw[aA zE]at b;refine go ?_
     all_goals
      refine g8 ?_;refine St.aH (p+1) ⟨by omega,r.trans b⟩
    ·rw[JT zE]at r
     have H:=e.trans r
     refine g7 ?_;refine St.ee (Ev.build (bC.nil) (λw=>fC w)) ?_;refine g4 ?_;refine St.rV [_] [] ?_;exact congrArg fv H.symm
theorem VL (g:ep)(vs:List gl)(ks:List kR)(t:dA):G8 g vs ks t=if(kq g).1≠0 then([],kq g)else if(uN vs ks).1≠0 then([],uN vs ks)else if(jv g t).1≠0 then([],jv g t)
 else if 500<(pK g vs ks t).length then([],(17,0))else(pK g vs ks t,(0,0)):=rfl
theorem Hu (g:ei)(q:Cn)(t:bH)(hw:bP.wf t):AK prog 19 #[gK g,E2 q,eG t] ([eD g,nh q,ae t,tz,u8].map aD) (λr H'=>∃s,r= .tuple #[s,fv (G8 (dG g) q.vars q.aW (aM t)).2]∧s.oneCell'=true∧H'=[aD (Aq aI s ((G8 (dG g) q.vars q.aW (aM t)).1.map ints))]):=by
 refine AK.body (args:=[gK g,E2 q,eG t]) 50 func19 rfl ntmps19 rfl (λc I=> ?_);refine St.cast (H':=[aD (eD g),aD (nh q),aD (ae t),aD (tz),aD (u8)]) rfl ?_;refine go ?_
 refine St.gG (nh q) (λ_:Unit=>JU q) (λρ h=>⟨(),h⟩) λ_=> ?_
 refine St.cast (H':=[aD (sl ui q.vv.1 q.vars),aD (sl vc q.kv.1 q.aW),aD (eD g),aD (nh q),aD (ae t),aD (tz),aD (u8)]) rfl ?_
 have a:=VL (dG g) q.vars q.aW (aM t)
 refine go ?_;refine St.cW (.mk rfl) rfl (λX=> ?_);refine St.cW (.mk rfl) rfl (λM=> ?_);refine St.cW (.mk rfl) rfl (λY=> ?_);refine go ?_;refine St.al (λu=> ?_);refine g6 ?_;refine St.ee (Ev.lp I (wU g) acK (.ay rfl)) ?_;refine St.al (λZ=> ?_);refine g10 ?_;refine St.cond _ rfl (λv=> ?_) (λv=> ?_)
 ·skip
  rw[aB (show(kq (dG g)).1≠0 by simpa using v)]at a;refine go ?_;refine St.qe [u] mixed (λJ K=> ?_);refine SW.gd 0 ?_;refine SW.gd 1 ?_;refine SW.t1 2 ?_;refine g3 ?_;refine SW.go ?_;refine SW.dn ?_;refine g3 ?_;refine St.gb bU ?_;refine St.sd aI ?_;refine St.JF (Rr:=aI) (l:=[]) (.slice none 0 0) (vs:=[]) rfl ?_;refine St.rV [_,_] [aD (Aq aI (.slice none 0 0) [])] ?_;exact⟨_,congrArg (λz=>Value.tuple #[(.slice none 0 0),fv z]) (by rw[a]),rfl,by rw[a];rfl⟩
 ·skip
  have e:¬(kq (dG g)).1≠0:=by simpa using v
  rw[aA e]at a;refine g6 ?_;refine St.ee (Ev.lp I (GW q) ahC (.ay rfl)) ?_;refine St.al (λb9=> ?_);refine g10 ?_;refine St.cond _ rfl (λx=> ?_) (λx=> ?_)
  ·skip
   rw[aB (show(uN q.vars q.aW).1≠0 by simpa using x)]at a;refine go ?_;refine St.qe [u] mixed (λJ K=> ?_);refine SW.gd 0 ?_;refine SW.gd 1 ?_;refine SW.t1 2 ?_;refine g3 ?_;refine SW.go ?_;refine SW.dn ?_;refine g3 ?_;refine St.gb bU ?_;refine St.sd aI ?_;refine St.JF (Rr:=aI) (l:=[]) (.slice none 0 0) (vs:=[]) rfl ?_;refine St.rV [_,_] [aD (Aq aI (.slice none 0 0) [])] ?_;exact⟨_,congrArg (λz=>Value.tuple #[(.slice none 0 0),fv z]) (by rw[a]),rfl,by rw[a];rfl⟩
  ·skip
   have f:¬(uN q.vars q.aW).1≠0:=by simpa using x
   rw[aA f]at a
   have A:=(Va (fK.1 f)).2
   refine g7 ?_;refine St.ee (Ev.call (ME g t hw) ag2 (.ah rfl rfl)) ?_;refine St.al (λb10=> ?_);refine g10 ?_;refine St.cond _ rfl (λB=> ?_) (λB=> ?_)
   ·skip
    rw[aB (show(jv (dG g) (aM t)).1≠0 by simpa using B)]at a;refine go ?_;refine St.qe [u] mixed (λJ K=> ?_);refine SW.gd 0 ?_;refine SW.gd 1 ?_;refine SW.t1 2 ?_;refine g3 ?_;refine SW.go ?_;refine SW.dn ?_;refine g3 ?_;refine St.gb bU ?_;refine St.sd aI ?_;refine St.JF (Rr:=aI) (l:=[]) (.slice none 0 0) (vs:=[]) rfl ?_;refine St.rV [_,_] [aD (Aq aI (.slice none 0 0) [])] ?_;exact⟨_,congrArg (λz=>Value.tuple #[(.slice none 0 0),fv z]) (by rw[a]),rfl,by rw[a];rfl⟩
   ·skip
    have i:¬(jv (dG g) (aM t)).1≠0:=by simpa using B
    rw[aA i]at a
    have C:=uc (fK.1 e) (fK.1 i)
    obtain⟨j,D,N⟩:=C;rw[show(dG g).rules.length=g.rules.length from aR _,show(dG g).aK.length=g.aK.length from aR _]at j
    have O:=A.BW
    have P:=A.pos
    refine g6 ?_;refine St.dt (JI g t hw j D zE) ahD (.ah rfl rfl) rfl ?_;rintro v36 _ ⟨E,rfl⟩;refine St.eZ ?_;refine St.al (λQ=> ?_);refine St.bL (.mk rfl) (.mk rfl) Xd E (by rfl) ?_;refine g4 ?_;refine St.al (λF=> ?_);refine g7 ?_;refine St.kr (m:=q.vars.length) (.mk rfl) (.mk rfl) cP eL jF vD rfl rfl zE rfl rfl (λk=> ?_);refine St.aN (tO k q.vars.length q.vars.length) rfl (RL _) ?_;refine St.al (λR=> ?_);refine St.bL (.mk rfl) (.mk rfl) jm rfl (by rfl) ?_;refine g4 ?_;refine St.al (λS=> ?_);refine g4 ?_;refine St.ee (Ev.func (.ae9 rfl rfl rfl rfl rfl)) ?_;refine St.bL (.mk rfl) (.mk rfl) Xe rfl (by rfl) ?_;refine g3 ?_;refine St.dH 35 1 ?_;refine St.aN (.slice none 0 0) (show _=([]:List (List Nat)).length from rfl) (show _=rows bU []from rfl) ?_;refine St.sd aI ?_;refine St.cast (H':=_::_) (show aD (pf aI [] [])::_=aD (pf aI [] (([]:List (List Nat)).map ints))::_ from rfl) ?_
    obtain⟨T,L⟩:∃T,T=B5 (rS (dG g) (aM t) 0 (-1) 0) q.aW q.vars [] []:=⟨_,rfl⟩
    have b:=EE (rS (dG g) (aM t) 0 (-1) 0) q.aW q.vars [] [] (by simp) (by simp)
    rw[←L,nQ]at b
    replace b:T=(pK (dG g) q.vars q.aW (aM t)).take 501:=b
    refine g2 ?_;refine St.fg (EF R F Q M S (tO k q.vars.length q.vars.length) v36 (rS (dG g) (aM t) 0 (-1) 0) q A q.vars.length q.vars [] [] (List.replicate q.vars.length 0) (.slice none 0 0) [] T rfl L rfl (by simp) (by simp) rfl (λy hy=>by cases hy) rfl rfl (by simp) (λ_=>by simp)) acZ (.mk rfl) (.ay rfl) rfl ?_;rintro U _ ⟨A2,d,n,V,_,G,o,rfl⟩;refine St.abC ?_;refine g10 ?_;refine St.cq (λW=> ?_) (λW=> ?_)
    ·have H:500<(pK (dG g) q.vars q.aW (aM t)).length:=by have:=congrArg List.length b;rw[cy]at this;omega
     rw[aB H]at a;refine g2 ?_;refine St.ee (Ev.call (dc 17 0) Ab (.ah rfl rfl)) ?_;refine g6 ?_;refine St.gb bU ?_;refine St.sd aI ?_;refine St.JF (Rr:=aI) (l:=[]) (.slice none 0 0) (vs:=[]) rfl ?_;refine St.rV [_,_] [aD (Aq aI (.slice none 0 0) [])] ?_;exact⟨_,congrArg (λz=>Value.tuple #[(.slice none 0 0),fv z]) (by rw[a]),rfl,by rw[a];rfl⟩
    ·have p:T=pK (dG g) q.vars q.aW (aM t):=by rw[b,dV];have:=congrArg List.length b;rw[cy]at this;omega
     rw[aA (by rw[←p];omega)]at a;refine g5 ?_;refine St.ee (Ev.build (bC.nil) (λw=>fC w)) ?_;refine g5 ?_;refine St.bI d bU n rfl o.symm (λ_ _=>trivial) ?_;refine St.JF (Rr:=aI) (l:=T.map ints) d (vs:=n) (by rw[aR];exact o) ?_;refine St.rV [_,_] [aD (Aq aI d (T.map ints))] ?_;exact⟨d,by rw[a];rfl,G,by rw[a,p]⟩
end Go.Proofs.YtiefglecbgdaiaaGreatDoor
namespace Go.J
open Go Go.RowKit
def zk:List Value→Nat→List Value→List Value
 |cs,_,[]=>cs
 |cs,p,u::us=>zk (cs.set p u) (p+1) us
theorem Gj (x:List Value):∀(us rest:List Value) (p:Nat),zk (x++rest) (x.length+p) us=x++zk rest p us
 | [],_,_=>rfl
 |u::us,rest,p=>by
  rw[zk,mV _ _ zE,show x.length+p-x.length=p by omega,zk,←Gj x us _ (p+1),pt]
theorem C0:∀(y pre x rest:List Value),x.length=y.length→zk (pre++(x++rest)) pre.length y=pre++(y++rest)
 | [],pre,x,rest,h=>by
  obtain rfl:x=[]:=gg (by simpa using h);rfl
 |u::us,pre,x,rest,h=>by
  cases x with
  |nil=>cases h
  |cons a x=>
   rw[zk,mV _ _ (aQ _),eX]
   have:=C0 us (pre++ [u]) x rest (by simpa using h)
   rw[bJ]at this
   simp only[List.append_assoc,List.cons_append,List.nil_append,List.length_cons,List.length_nil]at this
   simpa using this
theorem Bv {α:Type}(Rr:Rp α)(g:α):∀(l:List α) (k:Nat),k<l.length→zk (rows Rr l) (k*Rr.size) (Rr.cells g)=rows Rr (l.set k g)
 | [],_,h=>by cases h
 |a::l,0,_=>by
  have:=C0 (Rr.cells g) [] (Rr.cells a) (rows Rr l) (by rw[Rr.len,Rr.len])
  rw[Nat.zero_mul,xB];exact this
 |a::l,k+1,h=>by
  have e:(k+1)*Rr.size=(Rr.cells a).length+k*Rr.size:=by rw[Rr.len,ji];omega
  rw[HV]
  show zk (Rr.cells a++rows Rr l) _ _=Rr.cells a++rows Rr (l.set k g)
  rw[e,Gj,Bv Rr g l k (by rw[eU]at h;omega)]
section
variable {P:Program}{n:Nat}{F:Fr}{c:Ctx}{H R:List ai}{ty t e:TypeId}{x y:Operand}{v:Value}{Q:Exit→Act→World→Prop}{ops:Array Oper}{rest:List Oper}{pos:String}{after:Array Edge}{m k size:Nat}
theorem mL {ρ:Ro}{b:Nat}(a:v.ownBlock=some b)(hk:k<m):∀(us:List Value) (j:Nat) (cs:List Value) (w:World),fN c (row v e size m cs::R) ρ w→j+us.length≤size→(∀u∈us,u.oneCell'=true)→
 ∃w',(storeCells ⟨b,k*size,none⟩ us j).run P w= .ok () w'∧fN c (row v e size m (zk cs (k*size+j) us)::R) ρ w'
 | [],j,cs,w,hm,_,_=>⟨w,rfl,hm⟩
 |u::us,j,cs,w,hm,f,h1=>by
  rw[eU]at f;obtain⟨l,n,o,d,c1,f1,g⟩:=E3 (off:=j) (u:=u) hm hk zE
  rw[a]at d;cases d
  obtain⟨w',h,i⟩:=mL a hk us (j+1) _ _ g zE (λz hz=>h1 z (by simp[hz]));refine⟨w',?_,by rw[zk];exact i⟩;rw[storeCells]
  simp[run_store P w _ u _ (h1 u (by simp)),c1,f1,Addr.add_lit,h]
theorem St.Gx {α:Type}{Rr:Rp α}{l:List α}{sz:Nat}(p:Rr.size=sz)(g:α)[q:jH v H e sz m (rows Rr l) R](hx:aX F x (gx v sz k 0))(hy:aX F y (.agg (Rr.cells g).toArray))(r:(P.info? t).map (·.size)=some sz)(hk:k<m)(d:k<l.length)
 (h:St n F (Mm c (row v e sz m (rows Rr (l.set k g))::R)) (wpList P ops Q rest)):
 St n F (Mm c H) (wpList P ops Q ({dst:=none,op:= .store t x y,type:=ty,pos:=pos,after:=after,guard:=none}::rest)):=by
 subst p;refine St.p9 (K:=λD H'=>H'=row v e Rr.size m (rows Rr (l.set k g))::R) ?_ ?_
 ·intro a w ρ f hm
  have j:=hm.perm q.perm
  have s:(rows Rr l)[k*Rr.size+0]?=some ((Rr.cells (l[k]'d))[0]'(by rw[Rr.len];exact Rr.pos)):=by
   rw[eP Rr l k 0 (l[k]'d) (aj d) Rr.pos,aj]
  obtain⟨b,u,_,z,_⟩:=jY (dP.1 (j.dC _ (aV ..))) hk s;rw[u,fU]at hx;obtain⟨w',A,o⟩:=mL (P:=P) (k:=k) z hk (Rr.cells g) 0 _ w j (by rw[Rr.len];omega) (Rr.one g);rw[fU,Bv Rr g l k d]at o;obtain⟨i,B,C⟩:=dX.1 r;refine⟨.skip,w',ρ,_,?_,⟨_,.inr ⟨rfl,rfl⟩,rfl⟩,o⟩
  simp[execOp,hx.eval f,hy.eval f,Instr.storeAt,Instr.sureAddr,storeVar,sizeOf,typeInfo,B,C,bS,Rr.len,A]
 ·rintro _ _ rfl
  exact h
end
section
variable {P:Program}{n:Nat}{F:Fr}{c:Ctx}{H R:List ai}{ty t e:TypeId}{x:Operand}{T:Act→World→Prop}
theorem Ev.u9 {b off:Nat}{d:TypeDesc}{L:List Value}{u:Value}[f:lZ b H L](hx:aX F x (.pointer (some ⟨b,off,none⟩)))(ht:P.underlying t=some d)(g:(match d with| .struct _| .array _ _=>False|_=>True))(hu:L[off]?=some u):
 Ev P n F (Mm c H) (.load t x) ty u:= .of_run λa w h hw=>by
 obtain⟨ρ,hm⟩:=hw.out;obtain⟨e,fr,h1⟩:=dK.1 (hm.dC _ f.mem)
 have h1:=hm.fits _ _ h1
 simp[execOp,hx.eval h,Instr.loadAt,Instr.sureAddr,eo ht g ((cG h1).trans (by simpa using hu))]
theorem St.XX {size m:Nat}{cs:List Value}(v:Value)(s:Nat)[a:jH v H e size m cs R](b:size=s)(h:St n F (Mm c (row v e s m cs::R)) T):St n F (Mm c H) T:=by
 subst b
 exact h.ny λw hw=>let⟨_,k⟩:=hw.out;Mm.mk (k.perm a.perm)
variable {y:Operand}{Q:Exit→Act→World→Prop}{ops:Array Oper}{rest:List Oper}{pos:String}{after:Array Edge}{ty:TypeId}
end
end Go.J
namespace Go.J
open Go
section
variable {P:Program}{n:Nat}{F:Fr}{c:Ctx}{H R:List ai}{Q:Exit→Act→World→Prop}{ops:Array Oper}{rest:List Oper}{d:Nat}{ty:TypeId}{pos:String}{after:Array Edge}
theorem Mm.Kn {c:Ctx}{w:World}{ds:List dQ}{L:List ai}[a:kh ds H][b:eS L H R](hw:Mm c H w):Mm c ((ds.map aD++L)++R) w:=by
 obtain⟨_,k⟩:=(hw.mS (ds:=ds)).out;refine Mm.mk (k.perm ?_);rw[cr];exact List.Perm.append_left _ b.perm
theorem St.YN {dr:Prop}{f:FuncId}{xs:List Operand}{g:Array TypeId}{vs:List Value}{ds:List dQ}{L:List ai}{post:Value→List ai→Prop}(i:c.dr→dr)
 (j:EP dr P f vs.toArray (ds.map aD++L) post) (k:aG P f) (hx:bC F xs vs) (hd:Nat.ble (d+1) n=true) [l:kh ds H] [m:eS L H R]
 (h:∀v H',post v H'→St n ((d,v)::F) (Mm c (H'++R)) (wpList P ops Q rest)):
 St n F (Mm c H) (wpList P ops Q ({dst:=some d,op:= .call {callee:= .value (.func f),args:=xs.toArray,argTypes:=g},type:=ty,pos:=pos,after:=after,guard:=none}::rest)):=by
 intro a w b hw;refine gT rfl (fh (caps:=[]) k (bC.cons (aX.mk rfl) hx) b w ?_)
 simp only[List.append_nil]
 refine(Mm.wR j i (Mm.Kn (ds:=ds) (L:=L) hw)).mono ?_;rintro e w' ⟨u,H',rfl,hp,hm⟩;exact⟨u,rfl,h u H' hp _ w' (b.put (eI hd) u) hm⟩
theorem St.IH {f:FuncId}{xs:List Operand}{a:Array TypeId}{vs:List Value}{ds:List dQ}{L:List ai}{post:Value→List ai→Prop}
 (b:dR P f vs.toArray (ds.map aD++L) post) (e:aG P f) (hx:bC F xs vs) (hd:Nat.ble (d+1) n=true) [g:kh ds H] [i:eS L H R]
 (h:∀v H',post v H'→St n ((d,v)::F) (Mm c (H'++R)) (wpList P ops Q rest)):
 St n F (Mm c H) (wpList P ops Q ({dst:=some d,op:= .call {callee:= .value (.func f),args:=xs.toArray,argTypes:=a},type:=ty,pos:=pos,after:=after,guard:=none}::rest)):=
 St.YN (λ_=>trivial) b e hx hd h
theorem St.KT {dr:Prop}{f:FuncId}{x:Operand}{xs:List Operand}{g:Array TypeId}{vs caps:List Value}{ds:List dQ}{L:List ai}{post:Value→List ai→Prop}(i:c.dr→dr)
 (j:EP dr P f (vs++caps).toArray (ds.map aD++L) post) (k:aG P f) (l:aX F x (.func (.func f) #[] caps.toArray)) (hx:bC F xs vs) (hd:Nat.ble (d+1) n=true) [m:kh ds H] [o:eS L H R]
 (h:∀v H',post v H'→St n ((d,v)::F) (Mm c (H'++R)) (wpList P ops Q rest)):
 St n F (Mm c H) (wpList P ops Q ({dst:=some d,op:= .call {callee:= .value x,args:=xs.toArray,argTypes:=g},type:=ty,pos:=pos,after:=after,guard:=none}::rest)):=by
 intro a w b hw;refine gT rfl (fh k (bC.cons l hx) b w ?_);refine(Mm.wR j i (Mm.Kn (ds:=ds) (L:=L) hw)).mono ?_;rintro e w' ⟨u,H',rfl,hp,hm⟩;exact⟨u,rfl,h u H' hp _ w' (b.put (eI hd) u) hm⟩
end
end Go.J
namespace Go.Proofs
open Go.Shelf
def Tryz.rR:Go.Shelf.Ren:=⟨λ|6=>78|14=>120|15=>94|20=>179|21=>180|22=>181|23=>182|24=>183|25=>184|26=>185|27=>186|28=>139|29=>140|46=>212|47=>190|48=>191|49=>213|50=>214|57=>244|n=>n,λ|0=>0|3=>3|4=>4|5=>5|9=>9|22=>33|24=>51|25=>181|39=>192|45=>246|46=>247|50=>157|53=>253|55=>123|66=>295|70=>299|76=>323|77=>324|n=>n,λ|n=>n⟩
theorem Tryz.xO:Go.Proofs.SlLaysF0.n6 Tryz.prog Tryz.rR:={
 mixed:=by kernel_rfl
 f6:=⟨Tryz.f78.name,by decide,Tryz.func78.trans (congrArg some (by kernel_rfl))⟩
 f14:=⟨Tryz.f120.name,by decide,Tryz.func120.trans (congrArg some (by kernel_rfl))⟩
 f15:=Tryz.func94.trans (congrArg some (by kernel_rfl))
 f20:=⟨Tryz.f179.name,by decide,Tryz.func179.trans (congrArg some (by kernel_rfl))⟩
 f21:=⟨Tryz.f180.name,by decide,Tryz.func180.trans (congrArg some (by kernel_rfl))⟩
 f22:=⟨Tryz.f181.name,by decide,Tryz.func181.trans (congrArg some (by kernel_rfl))⟩
 f23:=⟨Tryz.f182.name,by decide,Tryz.func182.trans (congrArg some (by kernel_rfl))⟩
 f24:=⟨Tryz.f183.name,by decide,Tryz.func183.trans (congrArg some (by kernel_rfl))⟩
 f25:=⟨Tryz.f184.name,by decide,Tryz.func184.trans (congrArg some (by kernel_rfl))⟩
 f26:=⟨Tryz.f185.name,by decide,Tryz.func185.trans (congrArg some (by kernel_rfl))⟩
 f27:=⟨Tryz.f186.name,by decide,Tryz.func186.trans (congrArg some (by kernel_rfl))⟩
 f28:=Tryz.func139.trans (congrArg some (by kernel_rfl))
 f29:=Tryz.func140.trans (congrArg some (by kernel_rfl))
 f46:=⟨Tryz.f212.name,by decide,Tryz.func212.trans (congrArg some (by kernel_rfl))⟩
 f47:=Tryz.func190.trans (congrArg some (by kernel_rfl))
 f48:=Tryz.func191.trans (congrArg some (by kernel_rfl))
 f49:=⟨Tryz.f213.name,by decide,Tryz.func213.trans (congrArg some (by kernel_rfl))⟩
 f50:=⟨Tryz.f214.name,by decide,Tryz.func214.trans (congrArg some (by kernel_rfl))⟩
 f57:=⟨Tryz.f244.name,by decide,Tryz.func244.trans (congrArg some (by kernel_rfl))⟩
 t0:=u_0
 a0:=Tryz.isAgg0
 z0:=Tryz.sizeOf0
 v0:=Tryz.zeroValue0
 t3:=eK
 a3:=Tryz.isAgg3
 z3:=Tryz.sizeOf3
 v3:=Tryz.zeroValue3
 t4:=K3
 a4:=Tryz.isAgg4
 z4:=Tryz.sizeOf4
 v4:=Tryz.zeroValue4
 t5:=HI
 a5:=Tryz.isAgg5
 z5:=Tryz.sizeOf5
 v5:=Tryz.zeroValue5
 t9:=oc
 a9:=Tryz.isAgg9
 z9:=Tryz.sizeOf9
 v9:=Tryz.zeroValue9
 t22:=ug
 a22:=Tryz.isAgg33
 z22:=Tryz.sizeOf33
 v22:=Tryz.zeroValue33
 t25:=Tryz.underlying181
 a25:=Tryz.isAgg181
 z25:=Tryz.sizeOf181
 v25:=Tryz.zeroValue181
 t39:=qp
 a39:=Tryz.isAgg192
 z39:=Tryz.sizeOf192
 v39:=Tryz.zeroValue192
 t45:=Tryz.underlying246
 a45:=Tryz.isAgg246
 z45:=Tryz.sizeOf246
 v45:=Tryz.zeroValue246
 t46:=Tryz.underlying247
 a46:=Tryz.isAgg247
 z46:=Tryz.sizeOf247
 v46:=Tryz.zeroValue247
 t50:=Tryz.underlying157
 a50:=Tryz.isAgg157
 z50:=Tryz.sizeOf157
 v50:=Tryz.zeroValue157
 t53:=Tryz.underlying253
 a53:=Tryz.isAgg253
 z53:=Tryz.sizeOf253
 v53:=Tryz.zeroValue253
 t55:=jw
 a55:=Tryz.isAgg123
 z55:=Tryz.sizeOf123
 v55:=Tryz.zeroValue123
 t66:=Tryz.underlying295
 a66:=Tryz.isAgg295
 z66:=Tryz.sizeOf295
 v66:=Tryz.zeroValue295
 t70:=Tryz.underlying299
 a70:=Tryz.isAgg299
 z70:=Tryz.sizeOf299
 v70:=Tryz.zeroValue299
 t76:=Tryz.underlying323
 a76:=Tryz.isAgg323
 z76:=Tryz.sizeOf323
 v76:=Tryz.zeroValue323
 t77:=Tryz.underlying324
 a77:=Tryz.isAgg324
 z77:=Tryz.sizeOf324
 v77:=Tryz.zeroValue324}
end Go.Proofs
namespace Go.Proofs.YtiefglecbgdaiaaGreatDoor
open Go Go.J Tryz
theorem yX (x:ct)(nt nf:Nat)(a:nf≤100)(hx:dp nt nf (ao x))(b:x.nodes.length≤120):dR prog 168 #[au x] ([aJ x].map aD) (λv H'=>H'=[aD (cY (gY (ao x) 0) v)]):=by
 refine dR.body (args:=[au x]) 5 func168 rfl ntmps168 rfl (λc=> ?_);refine St.cast (H':=[aD (aJ x)]) rfl ?_;refine go ?_
 have e:=cj x
 have d:=fi hx a
 have f:=hx.pos
 refine go ?_;refine St.cW (.mk rfl) rfl (λg=> ?_);refine St.al (λh=> ?_);refine g5 ?_;refine St.slot 3 (au x) rfl rfl ?_;refine St.dt (uz x hx.lk b (λt ht=>by have:=(d t ht).2;omega) 0 zE) P7 (.ah rfl rfl) rfl ?_;rintro v4 _ rfl;refine St.eZ ?_;refine St.cY (gY (ao x) 0) v4 (λy hy=> ?_);obtain⟨rfl,i⟩:=hy;refine g4 ?_;refine St.rV [_] [aD (cY (gY (ao x) 0) (au y))] ?_;exact rfl
theorem Ap (n:Nat)(d:n≤12)(m:Nat)(hm:m=n*(n+1)):dR prog 116 #[iv (n:Nat)] [] (λv H'=>∃u:aY,v= .agg #[iv (n:Nat),u.1]∧H'=[row u.1 35 1 (List.replicate m cF).length (rows bU (List.replicate m cF))]):=by
 refine dR.body (args:=[iv (n:Nat)]) 10 func116 rfl ntmps116 rfl (λc=> ?_);refine go ?_
 have a:((n:Nat):Int)*(((n:Nat):Int)+1)=(m:Nat):=by rw[hm];push_cast;rfl
 have e:m≤156:=by rw[hm];exact cz (Nat.mul_le_mul (show n≤12 by omega) (show n+1≤13 by omega)) (by decide)
 refine go ?_;refine St.al (λf=> ?_);refine g8 ?_;refine St.ee (Ev.mul (.mk rfl) (.mk rfl) (by rw[a];omega)) ?_;refine St.slot 7 (iv (m:Nat)) rfl (congrArg iv a) ?_;refine St.xq (Rr:=bU) (g:=cF) (m:=m) (sz:=1) rfl (.mk rfl) (.mk rfl) B9 jm aaV abP rfl rfl zE rfl rfl (λb=> ?_);refine St.aN (tO b m m) (show _=(List.replicate m cF).length by rw[nO]) rfl ?_;refine St.ee (Ev.build (bC.ah rfl rfl) (λw=>ID rfl rfl w)) ?_;refine g4 ?_;refine St.rV [_] [row (tO b m m) 35 1 (List.replicate m cF).length (rows bU (List.replicate m cF))] ?_;exact⟨⟨(tO b m m),rfl⟩,rfl,rfl⟩
abbrev ju (f:kQ)(T:List eM)(n:Nat)(g:ei):Qr:=⟨n,ga T,qO f,g.rules.map l8,g.aK.map qD⟩
theorem X3 {d:mm}{n i j:Nat}{q:aY×List Nat}(h:d.bf[slt n i j]?=some q):d.cs.at_ n i j=q.2:=by
 show(d.bf.map Prod.snd).getD (slt n i j) []=q.2
 rw[aZ,aw,h];rfl
theorem FC {d:mm}{e:Nat}{x:cK}(h:d.its[e]?=some x):d.cs.its.getD e er=dW x:=by
 show(d.its.map dW).getD e er=dW x
 rw[aZ,aw,h];rfl
theorem gw (d:mm):d.cs.its.length=d.its.length:=aR _
theorem DH (d:mm):d.cs.sp.length=d.bf.length:=aR _
theorem zb {nt nf n:Nat}{d:mm}(h:Room d.cs 1)(a:gH nt nf n d.cs):∀x∈d.its,x.bb.length+1≤3000000000000∧x.bW.length≤x.bb.length:=λx hx=>by
 have h1:=h.bb (dW x) (di hx)
 have b:=a.bW (dW x) (di hx)
 have e:(dW x).bb.length=x.bb.length:=aR _
 have e2:(dW x).bW.length=x.bW.length:=rfl
 omega
theorem Lh:∀{l:List Nat} {a:Nat},a∈l→a≤l.sum
 |b::l,a,h=>by
  rw[ot]
  rcases bT.1 h with rfl|h
  ·omega
  ·have:=Lh h;omega
theorem zq {nt nf n:Nat}{d:mm}(a:gH nt nf n d.cs){k:Nat}{q:aY×List Nat}(h:d.bf[k]?=some q):q.2.length≤d.its.length:=by
 rw[←gw,←a.tot];refine Lh (di (f:=List.length) (?_:q.2∈d.cs.sp));exact di (aa h)
theorem XJ {nt nf n:Nat}{d:mm}(b:gH nt nf n d.cs){e:Nat}{x:cK}(h:d.its[e]?=some x):dp nt nf (ao x.gr)∧x.gr.nodes.length≤60:=by
 obtain⟨_,_,_,c,a⟩:=b.gr (dW x) (di (aa h))
 have a:(ao x.gr).length≤60:=a
 rw[cj]at a;exact⟨c,a⟩
theorem y9 {nt nf:Nat}{x:de}(h:dp nt nf x){k:Int}:0≤rZ x k↔k∈lI (x.getD 0 gu).2:=by
 unfold rZ
 cases a:(x.getD 0 gu).2.find? (λx=>x.1==k)with
 |none=>
  refine⟨λh=>absurd h (by decide),λhm=> ?_⟩;obtain⟨y,hy,rfl⟩:=cA.1 hm;exact absurd (List.find?_eq_none.1 a y hy) (by simp)
 |some y=>
  have hy:=List.mem_of_find?_eq_some a
  have hk:=List.find?_some a
  refine⟨λ_=>cA.2 ⟨y,hy,by simpa using hk⟩,λ_=> ?_⟩;exact((h.at_ h.pos).2.2 y hy).2.1
theorem PW {l a tqo i:Nat}(b:a<tqo):((nb l a tqo+i:Nat):Int)≤(tqo:Int)-(l:Nat)↔i<rO l a tqo:=by
 unfold nb rO
 by_cases h:l=0
 ·rw[aB h,aB h];omega
 ·rw[aA h,aA h];omega
theorem OM {f:kQ}{T:List eM}{n:Nat}{g:ei}{d:mm}{rule a e:Nat}{x:cK}(h:d.its[e]?=some x):Y9 (ju f T n g) d.cs rule a e=x.bW.any (qO f rule a):=by
 unfold Y9;rw[FC h];rfl
theorem SN {f:kQ}{T:List eM}{n:Nat}{g:ei}{d:mm}{rule a e:Nat}{x:cK}(h:d.its[e]?=some x){y:de}(b:x.bW.any (qO f rule a)=false):jo (ju f T n g) d.cs rule y a e=none:=by
 unfold jo;rw[OM h,b];rfl
theorem Lv {f:kQ}{T:List eM}{n:Nat}{g:ei}{d:mm}{rule a e:Nat}{x:cK}(h:d.its[e]?=some x){y:de}(b:x.bW.any (qO f rule a)=true):jo (ju f T n g) d.cs rule y a e=mg (ga T) y a (ao x.gr):=by
 unfold jo Cs.ed;rw[OM h,b,FC h];rfl
theorem oH {α β:Type}(f:α→β→α)(a:α){l:List β}{k:Nat}{b:β}(h:l[k]?=some b):(l.take (k+1)).foldl f a=f ((l.take k).foldl f a) b:=by
 rw[aO h,qv];rfl
theorem FO (g:ei)(p s:aY)(T:List eM)(hT:iJ T)(nf:Nat)(Pu:nf≤100)(f:kQ)(hf:yB f)(n:Nat)(hn:n≤12)(A o frm tqo:Nat)(Mj:frm<tqo)(hto:tqo≤n)(rule:Nat)(hrf:rule<f.nr)(r:dL)(hr:g.rules[rule]?=some r)(hK:1≤r.kids∧r.kids≤3)(B:Nat→Nat→Nat)(sv:aY):
 ∀(l:Nat) (d:mm) (x:ct) (C:aY) (kids:List Nat) (a:Nat),d.nG=sv→ko d→iG T.length nf n frm tqo B 0 d.cs→Room d.cs (l7 B tqo l a)→dp T.length nf (ao x)→x.nodes.length≤60→(∀k:Int,0≤k→k≤r.kids→0≤rZ (ao x) k)→r.kids=((kids.length+l+1:Nat):Int)→(frm<a∨(a=frm∧1≤l))→a<tqo→(∀k∈kids,k<d.its.length)→
 dR prog 169 ([tW A,iv (rule:Nat),au x,C.1,iv (frm:Nat),iv (a:Nat),iv (tqo:Nat)]).toArray ([gm f,sl bX g.rv.1 g.rules,aL cR g.rules,sl ax p.1 (dN T),sl ax s.1 (dM T),tz,sl aI C.1 (bx (kids)),aJ x,aL (λx:cK=>aJ x.gr) d.its].map aD++([tI A (ma g p s f n d.fj.1 sv.1 o) 223,aU o (df mkStr d.m),row d.fj.1 229 6 d.its.length (rows eE d.its),row sv.1 35 1 d.bf.length (rows bU (d.bf.map Prod.fst))]++(bK (eR 234 3) d.its++bK (fa 3) d.bf))) (λv H'=>∃d2:mm,d2.cs=rQ (ju f T n g) rule frm tqo (l) d.cs (ao x) (kids) a∧d2.nG=sv∧ko d2∧d2.bf.length=d.bf.length∧(∀k,k≠slt n frm tqo→d2.bf[k]?=d.bf[k]?)∧H'=(aD (aL (λx:cK=>aJ x.gr) d2.its)::tI A (ma g p s f n d2.fj.1 sv.1 o) 223::aU o (df mkStr d2.m)::row d2.fj.1 229 6 d2.its.length (rows eE d2.its)::row sv.1 35 1 d2.bf.length (rows bU (d2.bf.map Prod.fst))::(bK (eR 234 3) d2.its++bK (fa 3) d2.bf))):=by
 intro l
 induction l using Nat.strongRecOn with|_ l ih=> ?_
 intro d x C kids a hsv hp O0 ad9 hx Bd H TE Z TA hkd;refine dR.body (args:=[tW A,iv (rule:Nat),au x,C.1,iv (frm:Nat),iv (a:Nat),iv (tqo:Nat)]) 125 func169 rfl ntmps169 rfl (λc=> ?_);refine St.cast (H':=(aD (gm f)::aD (sl bX g.rv.1 g.rules)::aD (aL cR g.rules)::aD (sl ax p.1 (dN T))::aD (sl ax s.1 (dM T))::aD (tz)::aD (sl aI C.1 (bx kids))::aD (aJ x)::aD (aL (λx:cK=>aJ x.gr) d.its)::tI A (ma g p s f n d.fj.1 sv.1 o) 223::aU o (df mkStr d.m)::row d.fj.1 229 6 d.its.length (rows eE d.its)::row sv.1 35 1 d.bf.length (rows bU (d.bf.map Prod.fst))::(bK (eR 234 3) d.its++bK (fa 3) d.bf))) rfl ?_;refine go ?_
 have hnr:=hf.nr
 have hmt:=GB T
 have Ir:=cj x
 have akU:kids.length+l+1≤3:=by have:=hK.2;omega
 have aeD:d.bf.length=n*(n+1):=by rw[←DH,O0.ok.Hg]
 refine St.wf C.1 (λXB _=> ?_);refine go ?_;refine St.cW (.mk rfl) rfl (λb9=> ?_);refine g10 ?_;refine St.ee (Ev.cM (k:=rule) (.mk rfl) (.mk rfl) B7 oW zE (by have:=ag hr;omega)) ?_;refine St.ee (Ev.j2 (.mk rfl) hr EH trivial oW gX.eq) ?_;refine St.al (λT7=> ?_);refine St.sA (.mk rfl) (.mk rfl) oW ?_ (h1:=(j8.2 λu hu=>bX.one r u hu));refine g8 ?_;refine St.slot 35 (iv (kids.length:Nat)) rfl (congrArg iv (by rw[du])) ?_;refine go ?_;refine St.slot 36 (iv ((l+1:Nat):Int)) rfl (congrArg iv (by rw[TE];push_cast;omega)) ?_;refine go ?_;refine St.slot 37 (iv (l:Nat)) rfl (congrArg iv (by push_cast;omega)) ?_;refine g18 ?_;refine St.join (ι:=Unit) (λu T=>(17,iv ((nb l a tqo:Nat):Int))::T) (λu=>(aD (aL (λx:cK=>aJ x.gr) d.its)::tI A (ma g p s f n d.fj.1 sv.1 o) 223::aU o (df mkStr d.m)::row d.fj.1 229 6 d.its.length (rows eE d.its)::row sv.1 35 1 d.bf.length (rows bU (d.bf.map Prod.fst))::aD (gm f)::aD (sl bX g.rv.1 g.rules)::aD (aL cR g.rules)::aD (sl ax p.1 (dN T))::aD (sl ax s.1 (dM T))::aD (tz)::aD (sl aI C.1 (bx kids))::aD (aJ x)::tI b9 [x.nv.1] 30::tI T7 (zj r) 98::(bK (eR 234 3) d.its++bK (fa 3) d.bf))) (λu=>True) (aC.k9 0 1 3 4 5 6 9 15 16) ?_ ?_
 ·refine g6 ?_
  refine St.cq (λh44=> ?_) (λh44=> ?_)
  ·have Yu:l=0:=by omega
   refine g5 ?_;refine St.slot 17 (iv ((nb l a tqo:Nat):Int)) rfl (congrArg iv (by unfold nb;rw[aB Yu])) ?_;refine St.mE () trivial
  ·have Yu:l≠0:=by omega
   refine g2 ?_;refine St.slot 17 (iv ((nb l a tqo:Nat):Int)) rfl (congrArg iv (by unfold nb;rw[aA Yu];push_cast;rfl)) ?_;refine St.mE () trivial
 ·intro u Mn
  refine g7 ?_;refine St.lH (ι:=Nat×mm) (λ⟨i,d1⟩ T=>(18,iv ((nb l a tqo+i:Nat):Int))::T) (λ⟨i,d1⟩=>(aD (aL (λx:cK=>aJ x.gr) d1.its)::tI A (ma g p s f n d1.fj.1 sv.1 o) 223::aU o (df mkStr d1.m)::row d1.fj.1 229 6 d1.its.length (rows eE d1.its)::row sv.1 35 1 d1.bf.length (rows bU (d1.bf.map Prod.fst))::aD (gm f)::aD (sl bX g.rv.1 g.rules)::aD (aL cR g.rules)::aD (sl ax p.1 (dN T))::aD (sl ax s.1 (dM T))::aD (tz)::aD (sl aI C.1 (bx kids))::aD (aJ x)::tI b9 [x.nv.1] 30::tI T7 (zj r) 98::(bK (eR 234 3) d1.its++bK (fa 3) d1.bf))) (λ⟨i,d1⟩=>i≤rO l a tqo∧d1.nG=sv∧ko d1∧d1.cs=((List.range' (nb l a tqo) (rO l a tqo)).take i).foldl (MY (ju f T n g) rule frm tqo l (ao x) kids a) d.cs∧d1.bf.length=d.bf.length∧(∀k,k≠slt n frm tqo→d1.bf[k]?=d.bf[k]?)) (λ⟨i,d1⟩=>rO l a tqo-i) ⟨0,d⟩ (aC.k9 0 1 3 4 5 6 9 15 16) ⟨aP _,hsv,hp,rfl,rfl,λ_ _=>rfl⟩ ?_;rintro ⟨i,d1⟩ ⟨hi,Mp,Z1,X8,I,D⟩
  dsimp only at hi Mp Z1 X8 I D⊢
  refine g8 ?_;refine St.cond _ rfl (λJ=> ?_) (λJ=> ?_)
  ·skip
   have L0:i<rO l a tqo:=(PW TA).1 (gU J)
   obtain⟨f1,f2,f3,f4⟩:=DK TA L0
   obtain⟨en,hen⟩:∃en,en=nb l a tqo+i:=⟨_,rfl⟩
   rw[←hen]at f1 f2 f3 f4⊢
   have hei:(List.range' (nb l a tqo) (rO l a tqo))[i]?=some en:=by rw[List.getElem?_range' L0,hen,nz]
   have hE0:∀z∈(List.range' (nb l a tqo) (rO l a tqo)),a<z∧z≤tqo∧(1≤l→z<tqo):=λz hz=>by obtain⟨j,hj,rfl⟩:=List.mem_range'.1 hz;have:=DK TA hj;rw[nz];exact⟨this.1,this.2.1,this.2.2.2⟩
   obtain⟨Ag,K⟩:=PU (Q:=(ju f T n g)) hn hmt Mj hto B (l:=l) (a:=a) (rule:=rule) O0 hx Z (by rw[gw];exact hkd) ((List.range' (nb l a tqo) (rO l a tqo)).take i) (λz hz=>hE0 z (List.take_subset _ _ hz));rw[←X8]at Ag K
   have aeG:=w8 (f:=λen=>B a en*xK B tqo l en) hei
   rw[←UI]at aeG
   have Z2:Room d1.cs (B a en*xK B tqo l en):=Room.grow (Room.mono ad9 aeG) K
   have adX:∀k∈kids,k<d1.cs.its.length:=λk hk=>fI (by rw[gw];exact hkd k hk) K.more
   have aeC:slt n a en≠slt n frm tqo:=λh=>by have:=E8 zE hto h;rcases Z with Z|⟨_,hl⟩;omega;have:=f4 hl;omega
   obtain⟨q,hq⟩:=aF (show slt n a en<d.bf.length by rw[aeD];exact sk zE zE)
   have hq1:d1.bf[slt n a en]?=some q:=by rw[D _ aeC];exact hq
   have M:=X3 hq1
   have ad8:q.2.length=B a en:=by rw[←M];exact Ag.len a en (show en≤n by omega) (λh=>by rcases Z with Z|⟨_,hl⟩;omega;have:=f4 hl;omega)
   refine g9 ?_;refine St.ee (Ev.iz 2 (.mk rfl) CL trivial CD rfl rfl) ?_;refine St.slot 55 (.agg #[iv (n:Nat),sv.1]) rfl rfl ?_;refine g2 ?_;refine St.call (Cw n a en (slt n a en) hn zE zE rfl sv d1.bf q hq1) P6 (.fk rfl rfl rfl) rfl ?_;rintro v58 _ ⟨rfl,rfl⟩;refine St.eZ ?_;refine St.tail (bK (eR 234 3) d1.its++bK (fa 3) d1.bf) (row q.1.1 3 1 (q.2).length (rows aI (bx (q.2)))::(bK (eR 234 3) d1.its++bK (fa 3) (d1.bf.eraseIdx (slt n a en)))) (pP _ _ _ hq1) ?_;refine go ?_;refine St.tail (row q.1.1 3 1 (q.2).length (rows aI (bx (q.2)))::(bK (eR 234 3) d1.its++bK (fa 3) (d1.bf.eraseIdx (slt n a en)))) (bK (eR 234 3) d1.its++bK (fa 3) d1.bf) (pP (eR 234 3) (fa 3) d1.its hq1).symm ?_;refine g4 ?_;refine St.lH (ι:=Nat×mm) (λ⟨k,d2⟩ T=>(60,iv k)::T) (λ⟨k,d2⟩=>(aD (aL (λx:cK=>aJ x.gr) d2.its)::tI A (ma g p s f n d2.fj.1 sv.1 o) 223::aU o (df mkStr d2.m)::row d2.fj.1 229 6 d2.its.length (rows eE d2.its)::row sv.1 35 1 d2.bf.length (rows bU (d2.bf.map Prod.fst))::aD (gm f)::aD (sl bX g.rv.1 g.rules)::aD (aL cR g.rules)::aD (sl ax p.1 (dN T))::aD (sl ax s.1 (dM T))::aD (tz)::aD (sl aI C.1 (bx kids))::aD (aJ x)::tI b9 [x.nv.1] 30::tI T7 (zj r) 98::(bK (eR 234 3) d2.its++bK (fa 3) d2.bf))) (λ⟨k,d2⟩=>k≤q.2.length∧d2.nG=sv∧ko d2∧d2.cs=(q.2.take k).foldl (tc (ju f T n g) rule frm tqo l (ao x) kids en) d1.cs∧d2.bf.length=d.bf.length∧(∀k,k≠slt n frm tqo→d2.bf[k]?=d.bf[k]?)) (λ⟨k,d2⟩=>q.2.length-k) ⟨0,d1⟩ (aC.k12 0 1 3 4 5 6 9 15 16 18 58 59) ⟨aP _,Mp,Z1,rfl,I,D⟩ ?_;rintro ⟨k,d2⟩ ⟨hk,Y,N,E,O,P⟩
   dsimp only at hk Y N E O P⊢
   refine g6 ?_;refine St.cq (λh61=> ?_) (λh61=> ?_)
   ·obtain⟨e,he⟩:=aF (show k<q.2.length by omega)
    have XE:d2.bf[slt n a en]?=some q:=by rw[P _ aeC];exact hq
    have ad4:∀z∈q.2,z<d1.cs.its.length:=λz hz=>Ag.ok.qP (by rw[M];exact hz)
    obtain⟨R,Fb⟩:=BV (Q:=(ju f T n g)) hn hmt Mj hto B (l:=l) (rule:=rule) Ag hx (en:=en) ⟨by omega,f4⟩ adX (q.2.take k) (λz hz=>ad4 z (List.take_subset _ _ hz));rw[←E,cy,gB zE]at Fb;rw[←E]at R
    have adQ:k*xK B tqo l en+xK B tqo l en≤B a en*xK B tqo l en:=by rw[←ad8,←Nat.succ_mul];exact fJ _ zE
    have Ix:Room d2.cs (xK B tqo l en):=Room.grow (Room.mono Z2 adQ) Fb
    have hel:e<d2.its.length:=by rw[←gw];exact fI (ad4 e (aa he)) Fb.more
    have aiR:∀k∈kids,k<d2.its.length:=λz hz=>by rw[←gw];exact fI (adX z hz) Fb.more
    obtain⟨b,F⟩:=aF hel
    have XH:=aa F
    obtain⟨It,Pn⟩:=XJ R.ok F
    have Iu:=Ix.its
    have akZ:=zq R.ok XE
    rw[gw]at Iu;refine St.tail (bK (eR 234 3) d2.its++bK (fa 3) d2.bf) (row q.1.1 3 1 (q.2).length (rows aI (bx (q.2)))::(bK (eR 234 3) d2.its++bK (fa 3) (d2.bf.eraseIdx (slt n a en)))) (pP _ _ _ XE) ?_;refine g7 ?_;refine St.ee (Ev.cx (.mk rfl) eK trivial zE (fm (iZ he))) ?_;refine St.tail (row q.1.1 3 1 (q.2).length (rows aI (bx (q.2)))::(bK (eR 234 3) d2.its++bK (fa 3) (d2.bf.eraseIdx (slt n a en)))) (bK (eR 234 3) d2.its++bK (fa 3) d2.bf) (pP (eR 234 3) (fa 3) d2.its XE).symm ?_;refine g10 ?_;refine St.slot 67 (iv (kids.length:Nat)) rfl (congrArg iv (by rw[du])) ?_;refine go ?_;refine St.slot 68 (iv ((kids.length+1:Nat):Int)) rfl (congrArg iv (by push_cast;rfl)) ?_;refine go ?_;refine St.dup (gm f) ?_;refine St.tail (bK (eR 234 3) d2.its++bK (fa 3) d2.bf) (row b.wv.1 234 3 (b.bb).length (rows lY (b.bb))::row b.tv.1 3 1 (b.bW).length (rows aI (b.bW))::(bK (iy 3) b.bb++(bK (eR 234 3) (d2.its.eraseIdx e)++bK (fa 3) d2.bf))) (z7 _ _ F) ?_;refine St.call (tQ f hf (ma g p s f n d2.fj.1 sv.1 o) rfl A rule (kids.length+1) hrf zE zE d2.fj rfl d2.its e b F (N.bW b XH)) Wr (.pL rfl rfl rfl rfl) rfl ?_;rintro v70 _ ⟨rfl,rfl⟩;refine St.Tf ?_;refine St.pQ [row b.wv.1 234 3 (b.bb).length (rows lY (b.bb)),row b.tv.1 3 1 (b.bW).length (rows aI (b.bW))] (bK (iy 3) b.bb++(bK (eR 234 3) (d2.its.eraseIdx e)++bK (fa 3) d2.bf)) (bK (eR 234 3) d2.its++bK (fa 3) d2.bf) (z7 (eR 234 3) (bK (fa 3) d2.bf) F).symm ?_;refine g3 ?_;refine St.cond _ rfl (λS=> ?_) (λS=> ?_)
    ·skip
     have Iq:b.bW.any (qO f rule (kids.length+1))=false:=by simpa using S
     have U:jo (ju f T n g) d2.cs rule (ao x) (kids.length+1) e=none:=SN F Iq
     refine g9 ?_;refine St.aH ⟨k+1,d2⟩ ⟨by omega,Y,N,by rw[oH _ _ he,←E];exact(by unfold tc;rw[U]),O,P⟩
    ·skip
     have Iq:b.bW.any (qO f rule (kids.length+1))=true:=by simpa using S
     have U:=Lv (T:=T) (n:=n) (g:=g) (y:=ao x) F Iq
     refine g3 ?_;refine St.gW (aJ b.gr) [aL (λx:cK=>aJ x.gr) d2.its] (λρ h=>h _ (aV ..) b XH) ?_;refine St.j6 d2.fj.1 zE (λbs cs Px=> ?_);refine St.dZ (aD (sl ax p.1 (dN T))::aD (sl ax s.1 (dM T))::aD tz::aD (aJ x)::aD (aJ b.gr)::(bK (eR 234 3) d2.its++bK (fa 3) d2.bf)) mixed (λnp ns=> ?_);refine SW.gd 0 ?_;refine SW.gd 1 ?_;refine SW.gd 2 ?_;refine SW.dd 3 rfl (λ_=>Ev.iz 2 (.mk rfl) wm trivial wg rfl rfl) ?_;refine SW.slot 76 (jc p s) rfl rfl ?_;refine SW.gd 4 ?_;refine SW.slot 77 (au x) rfl rfl ?_;refine SW.gd 5 ?_;refine SW.gd 6 ?_;refine SW.slot 79 (iv (kids.length:Nat)) rfl (congrArg iv (by rw[du])) ?_;refine SW.gd 7 ?_;refine SW.slot 80 (iv ((kids.length+1:Nat):Int)) rfl (congrArg iv (by push_cast;rfl)) ?_;refine SW.gd 8 ?_;refine SW.gd 9 ?_;refine SW.gd 10 ?_;refine SW.gd 11 ?_;refine SW.gd 12 ?_;refine SW.dd 13 rfl (λ_=>Ev.kF (k:=e) Px (.mk rfl) (.mk rfl) oX oV zE zE) ?_;refine SW.dd 14 rfl (λ_=>Ev.pA Px (.mk rfl) tj) ?_;refine SW.dd 15 rfl (λ_=>Ev.pA Px (.mk rfl) xk) ?_;refine SW.dd 16 rfl (λ_=>Ev.J7 (Rr:=eE) (sz:=1) (.mk rfl) F mh trivial jk zE (by decide) (by decide)) ?_;refine SW.slot 89 (au b.gr) rfl rfl ?_;refine SW.t2 17 21 ?_ ?_
     focus
      refine St.dt (qz p s T hT nf Pu x b.gr ((kids.length+1:Nat):Int) hx It Bd Pn (H _ zE zE)) KY (.pL rfl rfl rfl rfl) rfl ?_;rintro v90 _ ⟨u,z,rfl,hz,rfl⟩;refine St.eZ ?_;refine St.cY z u (λy hy=> ?_);obtain⟨rfl,L1⟩:=hy;refine g2 ?_;refine SW.go ?_;refine SW.gd 18 ?_;refine SW.gd 19 ?_;refine SW.gd 20 ?_;refine SW.t1 21 ?_;refine St.al (λb21=> ?_);refine g2 ?_;refine SW.go ?_;refine SW.t1 22 ?_;refine g3 ?_;refine SW.go ?_;refine SW.gd 23 ?_;refine SW.dn ?_
     rotate_left
     focus
      refine St.al (λb21=> ?_);refine g2 ?_;refine SW.go ?_;refine SW.t1 17 ?_;refine St.dt (qz p s T hT nf Pu x b.gr ((kids.length+1:Nat):Int) hx It Bd Pn (H _ zE zE)) KY (.pL rfl rfl rfl rfl) rfl ?_;rintro v90 _ ⟨u,z,rfl,hz,rfl⟩;refine St.eZ ?_;refine St.cY z u (λy hy=> ?_);obtain⟨rfl,L1⟩:=hy;refine g2 ?_;refine SW.go ?_;refine SW.gd 18 ?_;refine SW.gd 19 ?_;refine SW.gd 20 ?_;refine SW.t1 22 ?_;refine g3 ?_;refine SW.go ?_;refine SW.gd 23 ?_;refine SW.dn ?_
     all_goals
      refine g8 ?_;refine St.cond _ rfl (λV=> ?_) (λV=> ?_)
      ·skip
       have hsn:mg (ga T) (ao x) ((kids.length+1:Nat):Int) (ao b.gr)=none:=by simpa using V
       rw[hsn]at U;refine g9 ?_;refine St.aH ⟨k+1,d2⟩ ⟨by omega,Y,N,by rw[oH _ _ he,←E];exact(by unfold tc;rw[U]),O,P⟩
      ·skip
       obtain⟨z1,TJ⟩:∃z1,mg (ga T) (ao x) ((kids.length+1:Nat):Int) (ao b.gr)=some z1:=Option.isSome_iff_exists.1 (by simpa using V)
       have hzz:=hz z1 TJ
       rw[hzz]at L1;rw[TJ,←L1]at U;rw[←L1]at TJ;obtain⟨y1,y2,y3⟩:=Jo hmt hx It TJ
       have hyl:y.nodes.length≤60:=by rw[←cj];exact y2
       have hyt:∀k:Int,0≤k→k≤r.kids→0≤rZ (ao y) k:=λk h0 h1=>(y9 y1).2 (y3 k ((y9 hx).1 (H k h0 h1)))
       have adY:∀k∈kids++ [e],k<d2.its.length:=λz hz=>by rcases cI.1 hz with hz|hz;exact aiR z hz;rw[bN.1 hz];exact hel
       refine g7 ?_;refine St.slot 97 (iv (kids.length:Nat)) rfl (congrArg iv (by rw[du])) ?_;refine g2 ?_;refine St.slot 99 (iv (kids.length:Nat)) rfl (congrArg iv (by rw[du])) ?_;refine St.ee (Ev.clip (.mk rfl) (.mk rfl) (.mk rfl) cP eL (by rw[du]) (by rw[du])) ?_;refine go ?_;refine St.hS rfl (.ay rfl) cP eL jF rfl rfl (by simp[Value.cells]) rfl rfl (λakB=> ?_);refine St.sQ (.mk rfl) (.mk rfl) cP eL jF vD (by simp[Value.oneCell',Value.cells]) (by rw[du];omega) (by rw[du];omega) rfl rfl rfl rfl (λG aj1=> ?_);refine St.aN G (show _=(kids++ [e]).length by rw[du,bJ];rfl) (show _=rows aI (bx (kids++ [e])) by rw[kG,bB];rfl) ?_;refine St.bQ G (λIl _=> ?_);refine g9 ?_;refine St.cq (λIm=> ?_) (λIm=> ?_)
       ·obtain⟨l1,rfl⟩:∃l1,l=l1+1:=⟨l-1,by omega⟩
        refine St.bI G aI (bx (kids++ [e])) rfl (du _).symm (λz hz=>by obtain⟨z2,hz2,rfl⟩:=cA.1 hz;have:=adY z2 hz2;unfold aI bR;dsimp only;omega) ?_
        have aeF:iG T.length nf n frm tqo B 0 d2.cs:=⟨R.ok,R.len,aP _⟩
        refine g4 ?_;refine St.slot 108 (au y) rfl rfl ?_;refine g4 ?_;refine St.yW (ds:=[gm f,sl bX g.rv.1 g.rules,aL cR g.rules,sl ax p.1 (dN T),sl ax s.1 (dM T),tz,sl aI G (bx (kids++ [e])),aJ y,aL (λx:cK=>aJ x.gr) d2.its]) (L:=[tI A (ma g p s f n d2.fj.1 sv.1 o) 223,aU o (df mkStr d2.m),row d2.fj.1 229 6 d2.its.length (rows eE d2.its),row sv.1 35 1 d2.bf.length (rows bU (d2.bf.map Prod.fst))]) (X:=(bK (eR 234 3) d2.its++bK (fa 3) d2.bf)) (post:=λv L' X'=>∃d3:mm,d3.cs=rQ (ju f T n g) rule frm tqo (l1) d2.cs (ao y) (kids++ [e]) en∧d3.nG=sv∧ko d3∧d3.bf.length=d2.bf.length∧(∀k,k≠slt n frm tqo→d3.bf[k]?=d2.bf[k]?)∧L'=[aD (aL (λx:cK=>aJ x.gr) d3.its),tI A (ma g p s f n d3.fj.1 sv.1 o) 223,aU o (df mkStr d3.m),row d3.fj.1 229 6 d3.its.length (rows eE d3.its),row sv.1 35 1 d3.bf.length (rows bU (d3.bf.map Prod.fst))]∧X'=(bK (eR 234 3) d3.its++bK (fa 3) d3.bf)) ((ih l1 zE d2 y ⟨G,Il⟩ (kids++ [e]) en Y N aeF Ix y1 hyl hyt (by rw[TE];simp only[List.length_append,List.length_cons,List.length_nil];push_cast;omega) (.inl zE) (f4 zE) adY).mono (λv H' ⟨d3,W,a2,a3,a4,a5,a6⟩=>⟨_,_,a6,d3,W,a2,a3,a4,a5,rfl,rfl⟩)) Wq (.afA rfl rfl rfl rfl rfl rfl rfl) rfl ?_;rintro alS _ _ ⟨d3,W,a2,a3,a4,a5,rfl,rfl⟩;refine St.yP ?_;refine g8 ?_;refine St.aH ⟨k+1,d3⟩ ⟨by omega,a2,a3,by rw[oH _ _ he,←E];exact(by unfold tc;rw[U];exact W),(a4.trans O),(λz hz=>(a5 z hz).trans (P z hz))⟩
       ·obtain rfl:l=0:=by omega
        obtain rfl:en=tqo:=f3 rfl;refine g5 ?_;refine St.slot 117 (au y) rfl rfl ?_;refine St.dt (qJ y T.length nf Pu y1 zE (hyt 0 zE zE)) Oz (.ay rfl) rfl ?_;rintro ajV _ rfl;refine St.eZ ?_;refine St.cY (lJ (ao y)) ajV (λmy hm=> ?_);obtain⟨rfl,XD⟩:=hm;obtain⟨m1,m2⟩:=qc y1 y2;rw[←XD]at m1 m2;rw[cj]at m2
        have hms:=fi m1 Pu
        obtain⟨q0,TH⟩:=aF (show slt n frm en<d2.bf.length by rw[O,aeD];exact sk zE hto)
        have ad7:=zq R.ok TH
        have Pv:Room d2.cs 1:=Ix
        have adW:=Pv.its
        rw[gw]at adW
        have hrl:=ag hr
        refine St.ee (Ev.build (bC.fk rfl rfl rfl) (λw=>tT rfl rfl w)) ?_;refine St.slot 119 (IQ frm en 0 my.nv.1) rfl rfl ?_;refine g2 ?_;refine St.ee (Ev.build (bC.ah rfl rfl) (λw=>yT rfl Il w)) ?_;refine St.slot 122 (.agg #[iv (rule:Nat),iv 0,G]) rfl rfl ?_;refine St.yW (ds:=[aJ my,aL (λx:cK=>aJ x.gr) d2.its]) (L:=[tI A (ma g p s f n d2.fj.1 sv.1 o) 223,aU o (df mkStr d2.m),row d2.fj.1 229 6 d2.its.length (rows eE d2.its),row sv.1 35 1 d2.bf.length (rows bU (d2.bf.map Prod.fst)),row G 3 aI.size (kids++ [e]).length (rows aI (bx (kids++ [e])))]) (X:=(bK (eR 234 3) d2.its++bK (fa 3) d2.bf)) (post:=λv L' X'=>∃d3:mm,d3.cs=iK n d2.cs ⟨frm,en,0,ao my⟩ ⟨(rule:Nat),0,kids++ [e]⟩∧d3.nG=sv∧ko d3∧d3.bf.length=d2.bf.length∧(∀k,k≠slt n frm en→d3.bf[k]?=d2.bf[k]?)∧L'=[aD (aL (λx:cK=>aJ x.gr) d3.its),tI A (ma g p s f n d3.fj.1 sv.1 o) 223,aU o (df mkStr d3.m),row d3.fj.1 229 6 d3.its.length (rows eE d3.its),row sv.1 35 1 d3.bf.length (rows bU (d3.bf.map Prod.fst))]∧X'=(bK (eR 234 3) d3.its++bK (fa 3) d3.bf)) ?_ P5 (.fk rfl rfl rfl) rfl ?_
        ·subst Y
         exact(vA g p s f n hn d2 N A o frm en 0 my zE (λt ht=>by have:=(hms t ht).2;omega) zE zE (rule:Nat) 0 (by unfold bR;omega) zE ⟨G,Il⟩ (kids++ [e]) q0 TH zE zE (zb Pv R.ok)).mono (λv H' ⟨d3,W,a2,a3,a4,a5,a6⟩=>⟨_,_,(by rw[a2]at a6;exact a6),d3,W,a2,a3,a4,a5,rfl,rfl⟩)
        rintro alT _ _ ⟨d3,W,a2,a3,a4,a5,rfl,rfl⟩;refine St.yP ?_;refine g8 ?_;refine St.aH ⟨k+1,d3⟩ ⟨by omega,a2,a3,by rw[oH _ _ he,←E];exact(by unfold tc;rw[U,W,XD]),(a4.trans O),(λz hz=>(a5 z hz).trans (P z hz))⟩
   ·obtain rfl:k=q.2.length:=by omega
    rw[fW]at E;refine g12 ?_;refine St.aH ⟨i+1,d2⟩ ⟨by omega,Y,N,by rw[oH _ _ hei,←X8,E];show _=(d1.cs.at_ n a en).foldl _ _;rw[M],O,P⟩
  ·skip
   have L0:¬i<rO l a tqo:=λh=>l3 J ((PW TA).2 h)
   obtain rfl:i=rO l a tqo:=by omega
   rw[dV (by rw[List.length_range'];exact aQ _),←Km]at X8;refine g4 ?_;refine St.fL ?_;refine St.rV [] (aD (aL (λx:cK=>aJ x.gr) d1.its)::tI A (ma g p s f n d1.fj.1 sv.1 o) 223::aU o (df mkStr d1.m)::row d1.fj.1 229 6 d1.its.length (rows eE d1.its)::row sv.1 35 1 d1.bf.length (rows bU (d1.bf.map Prod.fst))::(bK (eR 234 3) d1.its++bK (fa 3) d1.bf)) ?_;exact⟨d1,X8,Mp,Z1,I,D,rfl⟩
theorem NW (g:ei)(b l:aY)(T:List eM)(hT:iJ T)(nf:Nat)(V:nf≤100)(f:kQ)(hf:yB f)(n:Nat)(hn:n≤12)(p a:Nat)(sv:aY)(wv:Value)(words:List ab)(Mq:words.length=n)(hnr:f.nr=g.rules.length)(O:rK T.length nf (ju f T n g))(Hc:∀r∈g.rules,∀k:Int,0≤k→k≤r.kids→0≤rZ (ao r.graph) k)
 (frm tqo len:Nat) (hlen:1≤len) (hte:tqo=frm+len) (W:tqo≤n) (d:mm) (hsv:d.nG=sv) (hp:ko d) (hs:nV T.length nf n len frm d.cs):
 dR prog 117 ([tW p,wv,iv (frm:Nat),iv (tqo:Nat)]).toArray ([gm f,sl bX g.rv.1 g.rules,aL cR g.rules,sl dT g.xv.1 g.aK,aL eO g.aK,sl ax b.1 (dN T),sl ax l.1 (dM T),tz,sl bZ wv words,aL (λx:cK=>aJ x.gr) d.its].map aD++([tI p (ma g b l f n d.fj.1 sv.1 a) 223,aU a (df mkStr d.m),row d.fj.1 229 6 d.its.length (rows eE d.its),row sv.1 35 1 d.bf.length (rows bU (d.bf.map Prod.fst))]++(bK (eR 234 3) d.its++bK (fa 3) d.bf))) (λv H'=>∃d2:mm,d2.cs=oQ (ju f T n g) words frm tqo d.cs∧d2.nG=sv∧ko d2∧H'=(aD (aL (λx:cK=>aJ x.gr) d2.its)::tI p (ma g b l f n d2.fj.1 sv.1 a) 223::aU a (df mkStr d2.m)::row d2.fj.1 229 6 d2.its.length (rows eE d2.its)::row sv.1 35 1 d2.bf.length (rows bU (d2.bf.map Prod.fst))::(bK (eR 234 3) d2.its++bK (fa 3) d2.bf))):=by
 refine dR.body (args:=[tW p,wv,iv (frm:Nat),iv (tqo:Nat)]) 171 func117 rfl ntmps117 rfl (λc=> ?_);refine St.cast (H':=(aD (gm f)::aD (sl bX g.rv.1 g.rules)::aD (aL cR g.rules)::aD (sl dT g.xv.1 g.aK)::aD (aL eO g.aK)::aD (sl ax b.1 (dN T))::aD (sl ax l.1 (dM T))::aD (tz)::aD (sl bZ wv words)::aD (aL (λx:cK=>aJ x.gr) d.its)::tI p (ma g b l f n d.fj.1 sv.1 a) 223::aU a (df mkStr d.m)::row d.fj.1 229 6 d.its.length (rows eE d.its)::row sv.1 35 1 d.bf.length (rows bU (d.bf.map Prod.fst))::(bK (eR 234 3) d.its++bK (fa 3) d.bf))) rfl ?_
 have Mj:frm<tqo:=by omega
 have hmt:=GB T
 obtain⟨w,hw⟩:=aF (show frm<words.length by omega)
 have hwd:words.getD frm []=w:=by rw[aZ,hw];rfl
 have hrn:g.rules.length≤40:=by have h:(g.rules.map l8).length≤40:=O.rn;rwa[aR]at h
 have hxn:g.aK.length≤100:=by have h:(g.aK.map qD).length≤100:=O.xn;rwa[aR]at h
 have Mo:∀(i:Nat) (r:dL),g.rules[i]?=some r→(1≤r.kids∧r.kids≤3)∧dp T.length nf (ao r.graph)∧r.graph.nodes.length≤60:=λi r h=>by have h1:=O.rule (l8 r) (di (aa h));exact⟨h1.1,h1.2.1,by rw[←cj];exact h1.2.2⟩
 have Yv:∀(i:Nat) (x:km),g.aK[i]?=some x→dp T.length nf (ao x.graph)∧x.graph.nodes.length≤60:=λi x h=>by have h1:=O.lex (qD x) (di (aa h));exact⟨h1.1,by rw[←cj];exact h1.2⟩
 have adV:∀(i:Nat) (r:dL),g.rules[i]?=some r→(ju f T n g).rules.getD i mc=l8 r:=λi r h=>by show(g.rules.map l8).getD i mc=_;rw[aZ,aw,h];rfl
 have aiQ:∀(i:Nat) (x:km),g.aK[i]?=some x→(ju f T n g).aK.getD i LI=qD x:=λi x h=>by show(g.aK.map qD).getD i LI=_;rw[aZ,aw,h];rfl
 obtain⟨Yr,Kz,Z⟩:=EC O (words:=words) hlen (show frm+len≤n by omega) hs;rw[←hte]at Yr Kz Z
 have hrl:((ju f T n g)).rules.length=g.rules.length:=aR _
 have hll:((ju f T n g)).aK.length=g.aK.length:=aR _
 refine St.join (ι:=mm) (λd1 T=>T) (λd1=>(aD (aL (λx:cK=>aJ x.gr) d1.its)::tI p (ma g b l f n d1.fj.1 sv.1 a) 223::aU a (df mkStr d1.m)::row d1.fj.1 229 6 d1.its.length (rows eE d1.its)::row sv.1 35 1 d1.bf.length (rows bU (d1.bf.map Prod.fst))::aD (gm f)::aD (sl bX g.rv.1 g.rules)::aD (aL cR g.rules)::aD (sl dT g.xv.1 g.aK)::aD (aL eO g.aK)::aD (sl ax b.1 (dN T))::aD (sl ax l.1 (dM T))::aD (tz)::aD (sl bZ wv words)::(bK (eR 234 3) d1.its++bK (fa 3) d1.bf))) (λd1=>d1.nG=sv∧ko d1∧d1.cs=lD (ju f T n g) words frm tqo d.cs) (aC.k3 0 2 3) ?_ ?_
 ·refine g8 ?_
  refine St.cq (λh22=> ?_) (λh22=> ?_)
  ·have P:tqo=frm+1:=by omega
   refine g12 ?_;refine St.lH (ι:=Nat×mm) (λ⟨i,d1⟩ T=>(29,iv i)::T) (λ⟨i,d1⟩=>(aD (aL (λx:cK=>aJ x.gr) d1.its)::tI p (ma g b l f n d1.fj.1 sv.1 a) 223::aU a (df mkStr d1.m)::row d1.fj.1 229 6 d1.its.length (rows eE d1.its)::row sv.1 35 1 d1.bf.length (rows bU (d1.bf.map Prod.fst))::aD (gm f)::aD (sl bX g.rv.1 g.rules)::aD (aL cR g.rules)::aD (sl dT g.xv.1 g.aK)::aD (aL eO g.aK)::aD (sl ax b.1 (dN T))::aD (sl ax l.1 (dM T))::aD (tz)::aD (sl bZ wv words)::(bK (eR 234 3) d1.its++bK (fa 3) d1.bf))) (λ⟨i,d1⟩=>i≤g.aK.length∧d1.nG=sv∧ko d1∧d1.cs=(List.range i).foldl (qY (ju f T n g) w frm tqo) d.cs) (λ⟨i,d1⟩=>g.aK.length-i) ⟨0,d⟩ (aC.k6 0 1 2 3 27 28) ⟨aP _,hsv,hp,rfl⟩ ?_;rintro ⟨i,d1⟩ ⟨hi,s,A,D⟩
   dsimp only at hi s A D⊢
   refine g6 ?_;refine St.cq (λh30=> ?_) (λh30=> ?_)
   ·obtain⟨x,hx⟩:=aF (show i<g.aK.length by omega)
    obtain⟨I,Bd⟩:=Yv i x hx
    have hxs:=fi I V
    have hxE:=aiQ i x hx
    obtain⟨Ag,F⟩:=QJ O (w:=w) Mj W hs (show i<((ju f T n g)).aK.length by omega);rw[←D]at Ag F
    have B:gH T.length nf n d1.cs:=Ag.ok
    have J:Room d1.cs 1:=F
    have Iu:=J.its
    rw[gw]at Iu;obtain⟨q0,TH⟩:=aF (show slt n frm tqo<d1.bf.length by rw[←DH,B.Hg];exact sk zE W)
    have ad7:=zq B TH
    refine St.cN eO g.aK (x:=x) (aa hx) ?_;refine St.gW (aJ x.graph) [eO x] (λρ h=>h (eO x) (aV ..) (aJ x.graph) (aV ..)) ?_;refine g8 ?_;refine St.ee (Ev.j2 (.mk rfl) hx A6 trivial nH gX.eq) ?_;refine St.al (λb9=> ?_);refine go ?_;refine St.sA (.mk rfl) (.mk rfl) nH ?_ (h1:=(j8.2 λu hu=>dT.one x u hu));refine g3 ?_;refine St.rq mixed (by kernel_rfl) (Mm.drawn _ _) ?_;refine g9 ?_;refine St.cq (λh40=> ?_) (λh40=> ?_)
    ·have hxw:x.word=w:=by simpa using h40
     have XC:qY (ju f T n g) w frm tqo d1.cs i=iK n d1.cs ⟨frm,tqo,0,gY (ao x.graph) 0⟩ ⟨-1,i,[]⟩:=by unfold qY;rw[hxE,aB (show(qD x).word=w from hxw)];rfl
     refine g5 ?_;refine St.ee (Ev.iz 1 (.mk rfl) mh trivial jk rfl rfl) ?_;refine St.slot 45 (au x.graph) rfl rfl ?_;refine St.dt (yX x.graph T.length nf V I zE) acE (.ay rfl) rfl ?_;rintro v46 _ rfl;refine St.eZ ?_;refine St.cY (gY (ao x.graph) 0) v46 (λy hy=> ?_);obtain⟨rfl,L1⟩:=hy;obtain⟨m1,m2,_⟩:=tu I I.pos;rw[←L1]at m1 m2;rw[cj,cj]at m2
     have hms:=fi m1 V
     refine St.dH 3 1 ?_;refine St.aN (.slice none 0 0) (show _=([]:List Nat).length from rfl) (show _=rows aI (bx [])from rfl) ?_;refine St.ee (Ev.build (bC.fk rfl rfl rfl) (λw=>tT rfl rfl w)) ?_;refine St.slot 47 (IQ frm tqo 0 y.nv.1) rfl rfl ?_;refine go ?_;refine St.ee (Ev.build (bC.ah rfl rfl) (λw=>IE rfl rfl w)) ?_;refine St.slot 49 (.agg #[iv (-1),iv (i:Nat),cF.1]) rfl rfl ?_;refine St.yW (ds:=[aJ y,aL (λx:cK=>aJ x.gr) d1.its]) (L:=[tI p (ma g b l f n d1.fj.1 sv.1 a) 223,aU a (df mkStr d1.m),row d1.fj.1 229 6 d1.its.length (rows eE d1.its),row sv.1 35 1 d1.bf.length (rows bU (d1.bf.map Prod.fst)),row (.slice none 0 0) 3 1 (([]:List Nat)).length (rows aI (bx (([]:List Nat))))]) (X:=(bK (eR 234 3) d1.its++bK (fa 3) d1.bf)) (post:=λv L' X'=>∃d3:mm,d3.cs=iK n d1.cs ⟨frm,tqo,0,ao y⟩ ⟨-1,(i:Nat),([]:List Nat)⟩∧d3.nG=sv∧ko d3∧L'=[aD (aL (λx:cK=>aJ x.gr) d3.its),tI p (ma g b l f n d3.fj.1 sv.1 a) 223,aU a (df mkStr d3.m),row d3.fj.1 229 6 d3.its.length (rows eE d3.its),row sv.1 35 1 d3.bf.length (rows bU (d3.bf.map Prod.fst))]∧X'=(bK (eR 234 3) d3.its++bK (fa 3) d3.bf)) ?_ P5 (.fk rfl rfl rfl) rfl ?_
     ·subst s
      exact(vA g b l f n hn d1 A p a frm tqo 0 y zE (λt ht=>by have:=(hms t ht).2;omega) zE zE (-1:Int) ((i:Nat):Int) (by unfold bR;omega) zE cF [] q0 TH zE zE (zb J B)).mono (λv H' ⟨d3,K,a2,a3,a4,a5,a6⟩=>⟨_,_,(by rw[a2]at a6;exact a6),d3,K,a2,a3,rfl,rfl⟩)
     rintro v50 _ _ ⟨d3,K,a2,a3,rfl,rfl⟩;refine St.yP ?_;refine g8 ?_;refine St.aH ⟨i+1,d3⟩ ⟨by omega,a2,a3,by rw[iU,←D,XC,K,L1]⟩
    ·have hxw:x.word≠w:=by simpa using h40
     have XC:qY (ju f T n g) w frm tqo d1.cs i=d1.cs:=by unfold qY;rw[hxE,aA (show ¬(qD x).word=w from hxw)]
     refine g8 ?_;refine St.aH ⟨i+1,d1⟩ ⟨by omega,s,A,by rw[iU,←D,XC]⟩
   ·obtain rfl:i=g.aK.length:=by omega
    refine g5 ?_;refine St.mE d1 ⟨s,A,by rw[D];unfold lD;rw[aB P,hwd,hll]⟩
  ·have P:tqo≠frm+1:=by omega
   refine g12 ?_;refine St.lH (ι:=Nat×mm) (λ⟨i,d1⟩ T=>(58,iv i)::T) (λ⟨i,d1⟩=>(aD (aL (λx:cK=>aJ x.gr) d1.its)::tI p (ma g b l f n d1.fj.1 sv.1 a) 223::aU a (df mkStr d1.m)::row d1.fj.1 229 6 d1.its.length (rows eE d1.its)::row sv.1 35 1 d1.bf.length (rows bU (d1.bf.map Prod.fst))::aD (gm f)::aD (sl bX g.rv.1 g.rules)::aD (aL cR g.rules)::aD (sl dT g.xv.1 g.aK)::aD (aL eO g.aK)::aD (sl ax b.1 (dN T))::aD (sl ax l.1 (dM T))::aD (tz)::aD (sl bZ wv words)::(bK (eR 234 3) d1.its++bK (fa 3) d1.bf))) (λ⟨i,d1⟩=>i≤g.rules.length∧d1.nG=sv∧ko d1∧d1.cs=(List.range i).foldl (qh (ju f T n g) frm tqo) d.cs) (λ⟨i,d1⟩=>g.rules.length-i) ⟨0,d⟩ (aC.k5 0 2 3 56 57) ⟨aP _,hsv,hp,rfl⟩ ?_;rintro ⟨i,d1⟩ ⟨hi,s,A,D⟩
   dsimp only at hi s A D⊢
   refine g6 ?_;refine St.cq (λh59=> ?_) (λh59=> ?_)
   ·obtain⟨r,E⟩:=aF (show i<g.rules.length by omega)
    obtain⟨hk,I,Bd⟩:=Mo i r E
    have G:=adV i r E
    obtain⟨Ag,F⟩:=RU O Mj W P hs (show i<((ju f T n g)).rules.length by omega);rw[←D]at Ag F;rw[G]at F;refine St.cN cR g.rules (x:=r) (aa E) ?_;refine St.gW (aJ r.graph) [cR r] (λρ h=>h (cR r) (aV ..) (aJ r.graph) (aV ..)) ?_;refine g8 ?_;refine St.ee (Ev.j2 (.mk rfl) E EH trivial oW gX.eq) ?_;refine St.al (λb11=> ?_);refine go ?_;refine St.sA (.mk rfl) (.mk rfl) oW ?_ (h1:=(j8.2 λu hu=>bX.one r u hu));refine g8 ?_;refine St.gt _ rfl rfl (λM=>Ev.cB (.mk rfl) DZ) rfl ?_;refine St.gt _ rfl rfl (λM=>Ev.gh (aX.gv rfl M) eK trivial (by rfl)) rfl ?_;refine St.gt _ rfl rfl (λM=>Ev.move (.mk rfl)) rfl ?_;refine St.gt _ rfl rfl (λM=>Ev.move (.mk rfl)) rfl ?_;refine St.gt _ rfl rfl (λM=>Ev.sub (aX.gv rfl M) (aX.gv rfl M) (by first|omega|(simp only[bj]at M;omega))) rfl ?_;refine St.gt _ rfl rfl (λM=>Ev.leq (aX.gv rfl M) (aX.gv rfl M)) rfl ?_;refine g3 ?_;refine St.cq (λh73=> ?_) (λh73=> ?_)
    ·have Z3:qh (ju f T n g) frm tqo d1.cs i=rQ (ju f T n g) i frm tqo (r.kids.toNat-1) d1.cs (ao r.graph) [] frm:=by unfold qh;rw[G,aB (show 1<(l8 r).kids∧(l8 r).kids≤(tqo:Int)-frm from h73)];rfl
     have Ux:=F h73.1
     refine St.gb aI ?_;refine g4 ?_;refine St.ee (Ev.iz 1 (.mk rfl) mh trivial jk rfl rfl) ?_;refine St.slot 77 (au r.graph) rfl rfl ?_;refine g3 ?_;refine St.yW (ds:=[gm f,sl bX g.rv.1 g.rules,aL cR g.rules,sl ax b.1 (dN T),sl ax l.1 (dM T),tz,sl aI (.slice none 0 0) [],aJ r.graph,aL (λx:cK=>aJ x.gr) d1.its]) (L:=[tI p (ma g b l f n d1.fj.1 sv.1 a) 223,aU a (df mkStr d1.m),row d1.fj.1 229 6 d1.its.length (rows eE d1.its),row sv.1 35 1 d1.bf.length (rows bU (d1.bf.map Prod.fst))]) (X:=(bK (eR 234 3) d1.its++bK (fa 3) d1.bf)) (post:=λv L' X'=>∃d3:mm,d3.cs=rQ (ju f T n g) i frm tqo (r.kids.toNat-1) d1.cs (ao r.graph) [] frm∧d3.nG=sv∧ko d3∧L'=[aD (aL (λx:cK=>aJ x.gr) d3.its),tI p (ma g b l f n d3.fj.1 sv.1 a) 223,aU a (df mkStr d3.m),row d3.fj.1 229 6 d3.its.length (rows eE d3.its),row sv.1 35 1 d3.bf.length (rows bU (d3.bf.map Prod.fst))]∧X'=(bK (eR 234 3) d3.its++bK (fa 3) d3.bf)) ((FO g b l T hT nf V f hf n hn p a frm tqo Mj W i zE r E hk (λi j=>(d.cs.at_ n i j).length) sv (r.kids.toNat-1) d1 r.graph cF [] frm s A Ag Ux I Bd (Hc r (aa E)) (by simp only[List.length_nil];omega) (.inr ⟨rfl,by omega⟩) Mj (λk hk=>by cases hk)).mono (λv H' ⟨d3,K,a2,a3,a4,a5,a6⟩=>⟨_,_,a6,d3,K,a2,a3,rfl,rfl⟩)) Wq (.afA rfl rfl rfl rfl rfl rfl rfl) rfl ?_;rintro v81 _ _ ⟨d3,K,a2,a3,rfl,rfl⟩;refine St.yP ?_;refine g8 ?_;refine St.aH ⟨i+1,d3⟩ ⟨by omega,a2,a3,by rw[iU,←D,Z3];exact K⟩
    ·have Z3:qh (ju f T n g) frm tqo d1.cs i=d1.cs:=by unfold qh;rw[G,aA (show ¬(1<(l8 r).kids∧(l8 r).kids≤(tqo:Int)-frm)from λhh=>by have hh1:1<r.kids:=hh.1;have hh2:r.kids≤(tqo:Int)-frm:=hh.2;omega)]
     refine g8 ?_;refine St.aH ⟨i+1,d1⟩ ⟨by omega,s,A,by rw[iU,←D,Z3]⟩
   ·obtain rfl:i=g.rules.length:=by omega
    refine g5 ?_;refine St.mE d1 ⟨s,A,by rw[D];unfold lD;rw[aA P,hrl]⟩
 ·rintro d1 ⟨s,A,D⟩
  refine g6 ?_;rw[←D]at Yr Kz Z
  have C:Room d1.cs (vX (ju f T n g) d1.cs ((d1.cs.at_ n frm tqo).drop (0))):=by rw[List.drop_zero];exact Room.grow (hs.room.mono Z) Kz
  refine St.lH (ι:=Nat×mm) (λ⟨k,d1⟩ T=>(12,iv k)::T) (λ⟨k,d1⟩=>(aD (aL (λx:cK=>aJ x.gr) d1.its)::tI p (ma g b l f n d1.fj.1 sv.1 a) 223::aU a (df mkStr d1.m)::row d1.fj.1 229 6 d1.its.length (rows eE d1.its)::row sv.1 35 1 d1.bf.length (rows bU (d1.bf.map Prod.fst))::aD (gm f)::aD (sl bX g.rv.1 g.rules)::aD (aL cR g.rules)::aD (sl dT g.xv.1 g.aK)::aD (aL eO g.aK)::aD (sl ax b.1 (dN T))::aD (sl ax l.1 (dM T))::aD (tz)::aD (sl bZ wv words)::(bK (eR 234 3) d1.its++bK (fa 3) d1.bf))) (λ⟨k,d1⟩=>d1.nG=sv∧ko d1∧gH T.length nf n d1.cs∧Room d1.cs (vX (ju f T n g) d1.cs ((d1.cs.at_ n frm tqo).drop (k)))∧∃fu,qg (ju f T n g) d1.cs ((d1.cs.at_ n frm tqo).drop (k))<fu∧pS (ju f T n g) frm tqo fu k d1.cs=oQ (ju f T n g) words frm tqo d.cs) (λ⟨k,d1⟩=>qg (ju f T n g) d1.cs ((d1.cs.at_ n frm tqo).drop (k))) ⟨0,d1⟩ (aC.k3 0 2 3) ⟨s,A,Yr,C,qg (ju f T n g) d1.cs (d1.cs.at_ n frm tqo)+1,by rw[List.drop_zero];exact Nat.lt_succ_self _,by unfold oQ;rw[←D]⟩ ?_;rintro ⟨k,d1⟩ ⟨s,A,B,C,fu,hfu,hun⟩
  dsimp only at s A B C hfu hun⊢
  obtain⟨q,Y⟩:=aF (show slt n frm tqo<d1.bf.length by rw[←DH,B.Hg];exact sk zE W)
  have TA:=X3 Y
  have hql:=zq B Y
  have Iu:=C.its
  rw[gw]at Iu;refine g7 ?_;refine St.ee (Ev.iz 2 (.mk rfl) CL trivial CD rfl rfl) ?_;refine St.slot 87 (.agg #[iv (n:Nat),sv.1]) rfl rfl ?_;refine g2 ?_;refine St.call (Cw n frm tqo (slt n frm tqo) hn zE zE rfl sv d1.bf q Y) P6 (.fk rfl rfl rfl) rfl ?_;rintro v90 _ ⟨rfl,rfl⟩;refine St.eZ ?_;refine St.tail (bK (eR 234 3) d1.its++bK (fa 3) d1.bf) (row q.1.1 3 1 (q.2).length (rows aI (bx (q.2)))::(bK (eR 234 3) d1.its++bK (fa 3) (d1.bf.eraseIdx (slt n frm tqo)))) (pP _ _ _ Y) ?_;refine go ?_;refine St.tail (row q.1.1 3 1 (q.2).length (rows aI (bx (q.2)))::(bK (eR 234 3) d1.its++bK (fa 3) (d1.bf.eraseIdx (slt n frm tqo)))) (bK (eR 234 3) d1.its++bK (fa 3) d1.bf) (pP (eR 234 3) (fa 3) d1.its Y).symm ?_;refine g3 ?_;refine St.cq (λh92=> ?_) (λh92=> ?_)
  ·obtain⟨e,he⟩:=aF (show k<q.2.length by omega)
   have hke:(d1.cs.at_ n frm tqo)[k]?=some e:=by rw[TA];exact he
   have hel:e<d1.its.length:=by rw[←gw];exact B.qP (aa hke)
   obtain⟨H,Z5⟩:=aF hel
   have Yt:(d1.cs.ed e).cV=H.cV:=by unfold Cs.ed;rw[FC Z5];rfl
   have akQ:H.cV≤3:=by have:=B.gr (dW H) (di (aa Z5));exact this.2.2.1
   refine g9 ?_;refine St.ee (Ev.iz 2 (.mk rfl) CL trivial CD rfl rfl) ?_;refine St.slot 98 (.agg #[iv (n:Nat),sv.1]) rfl rfl ?_;refine g2 ?_;refine St.call (Cw n frm tqo (slt n frm tqo) hn zE zE rfl sv d1.bf q Y) P6 (.fk rfl rfl rfl) rfl ?_;rintro alR _ ⟨rfl,rfl⟩;refine St.eZ ?_;refine St.tail (bK (eR 234 3) d1.its++bK (fa 3) d1.bf) (row q.1.1 3 1 (q.2).length (rows aI (bx (q.2)))::(bK (eR 234 3) d1.its++bK (fa 3) (d1.bf.eraseIdx (slt n frm tqo)))) (pP _ _ _ Y) ?_;refine g2 ?_;refine St.ee (Ev.cx (.mk rfl) eK trivial zE (fm (iZ he))) ?_;refine St.tail (row q.1.1 3 1 (q.2).length (rows aI (bx (q.2)))::(bK (eR 234 3) d1.its++bK (fa 3) (d1.bf.eraseIdx (slt n frm tqo)))) (bK (eR 234 3) d1.its++bK (fa 3) d1.bf) (pP (eR 234 3) (fa 3) d1.its Y).symm ?_;refine g13 ?_;refine St.ee (Ev.cx (.mk rfl) eK trivial zE (eP eE _ e 2 _ Z5 (by decide))) ?_;refine g10 ?_;refine St.cq (λahY=> ?_) (λahY=> ?_)
   ·have hc3:H.cV=3:=by omega
    obtain⟨f2,g1,gq2,g3⟩:=SR (Q:=(ju f T n g)) (frm:=frm) (tqo:=tqo) hke (by rw[Yt];exact hc3) hfu;refine g10 ?_;refine St.p5 ⟨k+1,d1⟩ ⟨s,A,B,C.mono (by unfold vX;rw[oM _ hke];exact Nat.le_add_left _ _),f2,gq2,by rw[←g1];exact hun⟩ g3 (by repeat(first|exact Sub.nil|refine Sub.cons (by first|rfl|exact congrArg (λz=>some (iv z)) (by first|omega|(dsimp only;omega))|exact congrArg (λz=>some (Value.bool z)) (by first|assumption|exact ke (by assumption))) ?_)) (λ_ hw=>hw.sub)
   ·have hc3:H.cV≠3:=by omega
    have Ys:(d1.cs.ed e).cV≠3:=by rw[Yt];exact hc3
    obtain⟨f2,g1,gq2⟩:=aaF (Q:=(ju f T n g)) (frm:=frm) (tqo:=tqo) hke Ys hfu;refine g14 ?_;refine St.lH (ι:=Nat×mm) (λ⟨i,d2⟩ T=>(122,iv i)::T) (λ⟨i,d2⟩=>(aD (aL (λx:cK=>aJ x.gr) d2.its)::tI p (ma g b l f n d2.fj.1 sv.1 a) 223::aU a (df mkStr d2.m)::row d2.fj.1 229 6 d2.its.length (rows eE d2.its)::row sv.1 35 1 d2.bf.length (rows bU (d2.bf.map Prod.fst))::aD (gm f)::aD (sl bX g.rv.1 g.rules)::aD (aL cR g.rules)::aD (sl dT g.xv.1 g.aK)::aD (aL eO g.aK)::aD (sl ax b.1 (dN T))::aD (sl ax l.1 (dM T))::aD (tz)::aD (sl bZ wv words)::(bK (eR 234 3) d2.its++bK (fa 3) d2.bf))) (λ⟨i,d2⟩=>i≤g.rules.length∧d2.nG=sv∧ko d2∧d2.cs=(List.range i).foldl (pR (ju f T n g) frm tqo e) d1.cs) (λ⟨i,d2⟩=>g.rules.length-i) ⟨0,d1⟩ (aC.k8 0 2 3 12 13 14 120 121) ⟨aP _,s,A,rfl⟩ ?_;rintro ⟨i,d2⟩ ⟨hi,Ah,Nz,R⟩
    dsimp only at hi Ah Nz R⊢
    refine g6 ?_;refine St.cq (λah1=> ?_) (λah1=> ?_)
    ·obtain⟨r,E⟩:=aF (show i<g.rules.length by omega)
     obtain⟨hk,I,Bd⟩:=Mo i r E
     have G:=adV i r E
     obtain⟨Z0,Fb,Ux⟩:=SQ O Mj W B C hke Ys (show i<((ju f T n g)).rules.length by omega);rw[←R]at Z0 Fb Ux;rw[G]at Ux
     have aiI:e<d2.its.length:=by rw[←gw];exact fI (by rw[gw];exact hel) Fb.more
     obtain⟨o,N⟩:=aF aiI
     have XH:=aa N
     obtain⟨It,Pn⟩:=XJ Z0 N
     have aiG:o.cV=H.cV:=by have h:=congrArg o8.cV (Fb.ed e (by rw[gw];exact hel));rw[Yt]at h;rw[←h];unfold Cs.ed;rw[FC N];rfl
     have adP:(d2.cs.ed e).cV=H.cV:=by rw[←aiG];unfold Cs.ed;rw[FC N];rfl
     have S:pR (ju f T n g) frm tqo e d2.cs i=if r.kids≠1 then d2.cs else match jo (ju f T n g) d2.cs i (ao r.graph) 1 e with|none=>d2.cs|some x=>iK n d2.cs ⟨frm,tqo,H.cV+1,lJ x⟩ ⟨i,0,[e]⟩:=by unfold pR;rw[G,adP];rfl
     refine St.cN cR g.rules (x:=r) (aa E) ?_;refine St.gW (aJ r.graph) [cR r] (λρ h=>h (cR r) (aV ..) (aJ r.graph) (aV ..)) ?_;refine g8 ?_;refine St.ee (Ev.j2 (.mk rfl) E EH trivial oW gX.eq) ?_;refine St.al (λb16=> ?_);refine go ?_;refine St.sA (.mk rfl) (.mk rfl) oW ?_ (h1:=(j8.2 λu hu=>bX.one r u hu));refine g9 ?_;refine St.split 130 _ rfl (λhk1=> ?_) (λhk1=> ?_)
     ·have Ny:r.kids≠1:=by simpa using hk1
      refine St.cS rfl rfl rfl ?_;refine St.cS rfl rfl rfl ?_;refine St.cS rfl rfl rfl ?_;refine St.cS rfl rfl rfl ?_;refine St.cS rfl rfl rfl ?_;refine St.ee (Ev.jt (.mk rfl) rfl (.mk rfl)) ?_;refine g2 ?_;refine St.X0 _ rfl rfl ?_;refine g9 ?_;refine St.aH ⟨i+1,d2⟩ ⟨by omega,Ah,Nz,by rw[iU,←R,S,aB Ny]⟩
     ·have Ny:r.kids=1:=by simpa using hk1
      have aiV:=Ux Ny
      refine St.cZ rfl rfl ?_;refine go ?_;refine St.cZ rfl rfl ?_;refine go ?_;refine St.cZ rfl rfl ?_;refine go ?_;refine St.cZ rfl rfl ?_;refine St.dup (gm f) ?_;refine St.tail (bK (eR 234 3) d2.its++bK (fa 3) d2.bf) (row o.wv.1 234 3 (o.bb).length (rows lY (o.bb))::row o.tv.1 3 1 (o.bW).length (rows aI (o.bW))::(bK (iy 3) o.bb++(bK (eR 234 3) (d2.its.eraseIdx e)++bK (fa 3) d2.bf))) (z7 _ _ N) ?_;refine St.call (tQ f hf (ma g b l f n d2.fj.1 sv.1 a) rfl p i 1 zE zE zE d2.fj rfl d2.its e o N (Nz.bW o XH)) Wr (.pL rfl rfl rfl rfl) rfl ?_;rintro alU _ ⟨rfl,rfl⟩;refine St.Tf ?_;refine St.pQ [row o.wv.1 234 3 (o.bb).length (rows lY (o.bb)),row o.tv.1 3 1 (o.bW).length (rows aI (o.bW))] (bK (iy 3) o.bb++(bK (eR 234 3) (d2.its.eraseIdx e)++bK (fa 3) d2.bf)) (bK (eR 234 3) d2.its++bK (fa 3) d2.bf) (z7 (eR 234 3) (bK (fa 3) d2.bf) N).symm ?_;refine St.cZ rfl rfl ?_;refine go ?_;refine St.ee (Ev.mI (.mk rfl) rfl (.mk rfl)) ?_;refine g2 ?_;refine St.cond _ rfl (λYp=> ?_) (λYp=> ?_)
      ·skip
       have Iq:o.bW.any (qO f i 1)=false:=by simpa using Yp
       have htr:jo (ju f T n g) d2.cs i (ao r.graph) 1 e=none:=SN N Iq
       refine g9 ?_;refine St.aH ⟨i+1,d2⟩ ⟨by omega,Ah,Nz,by rw[iU,←R,S,aA (λh=>h Ny),htr]⟩
      ·skip
       have Iq:o.bW.any (qO f i 1)=true:=by simpa using Yp
       have htr:jo (ju f T n g) d2.cs i (ao r.graph) 1 e=mg (ga T) (ao r.graph) 1 (ao o.gr):=Lv (T:=T) (n:=n) (g:=g) (y:=ao r.graph) N Iq
       refine g3 ?_;refine St.gW (aJ o.gr) [aL (λx:cK=>aJ x.gr) d2.its] (λρ h=>h _ (aV ..) o XH) ?_;refine St.j6 d2.fj.1 zE (λbs cs Px=> ?_)
       have B:gH T.length nf n d2.cs:=Z0
       have J:Room d2.cs 1:=aiV
       have Iu:=J.its
       rw[gw]at Iu;obtain⟨q0,TH⟩:=aF (show slt n frm tqo<d2.bf.length by rw[←DH,B.Hg];exact sk zE W)
       have ad7:=zq B TH
       refine St.dZ (aD (sl ax b.1 (dN T))::aD (sl ax l.1 (dM T))::aD tz::aD (aJ r.graph)::aD (aJ o.gr)::(bK (eR 234 3) d2.its++bK (fa 3) d2.bf)) mixed (λnp ns=> ?_);refine SW.gd 0 ?_;refine SW.gd 1 ?_;refine SW.gd 2 ?_;refine SW.dd 3 rfl (λ_=>Ev.iz 2 (.mk rfl) wm trivial wg rfl rfl) ?_;refine SW.slot 141 (jc b l) rfl rfl ?_;refine SW.gd 4 ?_;refine SW.dd 5 rfl (λ_=>Ev.iz 1 (.mk rfl) mh trivial jk rfl rfl) ?_;refine SW.slot 143 (au r.graph) rfl rfl ?_;refine SW.gd 6 ?_;refine SW.gd 7 ?_;refine SW.gd 8 ?_;refine SW.gd 9 ?_;refine SW.gd 10 ?_;refine SW.dd 11 rfl (λ_=>Ev.kF (k:=e) Px (.mk rfl) (.mk rfl) oX oV zE zE) ?_;refine SW.dd 12 rfl (λ_=>Ev.pA Px (.mk rfl) tj) ?_;refine SW.dd 13 rfl (λ_=>Ev.pA Px (.mk rfl) xk) ?_;refine SW.dd 14 rfl (λ_=>Ev.J7 (Rr:=eE) (sz:=1) (.mk rfl) N mh trivial jk zE (by decide) (by decide)) ?_;refine SW.slot 152 (au o.gr) rfl rfl ?_;refine SW.t2 15 19 ?_ ?_
       focus
        refine St.dt (qz b l T hT nf V r.graph o.gr 1 I It Bd Pn (Hc r (aa E) 1 zE zE)) KY (.pL rfl rfl rfl rfl) rfl ?_;rintro ajW _ ⟨u,z,rfl,hz,rfl⟩;refine St.eZ ?_;refine St.cY z u (λy hy=> ?_);obtain⟨rfl,L1⟩:=hy;refine g2 ?_;refine SW.go ?_;refine SW.gd 16 ?_;refine SW.gd 17 ?_;refine SW.gd 18 ?_;refine SW.t1 19 ?_;refine St.al (λb17=> ?_);refine g2 ?_;refine SW.go ?_;refine SW.t1 20 ?_;refine g3 ?_;refine SW.go ?_;refine SW.gd 21 ?_;refine SW.dn ?_
       rotate_left
       focus
        refine St.al (λb17=> ?_);refine g2 ?_;refine SW.go ?_;refine SW.t1 15 ?_;refine St.dt (qz b l T hT nf V r.graph o.gr 1 I It Bd Pn (Hc r (aa E) 1 zE zE)) KY (.pL rfl rfl rfl rfl) rfl ?_;rintro ajW _ ⟨u,z,rfl,hz,rfl⟩;refine St.eZ ?_;refine St.cY z u (λy hy=> ?_);obtain⟨rfl,L1⟩:=hy;refine g2 ?_;refine SW.go ?_;refine SW.gd 16 ?_;refine SW.gd 17 ?_;refine SW.gd 18 ?_;refine SW.t1 20 ?_;refine g3 ?_;refine SW.go ?_;refine SW.gd 21 ?_;refine SW.dn ?_
       all_goals
        refine g6 ?_;refine St.cond _ rfl (λYq=> ?_) (λYq=> ?_)
        ·skip
         obtain⟨z1,TJ⟩:∃z1,mg (ga T) (ao r.graph) 1 (ao o.gr)=some z1:=Option.isSome_iff_exists.1 (by simpa using Yq)
         have hzz:=hz z1 TJ
         rw[hzz]at L1;rw[TJ,←L1]at htr;rw[←L1]at TJ;obtain⟨y1,y2,y3⟩:=Jo hmt I It TJ
         have hyl:y.nodes.length≤60:=by rw[←cj];exact y2
         have hyt:0≤rZ (ao y) 0:=(y9 y1).2 (y3 0 ((y9 I).1 (Hc r (aa E) 0 zE zE)))
         refine g6 ?_;refine St.slot 161 (iv ((H.cV+1:Nat):Int)) rfl (congrArg iv (by push_cast;rfl)) ?_;refine go ?_;refine St.slot 162 (au y) rfl rfl ?_;refine St.dt (qJ y T.length nf V y1 zE hyt) Oz (.ay rfl) rfl ?_;rintro ajX _ rfl;refine St.eZ ?_;refine St.cY (lJ (ao y)) ajX (λmy hm=> ?_);obtain⟨rfl,XD⟩:=hm;obtain⟨m1,m2⟩:=qc y1 y2;rw[←XD]at m1 m2;rw[cj]at m2
         have hms:=fi m1 V
         refine St.ee (Ev.build (bC.pL rfl rfl rfl rfl) (λw=>yS rfl rfl rfl w)) ?_;refine St.slot 164 (IQ frm tqo (H.cV+1) my.nv.1) rfl rfl ?_;refine g2 ?_;refine St.hS rfl (.ay rfl) cP eL jF rfl rfl (by simp[Value.cells]) rfl rfl (λU=> ?_);refine St.aN (tO U 1 1) (show _=[e].length from rfl) (show _=rows aI (bx [e])from rfl) ?_;refine St.ee (Ev.build (bC.ah rfl rfl) (λw=>yT rfl rfl w)) ?_;refine St.slot 168 (.agg #[iv (i:Nat),iv 0,tO U 1 1]) rfl rfl ?_;refine St.yW (ds:=[aJ my,aL (λx:cK=>aJ x.gr) d2.its]) (L:=[tI p (ma g b l f n d2.fj.1 sv.1 a) 223,aU a (df mkStr d2.m),row d2.fj.1 229 6 d2.its.length (rows eE d2.its),row sv.1 35 1 d2.bf.length (rows bU (d2.bf.map Prod.fst)),row (tO U 1 1) 3 1 ([e]).length (rows aI (bx ([e])))]) (X:=(bK (eR 234 3) d2.its++bK (fa 3) d2.bf)) (post:=λv L' X'=>∃d3:mm,d3.cs=iK n d2.cs ⟨frm,tqo,(H.cV+1),ao my⟩ ⟨(i:Nat),0,[e]⟩∧d3.nG=sv∧ko d3∧L'=[aD (aL (λx:cK=>aJ x.gr) d3.its),tI p (ma g b l f n d3.fj.1 sv.1 a) 223,aU a (df mkStr d3.m),row d3.fj.1 229 6 d3.its.length (rows eE d3.its),row sv.1 35 1 d3.bf.length (rows bU (d3.bf.map Prod.fst))]∧X'=(bK (eR 234 3) d3.its++bK (fa 3) d3.bf)) ?_ P5 (.fk rfl rfl rfl) rfl ?_
         ·subst Ah
          exact(vA g b l f n hn d2 Nz p a frm tqo (H.cV+1) my zE (λt ht=>by have:=(hms t ht).2;omega) zE zE ((i:Nat):Int) (0:Int) (by unfold bR;omega) zE ⟨tO U 1 1,rfl⟩ [e] q0 TH zE zE (zb J B)).mono (λv H' ⟨d3,K,a2,a3,a4,a5,a6⟩=>⟨_,_,(by rw[a2]at a6;exact a6),d3,K,a2,a3,rfl,rfl⟩)
         rintro alV _ _ ⟨d3,K,a2,a3,rfl,rfl⟩;refine St.yP ?_;refine g8 ?_;refine St.aH ⟨i+1,d3⟩ ⟨by omega,a2,a3,by rw[iU,←R,S,aA (λh=>h Ny),htr,K,XD]⟩
        ·skip
         have hsn:mg (ga T) (ao r.graph) 1 (ao o.gr)=none:=by simpa using Yq
         rw[hsn]at htr;refine g8 ?_;refine St.aH ⟨i+1,d2⟩ ⟨by omega,Ah,Nz,by rw[iU,←R,S,aA (λh=>h Ny),htr]⟩
    ·obtain rfl:i=g.rules.length:=by omega
     rw[←hrl]at R;obtain⟨s1,s2,s3,s4,s5⟩:=HL O Mj W B hke Ys R;rw[←R]at g1;refine g12 ?_;refine St.p5 ⟨k+1,d2⟩ ⟨Ah,Nz,s1,Room.grow (C.mono s5) s2,f2,fI s4 (Nat.lt_succ_iff.1 gq2),by rw[←g1];exact hun⟩ (by dsimp only;exact s4) (by repeat(first|exact Sub.nil|refine Sub.cons (by first|rfl|exact congrArg (λz=>some (iv z)) (by first|omega|(dsimp only;omega))|exact congrArg (λz=>some (Value.bool z)) (by first|assumption|exact ke (by assumption))) ?_)) (λ_ hw=>hw.sub)
  ·have TE:(d1.cs.at_ n frm tqo).length≤k:=by rw[TA];omega
   rw[W8 (Q:=(ju f T n g)) TE]at hun;refine g4 ?_;refine St.fL ?_;refine St.rV [] (aD (aL (λx:cK=>aJ x.gr) d1.its)::tI p (ma g b l f n d1.fj.1 sv.1 a) 223::aU a (df mkStr d1.m)::row d1.fj.1 229 6 d1.its.length (rows eE d1.its)::row sv.1 35 1 d1.bf.length (rows bU (d1.bf.map Prod.fst))::(bK (eR 234 3) d1.its++bK (fa 3) d1.bf)) ?_;exact⟨d1,hun,s,A,rfl⟩
end Go.Proofs.YtiefglecbgdaiaaGreatDoor
