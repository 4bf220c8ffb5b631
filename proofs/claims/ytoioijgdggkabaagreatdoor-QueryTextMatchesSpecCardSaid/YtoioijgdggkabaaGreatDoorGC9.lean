/-
  Laws of walks through programs, and facts on grammars, trees and queries.
  Conditions: none.
-/
import Derived.Test.YtoioijgdggkabaaGreatDoorGC1
import Derived.Test.YtoioijgdggkabaaGreatDoorGC2
import Derived.Test.YtoioijgdggkabaaGreatDoorGC8
import Derived.Test.YtoioijgdggkabaaGreatDoorGC7
set_option linter.unusedVariables false
set_option linter.unusedSimpArgs false
set_option maxRecDepth 20000
namespace Go.Proofs.YtoioijgdggkabaaGreatDoor
open Go Go.J
set_option maxHeartbeats 8000000 in
theorem mb (t:ax)(ht:t.length≤140737488351232):um Tryz.prog 8 #[sv t] ([u8,qh].map aE) (fun r H'=>∃q:cF,r= .tuple #[da q,fv (z6 t).2]∧q.vars=(z6 t).1.1∧q.aV=(z6 t).1.2∧H'=[aE (bG q)]):=by
 refine um.body (args:=[sv t]) 190 Tryz.func8 rfl Tryz.ntmps8 rfl (fun c gL=> ?_);refine St.cast (H':=[aE (u8),aE (qh)]) rfl ?_;refine St.seq ?_
 refine St.fP qh (fun u:dQ=>[rp 0 u.1,sl dH u.1 cn]) (fun ρ ⟨u,h1,h2⟩=>⟨u,fun e he=>by simp only[List.mem_cons,List.not_mem_nil,or_false]at he;rcases he with rfl|rfl;exact h1;exact h2⟩) fun us=> ?_
 refine St.cast (H':=[aE (rp 0 us.1),aE (sl dH us.1 cn),aE u8,aE qh]) rfl ?_;refine St.rg ?_;refine St.alloc pP rfl (fun b2=> ?_);refine St.alloc dR rfl (fun b3=> ?_);refine St.nn (St.seq (St.sr ?_));refine St.mv ?_;refine St.ee (Ev.dF (.mk rfl) cZ) ?_;refine St.ee Ev.vQ ?_;refine St.nn ?_;refine St.cond _ rfl (fun yf=> ?_) (fun yf=> ?_)
 ·try simp only[aA]at yf
  refine St.sr ?_;refine St.ee (Ev.build (ps:=[]) (aQ.nil) (fun w=>j7 w)) ?_;refine St.ee (Ev.call (bU 1 0) mU (.cons (.mk rfl) (.cons (.mk rfl) .nil))) ?_;refine St.sA (.mk rfl) (.mk rfl) dX ?_;refine St.sA (.mk rfl) (.mk rfl) aR ?_;refine St.nn (St.ae (St.a8 ?_));refine St.dN cC ?_;refine St.dN cE ?_;refine St.iJ (bG (⟨bu,[],bu,[]⟩:cF)) [sl cC (.slice none 0 0) [],sl cE (.slice none 0 0) []] (fun ρ h=>h) ?_;refine St.rT [_,_] [aE (bG (⟨bu,[],bu,[]⟩:cF))] Tryz.results8 ⟨⟨_,_,_,_,rfl,c4.mem,.inl ⟨⟨_,fV⟩,dX,rfl⟩⟩,⟨⟨_,_,_,_,rfl,c4.mem,.inl ⟨⟨_,bC⟩,aR,rfl⟩⟩,trivial⟩⟩ ?_
  have hP:=wV (t:=t) (by omega)
  exact⟨(⟨bu,[],bu,[]⟩:cF),by rw[hP];rfl,by rw[hP],by rw[hP],rfl⟩
 ·try simp only[aA]at yf
  have QS:=pe t
  have AR:=we (fN t)
  refine St.skip (St.a7 (St.sr ?_));refine St.alloc pP rfl (fun b4=> ?_);refine St.nn (St.sr ?_);refine St.makeMap mkStr rfl (fun J0=> ?_);refine St.ao ?_;refine St.nn (St.sr ?_);refine St.ao ?_;refine St.nn (St.seq (St.sr ?_));refine St.mv ?_;refine St.call (zA t (by omega)) Vq (.cons (.mk rfl) (.cons (.mk rfl) .nil)) rfl ?_;rintro zz _ ⟨W6,rfl,rfl⟩;refine St.aq ?_
  obtain⟨zz,OU⟩:∃zz,zz=Value.slice (some ⟨W6,0,none⟩) (fN t).length (fN t).length:=⟨_,rfl⟩
  rw[←OU];refine St.aM zz dH (fN t) rfl rfl (fun s hs=>by have:=Hu hs;show s.length≤140737488351232;omega) ?_;refine St.ee (Ev.bA (.mk rfl) kT) ?_;refine St.mv ?_;refine St.nn (St.block ?_);refine St.ic 38 3 ?_;refine St.bI (.slice none 0 0) (show _=([]:List bL).length from rfl) (show _=rows cC []from rfl) ?_;refine St.ic 40 3 ?_;refine St.bI (.slice none 0 0) (show _=([]:List cL).length from rfl) (show _=rows cE []from rfl) ?_;refine St.pH (ι:=Nat) (κ:=Value×Value×List bL×List cL×List (ax×Value)×Nat) (fun k z T=>(34,iv k)::(6,iv z.2.2.2.2.2)::T) (fun k z=>[aZ b4 (.cells [z.1,z.2.1].toArray 25 (0,0)),row z.1 38 3 (z.2.2.1).length (rows cC (z.2.2.1)),row z.2.1 40 3 (z.2.2.2.1).length (rows cE (z.2.2.2.1)),aZ J0 (gE mkStr z.2.2.2.2.1),aZ b2 (.cells [(.slice none 0 0),(.slice none 0 0)].toArray 25 (0,0)),aZ b3 (.cells [iv 0,iv 0].toArray 28 (0,0)),aE (sl dH zz (fN t)),aE (rp 0 us.1),aE (sl dH us.1 cn),aE u8,aE qh]) (fun k z=>z.1.oneCell'=true∧z.2.1.oneCell'=true∧k≤(fN t).length∧dP (fN t) [] [] 0=dP ((fN t).drop k) z.2.2.1 z.2.2.2.1 z.2.2.2.2.2∧z.2.2.2.2.2+wb ((fN t).drop k)=t.length+1∧(z.2.2.1.length≤k∧z.2.2.2.1.length≤k)∧wg z.2.2.2.2.1 z.2.2.1∧(∀v∈z.2.2.1,cC.wf v)∧(∀x∈z.2.2.2.1,cE.wf x)) (fun k z=>(fN t).length-k) 0 ((.slice none 0 0),(.slice none 0 0),[],[],[],0) (aG.cons 2 rfl (aG.cons 3 rfl (aG.cons 4 rfl (aG.cons 5 rfl (aG.cons 32 rfl (aG.cons 33 rfl aG.nil)))))) ⟨rfl,rfl,Nat.zero_le _,rfl,(show 0+wb ((fN t).drop 0)=t.length+1 by rw[List.drop_zero,QS];omega),⟨Nat.le_refl _,Nat.le_refl _⟩,fun _=>rfl,(fun v h=>by cases h),(fun v h=>by cases h)⟩ ?_;rintro k ⟨zv,zk,vs,ks,m,p⟩ ⟨rA,uf,hk,j9,hp,⟨rV,wv⟩,Fa,yb,zf⟩
  dsimp only at rA uf hk j9 hp rV wv Fa yb zf⊢
  refine St.sr ?_;refine St.ee Ev.ez ?_;refine St.nn (St.seq ?_);refine St.cond _ rfl (fun xC=> ?_) (fun xC=> ?_)
  ·try simp only[aA]at xC
   obtain⟨it,QT⟩:=aY (show k<(fN t).length by omega)
   have Y0:=bS QT
   rw[Y0]at j9
   have N3:=hp
   rw[Y0,iY]at N3
   have CC:it.length≤4000:=by omega
   have F2:p+it.length+1=p+(it.length+1):=by omega
   refine St.skip (St.a7 (St.seq (St.block (St.sr ?_))));refine St.ee (Ev.aa (k:=k) (.mk rfl) (.mk rfl) kT tt (by omega) (by omega)) ?_;refine St.ee (Ev.jA (.mk rfl) QT cZ trivial rfl) ?_;refine St.ao ?_;refine St.nn (St.sr ?_);refine St.ao ?_;refine St.nn (St.seq (St.block ?_));refine St.lH (ι:=Nat) (fun n T=>(9,iv n)::T) (fun n=>[aZ b4 (.cells [zv,zk].toArray 25 (0,0)),row zv 38 3 (vs).length (rows cC (vs)),row zk 40 3 (ks).length (rows cE (ks)),aZ J0 (gE mkStr m),aZ b2 (.cells [(.slice none 0 0),(.slice none 0 0)].toArray 25 (0,0)),aZ b3 (.cells [iv 0,iv 0].toArray 28 (0,0)),aE (sl dH zz (fN t)),aE (rp 0 us.1),aE (sl dH us.1 cn),aE u8,aE qh]) (fun n=>n≤it.length∧n≤30∧lM it=FZ it (it.length+1-n) n) (fun n=>it.length-n) 0 (aG.cons 2 rfl (aG.cons 3 rfl (aG.cons 4 rfl (aG.cons 5 rfl (aG.cons 6 rfl (aG.cons 8 rfl (aG.cons 32 rfl (aG.cons 33 rfl (aG.cons 34 rfl aG.nil))))))))) ⟨Nat.zero_le _,Nat.zero_le _,rfl⟩ ?_;rintro n ⟨hn,aaY,E3⟩;refine St.seq (St.sr ?_);refine St.mv ?_;refine St.mv ?_;refine St.ee (Ev.dF (.mk rfl) cZ) ?_;refine St.ee Ev.ez ?_;refine St.mv ?_;refine St.gt _ rfl rfl (fun hg=>Ev.move (.mk rfl)) rfl ?_;refine St.gt _ rfl rfl (fun hg=>Ev.lss (aL.gv rfl hg) (.mk rfl)) rfl ?_;refine St.ee Ev.n0 ?_;refine St.mv ?_;refine St.gt _ rfl rfl (fun hg=>Ev.move (.mk rfl)) rfl ?_;refine St.gt _ rfl rfl (fun hg=>Ev.move (.mk rfl)) rfl ?_;refine St.gt _ rfl rfl (fun hg=>Ev.add (aL.gv rfl hg) (.mk rfl) (by first|omega|(simp only[aA]at hg;omega))) rfl ?_;refine St.gt _ rfl rfl (fun hg=>Ev.kE (l:=n+1) (aL.gv rfl hg) (aL.gv rfl hg) cZ (by omega) (by first|omega|(simp only[aA]at hg;omega))) rfl ?_;refine St.gt _ rfl rfl (fun hg=>Ev.call (fB (it.take (n+1)) (by rw[List.length_take];omega)) u5 (.cons (aL.gv rfl hg) .nil)) rfl ?_;refine St.ee Ev.n0 ?_;refine St.nn ?_;refine St.cond _ rfl (fun yI=> ?_) (fun yI=> ?_)
   ·try simp only[aA]at yI
    refine St.skip (St.a7 (St.block (St.rg ?_)));refine St.mv ?_;refine St.ee Ev.a0 ?_;refine St.ao ?_;refine St.nil (St.aW (St.a7 ?_));refine St.aH (n+1) ⟨by omega,by omega,E3.trans (yu ⟨by omega,yI.2⟩)⟩
   ·try simp only[aA]at yI
    have er:lM it=n:=by rw[E3];refine qp (fun h=> ?_);rcases yI with(h2|h2)|h2;omega;have:=eA.1 h.2;rw[List.length_take]at this;omega;rw[h.2]at h2;cases h2
    obtain⟨nm,Hv⟩:∃nm,nm=it.take n:=⟨_,rfl⟩
    obtain⟨rs,QU⟩:∃rs,rs=it.drop n:=⟨_,rfl⟩
    have FQ:nm.length=n:=by rw[Hv,List.length_take];omega
    have TJ:rs.length=it.length-n:=by rw[QU,List.length_drop]
    have Y1:rs.getD 0 0=it.getD n 0:=by rw[QU,List.getD_eq_getElem?_getD,List.getElem?_drop,Nat.add_zero,←List.getD_eq_getElem?_getD]
    have SC:it.drop (n+1)=rs.drop 1:=by rw[QU,List.drop_drop]
    refine St.exit (St.aJ (St.aJ (St.bO (St.a7 (St.seq ?_)))));refine St.ek [] mixed (fun np ns=> ?_);refine SW.dd 0 rfl (fun _=>Ev.move (.mk rfl)) ?_;refine SW.dd 1 rfl (fun _=>Ev.move (.mk rfl)) ?_;refine SW.dd 2 rfl (fun _=>Ev.kE (l:=n) (.mk rfl) (.mk rfl) cZ (by omega) (by omega)) ?_;rw[←Hv];refine SW.dd 3 rfl (fun _=>Ev.move (.mk rfl)) ?_;refine SW.dd 4 rfl (fun _=>Ev.move (.mk rfl)) ?_;refine SW.dd 5 rfl (fun _=>Ev.jN (l:=n) (.mk rfl) (.mk rfl) cZ (by omega) (by omega)) ?_;rw[←QU];refine SW.dd 6 rfl (fun _=>Ev.assign (.mk rfl)) ?_;refine SW.dd 7 rfl (fun _=>Ev.assign (.mk rfl)) ?_;refine SW.done (by kernel_rfl) ?_;refine St.a7 (St.seq (St.sr ?_));refine St.mv ?_;refine St.ee (Ev.fC (.mk rfl) (.mk rfl)) ?_;refine St.mv ?_;refine St.gf _ rfl rfl (fun hg=>Ev.move (.mk rfl)) rfl ?_;refine St.gf _ rfl rfl (fun hg=>Ev.fC (aL.gv rfl hg) (.mk rfl)) rfl ?_;refine St.ee Ev.o0 ?_;refine St.nn ?_;refine St.cond _ rfl (fun sj=> ?_) (fun sj=> ?_)
    ·try simp only[aA]at sj
     have hz:lM it=0∨lM it=it.length:=by rw[er];rcases sj with h|h<;>(have:=congrArg List.length h;simp only[List.length_nil]at this;omega)
     have n5:dP (fN t) [] [] 0= .inr (11,(p:Int)):=by rw[j9];exact lq (by unfold dE;rw[if_pos hz])
     refine St.sr ?_;refine St.ee (Ev.build (ps:=[]) (aQ.nil) (fun w=>j7 w)) ?_;refine St.mv ?_;refine St.ee (Ev.call (bU 11 p) mU (.cons (.mk rfl) (.cons (.mk rfl) .nil))) ?_;refine St.sA (.mk rfl) (.mk rfl) dX ?_;refine St.sA (.mk rfl) (.mk rfl) aR ?_;refine St.nn (St.ae (St.a8 (St.aN (St.a8 (St.a8 (St.aN (St.a8 ?_)))))));refine St.dN cC ?_;refine St.dN cE ?_;refine St.iJ (bG (⟨bu,[],bu,[]⟩:cF)) [sl cC (.slice none 0 0) [],sl cE (.slice none 0 0) []] (fun ρ h=>h) ?_;refine St.rT [_,_] [aE (bG (⟨bu,[],bu,[]⟩:cF))] Tryz.results8 ⟨⟨_,_,_,_,rfl,c4.mem,.inl ⟨⟨_,fV⟩,dX,rfl⟩⟩,⟨⟨_,_,_,_,rfl,c4.mem,.inl ⟨⟨_,bC⟩,aR,rfl⟩⟩,trivial⟩⟩ ?_
     have hP:=ln (by omega) n5
     exact⟨(⟨bu,[],bu,[]⟩:cF),by rw[hP];rfl,by rw[hP],by rw[hP],rfl⟩
    ·try simp only[aA]at sj
     have hrp:0<rs.length:=List.length_pos_iff.2 sj.2
     have Vl:0<nm.length:=List.length_pos_iff.2 sj.1
     have Y2:¬(lM it=0∨lM it=it.length):=by rw[er];omega
     refine St.skip (St.a7 (St.seq (St.sr ?_)));refine St.mv ?_;refine St.ee (Ev.fz (k:=0) (.mk rfl) (.mk rfl) cZ (by omega) (by omega)) ?_;refine St.ee Ev.fE ?_;refine St.nn ?_;refine St.cond _ rfl (fun ue=> ?_) (fun ue=> ?_)
     ·try simp only[aA]at ue
      have nP:it.getD (lM it) 0=58:=by rw[er,←Y1];exact UInt8.toNat_inj.1 (show(rs.getD 0 0).toNat=58 by omega)
      have hit:dE it=if jh (rs.drop 1)=true then some (.inl (jF nm (rs.drop 1)))else none:=by unfold dE;rw[if_neg Y2,if_pos nP,er,←Hv,SC]
      refine St.sr ?_;refine St.mv ?_;refine St.mv ?_;refine St.ee (Ev.jN (l:=1) (.mk rfl) (.mk rfl) cZ rfl (by omega)) ?_;refine St.kZ gL (rh nm (rs.drop 1) (by rw[List.length_drop];omega)) Vr (.cons (.mk rfl) (.cons (.mk rfl) .nil)) rfl ?_;rintro v77 _ ⟨rfl,v,rfl,LX⟩;refine St.aC ?_;refine St.mv ?_;refine St.ee (Ev.extract (.mk rfl) rfl) ?_;refine St.ee (Ev.extract (.mk rfl) rfl) ?_;refine St.alloc pM rfl (fun Ij=> ?_);refine St.sA (.mk rfl) (.mk rfl) cv ?_ (h1:=(by simp only[List.all_cons,List.all_nil,Bool.and_true,Bool.and_eq_true];exact⟨rfl,rfl,rfl⟩));refine St.ao ?_;refine St.nn (St.seq (St.sr ?_));refine St.mv ?_;refine St.ee (Ev.not (.mk rfl)) ?_;refine St.mv ?_;refine St.gf _ rfl rfl (fun hg=>Ev.aD (.mk rfl) dz) rfl ?_;refine St.gf _ rfl rfl (fun hg=>Ev.cY (aL.gv rfl hg) dw trivial (by rfl)) rfl ?_;refine St.gf _ rfl rfl (fun hg=>Ev.gm (aL.gv rfl hg) dw) rfl ?_;refine St.gf _ rfl rfl (fun hg=>Ev.gtr (aL.gv rfl hg) (.mk rfl)) rfl ?_;refine St.ee Ev.o0 ?_;refine St.nn ?_;refine St.cond _ rfl (fun r9=> ?_) (fun r9=> ?_)
      ·try simp only[aA]at r9
       have n5:dP (fN t) [] [] 0= .inr (11,(p:Int)):=by
        rw[j9]
        rcases Bool.eq_false_or_eq_true (jh (rs.drop 1))with hb|hb
        ·exact sz (by rw[hit,if_pos hb]) (fun e=>by rcases r9 with h|h;rw[hb]at h;cases h;rw[e]at h;simp at h)
        ·exact lq (by rw[hit,if_neg (by rw[hb];decide)])
       refine St.sr ?_;refine St.ee (Ev.build (ps:=[]) (aQ.nil) (fun w=>j7 w)) ?_;refine St.mv ?_;refine St.ee (Ev.call (bU 11 p) mU (.cons (.mk rfl) (.cons (.mk rfl) .nil))) ?_;refine St.sA (.mk rfl) (.mk rfl) dX ?_;refine St.sA (.mk rfl) (.mk rfl) aR ?_;refine St.nn (St.ae (St.a8 (St.a8 (St.aN (St.a8 (St.a8 (St.aN (St.a8 ?_))))))));refine St.dN cC ?_;refine St.dN cE ?_;refine St.iJ (bG (⟨bu,[],bu,[]⟩:cF)) [sl cC (.slice none 0 0) [],sl cE (.slice none 0 0) []] (fun ρ h=>h) ?_;refine St.rT [_,_] [aE (bG (⟨bu,[],bu,[]⟩:cF))] Tryz.results8 ⟨⟨_,_,_,_,rfl,c4.mem,.inl ⟨⟨_,fV⟩,dX,rfl⟩⟩,⟨⟨_,_,_,_,rfl,c4.mem,.inl ⟨⟨_,bC⟩,aR,rfl⟩⟩,trivial⟩⟩ ?_
       have hP:=ln (by omega) n5
       exact⟨(⟨bu,[],bu,[]⟩:cF),by rw[hP];rfl,by rw[hP],by rw[hP],rfl⟩
      ·try simp only[aA]at r9
       have A4:jh (rs.drop 1)=true:=r9.1
       have Nr:v.name=nm:=by rw[LX A4];exact(ss nm _).1
       have vm:dE it=some (.inl v):=by rw[hit,if_pos A4,LX A4]
       have Qz:ks=[]:=List.eq_nil_of_length_eq_zero (by have:=r9.2;omega)
       subst Qz;rw[wX vm]at j9;obtain⟨hs1,RN,RP,RO⟩:=su vm
       have W0:cC.wf v:=⟨by show v.name.length≤_;omega,by show aj v.kind;unfold aj;omega,by show v.label.length≤_;omega⟩
       refine St.skip (St.a7 ?_);refine St.join (ι:=List (ax×Value)) (fun m2 T=>T) (fun m2=>[aZ Ij (.cells [sv v.name,iv v.kind,sv v.label].toArray 38 (0,0)),aZ b4 (.cells [zv,zk].toArray 25 (0,0)),row zv 38 3 (vs).length (rows cC (vs)),row zk 40 3 ([]:List cL).length (rows cE ([]:List cL)),aZ J0 (gE mkStr m2),aZ b2 (.cells [(.slice none 0 0),(.slice none 0 0)].toArray 25 (0,0)),aZ b3 (.cells [iv 0,iv 0].toArray 28 (0,0)),aE (sl dH zz (fN t)),aE (rp 0 us.1),aE (sl dH us.1 cn),aE u8,aE qh]) (fun m2=>wg m2 (vs++ [v])) (aG.cons 2 rfl (aG.cons 3 rfl (aG.cons 4 rfl (aG.cons 5 rfl (aG.cons 6 rfl (aG.cons 8 rfl (aG.cons 10 rfl (aG.cons 11 rfl (aG.cons 12 rfl (aG.cons 32 rfl (aG.cons 33 rfl (aG.cons 34 rfl aG.nil)))))))))))) ?_ ?_
       ·refine St.sr ?_
        refine St.mv ?_;refine St.mv ?_;refine St.ee (Ev.jz mkStr (k:=nm) (.mk rfl) (.mk rfl) pK (by exact cZ) dx) ?_;refine St.mv ?_;refine St.ee (Ev.extract (.mk rfl) rfl) ?_;refine St.ee (Ev.extract (.mk rfl) rfl) ?_;refine St.ao ?_;refine St.ao ?_;refine St.nn (St.sr ?_);refine St.mv ?_;refine St.ee (Ev.not (.mk rfl)) ?_;refine St.nn ?_;refine St.cond _ rfl (fun QV=> ?_) (fun QV=> ?_)
        ·try simp only[aA]at QV
         refine St.rg ?_;refine St.mv ?_;refine St.mv ?_;refine St.ee (Ev.aD (.mk rfl) cN) ?_;refine St.ee (Ev.l0 (.mk rfl) cM) ?_;refine St.ee (Ev.gm (.mk rfl) cM) ?_;refine St.mapUpdate mkStr (k:=nm) (.mk rfl) (.mk rfl) (.mk rfl) pK (by exact cZ) ?_;refine St.nn ?_;refine St.mE (gZ m nm (iv vs.length)) (by rw[←Nr];exact Fa.new (by rw[Nr];exact QV))
        ·try simp only[aA]at QV
         refine St.skip (St.a7 ?_);refine St.mE m (Fa.wi (by rw[Nr];exact QV))
       ·intro m2 rn
        refine St.sr ?_;refine St.ee (Ev.aD (.mk rfl) cN) ?_;refine St.ee (Ev.l0 (.mk rfl) cM) ?_;refine St.ee (Ev.an (.mk rfl) gP trivial (by exact cv)) ?_;refine St.slot 106 (.agg #[sv v.name,iv v.kind,sv v.label]) rfl rfl ?_;refine St.cS rfl (.cons (.mk rfl) .nil) cM cv Dv rfl rfl (by simp[Value.cells]) rfl rfl (fun aaZ=> ?_);refine St.cT (.mk rfl) (.mk rfl) cM cv Dv QG (by simp[Value.oneCell',Value.cells]) (by omega) (by omega) rfl rfl rfl rfl (fun L4 Y3=> ?_);refine St.bI L4 (show _=(vs++ [v]).length by rw[List.length_append];rfl) (show _=rows cC (vs++ [v]) by rw[dA];rfl) ?_;refine St.e7 L4 (fun BE _=> ?_);refine St.ee (Ev.aD (.mk rfl) cN) ?_;refine St.bQ (.mk rfl) (.mk rfl) QH BE (by rfl) ?_;refine St.nn (St.sr ?_);refine St.mv ?_;refine St.mv ?_;refine St.ee (Ev.dF (.mk rfl) cZ) ?_;refine St.ee Ev.a0 ?_;refine St.ee Ev.a0 ?_;refine St.ao ?_;refine St.nn (St.exit (St.aJ (St.bO (St.a7 (St.rg ?_)))));refine St.ee Ev.a0 ?_;refine St.mv ?_;refine St.nn ?_;refine St.ly (k+1) (L4,zk,vs++ [v],[],m2,p+(it.length+1)) ⟨BE,uf,by omega,by rw[←F2];exact j9,by dsimp only;omega,⟨by rw[List.length_append,List.length_singleton];omega,Nat.zero_le _⟩,rn,fun u hu=>by rcases List.mem_append.1 hu with h|h;exact yb u h;rw[List.mem_singleton.1 h];exact W0,zf⟩
     ·try simp only[aA]at ue
      have nP:it.getD (lM it) 0≠58:=by rw[er,←Y1];intro e;rw[e]at ue;exact ue rfl
      have hit:=BX Y2 nP
      rw[er,←Hv,←QU]at hit;refine St.skip (St.a7 (St.sr ?_));refine St.mv ?_;refine St.ee (Ev.gA gL (BW rs) Vs (.cons (.mk rfl) (.cons (.mk rfl) .nil))) ?_
      obtain⟨ot,RS⟩:∃ot,ot=rs.dropWhile kK:=⟨_,rfl⟩
      rw[←RS]
      have W7:=FA rs
      rw[←RS]at W7
      have hol:ot.length≤rs.length:=by rw[RS];exact(List.dropWhile_sublist _).length_le
      rw[←RS]at hit
      obtain⟨run,rC⟩:∃run,run=rs.takeWhile kK:=⟨_,rfl⟩
      rw[←rC]at hit W7;refine St.ao ?_;refine St.nn (St.sr ?_);refine St.ao ?_;refine St.nn (St.seq (St.sr ?_));refine St.ee (Ev.Br (.mk rfl) kT trivial) ?_;refine St.ee (Ev.bA (.mk rfl) kT) ?_;refine St.mv ?_;refine St.nn (St.block ?_);refine St.lH (ι:=Nat) (fun j T=>(119,iv j)::(17,iv (jG run j))::T) (fun j=>[aZ b4 (.cells [zv,zk].toArray 25 (0,0)),row zv 38 3 (vs).length (rows cC (vs)),row zk 40 3 (ks).length (rows cE (ks)),aZ J0 (gE mkStr m),aZ b2 (.cells [(.slice none 0 0),(.slice none 0 0)].toArray 25 (0,0)),aZ b3 (.cells [iv 0,iv 0].toArray 28 (0,0)),aE (sl dH zz (fN t)),aE (rp 0 us.1),aE (sl dH us.1 cn),aE u8,aE qh]) (fun j=>j≤6) (fun j=>6-j) 0 (aG.cons 2 rfl (aG.cons 3 rfl (aG.cons 4 rfl (aG.cons 5 rfl (aG.cons 6 rfl (aG.cons 8 rfl (aG.cons 10 rfl (aG.cons 11 rfl (aG.cons 16 rfl (aG.cons 32 rfl (aG.cons 33 rfl (aG.cons 34 rfl (aG.cons 117 rfl (aG.cons 118 rfl aG.nil)))))))))))))) (Nat.zero_le _) ?_;intro j hj;refine St.sr ?_;refine St.ee Ev.ez ?_;refine St.nn (St.seq ?_);refine St.cond _ rfl (fun L5=> ?_) (fun L5=> ?_)
      ·try simp only[aA]at L5
       have XQ:cn.length=6:=rfl
       have Tt:cn[j]?=some (cn.getD j []):=by rw[List.getD_eq_getElem?_getD,List.getElem?_eq_getElem (show j<cn.length by omega)];rfl
       have Y4:=tE (run:=run) (j:=j)
       refine St.skip (St.a7 ?_);refine St.join (ι:=Int) (fun y T=>(17,iv y)::T) (fun y=>[aZ b4 (.cells [zv,zk].toArray 25 (0,0)),row zv 38 3 (vs).length (rows cC (vs)),row zk 40 3 (ks).length (rows cE (ks)),aZ J0 (gE mkStr m),aZ b2 (.cells [(.slice none 0 0),(.slice none 0 0)].toArray 25 (0,0)),aZ b3 (.cells [iv 0,iv 0].toArray 28 (0,0)),aE (sl dH zz (fN t)),aE (rp 0 us.1),aE (sl dH us.1 cn),aE u8,aE qh]) (fun y=>y=jG run (j+1)) (aG.cons 2 rfl (aG.cons 3 rfl (aG.cons 4 rfl (aG.cons 5 rfl (aG.cons 6 rfl (aG.cons 8 rfl (aG.cons 10 rfl (aG.cons 11 rfl (aG.cons 16 rfl (aG.cons 32 rfl (aG.cons 33 rfl (aG.cons 34 rfl (aG.cons 117 rfl (aG.cons 118 rfl (aG.cons 119 rfl aG.nil))))))))))))))) ?_ ?_
       ·refine St.block (St.sr ?_)
        refine St.mv ?_;refine St.ee (Ev.aa (k:=j) (.mk rfl) (.mk rfl) kT tt (by omega) (by omega)) ?_;refine St.ee (Ev.jA (.mk rfl) Tt cZ trivial rfl) ?_;refine St.ao ?_;refine St.ao ?_;refine St.nn (St.sr ?_);refine St.mv ?_;refine St.mv ?_;refine St.mv ?_;refine St.ee (Ev.dF (.mk rfl) cZ) ?_;refine St.mv ?_;refine St.ee (Ev.dF (.mk rfl) cZ) ?_;refine St.ee Ev.s0 ?_;refine St.ee (Ev.kE (l:=rs.length-ot.length) (.mk rfl) (.mk rfl) cZ (by omega) (by omega)) ?_;rw[W7];refine St.ee (Ev.fC (.mk rfl) (.mk rfl)) ?_;refine St.nn ?_;refine St.cond _ rfl (fun FB=> ?_) (fun FB=> ?_)
        ·try simp only[aA]at FB
         refine St.rg ?_;refine St.mv ?_;refine St.ao ?_;refine St.nil (St.aW (St.a7 ?_));refine St.mE (j:Int) (by rw[Y4,if_pos FB])
        ·try simp only[aA]at FB
         refine St.skip (St.aW (St.a7 ?_));refine St.mE (jG run j) (by rw[Y4,if_neg FB])
       ·intro y hy
        rw[hy];refine St.rg ?_;refine St.ee Ev.a0 ?_;refine St.mv ?_;refine St.nn ?_;refine St.aH (j+1) (by omega)
      ·try simp only[aA]at L5
       have XQ:cn.length=6:=rfl
       obtain rfl:j=6:=by omega
       have hkr:=r4 (run:=run) 6
       refine St.exit (St.aJ (St.aJ (St.bO (St.a7 (St.seq (St.sr ?_))))));refine St.mv ?_;refine St.ee Ev.fE ?_;refine St.mv ?_;refine St.gf _ rfl rfl (fun hg=>Ev.move (.mk rfl)) rfl ?_;refine St.gf _ rfl rfl (fun hg=>Ev.call (fB ot (by omega)) u5 (.cons (aL.gv rfl hg) .nil)) rfl ?_;refine St.gf _ rfl rfl (fun hg=>Ev.not (aL.gv rfl hg)) rfl ?_;refine St.ee Ev.o0 ?_;refine St.nn ?_;refine St.cond _ rfl (fun BZ=> ?_) (fun BZ=> ?_)
       ·try simp only[aA]at BZ
        have n5:dP (fN t) [] [] 0= .inr (11,(p:Int)):=by rw[j9];exact lq (by rw[hit,if_pos BZ])
        refine St.sr ?_;refine St.ee (Ev.build (ps:=[]) (aQ.nil) (fun w=>j7 w)) ?_;refine St.mv ?_;refine St.ee (Ev.call (bU 11 p) mU (.cons (.mk rfl) (.cons (.mk rfl) .nil))) ?_;refine St.sA (.mk rfl) (.mk rfl) dX ?_;refine St.sA (.mk rfl) (.mk rfl) aR ?_;refine St.nn (St.ae (St.a8 (St.aN (St.a8 (St.a8 (St.aN (St.a8 ?_)))))));refine St.dN cC ?_;refine St.dN cE ?_;refine St.iJ (bG (⟨bu,[],bu,[]⟩:cF)) [sl cC (.slice none 0 0) [],sl cE (.slice none 0 0) []] (fun ρ h=>h) ?_;refine St.rT [_,_] [aE (bG (⟨bu,[],bu,[]⟩:cF))] Tryz.results8 ⟨⟨_,_,_,_,rfl,c4.mem,.inl ⟨⟨_,fV⟩,dX,rfl⟩⟩,⟨⟨_,_,_,_,rfl,c4.mem,.inl ⟨⟨_,bC⟩,aR,rfl⟩⟩,trivial⟩⟩ ?_
        have hP:=ln (by omega) n5
        exact⟨(⟨bu,[],bu,[]⟩:cF),by rw[hP];rfl,by rw[hP],by rw[hP],rfl⟩
       ·try simp only[aA]at BZ
        have vj:dE it=some (.inr (jG run 6,nm,ot)):=by rw[hit,if_neg (by rintro (h|h);exact BZ.1 h;rw[BZ.2]at h;cases h)]
        have NO:=sx vj
        refine St.skip (St.a7 (St.sr ?_));refine St.mv ?_;refine St.mv ?_;refine St.ee (Ev.jz mkStr (k:=nm) (.mk rfl) (.mk rfl) pK (by exact cZ) dx) ?_;refine St.mv ?_;refine St.ee (Ev.extract (.mk rfl) rfl) ?_;refine St.ee (Ev.extract (.mk rfl) rfl) ?_;refine St.ao ?_;refine St.ao ?_;refine St.nn (St.sr ?_);refine St.mv ?_;refine St.mv ?_;refine St.ee (Ev.jz mkStr (k:=ot) (.mk rfl) (.mk rfl) pK (by exact cZ) dx) ?_;refine St.mv ?_;refine St.ee (Ev.extract (.mk rfl) rfl) ?_;refine St.ee (Ev.extract (.mk rfl) rfl) ?_;refine St.ao ?_;refine St.ao ?_;refine St.nn (St.seq (St.sr ?_));refine St.mv ?_;refine St.ee (Ev.not (.mk rfl)) ?_;refine St.mv ?_;refine St.gf _ rfl rfl (fun hg=>Ev.move (.mk rfl)) rfl ?_;refine St.gf _ rfl rfl (fun hg=>Ev.not (aL.gv rfl hg)) rfl ?_;refine St.ee Ev.o0 ?_;refine St.nn ?_;refine St.cond _ rfl (fun Ba=> ?_) (fun Ba=> ?_)
        ·try simp only[aA]at Ba
         have F3:dP (fN t) [] [] 0= .inr (6,(p:Int)):=by
          rw[j9];refine tA vj ?_
          rcases Ba with h|h
          ·left;rw[Fa nm]at h;cases e:cr vs nm with|none=>rfl|some j=>(rw[e]at h;cases h)
          ·right;rw[Fa ot]at h;cases e:cr vs ot with|none=>rfl|some j=>(rw[e]at h;cases h)
         refine St.sr ?_;refine St.ee (Ev.build (ps:=[]) (aQ.nil) (fun w=>j7 w)) ?_;refine St.mv ?_;refine St.ee (Ev.call (bU 6 p) mU (.cons (.mk rfl) (.cons (.mk rfl) .nil))) ?_;refine St.sA (.mk rfl) (.mk rfl) dX ?_;refine St.sA (.mk rfl) (.mk rfl) aR ?_;refine St.nn (St.ae (St.a8 (St.aN (St.a8 (St.a8 (St.aN (St.a8 ?_)))))));refine St.dN cC ?_;refine St.dN cE ?_;refine St.iJ (bG (⟨bu,[],bu,[]⟩:cF)) [sl cC (.slice none 0 0) [],sl cE (.slice none 0 0) []] (fun ρ h=>h) ?_;refine St.rT [_,_] [aE (bG (⟨bu,[],bu,[]⟩:cF))] Tryz.results8 ⟨⟨_,_,_,_,rfl,c4.mem,.inl ⟨⟨_,fV⟩,dX,rfl⟩⟩,⟨⟨_,_,_,_,rfl,c4.mem,.inl ⟨⟨_,bC⟩,aR,rfl⟩⟩,trivial⟩⟩ ?_
         have hP:=ln (by omega) F3
         exact⟨(⟨bu,[],bu,[]⟩:cF),by rw[hP];rfl,by rw[hP],by rw[hP],rfl⟩
        ·try simp only[aA]at Ba
         obtain⟨ja,fa⟩:∃j,cr vs nm=some j:=by have h:=Ba.1;rw[Fa nm]at h;cases e:cr vs nm with|none=>(rw[e]at h;cases h)|some j=>exact⟨j,rfl⟩
         obtain⟨jb,fb⟩:∃j,cr vs ot=some j:=by have h:=Ba.2;rw[Fa ot]at h;cases e:cr vs ot with|none=>(rw[e]at h;cases h)|some j=>exact⟨j,rfl⟩
         have LR:=lQ fa
         have Ik:=lQ fb
         have W4:cE.wf (⟨jG run 6,ja,jb⟩:cL):=⟨by show aj (jG run 6);unfold aj;omega,by show aj (ja:Int);unfold aj;omega,by show aj (jb:Int);unfold aj;omega⟩
         rw[tB vj fa fb]at j9;refine St.slot 20 (iv ja) rfl (by rw[Fa nm,fa];rfl) ?_;refine St.slot 22 (iv jb) rfl (by rw[Fa ot,fb];rfl) ?_;refine St.skip (St.a7 (St.sr ?_));refine St.ee (Ev.aD (.mk rfl) dz) ?_;refine St.ee (Ev.l0 (.mk rfl) dw) ?_;refine St.mv ?_;refine St.mv ?_;refine St.mv ?_;refine St.ee (Ev.build (ps:=[(0,(.tmp 168)),(1,(.tmp 169)),(2,(.tmp 170))]) (aQ.cons (aL.mk rfl) (aQ.cons (aL.mk rfl) (aQ.cons (aL.mk rfl) aQ.nil))) (fun w=>lK rfl rfl rfl w)) ?_;refine St.cS rfl (.cons (.mk rfl) .nil) dw gj Dw rfl rfl (by simp[Value.cells]) rfl rfl (fun BN=> ?_);refine St.cT (.mk rfl) (.mk rfl) dw gj Dw QI (by simp[Value.oneCell',Value.cells]) (by omega) (by omega) rfl rfl rfl rfl (fun v173 Y5=> ?_);refine St.bI v173 (show _=(ks++ [(⟨jG run 6,ja,jb⟩:cL)]).length by rw[List.length_append];rfl) (show _=rows cE (ks++ [(⟨jG run 6,ja,jb⟩:cL)]) by rw[dA];rfl) ?_;refine St.e7 v173 (fun QW _=> ?_);refine St.ee (Ev.aD (.mk rfl) dz) ?_;refine St.bQ (.mk rfl) (.mk rfl) QJ QW (by rfl) ?_;refine St.nn (St.rg ?_);refine St.mv ?_;refine St.mv ?_;refine St.ee (Ev.dF (.mk rfl) cZ) ?_;refine St.ee Ev.a0 ?_;refine St.ee Ev.a0 ?_;refine St.ao ?_;refine St.nil (St.aW (St.a7 (St.rg ?_)));refine St.ee Ev.a0 ?_;refine St.mv ?_;refine St.nn ?_;refine St.ly (k+1) (zv,v173,vs,ks++ [(⟨jG run 6,ja,jb⟩:cL)],m,p+(it.length+1)) ⟨rA,QW,by omega,by rw[←F2];exact j9,by dsimp only;omega,⟨by dsimp only;omega,by dsimp only;rw[List.length_append,List.length_singleton];omega⟩,Fa,yb,fun u hu=>by rcases List.mem_append.1 hu with h|h;exact zf u h;rw[List.mem_singleton.1 h];exact W4⟩
  ·try simp only[aA]at xC
   have xN:(fN t).drop k=[]:=List.drop_of_length_le (by omega)
   rw[xN]at j9
   have yS:dP (fN t) [] [] 0= .inl (vs,ks):=j9
   refine St.aM zv cC vs rfl rfl yb ?_;refine St.aM zk cE ks rfl rfl zf ?_;refine St.iJ (bG ⟨⟨zv,rA⟩,vs,⟨zk,uf⟩,ks⟩) [sl cC zv vs,sl cE zk ks] (fun ρ h=>h) ?_;refine St.exit (St.aJ (St.aJ (St.bO (St.a7 (St.seq (St.sr ?_))))));refine St.ee (Ev.an (.mk rfl) fV trivial (by exact dX)) ?_;refine St.slot 181 (da ⟨⟨zv,rA⟩,vs,⟨zk,uf⟩,ks⟩) rfl rfl ?_;refine St.ee (Ev.gA gL (lI ⟨⟨zv,rA⟩,vs,⟨zk,uf⟩,ks⟩) KM (.cons (.mk rfl) .nil)) ?_;refine St.alloc dR rfl (fun b24=> ?_);refine St.sA (.mk rfl) (.mk rfl) aR ?_;refine St.nn (St.sr ?_);refine St.ee (Ev.aD (.mk rfl) cW) ?_;refine St.ee (Ev.l0 (.mk rfl) bf) ?_;refine St.ee Ev.kz ?_;refine St.nn ?_;refine St.cond _ rfl (fun L6=> ?_) (fun L6=> ?_)
   ·skip
    have Bf:(ec vs ks).1≠0:=by simpa using L6
    refine St.seq ?_;refine St.lr [b2,b3] mixed (fun np ns=> ?_);refine SW.dd 0 rfl (fun _=>Ev.build (ps:=[]) (aQ.nil) (fun w=>j7 w)) ?_;refine SW.dd 1 rfl (fun _=>Ev.an (.mk rfl) bC trivial (by exact aR)) ?_;refine SW.ar (i:=2) (by kernel_rfl) rfl ?_;refine St.sA (.mk rfl) (.mk rfl) dX ?_;refine St.nn ?_;refine SW.go ?_;refine SW.ar (i:=3) (by kernel_rfl) rfl ?_;refine St.sA (.mk rfl) (.mk rfl) aR ?_;refine St.nn ?_;refine SW.go ?_;refine SW.done (by kernel_rfl) ?_;refine St.a7 (St.ae (St.a8 ?_));refine St.dN cC ?_;refine St.dN cE ?_;refine St.iJ (bG (⟨bu,[],bu,[]⟩:cF)) [sl cC (.slice none 0 0) [],sl cE (.slice none 0 0) []] (fun ρ h=>h) ?_;refine St.rT [_,_] [aE (bG (⟨bu,[],bu,[]⟩:cF))] Tryz.results8 ⟨⟨_,_,_,_,rfl,c4.mem,.inl ⟨⟨_,fV⟩,dX,rfl⟩⟩,⟨⟨_,_,_,_,rfl,c4.mem,.inl ⟨⟨_,bC⟩,aR,rfl⟩⟩,trivial⟩⟩ ?_
    have hP:=A5 (by omega) yS Bf
    exact⟨(⟨bu,[],bu,[]⟩:cF),by rw[hP];rfl,by rw[hP],by rw[hP],rfl⟩
   ·skip
    have Bf:(ec vs ks).1=0:=by simpa using L6
    refine St.skip (St.a7 (St.sr ?_));refine St.ee (Ev.an (.mk rfl) fV trivial (by exact dX)) ?_;refine St.ee (Ev.build (ps:=[]) (aQ.nil) (fun w=>fK w)) ?_;refine St.sA (.mk rfl) (.mk rfl) dX ?_ (h1:=(by simp only[List.all_cons,List.all_nil,Bool.and_true,Bool.and_eq_true];exact⟨rA,uf⟩));refine St.sA (.mk rfl) (.mk rfl) aR ?_;refine St.nn (St.ae ?_);refine St.rT [_,_] [aE (bG ⟨⟨zv,rA⟩,vs,⟨zk,uf⟩,ks⟩)] Tryz.results8 ⟨⟨_,_,_,_,rfl,c4.mem,.inl ⟨⟨_,fV⟩,dX,rfl⟩⟩,⟨⟨_,_,_,_,rfl,c4.mem,.inl ⟨⟨_,bC⟩,aR,rfl⟩⟩,trivial⟩⟩ ?_
    have hP:=z7 (by omega) yS Bf
    exact⟨⟨⟨zv,rA⟩,vs,⟨zk,uf⟩,ks⟩,by rw[hP];rfl,by rw[hP],by rw[hP],rfl⟩
theorem pf {s:ax}(h:isName s=true):(32:UInt8)∉s:=fun hm=>by
 have:=(eA.1 h).2.2.2
 rw[List.all_eq_true]at this;exact absurd (this 32 hm) (by decide)
theorem Hw {s:ax}(h:isWord s=true):(32:UInt8)∉s:=fun hm=>by
 have h2:s.any eB=true:=List.any_eq_true.2 ⟨32,hm,by decide⟩
 rw[ny,h2]at h
 simp at h
theorem L7 (k:Nat):(32:UInt8)∉cn.getD k []:=by
 match k with
 |0=>decide
 |1=>decide
 |2=>decide
 |3=>decide
 |4=>decide
 |5=>decide
 |k+6=>exact fun h=>by cases h
theorem L8 (k:Int):(32:UInt8)∉jg k:=by
 unfold jg;split<;>(try split)<;>(try split)<;>decide
theorem FC {vs:List bL}{ks:List cL}(hq:oy vs ks):∀s∈cU vs ks,(32:UInt8)∉s:=fun s hs=>by
 unfold cU at hs
 rcases List.mem_append.1 hs with hs|hs
 ·obtain⟨v,hv,rfl⟩:=List.mem_map.1 hs
  obtain⟨h1,h4,hn,h2,h3,h0⟩:=hq.var v hv
  have hl:(32:UInt8)∉v.label:=by
   rcases(show v.kind=1∨v.kind=2∨v.kind=3∨v.kind=4 by omega)with e|e|e|e
   ·rw[h0 (.inl e)];exact fun h=>by cases h
   ·exact pf (h2 e)
   ·exact Hw (h3 e)
   ·rw[h0 (.inr e)];exact fun h=>by cases h
  have E3:=pf hn
  have hp:=L8 v.kind
  unfold dY
  simp only[List.mem_append,List.mem_cons,List.not_mem_nil,or_false]
  rintro (((h|h)|h)|h)
  ·exact E3 h
  ·exact absurd h (by decide)
  ·exact hp h
  ·exact hl h
 ·obtain⟨l,hl,rfl⟩:=List.mem_map.1 hs
  obtain⟨_,_,a1,a2,b1,b2,_⟩:=hq.link l hl
  have ha:=pf (hq.var _ (List.mem_of_getElem? (ld (show l.a.toNat<vs.length by omega)))).2.2.1
  have hb:=pf (hq.var _ (List.mem_of_getElem? (ld (show l.b.toNat<vs.length by omega)))).2.2.1
  have hs:=L7 l.kind.toNat
  unfold fF
  simp only[List.mem_append]
  rintro ((h|h)|h)
  ·exact ha h
  ·exact hs h
  ·exact hb h
theorem wh {vs:List bL}{ks:List cL}(hq:oy vs ks):(kQ vs ks).length≤4000:=by
 obtain⟨h1,h2⟩:=oP hq
 have h3:=wO [32] 200 (cU vs ks) h1
 have h4:(cU vs ks).length*(200+([32]:List UInt8).length)≤12*201:=Nat.mul_le_mul h2 (by simp)
 unfold kQ;omega
theorem mc (vs:List bL)(ks:List cL):wT vs vs ks ks=true:=oS.2 ⟨rfl,rfl⟩
set_option maxHeartbeats 8000000 in
theorem Bb (q:cF)(t:ax)(ht:t.length≤140737488351232):fG Tryz.prog 3 #[da q,sv t] [bG q,tz,u8,qh] (.bool true):=by
 refine fG.body (args:=[da q,sv t]) (ds:=[bG q,tz,u8,qh]) 79 Tryz.func3 rfl Tryz.ntmps3 rfl (fun c gL=> ?_);refine St.cast (H':=[aE (bG q),aE (tz),aE (u8),aE (qh)]) rfl ?_;refine St.sr ?_;refine St.dS (.mk rfl) rfl (fun b2=> ?_);refine St.ao ?_;refine St.nn (St.seq (St.sr ?_));refine St.ee (Ev.gA gL yr cb4 (.nil)) ?_;refine St.ee (Ev.not (.mk rfl)) ?_;refine St.nn ?_;refine St.ph _ rfl rfl ?_;refine St.skip (St.a7 (St.sr ?_));refine St.ee (Ev.an (.mk rfl) fV trivial (by exact dX)) ?_;refine St.slot 15 (da q) rfl rfl ?_;refine St.ee (Ev.gA gL (j4 q) Nx (.cons (.mk rfl) .nil)) ?_;refine St.mv ?_;refine St.ee (Ev.extract (.mk rfl) rfl) ?_;refine St.ee (Ev.extract (.mk rfl) rfl) ?_;refine St.alloc dR rfl (fun b6=> ?_);refine St.ao ?_;refine St.sA (.mk rfl) (.mk rfl) aR ?_;refine St.nn (St.sr ?_);refine St.ee (Ev.an (.mk rfl) fV trivial (by exact dX)) ?_;refine St.slot 19 (da q) rfl rfl ?_;refine St.ee (Ev.call (nS q) Xu (.cons (.mk rfl) .nil)) ?_;refine St.alloc dR rfl (fun b7=> ?_);refine St.sA (.mk rfl) (.mk rfl) aR ?_;refine St.nn (St.seq (St.sr ?_));refine St.ee (Ev.an (.mk rfl) bC trivial (by exact aR)) ?_;refine St.ee (Ev.an (.mk rfl) bC trivial (by exact aR)) ?_;refine St.ee (Ev.nj (.mk rfl) (.mk rfl) Tryz.eqGuardType28 (fun w=>Ex _ _ _ _ w)) ?_;refine St.mv ?_;refine St.gf _ rfl rfl (fun hg=>Ev.aD (.mk rfl) cW) rfl ?_;refine St.gf _ rfl rfl (fun hg=>Ev.cY (aL.gv rfl hg) bf trivial (by rfl)) rfl ?_;refine St.gf _ rfl rfl (fun hg=>Ev.neq (aL.gv rfl hg) (.mk rfl)) rfl ?_;refine St.gf _ rfl rfl (fun hg=>Ev.move (aL.gv rfl hg)) rfl ?_;refine St.kW _ rfl rfl (fun hg=>Ev.move (.mk rfl)) rfl ?_;refine St.kW _ rfl rfl (fun hg=>Ev.oU (aL.gv rfl hg) (.mk rfl)) rfl ?_;refine St.gf _ rfl rfl (fun hg=>Ev.and (aL.gv rfl hg) (fun hp=>aL.gv rfl (ji hg hp))) rfl ?_;refine St.ee Ev.o0 ?_;refine St.mv ?_;refine St.gf _ rfl rfl (fun hg=>Ev.aD (.mk rfl) cW) rfl ?_;refine St.gf _ rfl rfl (fun hg=>Ev.cY (aL.gv rfl hg) bf trivial (by rfl)) rfl ?_;refine St.gf _ rfl rfl (fun hg=>Ev.eql (aL.gv rfl hg) (.mk rfl)) rfl ?_;refine St.gf _ rfl rfl (fun hg=>Ev.move (aL.gv rfl hg)) rfl ?_;refine St.kW _ rfl rfl (fun hg=>Ev.move (.mk rfl)) rfl ?_;refine St.kW _ rfl rfl (fun hg=>Ev.an (.mk rfl) fV trivial (by exact dX)) rfl ?_;refine St.kW _ rfl rfl (fun hg=>Ev.call (qt q (la (by simp only[Bool.and_eq_true,decide_eq_true_eq]at hg;exact hg.2)).2) cb7 (.cons (aL.gv rfl hg) .nil)) rfl ?_;refine St.kW _ rfl rfl (fun hg=>Ev.oU (aL.gv rfl hg) (aL.gv rfl hg)) rfl ?_;refine St.gf _ rfl rfl (fun hg=>Ev.and (aL.gv rfl hg) (fun hp=>aL.gv rfl (ji hg hp))) rfl ?_;refine St.ee Ev.o0 ?_;refine St.nn ?_;refine St.ph _ rfl (by by_cases h:(ec q.vars q.aV).1=0<;>simp[qi,h]) ?_;refine St.skip (St.a7 (St.seq (St.sr ?_)));refine St.ee (Ev.aD (.mk rfl) cW) ?_;refine St.ee (Ev.l0 (.mk rfl) bf) ?_;refine St.ee Ev.fE ?_;refine St.nn ?_;refine St.cond _ rfl (fun r8=> ?_) (fun r8=> ?_)
 ·try simp only[aA]at r8
  have Bf:(ec q.vars q.aV).1=0:=r8
  obtain⟨hqz,hq⟩:=la Bf
  have Y6:qi q.vars q.aV=kQ q.vars q.aV:=by unfold qi;rw[if_neg (by omega)]
  have hP:=F1 Bf (wh hq) (FC hq)
  rw[←Y6]at hP
  have htf:=wh hq
  rw[←Y6]at htf;refine St.sr ?_;refine St.mv ?_;refine St.kZ gL (mb (qi q.vars q.aV) (by omega)) Vt (.cons (.mk rfl) .nil) rfl ?_;rintro v49 _ ⟨q2,rfl,Y7,Y8,rfl⟩;refine St.aq ?_;rw[hP]at Y7 Y8;refine St.slot 49 (.tuple #[da q2,fv (0,0)]) rfl (by rw[hP]) ?_;refine St.mv ?_;refine St.ee (Ev.extract (.mk rfl) rfl) ?_;refine St.ee (Ev.extract (.mk rfl) rfl) ?_;refine St.alloc pP rfl (fun b8=> ?_);refine St.alloc dR rfl (fun b9=> ?_);refine St.sA (.mk rfl) (.mk rfl) dX ?_ (h1:=(by simp only[List.all_cons,List.all_nil,Bool.and_true,Bool.and_eq_true];exact⟨q2.vv.2,q2.kv.2⟩));refine St.sA (.mk rfl) (.mk rfl) aR ?_;refine St.nn (St.sr ?_);refine St.ee (Ev.aD (.mk rfl) cW) ?_;refine St.ee (Ev.l0 (.mk rfl) bf) ?_;refine St.ee Ev.kz ?_;refine St.mv ?_;refine St.gf _ rfl rfl (fun hg=>Ev.an (.mk rfl) fV trivial (by exact dX)) rfl ?_;refine St.gf _ rfl rfl (fun hg=>Ev.an (.mk rfl) fV trivial (by exact dX)) rfl ?_;refine St.gf _ rfl rfl (fun hg=>Ev.call (j8 q2 q) Vu (.cons (aL.gv rfl hg) (.cons (aL.gv rfl hg) .nil))) rfl ?_;refine St.gf _ rfl rfl (fun hg=>Ev.not (aL.gv rfl hg)) rfl ?_;refine St.ee Ev.o0 ?_;refine St.nn ?_;refine St.ph _ rfl (by simp[Y7,Y8,mc]) ?_;refine St.skip (St.a7 (St.sr ?_));refine St.mv ?_;refine St.kZ gL (mb t ht) Vt (.cons (.mk rfl) .nil) rfl ?_;rintro v63 _ ⟨q3,rfl,W8,W9,rfl⟩;refine St.aq ?_;refine St.mv ?_;refine St.ee (Ev.extract (.mk rfl) rfl) ?_;refine St.ee (Ev.extract (.mk rfl) rfl) ?_;refine St.alloc pP rfl (fun iC=> ?_);refine St.sA (.mk rfl) (.mk rfl) dX ?_ (h1:=(by simp only[List.all_cons,List.all_nil,Bool.and_true,Bool.and_eq_true];exact⟨q3.vv.2,q3.kv.2⟩));refine St.sA (.mk rfl) (.mk rfl) aR ?_;refine St.nn (St.sr ?_);refine St.mv ?_;refine St.call (lR t ht) QK (.cons (.mk rfl) .nil) rfl ?_;rintro v68 _ ⟨q4,rfl,WA,WB,rfl⟩;refine St.aq ?_;refine St.mv ?_;refine St.ee (Ev.extract (.mk rfl) rfl) ?_;refine St.ee (Ev.extract (.mk rfl) rfl) ?_;refine St.alloc pP rfl (fun mG=> ?_);refine St.sA (.mk rfl) (.mk rfl) dX ?_ (h1:=(by simp only[List.all_cons,List.all_nil,Bool.and_true,Bool.and_eq_true];exact⟨q4.vv.2,q4.kv.2⟩));refine St.sA (.mk rfl) (.mk rfl) aR ?_;refine St.nn (St.sr ?_);refine St.ee (Ev.an (.mk rfl) bC trivial (by exact aR)) ?_;refine St.ee (Ev.an (.mk rfl) bC trivial (by exact aR)) ?_;refine St.ee (Ev.s5 (.mk rfl) (.mk rfl) Tryz.eqGuardType28 (fun w=>Ex _ _ _ _ w)) ?_;refine St.mv ?_;refine St.gt _ rfl rfl (fun hg=>Ev.an (.mk rfl) fV trivial (by exact dX)) rfl ?_;refine St.gt _ rfl rfl (fun hg=>Ev.an (.mk rfl) fV trivial (by exact dX)) rfl ?_;refine St.gt _ rfl rfl (fun hg=>Ev.call (j8 q3 q4) Vu (.cons (aL.gv rfl hg) (.cons (aL.gv rfl hg) .nil))) rfl ?_;refine St.ee Ev.n0 ?_;refine St.ao ?_;refine St.nn (St.ae ?_);refine St.rU [_] [] Tryz.results3 ?_;exact be (by simp[W8,W9,WA,WB,mc])
 ·try simp only[aA]at r8
  refine St.skip (St.a7 (St.sr ?_));refine St.mv ?_;refine St.kZ gL (mb t ht) Vt (.cons (.mk rfl) .nil) rfl ?_;rintro v63 _ ⟨q3,rfl,W8,W9,rfl⟩;refine St.aq ?_;refine St.mv ?_;refine St.ee (Ev.extract (.mk rfl) rfl) ?_;refine St.ee (Ev.extract (.mk rfl) rfl) ?_;refine St.alloc pP rfl (fun iC=> ?_);refine St.sA (.mk rfl) (.mk rfl) dX ?_ (h1:=(by simp only[List.all_cons,List.all_nil,Bool.and_true,Bool.and_eq_true];exact⟨q3.vv.2,q3.kv.2⟩));refine St.sA (.mk rfl) (.mk rfl) aR ?_;refine St.nn (St.sr ?_);refine St.mv ?_;refine St.call (lR t ht) QK (.cons (.mk rfl) .nil) rfl ?_;rintro v68 _ ⟨q4,rfl,WA,WB,rfl⟩;refine St.aq ?_;refine St.mv ?_;refine St.ee (Ev.extract (.mk rfl) rfl) ?_;refine St.ee (Ev.extract (.mk rfl) rfl) ?_;refine St.alloc pP rfl (fun mG=> ?_);refine St.sA (.mk rfl) (.mk rfl) dX ?_ (h1:=(by simp only[List.all_cons,List.all_nil,Bool.and_true,Bool.and_eq_true];exact⟨q4.vv.2,q4.kv.2⟩));refine St.sA (.mk rfl) (.mk rfl) aR ?_;refine St.nn (St.sr ?_);refine St.ee (Ev.an (.mk rfl) bC trivial (by exact aR)) ?_;refine St.ee (Ev.an (.mk rfl) bC trivial (by exact aR)) ?_;refine St.ee (Ev.s5 (.mk rfl) (.mk rfl) Tryz.eqGuardType28 (fun w=>Ex _ _ _ _ w)) ?_;refine St.mv ?_;refine St.gt _ rfl rfl (fun hg=>Ev.an (.mk rfl) fV trivial (by exact dX)) rfl ?_;refine St.gt _ rfl rfl (fun hg=>Ev.an (.mk rfl) fV trivial (by exact dX)) rfl ?_;refine St.gt _ rfl rfl (fun hg=>Ev.call (j8 q3 q4) Vu (.cons (aL.gv rfl hg) (.cons (aL.gv rfl hg) .nil))) rfl ?_;refine St.ee Ev.n0 ?_;refine St.ao ?_;refine St.nn (St.ae ?_);refine St.rU [_] [] Tryz.results3 ?_;exact be (by simp[W8,W9,WA,WB,mc])
end Go.Proofs.YtoioijgdggkabaaGreatDoor
