/-
  Laws of walks through programs, and facts on grammars, trees and queries.
  Conditions: none.
-/
import Derived.Test.YtolmidffiegkaaaGreatDoorGA9
import Derived.Test.YtolmidffiegkaaaGreatDoorGA4
import Derived.Test.YtolmidffiegkaaaGreatDoorGA7
import Derived.Test.YtolmidffiegkaaaGreatDoorGA2
import Derived.Test.YtolmidffiegkaaaGreatDoorGA1
import Derived.Test.YtolmidffiegkaaaGreatDoorGA5
set_option maxRecDepth 20000
set_option linter.unusedSimpArgs false
set_option linter.unusedVariables false
namespace Go.Proofs.YtolmidffiegkaaaGreatDoor
open Go Go.J
set_option maxHeartbeats 4000000 in
theorem um (bn bl:Nat)(g:iX)(FV:∀r∈g.rules,1≤r.kids):∀(x:bh) (d ch:Nat) (s:zU),db.wf x→d≤100→ch≤100→s.nodes≤200→s.leaves≤s.nodes→fF Tryz.prog 40 #[iG g,er x,iv (d:Nat),iv (ch:Nat),Value.pointer (some ⟨bn,0,none⟩),Value.pointer (some ⟨bl,0,none⟩)] [aG (dw g),aG (cB x),ae bn (.cells [iv ((s.nodes:Nat):Int)].toArray 3 (0,0)),ae bl (.cells [iv ((s.leaves:Nat):Int)].toArray 3 (0,0))] (fun v H'=>v=fv (ik (g.rules.map bV.kids) g.bA.length (an x) d ch s).2∧∃n' l':Nat,H'=[ae bn (.cells [iv ((n':Nat):Int)].toArray 3 (0,0)),ae bl (.cells [iv ((l':Nat):Int)].toArray 3 (0,0))]∧((ik (g.rules.map bV.kids) g.bA.length (an x) d ch s).2.1=0→n'=(ik (g.rules.map bV.kids) g.bA.length (an x) d ch s).1.nodes∧l'=(ik (g.rules.map bV.kids) g.bA.length (an x) d ch s).1.leaves)):=by
 intro x
 induction x using bh.ind
 rename_i x ih
 intro d ch s hw hd hch TH sc;refine fF.body (args:=[iG g,er x,iv (d:Nat),iv (ch:Nat),Value.pointer (some ⟨bn,0,none⟩),Value.pointer (some ⟨bl,0,none⟩)]) 129 Tryz.func40 rfl Tryz.ntmps40 rfl (fun c=> ?_);refine St.seq ?_
 have cu:=NQ (g.rules.map bV.kids) g.bA.length x d ch s
 have qa:(g.rules.map bV.kids).length=g.rules.length:=List.length_map ..
 refine St.fI (dw g) (fun _:Unit=>zT g) (fun ρ h=>⟨(),h⟩) fun _=> ?_
 refine St.cast (H':=[aG (sl e6 g.tv.1 g.types),aG (aY ew g.types),aG (sl bu g.fv.1 g.bZ),aG (sl cA g.rv.1 g.rules),aG (aY cO g.rules),aG (sl cI g.xv.1 g.bA),aG (aY dX g.bA),aG (bU g.start),aG (dw g),aG (cB x),ae bn (.cells [iv ((s.nodes:Nat):Int)].toArray 3 (0,0)),ae bl (.cells [iv ((s.leaves:Nat):Int)].toArray 3 (0,0))]) rfl ?_;refine St.nE x ?_;refine St.wf x.kv.1 (fun lq tB=> ?_);obtain⟨sn,qb⟩:=s
 dsimp only at cu TH sc⊢
 refine St.wf g.rv.1 (fun _ TI=> ?_);refine St.wf g.xv.1 (fun _ TJ=> ?_)
 generalize zy:(if 0≤x.eK then(g.rules.map bV.kids).getD x.eK.toNat 0 else 0)=kn at cu
 generalize Jq:(if 0≤x.eK then qb else qb+1)=lv at cu
 generalize vJ:(if x.kids.length=1 then ch+1 else 0)=c2 at cu
 refine St.rg ?_;refine St.cV (.mk rfl) rfl (fun b6=> ?_);refine St.cV (.mk rfl) rfl (fun b7=> ?_);refine St.alloc dF rfl (fun DS=> ?_);refine St.nn (St.sr ?_);refine St.mv ?_;refine St.ee (Ev.JS (.mk rfl)) ?_;refine St.ee (Ev.l0 (.mk rfl) bP) ?_;refine St.ak ?_;refine St.nn (St.sr ?_);refine St.mv ?_;refine St.mv ?_;refine St.ee Ev.a0 ?_;refine St.ee (Ev.JS (.mk rfl)) ?_;refine St.cW (.mk rfl) (.mk rfl) cr rfl (by rfl) ?_;refine St.gg bn (L':=[iv ((sn+1:Nat):Int)]) rfl ?_;refine St.nn (St.seq (St.sr ?_));refine St.mv ?_;refine St.ee (Ev.JS (.mk rfl)) ?_;refine St.ee (Ev.l0 (.mk rfl) bP) ?_;refine St.ee Ev.qn ?_;refine St.mv ?_;refine St.gf _ rfl rfl (fun hg=>Ev.move (.mk rfl)) rfl ?_;refine St.gf _ rfl rfl (fun hg=>Ev.gtr (aL.gv rfl hg) (.mk rfl)) rfl ?_;refine St.ee Ev.o0 ?_;refine St.nn ?_;refine St.cond _ rfl (fun oE=> ?_) (fun oE=> ?_)
 ·try simp only[aC]at oE
  rw[if_pos (by omega)]at cu;refine St.sr ?_;refine St.mv ?_;refine St.ee (Ev.build (ps:=[(0,(.const (.int .i64 1))),(1,(.tmp 33))]) (aU.cons (aL.mk rfl) (aU.cons (aL.mk rfl) aU.nil)) (fun w=>bJ rfl rfl w)) ?_;refine St.sA (.mk rfl) (.mk rfl) ay ?_;refine St.nn (St.aX (St.aB ?_));refine St.rU [_] [ae bn (.cells [iv ((sn+1:Nat):Int)].toArray 3 (0,0)),ae bl (.cells [iv ((qb:Nat):Int)].toArray 3 (0,0))] Tryz.results40 ?_;rw[cu];exact⟨rfl,sn+1,qb,rfl,fun h=>absurd h (by simp)⟩
 ·try simp only[aC]at oE
  rw[if_neg (by omega)]at cu;refine St.skip (St.aA (St.seq (St.sr ?_)));refine St.ee (Ev.aD (.mk rfl) gP) ?_;refine St.ee (Ev.l0 (.mk rfl) bP) ?_;refine St.ee Ev.dn ?_;refine St.mv ?_;refine St.gf _ rfl rfl (fun hg=>Ev.aD (.mk rfl) gP) rfl ?_;refine St.gf _ rfl rfl (fun hg=>Ev.cN (aL.gv rfl hg) bP trivial (by rfl)) rfl ?_;refine St.gf _ rfl rfl (fun hg=>Ev.aD (.mk rfl) jS) rfl ?_;refine St.gf _ rfl rfl (fun hg=>Ev.cN (aL.gv rfl hg) j0 trivial (by rfl)) rfl ?_;refine St.gf _ rfl rfl (fun hg=>Ev.ao (aL.gv rfl hg) j0) rfl ?_;refine St.gf _ rfl rfl (fun hg=>Ev.geq (aL.gv rfl hg) (aL.gv rfl hg)) rfl ?_;refine St.ee Ev.o0 ?_;refine St.mv ?_;refine St.gf _ rfl rfl (fun hg=>Ev.aD (.mk rfl) gP) rfl ?_;refine St.gf _ rfl rfl (fun hg=>Ev.cN (aL.gv rfl hg) bP trivial (by rfl)) rfl ?_;refine St.gf _ rfl rfl (fun hg=>Ev.eql (aL.gv rfl hg) (.mk rfl)) rfl ?_;refine St.gf _ rfl rfl (fun hg=>Ev.move (aL.gv rfl hg)) rfl ?_;refine St.oZ _ rfl rfl (fun hg=>Ev.aD (.mk rfl) nY) rfl ?_;refine St.oZ _ rfl rfl (fun hg=>Ev.cN (aL.gv rfl hg) bP trivial (by rfl)) rfl ?_;refine St.oZ _ rfl rfl (fun hg=>Ev.lss (aL.gv rfl hg) (.mk rfl)) rfl ?_;refine St.oZ _ rfl rfl (fun hg=>Ev.move (aL.gv rfl hg)) rfl ?_;refine St.lR _ rfl rfl (fun hg=>Ev.aD (.mk rfl) nY) rfl ?_;refine St.lR _ rfl rfl (fun hg=>Ev.cN (aL.gv rfl hg) bP trivial (by rfl)) rfl ?_;refine St.lR _ rfl rfl (fun hg=>Ev.aD (.mk rfl) jR) rfl ?_;refine St.lR _ rfl rfl (fun hg=>Ev.cN (aL.gv rfl hg) j1 trivial (by rfl)) rfl ?_;refine St.lR _ rfl rfl (fun hg=>Ev.ao (aL.gv rfl hg) j1) rfl ?_;refine St.lR _ rfl rfl (fun hg=>Ev.geq (aL.gv rfl hg) (aL.gv rfl hg)) rfl ?_;refine St.oZ _ rfl rfl (fun hg=>Ev.or (aL.gv rfl hg) (fun hp=>aL.gv rfl (hN hg hp))) rfl ?_;refine St.gf _ rfl rfl (fun hg=>Ev.and (aL.gv rfl hg) (fun hp=>aL.gv rfl (hN hg hp))) rfl ?_;refine St.ee Ev.o0 ?_;refine St.nn ?_;refine St.cond _ rfl (fun Cy=> ?_) (fun Cy=> ?_)
  ·try simp only[aC]at Cy
   rw[if_pos (by omega)]at cu;refine St.sr ?_;refine St.mv ?_;refine St.ee (Ev.build (ps:=[(0,(.const (.int .i64 3))),(1,(.tmp 64))]) (aU.cons (aL.mk rfl) (aU.cons (aL.mk rfl) aU.nil)) (fun w=>bJ rfl rfl w)) ?_;refine St.sA (.mk rfl) (.mk rfl) ay ?_;refine St.nn (St.aX (St.aB ?_));refine St.rU [_] [ae bn (.cells [iv ((sn+1:Nat):Int)].toArray 3 (0,0)),ae bl (.cells [iv ((qb:Nat):Int)].toArray 3 (0,0))] Tryz.results40 ?_;rw[cu];exact⟨rfl,sn+1,qb,rfl,fun h=>absurd h (by simp)⟩
  ·try simp only[aC]at Cy
   rw[if_neg (by omega)]at cu;refine St.skip (St.aA (St.seq (St.sr ?_)));refine St.ee (Ev.aD (.mk rfl) gP) ?_;refine St.ee (Ev.l0 (.mk rfl) bP) ?_;refine St.ee Ev.qV ?_;refine St.mv ?_;refine St.gt _ rfl rfl (fun hg=>Ev.aD (.mk rfl) nY) rfl ?_;refine St.gt _ rfl rfl (fun hg=>Ev.cN (aL.gv rfl hg) bP trivial (by rfl)) rfl ?_;refine St.gt _ rfl rfl (fun hg=>Ev.neq (aL.gv rfl hg) (.mk rfl)) rfl ?_;refine St.ee Ev.n0 ?_;refine St.nn ?_;refine St.cond _ rfl (fun AK=> ?_) (fun AK=> ?_)
   ·try simp only[aC]at AK
    rw[if_pos (by omega)]at cu;refine St.sr ?_;refine St.mv ?_;refine St.ee (Ev.build (ps:=[(0,(.const (.int .i64 5))),(1,(.tmp 74))]) (aU.cons (aL.mk rfl) (aU.cons (aL.mk rfl) aU.nil)) (fun w=>bJ rfl rfl w)) ?_;refine St.sA (.mk rfl) (.mk rfl) ay ?_;refine St.nn (St.aX (St.aB ?_));refine St.rU [_] [ae bn (.cells [iv ((sn+1:Nat):Int)].toArray 3 (0,0)),ae bl (.cells [iv ((qb:Nat):Int)].toArray 3 (0,0))] Tryz.results40 ?_;rw[cu];exact⟨rfl,sn+1,qb,rfl,fun h=>absurd h (by simp)⟩
   ·try simp only[aC]at AK
    rw[if_neg (by omega)]at cu;refine St.skip (St.aA (St.sr ?_));refine St.ak ?_;refine St.nn ?_;refine St.join (ι:=Unit) (fun u T=>(14,iv kn)::T) (fun u=>[ae b7 (.cells (k6 x).toArray 39 (0,0)),ae DS (.cells [iv 0,iv 0].toArray 42 (0,0)),ae b6 (.cells [g.tv.1,g.fv.1,g.rv.1,g.xv.1,g.start.nv.1].toArray 32 (0,0)),ae bn (.cells [iv ((sn+1:Nat):Int)].toArray 3 (0,0)),ae bl (.cells [iv ((qb:Nat):Int)].toArray 3 (0,0)),aG (sl db x.kv.1 x.kids),aG (aY cB x.kids),aG (sl cA g.rv.1 g.rules),aG (sl cI g.xv.1 g.bA),aG (dw g)]) (fun u=>(ik (g.rules.map bV.kids) g.bA.length (an x) d ch ⟨sn,qb⟩=if(x.kids.length:Int)≠kn then(⟨sn+1,lv⟩,9,(sn:Int))else if 3<c2 then(⟨sn+1,lv⟩,14,(sn:Int))else iZ (g.rules.map bV.kids) g.bA.length (x.kids.map an) (d+1) c2 ⟨sn+1,lv⟩)∧sn+1≤200∧d≤48∧(kn=0↔x.eK<0)) (aE.cons 2 rfl (aE.cons 3 rfl (aE.cons 4 rfl (aE.cons 5 rfl (aE.cons 6 rfl (aE.cons 7 rfl (aE.cons 12 rfl (aE.cons 13 rfl aE.nil)))))))) ?_ ?_
    ·refine St.sr ?_
     refine St.ee (Ev.aD (.mk rfl) gP) ?_;refine St.ee (Ev.l0 (.mk rfl) bP) ?_;refine St.ee Ev.qV ?_;refine St.nn ?_;refine St.cond _ rfl (fun vW=> ?_) (fun vW=> ?_)
     ·try simp only[aC]at vW
      obtain⟨ru,BE⟩:=aO (show x.eK.toNat<g.rules.length by omega)
      have Hg:kn=ru.kids:=by rw[←zy,if_pos (by omega),List.getD_eq_getElem?_getD,List.getElem?_map,BE];rfl
      have lz:=FV ru (List.mem_of_getElem? BE)
      refine St.rg ?_;refine St.ee (Ev.aD (.mk rfl) jS) ?_;refine St.ee (Ev.l0 (.mk rfl) j0) ?_;refine St.ee (Ev.aD (.mk rfl) gP) ?_;refine St.ee (Ev.l0 (.mk rfl) bP) ?_;refine St.ee (Ev.aR (k:=x.eK.toNat) (.mk rfl) (.mk rfl) j0 nL (by omega) (by omega)) ?_;refine St.ee (Ev.e8 (.mk rfl) (by omega) nV) ?_;refine St.ee (Ev.ff (.mk rfl) BE bP trivial rfl) ?_;refine St.slot 85 (iv kn) rfl (congrArg iv Hg.symm) ?_;refine St.ak ?_;refine St.nn ?_;refine St.mE () ⟨cu,by omega,by omega,by omega⟩
     ·try simp only[aC]at vW
      have Hg:kn=0:=by rw[←zy,if_neg (by omega)]
      refine St.skip (St.aA ?_);refine St.slot 14 (iv kn) rfl (congrArg iv Hg.symm) ?_;refine St.mE () ⟨cu,by omega,by omega,by omega⟩
    ·rintro _ ⟨cu,ZD,ZE,Pd⟩
     refine St.seq (St.sr ?_);refine St.ee (Ev.aD (.mk rfl) lN) ?_;refine St.ee (Ev.l0 (.mk rfl) jP) ?_;refine St.ee (Ev.ao (.mk rfl) jP) ?_;refine St.mv ?_;refine St.ee Ev.k9 ?_;refine St.nn ?_;refine St.cond _ rfl (fun h90=> ?_) (fun h90=> ?_)
     ·try simp only[aC]at h90
      rw[if_pos (by omega)]at cu;refine St.sr ?_;refine St.mv ?_;refine St.ee (Ev.build (ps:=[(0,(.const (.int .i64 9))),(1,(.tmp 91))]) (aU.cons (aL.mk rfl) (aU.cons (aL.mk rfl) aU.nil)) (fun w=>bJ rfl rfl w)) ?_;refine St.sA (.mk rfl) (.mk rfl) ay ?_;refine St.nn (St.aX (St.aB ?_));refine St.rU [_] [ae bn (.cells [iv ((sn+1:Nat):Int)].toArray 3 (0,0)),ae bl (.cells [iv ((qb:Nat):Int)].toArray 3 (0,0))] Tryz.results40 ?_;rw[cu];exact⟨rfl,sn+1,qb,rfl,fun h=>absurd h (by simp)⟩
     ·try simp only[aC]at h90
      rw[if_neg (by omega)]at cu;refine St.skip (St.aA ?_);refine St.join (ι:=Unit) (fun u T=>(3,iv ((c2:Nat):Int))::T) (fun u=>[ae b7 (.cells (k6 x).toArray 39 (0,0)),ae DS (.cells [iv 0,iv 0].toArray 42 (0,0)),ae b6 (.cells [g.tv.1,g.fv.1,g.rv.1,g.xv.1,g.start.nv.1].toArray 32 (0,0)),ae bn (.cells [iv ((sn+1:Nat):Int)].toArray 3 (0,0)),ae bl (.cells [iv ((qb:Nat):Int)].toArray 3 (0,0)),aG (sl db x.kv.1 x.kids),aG (aY cB x.kids),aG (sl cA g.rv.1 g.rules),aG (sl cI g.xv.1 g.bA),aG (dw g)]) (fun u=>True) (aE.cons 2 rfl (aE.cons 4 rfl (aE.cons 5 rfl (aE.cons 6 rfl (aE.cons 7 rfl (aE.cons 12 rfl (aE.cons 13 rfl (aE.cons 14 rfl aE.nil)))))))) ?_ ?_
      ·refine St.sr ?_
       refine St.mv ?_;refine St.ee Ev.ey ?_;refine St.nn ?_;refine St.cond _ rfl (fun Pa=> ?_) (fun Pa=> ?_)
       ·try simp only[aC]at Pa
        have LD:c2=ch+1:=by rw[←vJ,if_pos (by omega)]
        refine St.rg ?_;refine St.mv ?_;refine St.ee Ev.a0 ?_;refine St.ak ?_;refine St.nn ?_;refine St.slot 3 (iv ((c2:Nat):Int)) rfl (congrArg iv (by omega)) ?_;refine St.mE () trivial
       ·try simp only[aC]at Pa
        have LD:c2=0:=by rw[←vJ,if_neg (by omega)]
        refine St.rg ?_;refine St.ak ?_;refine St.nn ?_;refine St.slot 3 (iv ((c2:Nat):Int)) rfl (congrArg iv (by omega)) ?_;refine St.mE () trivial
      ·intro _ _
       refine St.seq (St.sr ?_);refine St.mv ?_;refine St.ee Ev.qn ?_;refine St.nn ?_;refine St.cond _ rfl (fun h98=> ?_) (fun h98=> ?_)
       ·try simp only[aC]at h98
        rw[if_pos (by omega)]at cu;refine St.sr ?_;refine St.mv ?_;refine St.ee (Ev.build (ps:=[(0,(.const (.int .i64 14))),(1,(.tmp 99))]) (aU.cons (aL.mk rfl) (aU.cons (aL.mk rfl) aU.nil)) (fun w=>bJ rfl rfl w)) ?_;refine St.sA (.mk rfl) (.mk rfl) ay ?_;refine St.nn (St.aX (St.aB ?_));refine St.rU [_] [ae bn (.cells [iv ((sn+1:Nat):Int)].toArray 3 (0,0)),ae bl (.cells [iv ((qb:Nat):Int)].toArray 3 (0,0))] Tryz.results40 ?_;rw[cu];exact⟨rfl,sn+1,qb,rfl,fun h=>absurd h (by simp)⟩
       ·try simp only[aC]at h98
        rw[if_neg (by omega)]at cu;refine St.skip (St.aA ?_);refine St.join (ι:=Unit) (fun u T=>T) (fun u=>[ae b7 (.cells (k6 x).toArray 39 (0,0)),ae DS (.cells [iv 0,iv 0].toArray 42 (0,0)),ae b6 (.cells [g.tv.1,g.fv.1,g.rv.1,g.xv.1,g.start.nv.1].toArray 32 (0,0)),ae bn (.cells [iv ((sn+1:Nat):Int)].toArray 3 (0,0)),ae bl (.cells [iv ((lv:Nat):Int)].toArray 3 (0,0)),aG (sl db x.kv.1 x.kids),aG (aY cB x.kids),aG (sl cA g.rv.1 g.rules),aG (sl cI g.xv.1 g.bA),aG (dw g)]) (fun u=>True) (aE.cons 2 rfl (aE.cons 3 rfl (aE.cons 4 rfl (aE.cons 5 rfl (aE.cons 6 rfl (aE.cons 7 rfl (aE.cons 12 rfl aE.nil))))))) ?_ ?_
        ·refine St.sr ?_
         refine St.mv ?_;refine St.ee Ev.ey ?_;refine St.nn ?_;refine St.cond _ rfl (fun QZ=> ?_) (fun QZ=> ?_)
         ·try simp only[aC]at QZ
          have Jp:lv=qb+1:=by rw[←Jq,if_neg (by omega)]
          refine St.rg ?_;refine St.mv ?_;refine St.ee (Ev.JS (.mk rfl)) ?_;refine St.ee (Ev.l0 (.mk rfl) bP) ?_;refine St.ee Ev.a0 ?_;refine St.ee (Ev.JS (.mk rfl)) ?_;refine St.cW (.mk rfl) (.mk rfl) cr rfl (by rfl) ?_;refine St.gg bl (L':=[iv ((lv:Nat):Int)]) (by rw[Jp];rfl) ?_;refine St.nn ?_;refine St.mE () trivial
         ·try simp only[aC]at QZ
          have Jp:lv=qb:=by rw[←Jq,if_pos (by omega)]
          refine St.skip (St.aA ?_);refine St.gg bl (L':=[iv ((lv:Nat):Int)]) (by rw[Jp]) ?_;refine St.mE () trivial
        ·intro _ _
         refine St.seq (St.sr ?_);refine St.ee (Ev.aD (.mk rfl) lN) ?_;refine St.ee (Ev.l0 (.mk rfl) jP) ?_;refine St.ee (Ev.ao (.mk rfl) jP) ?_;refine St.mv ?_;refine St.nn (St.block ?_);refine St.mf (ι:=Nat) (κ:=zU) (fun k z T=>(111,iv k)::T) (fun k z=>[ae DS (.cells [iv 0,iv 0].toArray 42 (0,0)),ae b6 (.cells [g.tv.1,g.fv.1,g.rv.1,g.xv.1,g.start.nv.1].toArray 32 (0,0)),ae bn (.cells [iv ((z.nodes:Nat):Int)].toArray 3 (0,0)),ae bl (.cells [iv ((z.leaves:Nat):Int)].toArray 3 (0,0)),aG (sl db x.kv.1 x.kids),aG (aY cB x.kids),aG (sl cA g.rv.1 g.rules),aG (sl cI g.xv.1 g.bA),aG (dw g)]) (fun k z=>k≤x.kids.length∧ik (g.rules.map bV.kids) g.bA.length (an x) d ch ⟨sn,qb⟩=iZ (g.rules.map bV.kids) g.bA.length ((x.kids.map an).drop k) (d+1) c2 z∧z.nodes≤200∧z.leaves≤z.nodes) (fun k z=>x.kids.length-k) 0 ⟨sn+1,lv⟩ (aE.cons 2 rfl (aE.cons 3 rfl (aE.cons 4 rfl (aE.cons 5 rfl (aE.cons 6 rfl (aE.cons 12 rfl (aE.cons 109 rfl (aE.cons 110 rfl aE.nil)))))))) ⟨Nat.zero_le _,cu,by dsimp only;omega,by dsimp only;rw[←Jq];split<;>omega⟩ ?_;rintro k ⟨zn,zl⟩ ⟨hk,F2,TK,K0⟩
         dsimp only at TK K0⊢
         refine St.sr ?_;refine St.ee Ev.dn ?_;refine St.nn (St.seq ?_);refine St.cond _ rfl (fun Qa=> ?_) (fun Qa=> ?_)
         ·try simp only[aC]at Qa
          obtain⟨y,hy⟩:=aO (show k<x.kids.length by omega)
          have lr:=List.mem_of_getElem? hy
          refine St.cD cB x.kids (x:=y) lr ?_
          have jJ:=wq (rk:=(g.rules.map bV.kids)) (nl:=g.bA.length) hy (d+1) c2 ⟨zn,zl⟩
          refine St.skip (St.aA (St.seq (St.block (St.sr ?_))));refine St.ee (Ev.aR (k:=k) (.mk rfl) (.mk rfl) jP gZ (by omega) (by omega)) ?_;refine St.ee (Ev.fg (.mk rfl) hy lk trivial gZ ei.eq) ?_;refine St.alloc AH rfl (fun LI=> ?_);refine St.sA (.mk rfl) (.mk rfl) gZ ?_ (h1:=(by simp only[List.all_cons,List.all_nil,Bool.and_true,Bool.and_eq_true];exact⟨rfl,rfl,y.kv.2⟩));refine St.nn (St.seq ?_);refine St.dup (dw g) ?_;refine St.rg ?_;refine St.ee (Ev.bF (.mk rfl) sK trivial (by exact qo)) ?_;refine St.slot 115 (iG g) rfl rfl ?_;refine St.ee (Ev.bF (.mk rfl) lk trivial (by exact gZ)) ?_;refine St.mv ?_;refine St.ee Ev.a0 ?_;refine St.slot 118 (iv ((d+1:Nat):Int)) rfl rfl ?_;refine St.mv ?_;refine St.mv ?_;refine St.mv ?_;refine St.call (ih y lr (d+1) c2 ⟨zn,zl⟩ (lq y lr) (by omega) (by omega) TK K0) WG (.cons (.mk rfl) (.cons (.mk rfl) (.cons (.mk rfl) (.cons (.mk rfl) (.cons (.mk rfl) (.cons (.mk rfl) .nil)))))) rfl ?_;rintro Un _ ⟨rfl,n2,l2,rfl,yy⟩;refine St.cb ?_;refine St.alloc dF rfl (fun NR=> ?_);refine St.sA (.mk rfl) (.mk rfl) ay ?_;refine St.nn (St.sr ?_);refine St.ee (Ev.aD (.mk rfl) cX) ?_;refine St.ee (Ev.l0 (.mk rfl) bP) ?_;refine St.ee Ev.k9 ?_;refine St.nn ?_;refine St.cond _ rfl (fun JT=> ?_) (fun JT=> ?_)
          ·skip
           have r5:(ik (g.rules.map bV.kids) g.bA.length (an y) (d+1) c2 ⟨zn,zl⟩).2.1≠0:=by simpa using JT
           rw[if_pos r5]at jJ;rw[jJ]at F2;refine St.sr ?_;refine St.ee (Ev.bF (.mk rfl) fl trivial (by exact ay)) ?_;refine St.sA (.mk rfl) (.mk rfl) ay ?_;refine St.nn (St.aX (St.aM (St.aB (St.aB (St.aM (St.aB ?_))))));refine St.rU [_] [ae bn (.cells [iv ((n2:Nat):Int)].toArray 3 (0,0)),ae bl (.cells [iv ((l2:Nat):Int)].toArray 3 (0,0))] Tryz.results40 ?_;rw[F2];exact⟨rfl,n2,l2,rfl,fun h=>absurd h r5⟩
          ·skip
           have r5:¬(ik (g.rules.map bV.kids) g.bA.length (an y) (d+1) c2 ⟨zn,zl⟩).2.1≠0:=by simpa using JT
           rw[if_neg r5]at jJ
           have fR:=yV (an y) (d+1) c2 ⟨zn,zl⟩ (Decidable.not_not.1 r5) K0
           obtain⟨rfl,rfl⟩:=yy (Decidable.not_not.1 r5);refine St.skip (St.aN (St.aA (St.rg ?_)));refine St.ee Ev.a0 ?_;refine St.mv ?_;refine St.nn ?_;refine St.jb (k+1) (ik (g.rules.map bV.kids) g.bA.length (an y) (d+1) c2 ⟨zn,zl⟩).1 ⟨by omega,F2.trans jJ,fR.1,fR.2⟩
         ·try simp only[aC]at Qa
          rw[AJ (by omega)]at F2;refine St.exit (St.aF (St.aF (St.bH (St.aA (St.sr ?_)))));refine St.ee (Ev.build (ps:=[]) (aU.nil) (fun w=>fA w)) ?_;refine St.sA (.mk rfl) (.mk rfl) ay ?_;refine St.nn (St.aX ?_);refine St.rU [_] [ae bn (.cells [iv ((zn:Nat):Int)].toArray 3 (0,0)),ae bl (.cells [iv ((zl:Nat):Int)].toArray 3 (0,0))] Tryz.results40 ?_;rw[F2];exact⟨rfl,zn,zl,rfl,fun _=>⟨rfl,rfl⟩⟩
set_option maxHeartbeats 2000000 in
theorem Cn (g:iX)(t:bh)(hw:db.wf t)(FV:∀r∈g.rules,1≤r.kids):ct Tryz.prog 11 #[iG g,er t] [dw g,cB t] (fv (ja (fV g) (an t))):=by
 unfold ct;refine fF.body (args:=[iG g,er t]) 20 Tryz.func11 rfl Tryz.ntmps11 rfl (fun c=> ?_);refine St.cast (H':=[aG (dw g),aG (cB t)]) rfl ?_;refine St.seq ?_;refine St.cast (H':=[aG (dw g),aG (cB t)]) rfl ?_
 have cu:=DZ g t
 refine St.rg ?_;refine St.cV (.mk rfl) rfl (fun b2=> ?_);refine St.cV (.mk rfl) rfl (fun b3=> ?_);refine St.alloc dF rfl (fun b4=> ?_);refine St.nn (St.sr ?_);refine St.alloc ND rfl (fun b5=> ?_);refine St.alloc ND rfl (fun b6=> ?_);refine St.cW (.mk rfl) (.mk rfl) cr rfl (by rfl) ?_;refine St.gg b5 (L':=[iv ((0:Nat):Int)]) rfl ?_;refine St.cW (.mk rfl) (.mk rfl) cr rfl (by rfl) ?_;refine St.gg b6 (L':=[iv ((0:Nat):Int)]) rfl ?_;refine St.nn (St.sr ?_);refine St.ee (Ev.bF (.mk rfl) sK trivial (by exact qo)) ?_;refine St.slot 8 (iG g) rfl rfl ?_;refine St.ee (Ev.bF (.mk rfl) lk trivial (by exact gZ)) ?_;refine St.call (um b5 b6 g FV t 1 0 ⟨0,0⟩ hw (by omega) (by omega) (by simp) (by simp)) WG (.cons (.mk rfl) (.cons (.mk rfl) (.cons (.mk rfl) (.cons (.mk rfl) (.cons (.mk rfl) (.cons (.mk rfl) .nil)))))) rfl ?_;rintro v10 _ ⟨rfl,n2,l2,rfl,yy⟩;refine St.cb ?_;refine St.alloc dF rfl (fun b7=> ?_);refine St.sA (.mk rfl) (.mk rfl) ay ?_;refine St.nn (St.seq (St.sr ?_));refine St.ee (Ev.aD (.mk rfl) cX) ?_;refine St.ee (Ev.l0 (.mk rfl) bP) ?_;refine St.ee Ev.ey ?_;refine St.mv ?_;refine St.gt _ rfl rfl (fun hg=>Ev.cN (.mk rfl) bP trivial (by rfl)) rfl ?_;refine St.gt _ rfl rfl (fun hg=>Ev.gtr (aL.gv rfl hg) (.mk rfl)) rfl ?_;refine St.ee Ev.n0 ?_;refine St.nn ?_;refine St.cond _ rfl (fun m8=> ?_) (fun m8=> ?_)
 ·skip
  simp only[Bool.and_eq_true,decide_eq_true_eq]at m8
  have r5:(ik (g.rules.map bV.kids) g.bA.length (an t) 1 0 ⟨0,0⟩).2.1=0:=m8.1
  obtain⟨_,rfl⟩:=yy r5;rw[if_neg (by simpa using r5),if_pos (by omega)]at cu;refine St.sr ?_;refine St.ee (Ev.build (ps:=[(0,(.const (.int .i64 2))),(1,(.const (.int .i64 (-2))))]) (aU.cons (aL.mk rfl) (aU.cons (aL.mk rfl) aU.nil)) (fun w=>bJ rfl rfl w)) ?_;refine St.sA (.mk rfl) (.mk rfl) ay ?_;refine St.nn (St.aX (St.aB ?_));refine St.rU [_] [] Tryz.results11 ?_;exact congrArg fv cu.symm
 ·skip
  have nS:ja (fV g) (an t)=(ik (g.rules.map bV.kids) g.bA.length (an t) 1 0 ⟨0,0⟩).2:=by rw[cu];by_cases r5:(ik (g.rules.map bV.kids) g.bA.length (an t) 1 0 ⟨0,0⟩).2.1=0;(obtain⟨_,rfl⟩:=yy r5;rw[if_neg (by simpa using r5),if_neg (by intro h;simp only[Bool.and_eq_false_iff,decide_eq_false_iff_not]at m8;rcases m8 with m8|m8;exact m8 r5;omega),He _ _ _ _ r5]);rw[if_pos r5]
  refine St.skip (St.aA (St.sr ?_));refine St.ee (Ev.bF (.mk rfl) fl trivial (by exact ay)) ?_;refine St.sA (.mk rfl) (.mk rfl) ay ?_;refine St.nn (St.aX ?_);refine St.rU [_] [] Tryz.results11 ?_;exact congrArg fv nS.symm
set_option maxHeartbeats 1000000 in
theorem sC (nr nl:Nat):∀x:bh,db.wf x→fq nr nl (an x)→mc (an x)≤200→ct Tryz.prog 42 #[er x] [cB x] (iv (mc (an x):Nat)):=by
 intro x
 induction x using bh.ind
 rename_i x ih
 intro hw hg Jq;refine ct.ic (args:=[er x]) 24 Tryz.func42 rfl Tryz.ntmps42 rfl (fun c=> ?_);refine St.seq ?_;refine St.cast (H':=[aG (cB x)]) rfl ?_
 have F4:=Hi x
 obtain⟨TN,hle,Qx⟩:=yW x hg;refine St.nE x ?_;refine St.wf x.kv.1 (fun lq tB=> ?_);refine St.rg ?_;refine St.cV (.mk rfl) rfl (fun b1=> ?_);refine St.ak ?_;refine St.nn (St.seq (St.sr ?_));refine St.ee (Ev.aD (.mk rfl) gP) ?_;refine St.ee (Ev.l0 (.mk rfl) bP) ?_;refine St.ee Ev.dn ?_;refine St.nn ?_;refine St.cond _ rfl (fun h7=> ?_) (fun h7=> ?_)
 ·try simp only[aC]at h7
  obtain⟨Pd,_⟩:=hle h7;rw[if_pos (by omega),Pd,List.map_nil,jF]at F4;refine St.sr ?_;refine St.ak ?_;refine St.nn (St.aX (St.aB ?_));refine St.rU [_] [] Tryz.results42 ?_;exact congrArg iv (by omega)
 ·try simp only[aC]at h7
  rw[if_neg (by omega),Nat.zero_add]at F4;refine St.skip (St.aA (St.sr ?_));refine St.ak ?_;refine St.nn (St.seq (St.sr ?_));refine St.ak ?_;refine St.nn (St.block ?_);refine St.slot 3 (iv ((jF ((x.kids.map an).take 0):Nat):Int)) rfl (congrArg iv (by rw[List.take_zero,jF];rfl)) ?_;refine St.lH (ι:=Nat) (fun k T=>(4,iv k)::(3,iv ((jF ((x.kids.map an).take k):Nat):Int))::T) (fun k=>[ae b1 (.cells (k6 x).toArray 39 (0,0)),aG (sl db x.kv.1 x.kids),aG (aY cB x.kids)]) (fun k=>k≤x.kids.length) (fun k=>x.kids.length-k) 0 (aE.cons 1 rfl (aE.cons 2 rfl aE.nil)) (Nat.zero_le _) ?_;intro k hk;refine St.seq (St.sr ?_);refine St.mv ?_;refine St.ee (Ev.aD (.mk rfl) lN) ?_;refine St.ee (Ev.l0 (.mk rfl) jP) ?_;refine St.ee (Ev.ao (.mk rfl) jP) ?_;refine St.ee Ev.dn ?_;refine St.nn ?_;refine St.cond _ rfl (fun QI=> ?_) (fun QI=> ?_)
  ·try simp only[aC]at QI
   obtain⟨y,hy⟩:=aO (show k<x.kids.length by omega)
   have lr:=List.mem_of_getElem? hy
   have qA:(x.kids.map an)[k]?=some (an y):=by rw[List.getElem?_map,hy];rfl
   refine St.cD cB x.kids (x:=y) lr ?_;obtain⟨LH,Sh⟩:=uI qA;refine St.skip (St.aA (St.seq (St.block (St.rg ?_))));refine St.mv ?_;refine St.ee (Ev.aD (.mk rfl) lN) ?_;refine St.ee (Ev.l0 (.mk rfl) jP) ?_;refine St.mv ?_;refine St.ee (Ev.aR (k:=k) (.mk rfl) (.mk rfl) jP gZ (by omega) (by omega)) ?_;refine St.ee (Ev.fg (.mk rfl) hy lk trivial gZ ei.eq) ?_;refine St.slot 20 (er y) rfl rfl ?_;refine St.ee (Ev.call (ih y lr (lq y lr) (Qx y lr) (by omega)) QC (.cons (.mk rfl) .nil)) ?_;refine St.ee Ev.a0 ?_;refine St.ak ?_;refine St.nil (St.aN (St.aA (St.rg ?_)));refine St.mv ?_;refine St.ee Ev.a0 ?_;refine St.ak ?_;refine St.nn ?_;refine St.slot 3 (iv ((jF ((x.kids.map an).take (k+1)):Nat):Int)) rfl (congrArg iv (by rw[LH];omega)) ?_;refine St.aH (k+1) (by omega)
  ·try simp only[aC]at QI
   have qa:(x.kids.map an).length≤k:=by rw[List.length_map];omega
   rw[List.take_of_length_le qa];refine St.exit (St.aF (St.aF (St.bH (St.aA (St.sr ?_)))));refine St.mv ?_;refine St.ak ?_;refine St.nn (St.aX ?_);refine St.rU [_] [] Tryz.results42 ?_;exact congrArg iv (by omega)
structure B0 where
 path:List Int
 leaf:Bool
 label:cQ
 oO:Int
 qTo:Int
mutual
def B1 (g:iV):fG→List Int→Nat→List B0
 | .mk r x l,p,w=>⟨p,decide (r<0),sI g r x,w,((w+((if r<0 then 1 else 0)+jF l):Nat):Int)⟩::xO g l p 0 w
def xO (g:iV):List fG→List Int→Nat→Nat→List B0
 | [],_,_,_=>[]
 |x::l,p,i,w=>B1 g x (p++ [(i:Int)]) w++xO g l p (i+1) (w+mc x)
end
mutual
def Dz (g:iV):fG→List Int→Nat→Int→Nat→List (Nq×B0)
 | .mk r x l,p,k,up,w=>(⟨k,decide (r<0),sI g r x,up,k+(1+m6 l),w,w+((if r<0 then 1 else 0)+jF l)⟩,⟨p,decide (r<0),sI g r x,w,((w+((if r<0 then 1 else 0)+jF l):Nat):Int)⟩)::BJ g l p 0 (k+1) k w
def BJ (g:iV):List fG→List Int→Nat→Nat→Int→Nat→List (Nq×B0)
 | [],_,_,_,_,_=>[]
 |x::l,p,i,k,up,w=>Dz g x (p++ [(i:Int)]) k up w++BJ g l p (i+1) (k+oP x) up (w+mc x)
end
mutual
theorem yr (g:iV):∀(t:fG) (p:List Int) (k:Nat) (up:Int) (w:Nat),(Dz g t p k up w).map Prod.snd=B1 g t p w
 | .mk r x l,p,k,up,w=>by rw[Dz,B1,List.map_cons,E0 g l]
theorem E0 (g:iV):∀(l:List fG) (p:List Int) (i k:Nat) (up:Int) (w:Nat),(BJ g l p i k up w).map Prod.snd=xO g l p i w
 | [],_,_,_,_,_=>by rw[BJ,xO];rfl
 |x::l,p,i,k,up,w=>by rw[BJ,xO,List.map_append,yr g x,E0 g l]
end
mutual
theorem yt {nr nl:Nat}(g:iV):∀(t:fG) (p:List Int) (k:Nat) (up:Int) (w:Nat),fq nr nl t→(Dz g t p k up w).map Prod.fst=m7 g t k up w
 | .mk r x l,p,k,up,w,h=>by
  rw[fq]at h
  by_cases hr:r<0
  ·rw[(h.2.1 hr).1,Dz,m7,BJ,pQ];rfl
  ·rw[Dz,m7,List.map_cons,E1 g l _ _ _ _ _ h.2.2.2,if_neg hr];rfl
theorem E1 {nr nl:Nat}(g:iV):∀(l:List fG) (p:List Int) (i k:Nat) (up:Int) (w:Nat),lg nr nl l→(BJ g l p i k up w).map Prod.fst=pQ g l k up w
 | [],_,_,_,_,_,_=>by rw[BJ,pQ];rfl
 |x::l,p,i,k,up,w,h=>by
  rw[lg]at h;rw[BJ,pQ,List.map_append,yt g x _ _ _ _ h.1,E1 g l _ _ _ _ _ h.2]
end
mutual
theorem su (g:iV):∀(t:fG) (p:List Int) (k:Nat) (up:Int) (w:Nat),∀z∈Dz g t p k up w,z.2.leaf=z.1.leaf∧z.2.label=z.1.label∧z.2.oO=z.1.oO∧z.2.qTo=z.1.«to»
 | .mk r x l,p,k,up,w,z,h=>by
  rw[Dz]at h
  rcases List.mem_cons.1 h with rfl|h
  ·exact⟨rfl,rfl,rfl,rfl⟩
  ·exact B2 g l _ _ _ _ _ z h
theorem B2 (g:iV):∀(l:List fG) (p:List Int) (i k:Nat) (up:Int) (w:Nat),∀z∈BJ g l p i k up w,z.2.leaf=z.1.leaf∧z.2.label=z.1.label∧z.2.oO=z.1.oO∧z.2.qTo=z.1.«to»
 | [],_,_,_,_,_,z,h=>by rw[BJ]at h;cases h
 |x::l,p,i,k,up,w,z,h=>by
  rw[BJ]at h
  rcases List.mem_append.1 h with h|h
  ·exact su g x _ _ _ _ z h
  ·exact B2 g l _ _ _ _ _ z h
end
def Rel (x y:Nq×B0):Prop:=((x.1.no≤y.1.no∧y.1.no<x.1.fin)↔x.2.path<+:y.2.path)∧(y.1.up=(x.1.no:Int)↔(x.2.path<+:y.2.path∧y.2.path.length=x.2.path.length+1))
structure PrT (p:List Int)(k n:Nat)(up:Int)(L:List (Nq×B0)):Prop where
 E2:∀z∈L,p<+:z.2.path∧k≤z.1.no∧z.1.no<z.1.fin∧z.1.fin≤k+n
 top:∀z∈L,(z.1.no=k∧z.2.path=p∧z.1.up=up)∨(p.length<z.2.path.length∧k<z.1.no∧(k:Int)≤z.1.up∧z.1.up<z.1.no∧∃y∈L,z.1.up=(y.1.no:Int))
 rel:∀x∈L,∀y∈L,Rel x y
structure PrL (p:List Int)(i k n:Nat)(up:Int)(L:List (Nq×B0)):Prop where
 E2:∀z∈L,(∃j:Nat,i≤j∧(p++ [(j:Int)])<+:z.2.path)∧k≤z.1.no∧z.1.no<z.1.fin∧z.1.fin≤k+n
 top:∀z∈L,(z.2.path.length=p.length+1∧z.1.up=up)∨(p.length+1<z.2.path.length∧(k:Int)≤z.1.up∧z.1.up<z.1.no∧∃y∈L,z.1.up=(y.1.no:Int))
 rel:∀x∈L,∀y∈L,Rel x y
theorem E3 {p q:List Int}{i j:Int}(h1:(p++ [i])<+:q)(h2:(p++ [j])<+:q):i=j:=by
 obtain⟨a,ha⟩:=h1;obtain⟨b,hb⟩:=h2;rw[←hb,List.append_assoc,List.append_assoc]at ha
 have:=List.append_cancel_left ha
 simp only[List.cons_append,List.nil_append,List.cons.injEq]at this
 exact this.1
theorem sx {p q:List Int}(h:p<+:q):p.length≤q.length:=h.length_le
mutual
theorem JU (g:iV):∀(t:fG) (p:List Int) (k:Nat) (up:Int) (w:Nat),up<k→PrT p k (oP t) up (Dz g t p k up w)
 | .mk r x l,p,k,up,w,Rl=>by
  have ih:=JV g l p 0 (k+1) k w (by omega)
  rw[Dz,oP]
  constructor
  ·intro z hz
   rcases List.mem_cons.1 hz with rfl|hz
   ·exact⟨List.prefix_refl _,Nat.le_refl _,by dsimp only;omega,Nat.le_refl _⟩
   ·obtain⟨⟨j,_,h1⟩,h2,h3,h4⟩:=ih.E2 z hz
    exact⟨(List.prefix_append _ _).trans h1,by omega,h3,by omega⟩
  ·intro z hz
   rcases List.mem_cons.1 hz with rfl|hz
   ·exact .inl ⟨rfl,rfl,rfl⟩
   ·obtain⟨_,h2,h3,h4⟩:=ih.E2 z hz
    rcases ih.top z hz with⟨a,b⟩|⟨a,b,c,y,hy,d⟩
    ·exact .inr ⟨by omega,by omega,by omega,by omega,_,List.mem_cons_self ..,b⟩
    ·exact .inr ⟨by omega,by omega,by omega,c,y,List.mem_cons_of_mem _ hy,d⟩
  ·intro x' hx y' hy
   rcases List.mem_cons.1 hx with rfl|hx
   ·rcases List.mem_cons.1 hy with rfl|hy
    ·exact⟨⟨fun _=>List.prefix_refl _,fun _=>⟨Nat.le_refl _,by dsimp only;omega⟩⟩,⟨fun h=>by dsimp only at h;omega,fun h=>by have:=h.2;dsimp only at this;omega⟩⟩
    ·obtain⟨⟨j,_,h1⟩,h2,h3,h4⟩:=ih.E2 y' hy
     have hp:=(List.prefix_append p [(j:Int)]).trans h1
     refine⟨⟨fun _=>hp,fun _=>⟨by dsimp only;omega,by dsimp only;omega⟩⟩,?_⟩
     rcases ih.top y' hy with⟨a,b⟩|⟨a,b,c,_⟩
     ·exact⟨fun _=>⟨hp,a⟩,fun _=>b⟩
     ·exact⟨fun h=>by dsimp only at h;omega,fun h=>by have:=h.2;dsimp only at this;omega⟩
   ·rcases List.mem_cons.1 hy with rfl|hy
    ·obtain⟨⟨j,_,h1⟩,h2,h3,h4⟩:=ih.E2 x' hx
     have hl:=sx h1
     rw[List.length_append]at hl
     simp only[List.length_cons,List.length_nil]at hl
     refine⟨⟨fun h=> ?_,fun h=> ?_⟩,⟨fun h=> ?_,fun h=> ?_⟩⟩
     ·have:=h.1;dsimp only at this;omega
     ·have:=sx h;dsimp only at this;omega
     ·dsimp only at h;omega
     ·have:=sx h.1;dsimp only at this;omega
    ·exact ih.rel x' hx y' hy
theorem JV (g:iV):∀(l:List fG) (p:List Int) (i k:Nat) (up:Int) (w:Nat),up<k→PrL p i k (m6 l) up (BJ g l p i k up w)
 | [],_,_,_,_,_,_=>by
  rw[BJ];exact⟨(fun z h=>by cases h),(fun z h=>by cases h),(fun z h=>by cases h)⟩
 |x::l,p,i,k,up,w,Rl=>by
  have h1:=JU g x (p++ [(i:Int)]) k up w Rl
  have h2:=JV g l p (i+1) (k+oP x) up (w+mc x) (by omega)
  have hlen:(p++ [(i:Int)]).length=p.length+1:=by rw[List.length_append];rfl
  rw[BJ,m6]
  have low:∀a∈Dz g x (p++ [(i:Int)]) k up w,a.1.up<((k+oP x:Nat):Int):=fun a ha=>by
   obtain⟨_,a1,a2,a3⟩:=h1.E2 a ha
   rcases h1.top a ha with⟨_,_,b⟩|⟨_,_,_,b,_⟩<;>omega
  have high:∀b∈BJ g l p (i+1) (k+oP x) up (w+mc x),b.1.up<k∨((k+oP x:Nat):Int)≤b.1.up:=fun b hb=>by
   rcases h2.top b hb with⟨_,c⟩|⟨_,c,_⟩<;>omega
  constructor
  ·intro z hz
   rcases List.mem_append.1 hz with hz|hz
   ·obtain⟨a,b,c,d⟩:=h1.E2 z hz
    exact⟨⟨i,Nat.le_refl _,a⟩,b,c,by omega⟩
   ·obtain⟨⟨j,hj,a⟩,b,c,d⟩:=h2.E2 z hz
    exact⟨⟨j,by omega,a⟩,by omega,c,by omega⟩
  ·intro z hz
   rcases List.mem_append.1 hz with hz|hz
   ·rcases h1.top z hz with⟨a,b,c⟩|⟨a,b,c,d,y,hy,e⟩
    ·exact .inl ⟨by rw[b,hlen],c⟩
    ·exact .inr ⟨by omega,c,d,y,List.mem_append_left _ hy,e⟩
   ·rcases h2.top z hz with⟨a,b⟩|⟨a,b,c,y,hy,d⟩
    ·exact .inl ⟨a,b⟩
    ·exact .inr ⟨a,by omega,c,y,List.mem_append_right _ hy,d⟩
  ·intro x' hx y' hy
   rcases List.mem_append.1 hx with hx|hx<;>rcases List.mem_append.1 hy with hy|hy
   ·exact h1.rel x' hx y' hy
   ·obtain⟨a,b,c,d⟩:=h1.E2 x' hx
    obtain⟨⟨j,hj,a'⟩,b',c',d'⟩:=h2.E2 y' hy
    have ma:¬x'.2.path<+:y'.2.path:=fun h=>by have:=E3 (a.trans h) a';omega
    refine⟨⟨fun h=>by omega,fun h=>absurd h ma⟩,⟨fun h=> ?_,fun h=>absurd h.1 ma⟩⟩
    rcases high y' hy with h'|h'<;>omega
   ·obtain⟨a,b,c,d⟩:=h1.E2 y' hy
    obtain⟨⟨j,hj,a'⟩,b',c',d'⟩:=h2.E2 x' hx
    have ma:¬x'.2.path<+:y'.2.path:=fun h=>by have:=E3 (a'.trans h) a;omega
    refine⟨⟨fun h=>by omega,fun h=>absurd h ma⟩,⟨fun h=> ?_,fun h=>absurd h.1 ma⟩⟩
    have:=low y' hy
    omega
   ·exact h2.rel x' hx y' hy
end
def rG (q p:List Int):Bool:=decide (p<+:q)
def oY (k:Int)(a b:B0):Bool:=
 if k=1 then decide (b.path.length=a.path.length+1)&&rG b.path a.path else if k=2 then decide (a.path.length<b.path.length)&&rG b.path a.path
 else if k=3 then decide (a.qTo≤b.oO)else if k=4 then decide (a.qTo=b.oO)
 else decide (a.path.length=b.path.length)&&(decide (0<a.path.length)&&(rG b.path (a.path.take (a.path.length-1))&&decide (a.path.getD (a.path.length-1) 0≠b.path.getD (a.path.length-1) 0)))
def yu (v:cj)(x:B0):Bool:=
 if v.kind=2 then !x.leaf&&decide (x.label=v.label)else if v.kind=3 then x.leaf&&decide (x.label=v.label)else decide (v.kind=1)||x.leaf
def JW:B0:=⟨[],false,[],0,0⟩
theorem Me {nr nl:Nat}(g:iV){t:fG}(h:fq nr nl t)(p:List Int)(k:Nat)(up:Int)(w:Nat):(B1 g t p w).length=(m7 g t k up w).length:=by
 rw[←yr g t p k up w,←yt g t p k up w h,List.length_map,List.length_map]
theorem yv {nr nl:Nat}(g:iV){t:fG}(h:fq nr nl t){i:Nat}(hi:i<(m7 g t 0 (-1) 0).length):∃z,z∈Dz g t [] 0 (-1) 0∧z.1=(m7 g t 0 (-1) 0).getD i se∧z.2=(B1 g t [] 0).getD i JW∧z.1.no=i:=by
 have h1:=yt g t [] 0 (-1) 0 h
 have h2:=yr g t [] 0 (-1) 0
 have hl:i<(Dz g t [] 0 (-1) 0).length:=by rw[←h1,List.length_map]at hi;exact hi
 refine⟨_,List.getElem_mem hl,?_,?_,?_⟩
 ·rw[←h1,List.getD_eq_getElem?_getD,List.getElem?_map,List.getElem?_eq_getElem hl];rfl
 ·rw[←h2,List.getD_eq_getElem?_getD,List.getElem?_map,List.getElem?_eq_getElem hl];rfl
 ·have:=Bh g t 0 (-1) 0 i (Dz g t [] 0 (-1) 0)[i].1 (by rw[←h1,List.getElem?_map,List.getElem?_eq_getElem hl];rfl)
  omega
theorem JX {nr nl:Nat}(g:iV){t:fG}(h:fq nr nl t){i:Nat}(hi:i<(m7 g t 0 (-1) 0).length)(v:cj)(hv:1≤v.kind∧v.kind≤4):yu v ((B1 g t [] 0).getD i JW)=lh v ((m7 g t 0 (-1) 0).getD i se):=by
 obtain⟨z,hz,e1,e2,_⟩:=yv g h hi;obtain⟨h1,h2,_⟩:=su g _ _ _ _ _ z hz;rw[←e1,←e2];unfold yu lh;rw[h1,h2]
 by_cases k2:v.kind=2
 ·rw[if_pos k2,if_pos k2]
 ·by_cases k3:v.kind=3
  ·rw[if_neg k2,if_pos k3,if_neg k2,if_pos k3]
  ·rw[if_neg k2,if_neg k3,if_neg k2,if_neg k3]
   by_cases k4:v.kind=4
   ·rw[if_pos k4,decide_eq_false (by omega),Bool.false_or]
   ·rw[if_neg k4,decide_eq_true (by omega),Bool.true_or]
theorem uo {a:List Int}(h:0<a.length):a=a.take (a.length-1)++ [a.getD (a.length-1) 0]:=by
 have:=bI (show a[a.length-1]?=some (a.getD (a.length-1) 0) by rw[List.getD_eq_getElem?_getD,List.getElem?_eq_getElem (by omega)];rfl)
 rw[←this,show a.length-1+1=a.length by omega,List.take_length]
theorem JY {nr nl:Nat}(g:iV){t:fG}(h:fq nr nl t){i j:Nat}(hi:i<(m7 g t 0 (-1) 0).length)(hj:j<(m7 g t 0 (-1) 0).length)(k:Int):oY k ((B1 g t [] 0).getD i JW) ((B1 g t [] 0).getD j JW)=oe (m7 g t 0 (-1) 0) k i j:=by
 obtain⟨x,hx,e1,e2,e3⟩:=yv g h hi;obtain⟨y,hy,f1,f2,f3⟩:=yv g h hj
 have ok:=JU g t [] 0 (-1) 0 (by omega)
 obtain⟨_,_,R0,NU⟩:=su g _ _ _ _ _ x hx;obtain⟨_,_,hy3,hy4⟩:=su g _ _ _ _ _ y hy;obtain⟨r1,r2⟩:=ok.rel x hx y hy;obtain⟨_,i1,i2,i3⟩:=ok.E2 x hx;obtain⟨_,i4,i5,i6⟩:=ok.E2 y hy;rw[←e2,←f2];unfold oY oe rG;rw[←e1,←f1]
 by_cases k1:k=1
 ·rw[if_pos k1,if_pos k1]
  rw[←e3,Bool.eq_iff_iff,Bool.and_eq_true,decide_eq_true_iff,decide_eq_true_iff,decide_eq_true_iff,r2,And.comm]
 rw[if_neg k1,if_neg k1]
 by_cases k2:k=2
 ·rw[if_pos k2,if_pos k2,Bool.eq_iff_iff,Bool.and_eq_true,Bool.and_eq_true,decide_eq_true_iff,decide_eq_true_iff,decide_eq_true_iff,decide_eq_true_iff,←r1]
  subst e3 f3;refine⟨fun⟨a,b,c⟩=>⟨?_,c⟩,fun⟨a,b⟩=>⟨?_,by omega,b⟩⟩
  ·rcases Nat.lt_or_ge x.1.no y.1.no with q|q
   ·exact q
   ·exfalso
    obtain⟨s1,_⟩:=ok.rel y hy x hx
    have:=sx (s1.1 ⟨q,by omega⟩)
    omega
  ·have hp:=r1.1 ⟨by omega,b⟩
   rcases Nat.lt_or_ge x.2.path.length y.2.path.length with q|q
   ·exact q
   ·exfalso
    have he:=hp.eq_of_length_le q
    obtain⟨s1,_⟩:=ok.rel y hy x hx
    have:=s1.2 (by rw[he];exact List.prefix_refl _)
    omega
 rw[if_neg k2,if_neg k2]
 by_cases k3:k=3
 ·rw[if_pos k3,if_pos k3,NU,hy3,Bool.eq_iff_iff,decide_eq_true_iff,decide_eq_true_iff];omega
 rw[if_neg k3,if_neg k3]
 by_cases k4:k=4
 ·rw[if_pos k4,if_pos k4,NU,hy3,Bool.eq_iff_iff,decide_eq_true_iff,decide_eq_true_iff];omega
 rw[if_neg k4,if_neg k4,Bool.eq_iff_iff]
 simp only[Bool.and_eq_true,decide_eq_true_iff]
 subst e3 f3
 constructor
 ·rintro ⟨a,b,c,d⟩
  refine⟨fun e=>d ?_,?_⟩
  ·obtain⟨s1,_⟩:=ok.rel x hx y hy
   have hp:=s1.1 ⟨by omega,by omega⟩
   rw[hp.eq_of_length_le (by omega)]
  ·rcases ok.top x hx with⟨_,q,_⟩|⟨_,_,_,_,z,hz,q⟩
   ·rw[q]at b;exact absurd b (by simp)
   ·have RF:=(ok.rel z hz x hx).2.1 q
    have hzt:z.2.path=x.2.path.take (x.2.path.length-1):=by
     rw[List.prefix_iff_eq_take.1 RF.1,RF.2]
     simp
    have:=(ok.rel z hz y hy).2.2 ⟨by rw[hzt];exact c,by rw[←a,RF.2]⟩
    rw[q,this]
 ·rintro ⟨a,b⟩
  rcases ok.top x hx with⟨q1,q2,q3⟩|⟨_,_,_,_,z,hz,q⟩
  ·exfalso
   rcases ok.top y hy with⟨p1,_⟩|⟨_,_,p1,_⟩<;>omega
  ·obtain⟨u1,u2⟩:=(ok.rel z hz x hx).2.1 q
   obtain⟨w1,w2⟩:=(ok.rel z hz y hy).2.1 (by rw[←b];exact q)
   have RF:z.2.path=x.2.path.take (x.2.path.length-1):=by rw[List.prefix_iff_eq_take.1 u1,u2];simp
   have hzy:z.2.path=y.2.path.take (y.2.path.length-1):=by rw[List.prefix_iff_eq_take.1 w1,w2];simp
   refine⟨by omega,by omega,by rw[←RF];exact w1,fun e=>a ?_⟩
   have hxy:x.2.path=y.2.path:=by
    rw[uo (a:=x.2.path) (by omega),uo (a:=y.2.path) (by omega),←RF,←hzy,e,show x.2.path.length=y.2.path.length by omega]
   have s1:=(ok.rel x hx y hy).1.2 (by rw[hxy];exact List.prefix_refl _)
   have s2:=(ok.rel y hy x hx).1.2 (by rw[hxy];exact List.prefix_refl _)
   omega
structure cp where
 pv:ck
 path:List Int
 leaf:Bool
 label:cQ
 oO:Int
 sV:Int
def OI (x:cp):List Value:=[x.pv.1,.bool x.leaf,sv x.label,iv x.oO,iv x.sV]
theorem E4 (x:cp)(u:Value)(h:u∈OI x):u.oneCell'=true:=by
 simp only[OI,List.mem_cons,List.not_mem_nil,or_false]at h
 rcases h with rfl|rfl|rfl|rfl|rfl
 ·exact x.pv.2
 ·rfl
 ·rfl
 ·rfl
 ·rfl
abbrev mr:Rp cp:=⟨5,by decide,OI,fun _=>True,fun _=>rfl,E4⟩
instance (x:cp):ei mr x (OI x):=⟨rfl⟩
def rH (x:cp):dm:=⟨fun ρ=>(sl aK x.pv.1 x.path).f ρ,fun ρ ib h k=>(sl aK x.pv.1 x.path).mono _ _ h k⟩
def mu (x:cp):B0:=⟨x.path,x.leaf,x.label,x.oO,x.sV⟩
theorem We (G:iV)(x:bh)(p:List Int)(w:Nat):B1 G (an x) p w=⟨p,decide (x.eK<0),sI G x.eK x.lex,w,((w+mc (an x):Nat):Int)⟩::xO G (x.kids.map an) p 0 w:=by
 cases x;rw[an,gy,B1,mc];rfl
theorem B3 (G:iV):∀(l:List fG) (y:fG) (p:List Int) (i w:Nat),xO G (l++ [y]) p i w=xO G l p i w++B1 G y (p++ [((i+l.length:Nat):Int)]) (w+jF l)
 | [],y,p,i,w=>by rw[List.nil_append,xO,xO,xO,jF,List.append_nil];rfl
 |x::l,y,p,i,w=>by rw[List.cons_append,xO,B3 G l,xO,jF,List.append_assoc,List.length_cons,show i+1+l.length=i+(l.length+1) by omega,show w+mc x+jF l=w+(mc x+jF l) by omega]
theorem Mf (x:fG):0<oP x:=by cases x;rw[oP];omega
theorem JZ:∀l:List fG,l.length≤m6 l
 | []=>Nat.zero_le _
 |x::l=>by have:=JZ l;have:=Mf x;rw[m6,List.length_cons];omega
theorem Wf (L W:List cp)(N:cp):(rows mr (L++N::W))[L.length*5+3]?=some (iv N.oO):=by
 have:=jv mr (L++N::W) L.length 3 N (by simp) (by decide)
 exact this
theorem Qb (L W:List cp)(N:cp)(z:Int):(rows mr (L++N::W)).set (L.length*5+4) (iv z)=rows mr (L++{N with sV:=z}::W):=by
 have e:∀(A B:List cp) (x:cp),rows mr (A++x::B)=rows mr A++(OI x++rows mr B):=fun A B x=>by simp[rows]
 rw[e,e,List.set_append_right _ _ (by rw[e7];show L.length*5≤_;omega),e7];rw[show L.length*5+4-L.length*mr.size=4 by show _-L.length*5=4;omega];rfl
mutual
theorem uq (G:iV):∀(t:fG) (p:List Int) (w:Nat),(B1 G t p w).length=oP t
 | .mk r x l,p,w=>by rw[B1,List.length_cons,yw G l,oP];omega
theorem yw (G:iV):∀(l:List fG) (p:List Int) (i w:Nat),(xO G l p i w).length=m6 l
 | [],_,_,_=>by rw[xO,m6];rfl
 |x::l,p,i,w=>by rw[xO,List.length_append,uq G x,yw G l,m6]
end
mutual
theorem B4 (G:iV):∀(t:fG) (p:List Int) (w:Nat),∀z∈B1 G t p w,z.path.length≤p.length+oP t
 | .mk r x l,p,w,z,h=>by
  rw[B1]at h
  rcases List.mem_cons.1 h with rfl|h
  ·exact Nat.le_add_right _ _
  ·have:=B5 G l p 0 w z h;rw[oP];omega
theorem B5 (G:iV):∀(l:List fG) (p:List Int) (i w:Nat),∀z∈xO G l p i w,z.path.length≤p.length+1+m6 l
 | [],_,_,_,z,h=>by rw[xO]at h;cases h
 |x::l,p,i,w,z,h=>by
  rw[xO]at h;rw[m6]
  rcases List.mem_append.1 h with h|h
  ·have:=B4 G x _ _ z h;rw[List.length_append,List.length_singleton]at this;omega
  ·have:=B5 G l _ _ _ z h;omega
end
set_option maxHeartbeats 4000000 in
theorem Co (g:iX):∀(x:bh) (p:List Int) (pv:Value) (w:Nat) (L:List cp) (vl:Value),vl.oneCell'=true→db.wf x→fq g.rules.length g.bA.length (an x)→(∀z∈p,0≤z∧z≤1000000)→L.length+oP (an x)≤200→w+mc (an x)≤200→p.length+oP (an x)≤200→fF Tryz.prog 13 #[vl,iG g,er x,pv,iv (w:Nat)] [aG (dw g),aG (cB x),aG (sl aK pv p),row vl 60 5 (L).length (rows mr (L))] (fun v H'=>∃W:List cp,v.oneCell'=true∧W.map mu=B1 (fV g) (an x) p w∧H'=[row v 60 5 (L++W).length (rows mr (L++W)),aG (aY rH W)]):=by
 intro x
 induction x using bh.ind
 rename_i x ih
 intro p pv w L vl wv hw hg hp fR cu DL;refine fF.body (args:=[vl,iG g,er x,pv,iv (w:Nat)]) 116 Tryz.func13 rfl Tryz.ntmps13 rfl (fun c=> ?_);refine St.seq ?_
 have hE:=We (fV g) x p w
 obtain⟨TN,hle,Qx⟩:=yW x hg;rw[Hh]at fR DL
 have adB:=JZ (x.kids.map an)
 rw[List.length_map]at adB
 have F4:=Hi x
 refine St.fI (dw g) (fun _:Unit=>zT g) (fun ρ h=>⟨(),h⟩) fun _=> ?_
 refine St.cast (H':=[aG (sl e6 g.tv.1 g.types),aG (aY ew g.types),aG (sl bu g.fv.1 g.bZ),aG (sl cA g.rv.1 g.rules),aG (aY cO g.rules),aG (sl cI g.xv.1 g.bA),aG (aY dX g.bA),aG (bU g.start),aG (dw g),aG (cB x),aG (sl aK pv p),row vl 60 5 (L).length (rows mr (L))]) rfl ?_;refine St.dup (cB x) ?_;refine St.nE x ?_;refine St.wf x.kv.1 (fun lq tB=> ?_);refine St.wf g.rv.1 (fun _ TI=> ?_);refine St.wf g.xv.1 (fun _ TJ=> ?_)
 obtain⟨lf,Pc⟩:∃lf,lf=decide (x.eK<0):=⟨_,rfl⟩
 obtain⟨jd,CC⟩:∃jd,jd=sI (fV g) x.eK x.lex:=⟨_,rfl⟩
 rw[←Pc,←CC]at hE;refine St.rg ?_;refine St.cV (.mk rfl) rfl (fun b6=> ?_);refine St.cV (.mk rfl) rfl (fun b7=> ?_);refine St.ak ?_;refine St.nn (St.sr ?_);refine St.mv ?_;refine St.ee (Ev.fS (.mk rfl) tY) ?_;refine St.ak ?_;refine St.nn (St.sr ?_);refine St.mv ?_;refine St.ee (Ev.build (ps:=[(3,(.tmp 19))]) (aU.cons (aL.mk rfl) aU.nil) (fun w=>M9 rfl w)) ?_;refine St.alloc WH rfl (fun DS=> ?_);refine St.sA (.mk rfl) (.mk rfl) sR ?_;refine St.nn (St.seq (St.seq ?_));refine St.jw 3 1 ?_;refine St.bB (.slice none 0 0) (show _=(p.take 0).length from rfl) (show _=rows aK (p.take 0)from rfl) ?_;refine St.rg ?_;refine St.ak ?_;refine St.nn (St.block ?_);refine St.mf (ι:=Nat) (κ:=ck) (fun k z T=>(13,iv k)::T) (fun k z=>[ae DS (.cells [z.1,.bool false,sv [],iv ((w:Nat):Int),iv 0].toArray 60 (0,0)),row z.1 3 1 (p.take k).length (rows aK (p.take k)),ae b6 (.cells [g.tv.1,g.fv.1,g.rv.1,g.xv.1,g.start.nv.1].toArray 32 (0,0)),ae b7 (.cells (k6 x).toArray 39 (0,0)),aG (sl db x.kv.1 x.kids),aG (aY cB x.kids),aG (sl cA g.rv.1 g.rules),aG (sl cI g.xv.1 g.bA),aG (dw g),aG (sl aK pv p),aG (cB x),row vl 60 5 (L).length (rows mr (L))]) (fun k z=>k≤p.length) (fun k z=>p.length-k) 0 fa (aE.cons 0 rfl (aE.cons 3 rfl (aE.cons 4 rfl (aE.cons 6 rfl (aE.cons 7 rfl (aE.cons 10 rfl (aE.cons 11 rfl (aE.cons 12 rfl aE.nil)))))))) (Nat.zero_le _) ?_;rintro k z hk;refine St.seq (St.sr ?_);refine St.mv ?_;refine St.mv ?_;refine St.ee (Ev.ao (.mk rfl) bE) ?_;refine St.ee Ev.dn ?_;refine St.nn ?_;refine St.cond _ rfl (fun pE=> ?_) (fun pE=> ?_)
 ·try simp only[aC]at pE
  obtain⟨y,hy⟩:=aO (show k<p.length by omega)
  have qa:(p.take k).length=k:=by rw[List.length_take];omega
  refine St.skip (St.aA (St.seq (St.block ?_)));refine St.eV [ae DS (.cells [z.1,.bool false,sv [],iv ((w:Nat):Int),iv 0].toArray 60 (0,0)),row z.1 3 1 (p.take k).length (rows aK (p.take k))] mixed (fun np ns=> ?_);refine SW.dd 0 rfl (fun _=>Ev.aD (.mk rfl) j5) ?_;refine SW.dd 2 rfl (fun _=>Ev.move (.mk rfl)) ?_;refine SW.dd 3 rfl (fun _=>Ev.move (.mk rfl)) ?_;refine SW.dd 4 rfl (fun _=>Ev.aR (k:=k) (.mk rfl) (.mk rfl) bE cr (by omega) (by omega)) ?_;refine SW.dd 5 rfl (fun _=>Ev.ff (.mk rfl) hy bP trivial rfl) ?_;refine SW.jC (i:=1) (j:=6) (by kernel_rfl) rfl rfl ?_ ?_
  ·refine St.ee (Ev.l0 (.mk rfl) bE) ?_
   refine St.nn ?_;refine SW.go ?_;refine SW.bG (i:=6) (by kernel_rfl) rfl ?_;refine St.cn rfl (.cons (.mk rfl) .nil) bE cr eJ rfl rfl (by simp[Value.cells]) rfl rfl (fun XO=> ?_);refine St.nn ?_;refine SW.go ?_;refine SW.bG (i:=7) (by kernel_rfl) rfl ?_;refine St.cS (.mk rfl) (.mk rfl) bE cr eJ Gh (by simp[Value.oneCell',Value.cells]) (by omega) (by omega) rfl rfl rfl rfl (fun LV adC=> ?_);refine St.bB LV (show _=(p.take (k+1)).length by rw[bI hy,List.length_append];rfl) (show _=rows aK (p.take (k+1)) by rw[bI hy,cz];rfl) ?_;refine St.eG LV (fun CR _=> ?_);refine St.nn ?_;refine SW.go ?_;refine SW.dd 8 rfl (fun _=>Ev.aD (.mk rfl) j5) ?_;refine SW.bG (i:=9) (by kernel_rfl) rfl ?_;refine St.cW (.mk rfl) (.mk rfl) eI CR (by rfl) ?_;refine St.nn ?_;refine SW.go ?_;refine SW.done (by kernel_rfl) ?_;refine St.aN (St.aA (St.rg ?_));refine St.mv ?_;refine St.ee Ev.a0 ?_;refine St.ak ?_;refine St.nn ?_;refine St.jb (k+1) ⟨LV,CR⟩ (by omega)
  ·refine St.cn rfl (.cons (.mk rfl) .nil) bE cr eJ rfl rfl (by simp[Value.cells]) rfl rfl (fun XO=> ?_)
   refine St.nn ?_;refine SW.go ?_;refine SW.bG (i:=1) (by kernel_rfl) rfl ?_;refine St.ee (Ev.l0 (.mk rfl) bE) ?_;refine St.nn ?_;refine SW.go ?_;refine SW.bG (i:=7) (by kernel_rfl) rfl ?_;refine St.cS (.mk rfl) (.mk rfl) bE cr eJ Gh (by simp[Value.oneCell',Value.cells]) (by omega) (by omega) rfl rfl rfl rfl (fun LV adC=> ?_);refine St.bB LV (show _=(p.take (k+1)).length by rw[bI hy,List.length_append];rfl) (show _=rows aK (p.take (k+1)) by rw[bI hy,cz];rfl) ?_;refine St.eG LV (fun CR _=> ?_);refine St.nn ?_;refine SW.go ?_;refine SW.dd 8 rfl (fun _=>Ev.aD (.mk rfl) j5) ?_;refine SW.bG (i:=9) (by kernel_rfl) rfl ?_;refine St.cW (.mk rfl) (.mk rfl) eI CR (by rfl) ?_;refine St.nn ?_;refine SW.go ?_;refine SW.done (by kernel_rfl) ?_;refine St.aN (St.aA (St.rg ?_));refine St.mv ?_;refine St.ee Ev.a0 ?_;refine St.ak ?_;refine St.nn ?_;refine St.jb (k+1) ⟨LV,CR⟩ (by omega)
 ·try simp only[aC]at pE
  obtain rfl:k=p.length:=by omega
  rw[List.take_length];refine St.aV z.1 aK p rfl rfl (fun y hy=>by have:=hp y hy;show bD y;unfold bD;omega) ?_;refine St.exit (St.aF (St.aF (St.bH (St.aA ?_))));refine St.join (ι:=Unit) (fun u T=>T) (fun u=>[ae DS (.cells [z.1,.bool lf,sv jd,iv ((w:Nat):Int),iv 0].toArray 60 (0,0)),aG (sl aK z.1 p),ae b6 (.cells [g.tv.1,g.fv.1,g.rv.1,g.xv.1,g.start.nv.1].toArray 32 (0,0)),ae b7 (.cells (k6 x).toArray 39 (0,0)),aG (sl db x.kv.1 x.kids),aG (aY cB x.kids),aG (sl cA g.rv.1 g.rules),aG (sl cI g.xv.1 g.bA),aG (dw g),aG (sl aK pv p),aG (cB x),row vl 60 5 (L).length (rows mr (L))]) (fun u=>True) (aE.cons 0 rfl (aE.cons 3 rfl (aE.cons 4 rfl (aE.cons 6 rfl (aE.cons 7 rfl (aE.cons 10 rfl (aE.cons 11 rfl (aE.cons 12 rfl aE.nil)))))))) ?_ ?_
  ·refine St.sr ?_
   refine St.ee (Ev.aD (.mk rfl) gP) ?_;refine St.ee (Ev.l0 (.mk rfl) bP) ?_;refine St.ee Ev.dn ?_;refine St.nn ?_;refine St.cond _ rfl (fun sj=> ?_) (fun sj=> ?_)
   ·try simp only[aC]at sj
    obtain⟨Pd,Qr,Pe⟩:=hle sj;obtain⟨lx,jU⟩:=aO (show x.lex.toNat<g.bA.length by omega)
    have CD:lf=true:=by rw[Pc];exact decide_eq_true sj
    have Jr:jd=lx.word:=by rw[CC,sI,if_pos sj,List.getD_eq_getElem?_getD,show(fV g).bA=g.bA.map jr from rfl,List.getElem?_map,jU];rfl
    subst CD;subst Jr
    refine St.sr ?_;refine St.ee (Ev.aD (.mk rfl) yj) ?_;refine St.cW (.mk rfl) (.mk rfl) qW rfl (by rfl) ?_;refine St.nn (St.rg ?_);refine St.ee (Ev.aD (.mk rfl) jR) ?_;refine St.ee (Ev.l0 (.mk rfl) j1) ?_;refine St.ee (Ev.aD (.mk rfl) nY) ?_;refine St.ee (Ev.l0 (.mk rfl) bP) ?_;refine St.ee (Ev.aR (k:=x.lex.toNat) (.mk rfl) (.mk rfl) j1 oQ (by omega) (by omega)) ?_;refine St.ee (Ev.e8 (.mk rfl) (by omega) yP) ?_;refine St.ee (Ev.ff (.mk rfl) jU df trivial rfl) ?_;refine St.ee (Ev.aD (.mk rfl) yk) ?_;refine St.cW (.mk rfl) (.mk rfl) EY rfl (by rfl) ?_;refine St.nn ?_;refine St.mE () trivial
   ·try simp only[aC]at sj
    obtain⟨ru,BE⟩:=aO (show x.eK.toNat<g.rules.length by omega)
    have CD:lf=false:=by rw[Pc];exact decide_eq_false (by omega)
    have Jr:jd=ru.name:=by rw[CC,sI,if_neg (by omega),List.getD_eq_getElem?_getD,show(fV g).rules=g.rules.map mH from rfl,List.getElem?_map,BE];rfl
    subst CD;subst Jr
    refine St.rg ?_;refine St.ee (Ev.aD (.mk rfl) jS) ?_;refine St.ee (Ev.l0 (.mk rfl) j0) ?_;refine St.ee (Ev.aD (.mk rfl) gP) ?_;refine St.ee (Ev.l0 (.mk rfl) bP) ?_;refine St.ee (Ev.aR (k:=x.eK.toNat) (.mk rfl) (.mk rfl) j0 nL (by omega) (by omega)) ?_;refine St.ee (Ev.e8 (.mk rfl) (by omega) nW) ?_;refine St.ee (Ev.ff (.mk rfl) BE df trivial rfl) ?_;refine St.ee (Ev.aD (.mk rfl) yk) ?_;refine St.cW (.mk rfl) (.mk rfl) EY rfl (by rfl) ?_;refine St.nn ?_;refine St.mE () trivial
  ·intro _ _
   refine St.sr ?_;refine St.mv ?_;refine St.ee (Ev.bF (.mk rfl) Tryz.underlying60 trivial (by exact sR)) ?_;refine St.slot 57 (.agg (OI (⟨z,p,lf,jd,(w:Nat),0⟩:cp)).toArray) rfl rfl ?_;refine St.cn rfl (.cons (.mk rfl) .nil) tY sR WI rfl rfl (by simp[Value.cells,OI]) rfl rfl (fun b58=> ?_);refine St.cS (.mk rfl) (.mk rfl) tY sR WI acR (fun u hu=>E4 (⟨z,p,lf,jd,(w:Nat),0⟩:cp) u (by rw[List.flatMap_cons,List.flatMap_nil,List.append_nil]at hu;exact hu)) (by omega) (by omega) rfl rfl rfl rfl (fun v59 afI=> ?_);refine St.bB v59 (show _=(L++(⟨z,p,lf,jd,(w:Nat),0⟩:cp)::[]).length by rw[List.length_append];rfl) (show _=rows mr (L++(⟨z,p,lf,jd,(w:Nat),0⟩:cp)::[]) by rw[show rows mr (L++(⟨z,p,lf,jd,(w:Nat),0⟩:cp)::[])=rows mr L++OI (⟨z,p,lf,jd,(w:Nat),0⟩:cp) by simp[rows]];rfl) ?_;refine St.eG v59 (fun Si _=> ?_);refine St.fact (aY rH []) (fun _ _ _=>fun z hz=>by cases hz) ?_;refine St.ak ?_;refine St.nn (St.seq (St.sr ?_));refine St.ak ?_;refine St.nn (St.block ?_);refine St.slot 4 (iv ((w+jF ((x.kids.map an).take 0):Nat):Int)) rfl (congrArg iv (by rw[List.take_zero,jF];rfl)) ?_;refine St.mf (ι:=Nat) (κ:=Value×List cp) (fun k q T=>(14,iv k)::(0,q.1)::(4,iv ((w+jF ((x.kids.map an).take k):Nat):Int))::T) (fun k q=>[row q.1 60 5 (L++(⟨z,p,lf,jd,(w:Nat),0⟩:cp)::q.2).length (rows mr (L++(⟨z,p,lf,jd,(w:Nat),0⟩:cp)::q.2)),aG (aY rH q.2),aG (sl aK z.1 p),ae b6 (.cells [g.tv.1,g.fv.1,g.rv.1,g.xv.1,g.start.nv.1].toArray 32 (0,0)),ae b7 (.cells (k6 x).toArray 39 (0,0)),aG (sl db x.kv.1 x.kids),aG (aY cB x.kids),aG (sl cA g.rv.1 g.rules),aG (sl cI g.xv.1 g.bA),aG (dw g),aG (sl aK pv p),aG (cB x)]) (fun k q=>k≤x.kids.length∧q.1.oneCell'=true∧q.2.map mu=xO (fV g) ((x.kids.map an).take k) p 0 w) (fun k q=>x.kids.length-k) 0 (v59,[]) (aE.cons 3 rfl (aE.cons 6 rfl (aE.cons 7 rfl (aE.cons 10 rfl (aE.cons 11 rfl aE.nil))))) ⟨Nat.zero_le _,Si,rfl⟩ ?_;rintro k ⟨vz,W⟩ ⟨hk,QS,hW⟩
   dsimp only at QS hW⊢
   have RD:W.length=m6 ((x.kids.map an).take k):=by have:=congrArg List.length hW;rwa[List.length_map,yw]at this
   refine St.seq (St.sr ?_);refine St.mv ?_;refine St.ee (Ev.aD (.mk rfl) lN) ?_;refine St.ee (Ev.l0 (.mk rfl) jP) ?_;refine St.ee (Ev.ao (.mk rfl) jP) ?_;refine St.ee Ev.dn ?_;refine St.nn ?_;refine St.cond _ rfl (fun mh=> ?_) (fun mh=> ?_)
   ·try simp only[aC]at mh
    obtain⟨y,hy⟩:=aO (show k<x.kids.length by omega)
    have lr:=List.mem_of_getElem? hy
    have qA:(x.kids.map an)[k]?=some (an y):=by rw[List.getElem?_map,hy];rfl
    have v7:=bI qA
    have hnt:=AO qA
    obtain⟨LH,Sh⟩:=uI qA
    have adD:((x.kids.map an).take k).length=k:=by rw[List.length_take,List.length_map];omega
    refine St.cD cB x.kids (x:=y) lr ?_;refine St.skip (St.aA (St.seq (St.block (St.sr ?_))));refine St.cn rfl (.nil) bE cr eJ rfl rfl (by simp[Value.cells]) rfl rfl (fun R8=> ?_);refine St.ak ?_;refine St.nn (St.seq (St.seq ?_));refine St.bB (.slice (some ⟨R8,0,none⟩) 0 0) (show _=(p.take 0).length from rfl) (show _=rows aK (p.take 0)from rfl) ?_;refine St.rg ?_;refine St.ak ?_;refine St.nn (St.block ?_);refine St.mf (ι:=Nat) (κ:=ck) (fun j u T=>(16,iv j)::(15,u.1)::T) (fun j u=>[row u.1 3 1 (p.take j).length (rows aK (p.take j)),row vz 60 5 (L++(⟨z,p,lf,jd,(w:Nat),0⟩:cp)::W).length (rows mr (L++(⟨z,p,lf,jd,(w:Nat),0⟩:cp)::W)),aG (aY rH W),aG (cB y),aG (sl aK z.1 p),ae b6 (.cells [g.tv.1,g.fv.1,g.rv.1,g.xv.1,g.start.nv.1].toArray 32 (0,0)),ae b7 (.cells (k6 x).toArray 39 (0,0)),aG (sl db x.kv.1 x.kids),aG (aY cB x.kids),aG (sl cA g.rv.1 g.rules),aG (sl cI g.xv.1 g.bA),aG (dw g),aG (sl aK pv p),aG (cB x)]) (fun j u=>j≤p.length) (fun j u=>p.length-j) 0 ⟨(.slice (some ⟨R8,0,none⟩) 0 0),rfl⟩ (aE.cons 0 rfl (aE.cons 3 rfl (aE.cons 4 rfl (aE.cons 6 rfl (aE.cons 7 rfl (aE.cons 10 rfl (aE.cons 11 rfl (aE.cons 14 rfl aE.nil)))))))) (Nat.zero_le _) ?_;rintro j u hj;refine St.seq (St.sr ?_);refine St.mv ?_;refine St.mv ?_;refine St.ee (Ev.ao (.mk rfl) bE) ?_;refine St.ee Ev.dn ?_;refine St.nn ?_;refine St.cond _ rfl (fun h71=> ?_) (fun h71=> ?_)
    ·try simp only[aC]at h71
     obtain⟨s,hs⟩:=aO (show j<p.length by omega)
     have EE:(p.take j).length=j:=by rw[List.length_take];omega
     refine St.skip (St.aA (St.seq (St.block (St.rg ?_))));refine St.mv ?_;refine St.mv ?_;refine St.mv ?_;refine St.ee (Ev.aR (k:=j) (.mk rfl) (.mk rfl) bE cr (by omega) (by omega)) ?_;refine St.ee (Ev.ff (.mk rfl) hs bP trivial rfl) ?_;refine St.cn rfl (.cons (.mk rfl) .nil) bE cr eJ rfl rfl (by simp[Value.cells]) rfl rfl (fun b79=> ?_);refine St.cS (.mk rfl) (.mk rfl) bE cr eJ Gh (by simp[Value.oneCell',Value.cells]) (by omega) (by omega) rfl rfl rfl rfl (fun v80 afJ=> ?_);refine St.bB v80 (show _=(p.take (j+1)).length by rw[bI hs,List.length_append];rfl) (show _=rows aK (p.take (j+1)) by rw[bI hs,cz];rfl) ?_;refine St.eG v80 (fun h80 _=> ?_);refine St.ak ?_;refine St.nil (St.aN (St.aA (St.rg ?_)));refine St.mv ?_;refine St.ee Ev.a0 ?_;refine St.ak ?_;refine St.nn ?_;refine St.jb (j+1) ⟨v80,h80⟩ (by omega)
    ·try simp only[aC]at h71
     obtain rfl:j=p.length:=by omega
     rw[List.take_length];refine St.exit (St.aF (St.aF (St.bH (St.aA (St.sr ?_)))));refine St.mv ?_;refine St.mv ?_;refine St.cn rfl (.cons (.mk rfl) .nil) bE cr eJ rfl rfl (by simp[Value.cells]) rfl rfl (fun b83=> ?_);refine St.cS (.mk rfl) (.mk rfl) bE cr eJ Gh (by simp[Value.oneCell',Value.cells]) (by omega) (by omega) rfl rfl rfl rfl (fun v84 afK=> ?_);refine St.bB v84 (show _=(p++ [((k:Nat):Int)]).length by rw[List.length_append];rfl) (show _=rows aK (p++ [((k:Nat):Int)]) by rw[cz];rfl) ?_;refine St.eG v84 (fun vD _=> ?_)
     have Jo:∀z∈p++ [((k:Nat):Int)],0≤z∧z≤1000000:=fun z hz=>by rcases List.mem_append.1 hz with hz|hz;exact hp z hz;rw[List.mem_singleton.1 hz];omega
     refine St.aV v84 aK (p++ [((k:Nat):Int)]) rfl rfl (fun y hy=>by have:=Jo y hy;show bD y;unfold bD;omega) ?_;refine St.ak ?_;refine St.nn (St.seq ?_);refine St.dup (dw g) ?_;refine St.dup (cB y) ?_;refine St.eV [row vz 60 5 (L++(⟨z,p,lf,jd,(w:Nat),0⟩:cp)::W).length (rows mr (L++(⟨z,p,lf,jd,(w:Nat),0⟩:cp)::W)),aG (dw g),aG (cB y),aG (sl aK v84 (p++ [((k:Nat):Int)]))] mixed (fun np ns=> ?_);refine SW.dd 0 rfl (fun _=>Ev.move (.mk rfl)) ?_;refine SW.dd 1 rfl (fun _=>Ev.bF (.mk rfl) sK trivial (by exact qo)) ?_;refine SW.slot 86 (iG g) rfl rfl ?_;refine SW.dd 2 rfl (fun _=>Ev.aD (.mk rfl) lN) ?_;refine SW.dd 3 rfl (fun _=>Ev.cN (.mk rfl) jP trivial (by rfl)) ?_;refine SW.dd 4 rfl (fun _=>Ev.move (.mk rfl)) ?_;refine SW.dd 5 rfl (fun _=>Ev.aR (k:=k) (.mk rfl) (.mk rfl) jP gZ (by omega) (by omega)) ?_;refine SW.dd 6 rfl (fun _=>Ev.fg (.mk rfl) hy lk trivial gZ ei.eq) ?_;refine SW.slot 91 (er y) rfl rfl ?_;refine SW.dd 7 rfl (fun _=>Ev.move (.mk rfl)) ?_;refine SW.dd 8 rfl (fun _=>Ev.move (.mk rfl)) ?_;refine SW.bG (i:=9) (by kernel_rfl) rfl ?_;refine St.call (ih y lr (p++ [((k:Nat):Int)]) v84 (w+jF ((x.kids.map an).take k)) (L++(⟨z,p,lf,jd,(w:Nat),0⟩:cp)::W) vz QS (lq y lr) (Qx y lr) Jo (by rw[List.length_append,List.length_cons,RD];omega) (by omega) (by rw[List.length_append,List.length_singleton];omega)) WJ (.cons (.mk rfl) (.cons (.mk rfl) (.cons (.mk rfl) (.cons (.mk rfl) (.cons (.mk rfl) .nil))))) rfl ?_;rintro v94 _ ⟨W2,mR,hW2,rfl⟩;refine St.cb ?_;refine St.nn ?_;refine SW.go ?_;refine SW.dd 10 rfl (fun _=>Ev.assign (.mk rfl)) ?_;refine SW.done (by kernel_rfl) ?_;refine St.aA (St.rg ?_);refine St.mv ?_;refine St.ee (Ev.aD (.mk rfl) lN) ?_;refine St.ee (Ev.l0 (.mk rfl) jP) ?_;refine St.mv ?_;refine St.ee (Ev.aR (k:=k) (.mk rfl) (.mk rfl) jP gZ (by omega) (by omega)) ?_;refine St.ee (Ev.fg (.mk rfl) hy lk trivial gZ ei.eq) ?_;refine St.slot 100 (er y) rfl rfl ?_;refine St.ee (Ev.call (sC g.rules.length g.bA.length y (lq y lr) (Qx y lr) (by omega)) QC (.cons (.mk rfl) .nil)) ?_;refine St.ee Ev.a0 ?_;refine St.slot 102 (iv ((w+jF ((x.kids.map an).take (k+1)):Nat):Int)) rfl (congrArg iv (by rw[LH];omega)) ?_;refine St.ak ?_;refine St.nil (St.aN (St.aA (St.rg ?_)));refine St.mv ?_;refine St.ee Ev.a0 ?_;refine St.ak ?_;refine St.nn ?_;refine St.bB v94 (show _=(L++(⟨z,p,lf,jd,(w:Nat),0⟩:cp)::(W++W2)).length by simp only[List.append_assoc,List.cons_append]) (show _=rows mr (L++(⟨z,p,lf,jd,(w:Nat),0⟩:cp)::(W++W2)) by simp only[List.append_assoc,List.cons_append]) ?_;refine St.gQ (aY rH (W++W2)) [aY rH W,aY rH W2] (fun ρ h z hz=>by rcases List.mem_append.1 hz with hz|hz;exact(show(aY rH W).f ρ from h _ (by simp)) z hz;exact(show(aY rH W2).f ρ from h _ (by simp)) z hz) ?_;refine St.jb (k+1) (v94,W++W2) ⟨by omega,mR,by rw[List.map_append,hW,hW2,v7,B3,adD,Nat.zero_add]⟩
   ·try simp only[aC]at mh
    have Hg:(x.kids.map an).length≤k:=by rw[List.length_map];omega
    rw[List.take_of_length_le Hg]at hW;refine St.gQ (aY rH ((⟨z,p,lf,jd,(w:Nat),((w+mc (an x):Nat):Int)⟩:cp)::W)) [aY rH W,sl aK z.1 p] (fun ρ h y hy=>by rcases List.mem_cons.1 hy with rfl|hy;exact h (sl aK z.1 p) (by simp);exact(show(aY rH W).f ρ from h _ (by simp)) y hy) ?_
    have hLW:(L++(⟨z,p,lf,jd,(w:Nat),0⟩:cp)::W).length=L.length+1+W.length:=by rw[List.length_append,List.length_cons];omega
    refine St.tI vz (by omega) (fun bs cs sk=> ?_);refine St.exit (St.aF (St.aF (St.bH (St.aA (St.seq ?_)))));refine St.eV [row vz 60 5 (L++(⟨z,p,lf,jd,(w:Nat),0⟩:cp)::W).length (rows mr (L++(⟨z,p,lf,jd,(w:Nat),0⟩:cp)::W))] mixed (fun np ns=> ?_);refine SW.dd 0 rfl (fun _=>Ev.move (.mk rfl)) ?_;refine SW.dd 1 rfl (fun _=>Ev.move (.mk rfl)) ?_;refine SW.dd 2 rfl (fun _=>Ev.move (.mk rfl)) ?_;refine SW.dd 3 rfl (fun _=>Ev.move (.mk rfl)) ?_;refine SW.dd 4 rfl (fun _=>Ev.jL (k:=L.length) sk (.mk rfl) (.mk rfl) tY sR (by omega) (by omega)) ?_;refine SW.dd 5 rfl (fun _=>Ev.CB sk (.mk rfl) CU) ?_;refine SW.dd 7 rfl (fun _=>Ev.bF (.mk rfl) lk trivial (by exact gZ)) ?_;refine SW.slot 110 (er x) rfl rfl ?_;refine SW.dd 8 rfl (fun _=>Ev.call (sC g.rules.length g.bA.length x hw hg (by omega)) QC (.cons (.mk rfl) .nil)) ?_;refine SW.bG (i:=6) (by kernel_rfl) rfl ?_;refine St.ee (Ev.hS (.mk rfl) bP trivial (by omega) (Wf L W (⟨z,p,lf,jd,(w:Nat),0⟩:cp))) ?_;refine St.slot 109 (iv ((w:Nat):Int)) rfl rfl ?_;refine St.nn ?_;refine SW.go ?_;refine SW.dd 9 rfl (fun _=>Ev.a0) ?_;refine SW.slot 112 (iv ((w+mc (an x):Nat):Int)) rfl rfl ?_;refine SW.dd 10 rfl (fun _=>Ev.jL (k:=L.length) sk (.mk rfl) (.mk rfl) tY sR (by omega) (by omega)) ?_;refine SW.dd 11 rfl (fun _=>Ev.CB sk (.mk rfl) CV) ?_;refine SW.bG (i:=12) (by kernel_rfl) rfl ?_;refine St.dH (.mk rfl) (.mk rfl) cr rfl (by omega) (by decide) ?_;refine St.bB vz (show _=(L++(⟨z,p,lf,jd,(w:Nat),((w+mc (an x):Nat):Int)⟩:cp)::W).length by rw[List.length_append,List.length_append];rfl) (show _=rows mr (L++(⟨z,p,lf,jd,(w:Nat),((w+mc (an x):Nat):Int)⟩:cp)::W)from Qb L W (⟨z,p,lf,jd,(w:Nat),0⟩:cp) _) ?_;refine St.nn ?_;refine SW.go ?_;refine SW.done (by kernel_rfl) ?_;refine St.aA (St.sr ?_);refine St.mv ?_;refine St.ak ?_;refine St.nn (St.aX ?_);refine St.rU [_] [row vz 60 5 (L++(⟨z,p,lf,jd,(w:Nat),((w+mc (an x):Nat):Int)⟩:cp)::W).length (rows mr (L++(⟨z,p,lf,jd,(w:Nat),((w+mc (an x):Nat):Int)⟩:cp)::W)),aG (aY rH ((⟨z,p,lf,jd,(w:Nat),((w+mc (an x):Nat):Int)⟩:cp)::W))] Tryz.results13 ?_;exact⟨(⟨z,p,lf,jd,(w:Nat),((w+mc (an x):Nat):Int)⟩:cp)::W,QS,by rw[List.map_cons,hW,hE];rfl,rfl⟩
def rI (N:Nat):Nat→Nat→List Nat
 |0,_=>[]
 |v+1,k=>rI N v (k/N)++ [k%N]
def ur (N:Nat):Nat→List (List Nat)
 |0=>[[]]
 |v+1=>(ur N v).flatMap fun p=>(List.range N).map fun i=>p++ [i]
theorem E5 {N:Nat}(h:0<N):∀v k,∀i∈rI N v k,i<N
 |0,_,i,hi=>by cases hi
 |v+1,k,i,hi=>by
  rw[rI]at hi
  rcases List.mem_append.1 hi with hi|hi
  ·exact E5 h v _ i hi
  ·rw[List.mem_singleton.1 hi];exact Nat.mod_lt _ h
theorem xP (N:Nat):∀m,List.range (m*N)=(List.range m).flatMap fun a=>(List.range N).map fun b=>a*N+b
 |0=>by simp
 |m+1=>by rw[Nat.succ_mul,List.range_add,xP N m,List.range_succ,List.flatMap_append,List.flatMap_cons,List.flatMap_nil,List.append_nil]
theorem xQ {N:Nat}(h:0<N):∀v,(List.range (N^v)).map (rI N v)=ur N v
 |0=>rfl
 |v+1=>by
  rw[Nat.pow_succ,xP,ur,←xQ h v,List.map_flatMap,List.flatMap_map]
  refine mM fun a _=> ?_
  rw[List.map_map]
  refine List.map_congr_left fun b hb=> ?_
  have hb:=List.mem_range.1 hb
  show rI N v ((a*N+b)/N)++ [(a*N+b)%N]=_
  rw[Nat.mul_comm,Nat.mul_add_div h,Nat.mul_add_mod,Nat.div_eq_of_lt hb,Nat.mod_eq_of_lt hb,Nat.add_zero]
theorem uu (N:Nat):∀v,∀p∈ur N v,p.length=v
 |0,p,h=>by rw[List.mem_singleton.1 h];rfl
 |v+1,p,h=>by
  rw[ur]at h;obtain⟨q,hq,h⟩:=List.mem_flatMap.1 h;obtain⟨i,_,rfl⟩:=List.mem_map.1 h
  rw[List.length_append,uu N v q hq];rfl
theorem E6 (N:Nat):∀v,∀p∈ur N v,∀i∈p,i<N
 |0,p,h,i,hi=>by rw[List.mem_singleton.1 h]at hi;cases hi
 |v+1,p,h,i,hi=>by
  rw[ur]at h;obtain⟨q,hq,h⟩:=List.mem_flatMap.1 h;obtain⟨j,hj,rfl⟩:=List.mem_map.1 h
  rcases List.mem_append.1 hi with hi|hi
  ·exact E6 N v q hq i hi
  ·rw[List.mem_singleton.1 hi];exact List.mem_range.1 hj
def v0:cj:=⟨[],0,[]⟩
def Cp (L:List Nq)(vs:List cj)(q:List Nat):Bool:=(List.range q.length).all fun j=>lh (vs.getD j v0) (L.getD (q.getD j 0) se)
def Cq (L:List Nq)(ks:List eH)(q:List Nat):Bool:=ks.all fun x=> !decide (max x.a x.b<(q.length:Int))||oe L x.kind (q.getD x.a.toNat 0) (q.getD x.b.toNat 0)
def l6 (L:List Nq)(ks:List eH)(vs:List cj)(q:List Nat):Bool:=Cp L vs q&&Cq L ks q
theorem rJ (p:List Nat)(i j:Nat)(h:j<p.length):(p++ [i]).getD j 0=p.getD j 0:=by
 rw[List.getD_eq_getElem?_getD,List.getD_eq_getElem?_getD,List.getElem?_append_left h]
theorem Cr (p:List Nat)(i:Nat):(p++ [i]).getD p.length 0=i:=by
 rw[List.getD_eq_getElem?_getD,List.getElem?_append_right (Nat.le_refl _),Nat.sub_self];rfl
theorem E7 {α:Type}{f g h:α→Bool}:∀{l:List α},(∀a∈l,f a=(g a&&h a))→l.all f=(l.all g&&l.all h)
 | [],_=>rfl
 |a::l,H=>by
  rw[List.all_cons,List.all_cons,List.all_cons,H a (by simp),E7 fun b hb=>H b (by simp[hb])]
  cases g a<;>cases h a<;>cases l.all g<;>cases l.all h<;>rfl
theorem qR {α:Type}{f g:α→Bool}:∀{l:List α},(∀a∈l,f a=g a)→l.all f=l.all g
 | [],_=>rfl
 |a::l,H=>by rw[List.all_cons,List.all_cons,H a (by simp),qR fun b hb=>H b (by simp[hb])]
theorem FZ (L:List Nq)(vs:List cj)(v:cj)(p:List Nat)(i:Nat)(hv:vs[p.length]?=some v):Cp L vs (p++ [i])=(Cp L vs p&&lh v (L.getD i se)):=by
 unfold Cp;rw[List.length_append,List.length_singleton,List.range_succ,List.all_append,List.all_cons,List.all_nil,Bool.and_true,Cr,List.getD_eq_getElem?_getD (l:=vs),hv]
 congr 1
 exact qR fun j hj=>by rw[rJ p i j (List.mem_range.1 hj)]
theorem Fa (L:List Nq)(ks:List eH)(p:List Nat)(i:Nat)(hk:∀x∈ks,0≤x.a∧0≤x.b):Cq L ks (p++ [i])=(Cq L ks p&&okB L ks (p++ [i])):=by
 unfold Cq okB
 refine E7 fun x hx=> ?_
 obtain⟨h1,h2⟩:=hk x hx;unfold pe;rw[List.length_append,List.length_singleton]
 by_cases c:max x.a x.b<(p.length:Int)
 ·rw[decide_eq_true (show max x.a x.b<((p.length+1:Nat):Int) by omega),decide_eq_true c,decide_eq_false (show ¬max x.a x.b=((p.length+1:Nat):Int)-1 by omega),rJ p i _ (by omega),rJ p i _ (by omega)]
  simp
 ·by_cases c2:max x.a x.b<((p.length+1:Nat):Int)
  ·rw[decide_eq_true c2,decide_eq_false c,decide_eq_true (show max x.a x.b=((p.length+1:Nat):Int)-1 by omega)]
   simp
  ·rw[decide_eq_false c2,decide_eq_false c,decide_eq_false (show ¬max x.a x.b=((p.length+1:Nat):Int)-1 by omega)]
   simp
theorem uw (L:List Nq)(ks:List eH)(vs:List cj)(v:cj)(p:List Nat)(i:Nat)(hv:vs[p.length]?=some v)(hk:∀x∈ks,0≤x.a∧0≤x.b):l6 L ks vs (p++ [i])=(l6 L ks vs p&&Fu L ks v p i):=by
 unfold l6 Fu;rw[FZ L vs v p i hv,Fa L ks p i hk]
 cases Cp L vs p<;>cases Cq L ks p<;>cases lh v (L.getD i se)<;>cases okB L ks (p++ [i])<;>rfl
theorem sD {α β:Type}(f:α→List β)(q:β→Bool):∀l:List α,(l.flatMap f).filter q=l.flatMap fun a=>(f a).filter q
 | []=>rfl
 |a::l=>by rw[List.flatMap_cons,List.filter_append,sD f q l,List.flatMap_cons]
theorem ml {α β γ:Type}(f:α→β)(q:β→Bool)(e:β→List γ):∀l:List α,((l.map f).filter q).flatMap e=l.flatMap fun a=>if q (f a)then e (f a)else []
 | []=>rfl
 |a::l=>by
  rw[List.map_cons,List.flatMap_cons,←ml f q e l]
  by_cases h:q (f a)=true
  ·rw[List.filter_cons_of_pos h,List.flatMap_cons,if_pos h]
  ·rw[List.filter_cons_of_neg h,if_neg h,List.nil_append]
theorem ux (L:List Nq)(ks:List eH)(vs:List cj)(hk:∀x∈ks,0≤x.a∧0≤x.b):∀m,m≤vs.length→((ur L.length m).filter (l6 L ks vs)).flatMap (lj L ks (vs.drop m))=lj L ks vs []
 |0,_=>by
  have h:l6 L ks vs []=true:=by
   unfold l6 Cp Cq;rw[Bool.and_eq_true];refine⟨rfl,List.all_eq_true.2 fun x hx=> ?_⟩
   have:=hk x hx
   rw[decide_eq_false (by show ¬max x.a x.b<(([]:List Nat).length:Int);rw[List.length_nil];omega)];rfl
  show(List.filter (l6 L ks vs) [[]]).flatMap _=_
  rw[List.filter_cons_of_pos h,List.filter_nil,List.flatMap_cons,List.flatMap_nil,List.append_nil,List.drop_zero]
 |m+1,hm=>by
  have ih:=ux L ks vs hk m (by omega)
  have hv:vs[m]?=some vs[m]:=List.getElem?_eq_getElem (by omega)
  rw[←ih,bz hv,ur,sD,List.flatMap_assoc]
  have gen:∀l:List (List Nat),(∀p∈l,p.length=m)→l.flatMap (fun p=>(((List.range L.length).map fun i=>p++ [i]).filter (l6 L ks vs)).flatMap (lj L ks (vs.drop (m+1))))=(l.filter (l6 L ks vs)).flatMap (lj L ks (vs[m]::vs.drop (m+1))):=by
   intro l
   induction l with
   |nil=>intro _;rfl
   |cons p l yC=>
    intro hl
    have hp:=hl p (by simp)
    rw[List.flatMap_cons,yC fun q hq=>hl q (by simp[hq]),ml]
    by_cases hg:l6 L ks vs p=true
    ·rw[List.filter_cons_of_pos hg,List.flatMap_cons]
     congr 1
     rw[lj]
     refine mM fun i _=> ?_
     rw[uw L ks vs vs[m] p i (by rw[hp];exact hv) hk,hg,Bool.true_and]
    ·rw[List.filter_cons_of_neg hg]
     have:(List.range L.length).flatMap (fun i=>if l6 L ks vs (p++ [i])=true then lj L ks (vs.drop (m+1)) (p++ [i])else [])=[]:=by
      rw[List.flatMap_eq_nil_iff];intro i _
      rw[uw L ks vs vs[m] p i (by rw[hp];exact hv) hk,Bool.eq_false_iff.2 hg,Bool.false_and];rfl
     rw[this,List.nil_append]
  exact gen _ (uu _ m)
theorem Ja (L:List Nq)(ks:List eH)(vs:List cj)(hk:∀x∈ks,0≤x.a∧0≤x.b):lj L ks vs []=(ur L.length vs.length).filter (l6 L ks vs):=by
 rw[←ux L ks vs hk vs.length (Nat.le_refl _),List.drop_length]
 show _=_
 induction (ur L.length vs.length).filter (l6 L ks vs)with
 |nil=>rfl
 |cons p l ih=>rw[List.flatMap_cons,ih,lj];rfl
def uy (S:List B0)(vs:List cj)(ks:List eH)(q:List Nat):Bool:=((List.range q.length).all fun j=>yu (vs.getD j v0) (S.getD (q.getD j 0) JW))&&ks.all fun x=>oY x.kind (S.getD (q.getD x.a.toNat 0) JW) (S.getD (q.getD x.b.toNat 0) JW)
def Jb (S:List B0)(vs:List cj)(ks:List eH):List (List Nat):=((List.range (S.length^vs.length)).map (rI S.length vs.length)).filter (uy S vs ks)
theorem l7 {p:List Nat}{N j:Nat}(hp:∀i∈p,i<N)(hj:j<p.length):p.getD j 0<N:=by
 rw[List.getD_eq_getElem?_getD,List.getElem?_eq_getElem hj];exact hp _ (List.getElem_mem hj)
theorem Fc {nr nl:Nat}(g:iV){t:fG}(h:fq nr nl t){vs:List cj}{ks:List eH}(hq:uF vs ks):Jb (B1 g t [] 0) vs ks=kI g vs ks t:=by
 have hl:=Me g h [] 0 (-1) 0
 have mD:0<(m7 g t 0 (-1) 0).length:=by cases t;rw[m7,List.length_cons];omega
 unfold Jb kI;rw[Ja _ _ _ (fun x hx=>by have:=hq.link x hx;omega),hl,xQ mD]
 refine List.filter_congr fun p hp=> ?_
 have hn:=uu _ _ p hp
 have iW:=E6 _ _ p hp
 unfold uy l6 Cp Cq
 congr 1
 ·refine qR fun j hj=> ?_
  have hj:=List.mem_range.1 hj
  have hv:vs[j]?=some vs[j]:=List.getElem?_eq_getElem (by omega)
  rw[List.getD_eq_getElem?_getD (l:=vs),hv]
  have:=hq.var vs[j] (List.getElem_mem _)
  exact JX g h (l7 iW hj) _ ⟨this.1,this.2.1⟩
 ·refine qR fun x hx=> ?_
  have:=hq.link x hx
  rw[decide_eq_true (by omega),Bool.not_true,Bool.false_or];exact JY g h (l7 iW (by omega)) (l7 iW (by omega)) _
theorem Qc {p q:List Int}{k:Nat}{y z:Int}(h:q<+:p)(hy:q[k]?=some y)(hz:p[k]?=some z):z=y:=by
 have hl:=cL hy
 rw[List.prefix_iff_eq_take.1 h,List.getElem?_take,if_pos hl,hz]at hy;exact Option.some.inj hy
theorem Mg {p q:List Int}{k:Nat}(hk:q.length≤k)(h:q.take k=p.take k)(hq:q.length≤p.length):q<+:p:=by
 rw[List.take_of_length_le hk]at h
 rw[h];exact List.take_prefix _ _
theorem nj (u v:Value)(p q:List Int):ct Tryz.prog 43 #[u,v] [sl aK u p,sl aK v q] (.bool (rG p q)):=by
 refine ct.mw (args:=[u,v]) 26 Tryz.func43 rfl Tryz.ntmps43 rfl (fun c=> ?_);refine St.seq ?_;refine St.wf u (fun _ DR=> ?_);refine St.wf v (fun _ wv=> ?_);refine St.rg ?_;refine St.ak ?_;refine St.nn (St.seq (St.sr ?_));refine St.mv ?_;refine St.ee (Ev.ao (.mk rfl) bE) ?_;refine St.mv ?_;refine St.ee (Ev.ao (.mk rfl) bE) ?_;refine St.ee Ev.qn ?_;refine St.nn ?_;refine St.cond _ rfl (fun re=> ?_) (fun re=> ?_)
 ·try simp only[aC]at re
  refine St.sr ?_;refine St.ak ?_;refine St.nn (St.aX (St.aB ?_));refine St.rU [_] [] Tryz.results43 ?_;exact be (by unfold rG;rw[decide_eq_false (fun h=>by have:=h.length_le;omega)])
 ·try simp only[aC]at re
  refine St.skip (St.aA (St.seq (St.sr ?_)));refine St.ak ?_;refine St.nn (St.block ?_);refine St.lS (ι:=Nat) (fun k T=>(5,iv k)::T) (fun k=>k≤q.length∧q.take k=p.take k) (fun k=>q.length-k) 0 (aE.cons 0 rfl (aE.cons 1 rfl aE.nil)) ⟨Nat.zero_le _,rfl⟩ ?_;rintro k ⟨hk,hqp⟩;refine St.seq (St.sr ?_);refine St.mv ?_;refine St.mv ?_;refine St.ee (Ev.ao (.mk rfl) bE) ?_;refine St.ee Ev.dn ?_;refine St.nn ?_;refine St.cond _ rfl (fun pF=> ?_) (fun pF=> ?_)
  ·try simp only[aC]at pF
   obtain⟨y,hy⟩:=aO (show k<q.length by omega);obtain⟨z,hz⟩:=aO (show k<p.length by omega);refine St.skip (St.aA (St.seq (St.block (St.seq ?_))));refine St.rq mixed (by kernel_rfl) (Mm.drawn _ _) ?_;refine Sq.ee (Ev.move (.mk rfl)) ?_;refine Sq.ee (Ev.move (.mk rfl)) ?_;refine Sq.ee (Ev.aR (k:=k) (.mk rfl) (.mk rfl) bE cr (by omega) (by omega)) ?_;refine Sq.ee (Ev.ff (.mk rfl) hz bP trivial rfl) ?_;refine Sq.ee (Ev.move (.mk rfl)) ?_;refine Sq.ee (Ev.move (.mk rfl)) ?_;refine Sq.ee (Ev.aR (k:=k) (.mk rfl) (.mk rfl) bE cr (by omega) (by omega)) ?_;refine Sq.ee (Ev.ff (.mk rfl) hy bP trivial rfl) ?_;refine Sq.ee Ev.k9 ?_;refine Sq.nil ?_;refine St.aA ?_;refine St.cond _ rfl (fun ov=> ?_) (fun ov=> ?_)
   ·try simp only[aC]at ov
    refine St.sr ?_;refine St.ak ?_;refine St.nn (St.aX (St.aM (St.aB (St.aB (St.aM (St.aB ?_))))));refine St.rU [_] [] Tryz.results43 ?_;exact be (by unfold rG;rw[decide_eq_false (fun h=>by have:=Qc h hy hz;omega)])
   ·try simp only[aC]at ov
    refine St.skip (St.aN (St.aA (St.rg ?_)));refine St.mv ?_;refine St.ee Ev.a0 ?_;refine St.ak ?_;refine St.nn ?_;refine St.aS (k+1) ⟨by omega,by rw[bI hy,bI hz,hqp];congr 2;omega⟩
  ·try simp only[aC]at pF
   refine St.exit (St.aF (St.aF (St.bH (St.aA (St.sr ?_)))));refine St.ak ?_;refine St.nn (St.aX ?_);refine St.rU [_] [] Tryz.results43 ?_;exact be (by unfold rG;rw[decide_eq_true (Mg (by omega) hqp (by omega))])
theorem vi (va:cj)(x:cp):ct Tryz.prog 41 #[.agg #[sv va.name,iv va.kind,sv va.label],.agg #[x.pv.1,.bool x.leaf,sv x.label,iv x.oO,iv x.sV]] [] (.bool (yu va (mu x))):=by
 refine ct.jA (args:=[.agg #[sv va.name,iv va.kind,sv va.label],.agg #[x.pv.1,.bool x.leaf,sv x.label,iv x.oO,iv x.sV]]) 37 Tryz.func41 rfl Tryz.ntmps41 rfl (fun c=> ?_);refine St.sr ?_;refine St.cV (.mk rfl) rfl (fun b2=> ?_);refine St.cV (.mk rfl) rfl (fun b3=> ?_);refine St.ak ?_;refine St.nn (St.seq (St.sr ?_));refine St.ee (Ev.aD (.mk rfl) gO) ?_;refine St.ee (Ev.l0 (.mk rfl) bP) ?_;refine St.ee Ev.ey ?_;refine St.nn ?_;refine St.cond _ rfl (fun h7=> ?_) (fun h7=> ?_)
 ·try simp only[aC]at h7
  refine St.sr ?_;refine St.ee (Ev.aD (.mk rfl) yj) ?_;refine St.ee (Ev.l0 (.mk rfl) sJ) ?_;refine St.ee (Ev.not (.mk rfl)) ?_;refine St.mv ?_;refine St.gt _ rfl rfl (fun hg=>Ev.aD (.mk rfl) yk) rfl ?_;refine St.gt _ rfl rfl (fun hg=>Ev.cN (aL.gv rfl hg) df trivial (by rfl)) rfl ?_;refine St.gt _ rfl rfl (fun hg=>Ev.aD (.mk rfl) kK) rfl ?_;refine St.gt _ rfl rfl (fun hg=>Ev.cN (aL.gv rfl hg) df trivial (by rfl)) rfl ?_;refine St.gt _ rfl rfl (fun hg=>Ev.hP (aL.gv rfl hg) (aL.gv rfl hg)) rfl ?_;refine St.ee Ev.n0 ?_;refine St.ak ?_;refine St.nn (St.aX (St.aB ?_));refine St.rU [_] [] Tryz.results41 ?_;exact be (by unfold yu;rw[if_pos h7];congr 1;rw[Bool.eq_iff_iff,beq_iff_eq,decide_eq_true_eq];rfl)
 ·try simp only[aC]at h7
  refine St.skip (St.aA (St.seq (St.sr ?_)));refine St.ee (Ev.aD (.mk rfl) gO) ?_;refine St.ee (Ev.l0 (.mk rfl) bP) ?_;refine St.ee Ev.ey ?_;refine St.nn ?_;refine St.cond _ rfl (fun oW=> ?_) (fun oW=> ?_)
  ·try simp only[aC]at oW
   refine St.sr ?_;refine St.ee (Ev.aD (.mk rfl) yj) ?_;refine St.ee (Ev.l0 (.mk rfl) sJ) ?_;refine St.mv ?_;refine St.gt _ rfl rfl (fun hg=>Ev.aD (.mk rfl) yk) rfl ?_;refine St.gt _ rfl rfl (fun hg=>Ev.cN (aL.gv rfl hg) df trivial (by rfl)) rfl ?_;refine St.gt _ rfl rfl (fun hg=>Ev.aD (.mk rfl) kK) rfl ?_;refine St.gt _ rfl rfl (fun hg=>Ev.cN (aL.gv rfl hg) df trivial (by rfl)) rfl ?_;refine St.gt _ rfl rfl (fun hg=>Ev.hP (aL.gv rfl hg) (aL.gv rfl hg)) rfl ?_;refine St.ee Ev.n0 ?_;refine St.ak ?_;refine St.nn (St.aX (St.aB ?_));refine St.rU [_] [] Tryz.results41 ?_;exact be (by unfold yu;rw[if_neg h7,if_pos oW];congr 1;rw[Bool.eq_iff_iff,beq_iff_eq,decide_eq_true_eq];rfl)
  ·try simp only[aC]at oW
   refine St.skip (St.aA (St.sr ?_));refine St.ee (Ev.aD (.mk rfl) gO) ?_;refine St.ee (Ev.l0 (.mk rfl) bP) ?_;refine St.ee Ev.ey ?_;refine St.mv ?_;refine St.gf _ rfl rfl (fun hg=>Ev.aD (.mk rfl) yj) rfl ?_;refine St.gf _ rfl rfl (fun hg=>Ev.cN (aL.gv rfl hg) sJ trivial (by rfl)) rfl ?_;refine St.ee Ev.o0 ?_;refine St.ak ?_;refine St.nn (St.aX ?_);refine St.rU [_] [] Tryz.results41 ?_;exact be (by unfold yu;rw[if_neg h7,if_neg oW];rfl)
set_option maxHeartbeats 2000000 in
theorem sW (k:Int)(x y:cp)(R6:x.path.length≤1000000):ct Tryz.prog 15 #[iv k,.agg #[x.pv.1,.bool x.leaf,sv x.label,iv x.oO,iv x.sV],.agg #[y.pv.1,.bool y.leaf,sv y.label,iv y.oO,iv y.sV]] [rH x,rH y] (.bool (oY k (mu x) (mu y))):=by
 refine ct.mw (args:=[iv k,.agg #[x.pv.1,.bool x.leaf,sv x.label,iv x.oO,iv x.sV],.agg #[y.pv.1,.bool y.leaf,sv y.label,iv y.oO,iv y.sV]]) 86 Tryz.func15 rfl Tryz.ntmps15 rfl (fun c=> ?_);refine St.seq ?_;refine St.gQ (sl aK x.pv.1 x.path) [rH x] (fun ρ h=>h _ (List.mem_cons_self ..)) ?_;refine St.gQ (sl aK y.pv.1 y.path) [rH y] (fun ρ h=>h _ (List.mem_cons_self ..)) ?_;refine St.wf x.pv.1 (fun _ tB=> ?_);refine St.wf y.pv.1 (fun _ hyl=> ?_);refine St.rg ?_;refine St.cV (.mk rfl) rfl (fun b4=> ?_);refine St.cV (.mk rfl) rfl (fun b5=> ?_);refine St.ak ?_;refine St.nn (St.seq ?_);refine St.rq mixed (by kernel_rfl) (Mm.drawn _ _) ?_;refine Sq.ee (Ev.aD (.mk rfl) j5) ?_;refine Sq.ee (Ev.l0 (.mk rfl) bE) ?_;refine Sq.ee (Ev.ao (.mk rfl) bE) ?_;refine Sq.ee (Ev.aD (.mk rfl) j5) ?_;refine Sq.ee (Ev.l0 (.mk rfl) bE) ?_;refine Sq.ee (Ev.ao (.mk rfl) bE) ?_;refine Sq.ee (Ev.assign (.mk rfl)) ?_;refine Sq.ee (Ev.assign (.mk rfl)) ?_;refine Sq.nil ?_;refine St.aA (St.seq (St.sr ?_));refine St.mv ?_;refine St.ee Ev.ey ?_;refine St.nn ?_;refine St.cond _ rfl (fun q7=> ?_) (fun q7=> ?_)
 ·try simp only[aC]at q7
  refine St.sr ?_;refine St.mv ?_;refine St.mv ?_;refine St.ee Ev.a0 ?_;refine St.ee Ev.ey ?_;refine St.mv ?_;refine St.gt _ rfl rfl (fun hg=>Ev.aD (.mk rfl) j5) rfl ?_;refine St.gt _ rfl rfl (fun hg=>Ev.cN (aL.gv rfl hg) bE trivial (by rfl)) rfl ?_;refine St.gt _ rfl rfl (fun hg=>Ev.aD (.mk rfl) j5) rfl ?_;refine St.gt _ rfl rfl (fun hg=>Ev.cN (aL.gv rfl hg) bE trivial (by rfl)) rfl ?_;refine St.gt _ rfl rfl (fun hg=>Ev.call (nj y.pv.1 x.pv.1 y.path x.path) QD (.cons (aL.gv rfl hg) (.cons (aL.gv rfl hg) .nil))) rfl ?_;refine St.ee Ev.n0 ?_;refine St.ak ?_;refine St.nn (St.aX (St.aB ?_));refine St.rU [_] [] Tryz.results15 ?_;exact be (by unfold oY;rw[if_pos q7];congr 1;exact decide_eq_decide.2 (by dsimp only[mu];omega))
 ·try simp only[aC]at q7
  refine St.skip (St.aA (St.seq (St.sr ?_)));refine St.mv ?_;refine St.ee Ev.ey ?_;refine St.nn ?_;refine St.cond _ rfl (fun yp=> ?_) (fun yp=> ?_)
  ·try simp only[aC]at yp
   refine St.sr ?_;refine St.mv ?_;refine St.mv ?_;refine St.ee Ev.qn ?_;refine St.mv ?_;refine St.gt _ rfl rfl (fun hg=>Ev.aD (.mk rfl) j5) rfl ?_;refine St.gt _ rfl rfl (fun hg=>Ev.cN (aL.gv rfl hg) bE trivial (by rfl)) rfl ?_;refine St.gt _ rfl rfl (fun hg=>Ev.aD (.mk rfl) j5) rfl ?_;refine St.gt _ rfl rfl (fun hg=>Ev.cN (aL.gv rfl hg) bE trivial (by rfl)) rfl ?_;refine St.gt _ rfl rfl (fun hg=>Ev.call (nj y.pv.1 x.pv.1 y.path x.path) QD (.cons (aL.gv rfl hg) (.cons (aL.gv rfl hg) .nil))) rfl ?_;refine St.ee Ev.n0 ?_;refine St.ak ?_;refine St.nn (St.aX (St.aB ?_));refine St.rU [_] [] Tryz.results15 ?_;exact be (by unfold oY;rw[if_neg q7,if_pos yp];congr 1;exact decide_eq_decide.2 (by dsimp only[mu];omega))
  ·try simp only[aC]at yp
   refine St.skip (St.aA (St.seq (St.sr ?_)));refine St.mv ?_;refine St.ee Ev.ey ?_;refine St.nn ?_;refine St.cond _ rfl (fun oT=> ?_) (fun oT=> ?_)
   ·try simp only[aC]at oT
    refine St.sr ?_;refine St.ee (Ev.aD (.mk rfl) CV) ?_;refine St.ee (Ev.l0 (.mk rfl) bP) ?_;refine St.ee (Ev.aD (.mk rfl) CU) ?_;refine St.ee (Ev.l0 (.mk rfl) bP) ?_;refine St.ee Ev.Jm ?_;refine St.ak ?_;refine St.nn (St.aX (St.aB ?_));refine St.rU [_] [] Tryz.results15 ?_;exact be (by unfold oY;rw[if_neg q7,if_neg yp,if_pos oT];rfl)
   ·try simp only[aC]at oT
    refine St.skip (St.aA (St.seq (St.sr ?_)));refine St.mv ?_;refine St.ee Ev.ey ?_;refine St.nn ?_;refine St.cond _ rfl (fun qD=> ?_) (fun qD=> ?_)
    ·try simp only[aC]at qD
     refine St.sr ?_;refine St.ee (Ev.aD (.mk rfl) CV) ?_;refine St.ee (Ev.l0 (.mk rfl) bP) ?_;refine St.ee (Ev.aD (.mk rfl) CU) ?_;refine St.ee (Ev.l0 (.mk rfl) bP) ?_;refine St.ee Ev.ey ?_;refine St.ak ?_;refine St.nn (St.aX (St.aB ?_));refine St.rU [_] [] Tryz.results15 ?_;exact be (by unfold oY;rw[if_neg q7,if_neg yp,if_neg oT,if_pos qD];rfl)
    ·try simp only[aC]at qD
     refine St.skip (St.aA (St.seq ?_));refine St.part (Rr:=aK) (xs:=x.path) x.pv.1 0 (x.path.length-1) (by omega) (by omega) ?_;rw[show aK.size=1 from rfl];refine St.gQ (sl aK (pO x.pv.1 1 0 (x.path.length-1)) (x.path.take (x.path.length-1))) [sl aK (pO x.pv.1 1 0 (x.path.length-1)) ((x.path.drop 0).take (x.path.length-1-0))] (fun ρ h=>h _ (List.mem_cons_self ..)) ?_;refine St.eV [] mixed (fun np ns=> ?_);refine SW.dd 0 rfl (fun _=>Ev.move (.mk rfl)) ?_;refine SW.dd 1 rfl (fun _=>Ev.move (.mk rfl)) ?_;refine SW.dd 2 rfl (fun _=>Ev.ey) ?_;refine SW.dd 3 rfl (fun _=>Ev.move (.mk rfl)) ?_;refine SW.gt 4 _ np ns rfl rfl rfl (fun R hg=>Ev.move (.mk rfl)) (by kernel_rfl) rfl ?_;refine SW.gt 5 _ np ns rfl rfl rfl (fun R hg=>Ev.gtr (aL.gv rfl hg) (.mk rfl)) (by kernel_rfl) rfl ?_;refine SW.dd 6 rfl (fun _=>Ev.n0) ?_;refine SW.split 60 _ rfl (fun Jc=> ?_) (fun Jc=> ?_)
     ·simp only[Bool.and_eq_true,decide_eq_true_eq]at Jc
      obtain⟨PE,Sj⟩:=Jc;obtain⟨w,hw⟩:=aO (show x.path.length-1<x.path.length by omega);obtain⟨z,hz⟩:=aO (show x.path.length-1<y.path.length by omega);refine SW.dd 7 rfl (fun _=>Ev.move (.mk rfl)) ?_;refine SW.slot 61 (.bool true) rfl (congrArg Value.bool rfl) ?_;refine SW.gt 8 _ np ns rfl rfl rfl (fun R _=>Ev.aD (.mk rfl) j5) (by kernel_rfl) rfl ?_;refine SW.slot 62 _ rfl (bM rfl _) ?_;refine SW.gt 9 _ np ns rfl rfl rfl (fun R _=>Ev.cN (.mk rfl) bE trivial (by rfl)) (by kernel_rfl) rfl ?_;refine SW.slot 63 _ rfl (bM rfl _) ?_;refine SW.gt 10 _ np ns rfl rfl rfl (fun R _=>Ev.aD (.mk rfl) j5) (by kernel_rfl) rfl ?_;refine SW.slot 64 _ rfl (bM rfl _) ?_;refine SW.gt 11 _ np ns rfl rfl rfl (fun R _=>Ev.cN (.mk rfl) bE trivial (by rfl)) (by kernel_rfl) rfl ?_;refine SW.slot 65 _ rfl (bM rfl _) ?_;refine SW.gt 12 _ np ns rfl rfl rfl (fun R _=>Ev.move (.mk rfl)) (by kernel_rfl) rfl ?_;refine SW.slot 66 _ rfl (bM rfl _) ?_;refine SW.gt 13 _ np ns rfl rfl rfl (fun R _=>Ev.s0) (by kernel_rfl) rfl ?_;refine SW.slot 67 _ rfl (bM rfl _) ?_;refine SW.gt 14 _ np ns rfl rfl rfl (fun R _=>Ev.nk (h:=(x.path.length-1)) (.mk rfl) (.mk rfl) bE cr (by omega) (by omega)) (by kernel_rfl) rfl ?_;refine SW.slot 68 _ rfl (bM rfl _) ?_;refine SW.gt 15 _ np ns rfl rfl rfl (fun R _=>Ev.call (nj y.pv.1 (pO x.pv.1 1 0 (x.path.length-1)) y.path (x.path.take (x.path.length-1))) QD (.cons (.mk rfl) (.cons (.mk rfl) .nil))) (by kernel_rfl) rfl ?_;refine SW.slot 69 _ rfl (bM rfl _) ?_;refine SW.dd 16 rfl (fun _=>Ev.fB (.mk rfl) rfl (.mk rfl)) ?_;refine SW.split 70 _ rfl (fun Qd=> ?_) (fun Qd=> ?_)
      ·refine SW.dd 17 rfl (fun _=>Ev.move (.mk rfl)) ?_
       refine SW.slot 71 (.bool true) rfl (congrArg Value.bool rfl) ?_;refine SW.gt 18 _ np ns rfl rfl rfl (fun R _=>Ev.aD (.mk rfl) j5) (by kernel_rfl) rfl ?_;refine SW.slot 72 _ rfl (bM rfl _) ?_;refine SW.gt 19 _ np ns rfl rfl rfl (fun R _=>Ev.cN (.mk rfl) bE trivial (by rfl)) (by kernel_rfl) rfl ?_;refine SW.slot 73 _ rfl (bM rfl _) ?_;refine SW.gt 20 _ np ns rfl rfl rfl (fun R _=>Ev.move (.mk rfl)) (by kernel_rfl) rfl ?_;refine SW.slot 74 _ rfl (bM rfl _) ?_;refine SW.gt 21 _ np ns rfl rfl rfl (fun R _=>Ev.s0) (by kernel_rfl) rfl ?_;refine SW.slot 75 _ rfl (bM rfl _) ?_;refine SW.gt 22 _ np ns rfl rfl rfl (fun R _=>Ev.aR (k:=(x.path.length-1)) (.mk rfl) (.mk rfl) bE cr (by omega) (by omega)) (by kernel_rfl) rfl ?_;refine SW.slot 76 _ rfl (bM rfl _) ?_;refine SW.gt 23 _ np ns rfl rfl rfl (fun R _=>Ev.ff (.mk rfl) hw bP trivial rfl) (by kernel_rfl) rfl ?_;refine SW.slot 77 _ rfl (bM rfl _) ?_;refine SW.gt 24 _ np ns rfl rfl rfl (fun R _=>Ev.aD (.mk rfl) j5) (by kernel_rfl) rfl ?_;refine SW.slot 78 _ rfl (bM rfl _) ?_;refine SW.gt 25 _ np ns rfl rfl rfl (fun R _=>Ev.cN (.mk rfl) bE trivial (by rfl)) (by kernel_rfl) rfl ?_;refine SW.slot 79 _ rfl (bM rfl _) ?_;refine SW.gt 26 _ np ns rfl rfl rfl (fun R _=>Ev.move (.mk rfl)) (by kernel_rfl) rfl ?_;refine SW.slot 80 _ rfl (bM rfl _) ?_;refine SW.gt 27 _ np ns rfl rfl rfl (fun R _=>Ev.s0) (by kernel_rfl) rfl ?_;refine SW.slot 81 _ rfl (bM rfl _) ?_;refine SW.gt 28 _ np ns rfl rfl rfl (fun R _=>Ev.aR (k:=(x.path.length-1)) (.mk rfl) (.mk rfl) bE cr (by omega) (by omega)) (by kernel_rfl) rfl ?_;refine SW.slot 82 _ rfl (bM rfl _) ?_;refine SW.gt 29 _ np ns rfl rfl rfl (fun R _=>Ev.ff (.mk rfl) hz bP trivial rfl) (by kernel_rfl) rfl ?_;refine SW.slot 83 _ rfl (bM rfl _) ?_;refine SW.gt 30 _ np ns rfl rfl rfl (fun R _=>Ev.k9) (by kernel_rfl) rfl ?_;refine SW.slot 84 _ rfl (bM rfl _) ?_;refine SW.dd 31 rfl (fun _=>Ev.fB (.mk rfl) rfl (.mk rfl)) ?_;refine SW.dd 32 rfl (fun _=>Ev.assign (.mk rfl)) ?_;refine SW.done (by kernel_rfl) ?_;refine St.aA (St.aX ?_);refine St.rU [_] [] Tryz.results15 ?_
       have sc:oY k (mu x) (mu y)=(!decide (w=z)):=by unfold oY;rw[if_neg q7,if_neg yp,if_neg oT,if_neg qD];show(decide (x.path.length=y.path.length)&&(decide (0<x.path.length)&&(rG y.path (x.path.take (x.path.length-1))&&decide (x.path.getD (x.path.length-1) 0≠y.path.getD (x.path.length-1) 0))))=_;rw[decide_eq_true (by omega),decide_eq_true (by omega),show rG y.path (x.path.take (x.path.length-1))=true from Qd,List.getD_eq_getElem?_getD,List.getD_eq_getElem?_getD,hw,hz];simp
       exact be (by rw[sc])
      ·refine SW.dd 17 rfl (fun _=>Ev.move (.mk rfl)) ?_
       refine SW.slot 71 (.bool false) rfl (congrArg Value.bool rfl) ?_;refine SW.gt 18 undef np ns rfl rfl rfl (fun R hg=>by cases hg) (by kernel_rfl) rfl ?_;refine SW.slot 72 undef rfl (ag rfl _) ?_;refine SW.gt 19 undef np ns rfl rfl rfl (fun R hg=>by cases hg) (by kernel_rfl) rfl ?_;refine SW.slot 73 undef rfl (ag rfl _) ?_;refine SW.gt 20 undef np ns rfl rfl rfl (fun R hg=>by cases hg) (by kernel_rfl) rfl ?_;refine SW.slot 74 undef rfl (ag rfl _) ?_;refine SW.gt 21 undef np ns rfl rfl rfl (fun R hg=>by cases hg) (by kernel_rfl) rfl ?_;refine SW.slot 75 undef rfl (ag rfl _) ?_;refine SW.gt 22 undef np ns rfl rfl rfl (fun R hg=>by cases hg) (by kernel_rfl) rfl ?_;refine SW.slot 76 undef rfl (ag rfl _) ?_;refine SW.gt 23 undef np ns rfl rfl rfl (fun R hg=>by cases hg) (by kernel_rfl) rfl ?_;refine SW.slot 77 undef rfl (ag rfl _) ?_;refine SW.gt 24 undef np ns rfl rfl rfl (fun R hg=>by cases hg) (by kernel_rfl) rfl ?_;refine SW.slot 78 undef rfl (ag rfl _) ?_;refine SW.gt 25 undef np ns rfl rfl rfl (fun R hg=>by cases hg) (by kernel_rfl) rfl ?_;refine SW.slot 79 undef rfl (ag rfl _) ?_;refine SW.gt 26 undef np ns rfl rfl rfl (fun R hg=>by cases hg) (by kernel_rfl) rfl ?_;refine SW.slot 80 undef rfl (ag rfl _) ?_;refine SW.gt 27 undef np ns rfl rfl rfl (fun R hg=>by cases hg) (by kernel_rfl) rfl ?_;refine SW.slot 81 undef rfl (ag rfl _) ?_;refine SW.gt 28 undef np ns rfl rfl rfl (fun R hg=>by cases hg) (by kernel_rfl) rfl ?_;refine SW.slot 82 undef rfl (ag rfl _) ?_;refine SW.gt 29 undef np ns rfl rfl rfl (fun R hg=>by cases hg) (by kernel_rfl) rfl ?_;refine SW.slot 83 undef rfl (ag rfl _) ?_;refine SW.gt 30 undef np ns rfl rfl rfl (fun R hg=>by cases hg) (by kernel_rfl) rfl ?_;refine SW.slot 84 undef rfl (ag rfl _) ?_;refine SW.dd 31 rfl (fun _=>Ev.oc (.mk rfl) rfl (.mk rfl)) ?_;refine SW.dd 32 rfl (fun _=>Ev.assign (.mk rfl)) ?_;refine SW.done (by kernel_rfl) ?_;refine St.aA (St.aX ?_);refine St.rU [_] [] Tryz.results15 ?_
       have sc:oY k (mu x) (mu y)=false:=by unfold oY;rw[if_neg q7,if_neg yp,if_neg oT,if_neg qD];show(decide (x.path.length=y.path.length)&&(decide (0<x.path.length)&&(rG y.path (x.path.take (x.path.length-1))&&decide (x.path.getD (x.path.length-1) 0≠y.path.getD (x.path.length-1) 0))))=_;rw[show rG y.path (x.path.take (x.path.length-1))=false from Qd,Bool.false_and,Bool.and_false,Bool.and_false]
       exact be (by rw[sc])
     ·have Oj:¬(x.path.length=y.path.length∧0<x.path.length):=fun h=>by rw[show(decide ((x.path.length:Int)=(y.path.length:Int))&&decide ((0:Int)<(x.path.length:Int)))=true by rw[decide_eq_true (by omega),decide_eq_true (by omega)];rfl]at Jc;cases Jc
      refine SW.dd 7 rfl (fun _=>Ev.move (.mk rfl)) ?_;refine SW.slot 61 (.bool false) rfl (congrArg Value.bool rfl) ?_;refine SW.gt 8 undef np ns rfl rfl rfl (fun R hg=>by cases hg) (by kernel_rfl) rfl ?_;refine SW.slot 62 undef rfl (ag rfl _) ?_;refine SW.gt 9 undef np ns rfl rfl rfl (fun R hg=>by cases hg) (by kernel_rfl) rfl ?_;refine SW.slot 63 undef rfl (ag rfl _) ?_;refine SW.gt 10 undef np ns rfl rfl rfl (fun R hg=>by cases hg) (by kernel_rfl) rfl ?_;refine SW.slot 64 undef rfl (ag rfl _) ?_;refine SW.gt 11 undef np ns rfl rfl rfl (fun R hg=>by cases hg) (by kernel_rfl) rfl ?_;refine SW.slot 65 undef rfl (ag rfl _) ?_;refine SW.gt 12 undef np ns rfl rfl rfl (fun R hg=>by cases hg) (by kernel_rfl) rfl ?_;refine SW.slot 66 undef rfl (ag rfl _) ?_;refine SW.gt 13 undef np ns rfl rfl rfl (fun R hg=>by cases hg) (by kernel_rfl) rfl ?_;refine SW.slot 67 undef rfl (ag rfl _) ?_;refine SW.gt 14 undef np ns rfl rfl rfl (fun R hg=>by cases hg) (by kernel_rfl) rfl ?_;refine SW.slot 68 undef rfl (ag rfl _) ?_;refine SW.gt 15 undef np ns rfl rfl rfl (fun R hg=>by cases hg) (by kernel_rfl) rfl ?_;refine SW.slot 69 undef rfl (ag rfl _) ?_;refine SW.dd 16 rfl (fun _=>Ev.oc (.mk rfl) rfl (.mk rfl)) ?_;refine SW.dd 17 rfl (fun _=>Ev.move (.mk rfl)) ?_;refine SW.slot 71 (.bool false) rfl (congrArg Value.bool rfl) ?_;refine SW.gt 18 undef np ns rfl rfl rfl (fun R hg=>by cases hg) (by kernel_rfl) rfl ?_;refine SW.slot 72 undef rfl (ag rfl _) ?_;refine SW.gt 19 undef np ns rfl rfl rfl (fun R hg=>by cases hg) (by kernel_rfl) rfl ?_;refine SW.slot 73 undef rfl (ag rfl _) ?_;refine SW.gt 20 undef np ns rfl rfl rfl (fun R hg=>by cases hg) (by kernel_rfl) rfl ?_;refine SW.slot 74 undef rfl (ag rfl _) ?_;refine SW.gt 21 undef np ns rfl rfl rfl (fun R hg=>by cases hg) (by kernel_rfl) rfl ?_;refine SW.slot 75 undef rfl (ag rfl _) ?_;refine SW.gt 22 undef np ns rfl rfl rfl (fun R hg=>by cases hg) (by kernel_rfl) rfl ?_;refine SW.slot 76 undef rfl (ag rfl _) ?_;refine SW.gt 23 undef np ns rfl rfl rfl (fun R hg=>by cases hg) (by kernel_rfl) rfl ?_;refine SW.slot 77 undef rfl (ag rfl _) ?_;refine SW.gt 24 undef np ns rfl rfl rfl (fun R hg=>by cases hg) (by kernel_rfl) rfl ?_;refine SW.slot 78 undef rfl (ag rfl _) ?_;refine SW.gt 25 undef np ns rfl rfl rfl (fun R hg=>by cases hg) (by kernel_rfl) rfl ?_;refine SW.slot 79 undef rfl (ag rfl _) ?_;refine SW.gt 26 undef np ns rfl rfl rfl (fun R hg=>by cases hg) (by kernel_rfl) rfl ?_;refine SW.slot 80 undef rfl (ag rfl _) ?_;refine SW.gt 27 undef np ns rfl rfl rfl (fun R hg=>by cases hg) (by kernel_rfl) rfl ?_;refine SW.slot 81 undef rfl (ag rfl _) ?_;refine SW.gt 28 undef np ns rfl rfl rfl (fun R hg=>by cases hg) (by kernel_rfl) rfl ?_;refine SW.slot 82 undef rfl (ag rfl _) ?_;refine SW.gt 29 undef np ns rfl rfl rfl (fun R hg=>by cases hg) (by kernel_rfl) rfl ?_;refine SW.slot 83 undef rfl (ag rfl _) ?_;refine SW.gt 30 undef np ns rfl rfl rfl (fun R hg=>by cases hg) (by kernel_rfl) rfl ?_;refine SW.slot 84 undef rfl (ag rfl _) ?_;refine SW.dd 31 rfl (fun _=>Ev.oc (.mk rfl) rfl (.mk rfl)) ?_;refine SW.dd 32 rfl (fun _=>Ev.assign (.mk rfl)) ?_;refine SW.done (by kernel_rfl) ?_;refine St.aA (St.aX ?_);refine St.rU [_] [] Tryz.results15 ?_
      have sc:oY k (mu x) (mu y)=false:=by unfold oY;rw[if_neg q7,if_neg yp,if_neg oT,if_neg qD];show(decide (x.path.length=y.path.length)&&(decide (0<x.path.length)&&(rG y.path (x.path.take (x.path.length-1))&&decide (x.path.getD (x.path.length-1) 0≠y.path.getD (x.path.length-1) 0))))=_;by_cases h1:x.path.length=y.path.length;(rw[decide_eq_false (show ¬0<x.path.length from fun h=>Oj ⟨h1,h⟩),Bool.false_and,Bool.and_false]);rw[decide_eq_false h1,Bool.false_and]
      exact be (by rw[sc])
def Mh (S:List B0)(vs:List cj)(ks:List eH):List (List Int):=if S.length^vs.length≤400000 then(Jb S vs ks).map ints else []
theorem adE {a b:Nat}(ha:a≤1000000):IntKind.i64.wrap ((a:Int).tdiv b)=((a/b:Nat):Int):=by
 have h:=Nat.div_le_self a b
 rw[←Int.ofNat_tdiv]
 generalize a/b=c at h⊢
 exact pR (by omega)
theorem Mi (j:Nat)(D:List Nat)(x:Nat):(List.replicate (j+1) (0:Int)++ints D).set j (x:Int)=List.replicate j 0++ints (x::D):=by
 rw[List.replicate_succ',List.append_assoc,List.set_append_right _ _ (by rw[List.length_replicate];exact Nat.le_refl _),List.length_replicate,Nat.sub_self];rfl
def Cs (S:List B0)(vs:List cj)(D:List Nat)(j:Nat):Bool:=yu (vs.getD j v0) (S.getD (D.getD j 0) JW)
def Fe (S:List B0)(D:List Nat)(x:eH):Bool:=oY x.kind (S.getD (D.getD x.a.toNat 0) JW) (S.getD (D.getD x.b.toNat 0) JW)
theorem Jd (S:List B0)(vs:List cj)(ks:List eH)(D:List Nat):uy S vs ks D=((List.range D.length).all (Cs S vs D)&&ks.all (Fe S D)):=rfl
theorem B6 {α:Type}{f:α→Bool}{l:List α}{k:Nat}(h:(l.take k).all f=false):l.all f=false:=by
 have e:=List.take_append_drop k l
 rw[←e,List.all_append,h,Bool.false_and]
theorem Ct {n k:Nat}(h:k≤n):(List.range n).take k=List.range k:=by rw[List.take_range,Nat.min_eq_left h]
theorem rK {S:List cp}{i:Nat}{x:cp}(h:S[i]?=some x):(S.map mu).getD i JW=mu x:=by rw[List.getD_eq_getElem?_getD,List.getElem?_map,h];rfl
theorem ints_at {D:List Nat}{j:Nat}(h:j<D.length):(ints D)[j]?=some ((D.getD j 0:Nat):Int):=by
 rw[ints,List.getElem?_map,List.getD_eq_getElem?_getD,List.getElem?_eq_getElem h];rfl
theorem xR (f:Nat→List Nat)(p:List Nat→Bool)(k:Nat):((List.range (k+1)).map f).filter p=((List.range k).map f).filter p++if p (f k)=true then [f k]else []:=by
 rw[List.range_succ,List.map_append,List.filter_append,List.map_cons,List.map_nil]
 by_cases h:p (f k)=true
 ·rw[if_pos h,List.filter_cons_of_pos h,List.filter_nil]
 ·rw[if_neg h,List.filter_cons_of_neg h,List.filter_nil]
set_option maxHeartbeats 4000000 in
theorem vj (u:Value)(S:List cp)(q:eu)(hq:uF q.vars q.aZ)(hS1:0<S.length)(hS2:S.length≤200)(hSp:∀x∈S,x.path.length≤1000000):fF Tryz.prog 12 #[u,gJ q] ([dD q,sl mr u S,aY rH S].map aG) (fun r H'=>∃vo,r= .tuple #[vo,.bool (decide (S.length^q.vars.length≤400000))]∧H'=[aG (sG aK vo (Mh (S.map mu) q.vars q.aZ))]):=by
 refine fF.body (args:=[u,gJ q]) 127 Tryz.func12 rfl Tryz.ntmps12 rfl (fun c=> ?_);refine St.cast (H':=[aG (dD q),aG (sl mr u S),aG (aY rH S)]) rfl ?_;refine St.seq ?_
 refine St.fI (dD q) (fun _:Unit=>p8 q) (fun ρ h=>⟨(),h⟩) fun _=> ?_
 refine St.cast (H':=[aG (sl gz q.vv.1 q.vars),aG (sl iH q.kv.1 q.aZ),aG (dD q),aG (sl mr u S),aG (aY rH S)]) rfl ?_;refine St.wf u (fun _ DR=> ?_);refine St.wf q.vv.1 (fun TR wv=> ?_);refine St.wf q.kv.1 (fun _ qa=> ?_)
 have hSl:(S.map mu).length=S.length:=List.length_map ..
 have hn4:=hq.Sz
 have Ql:=hq.pos
 refine St.rg ?_;refine St.cV (.mk rfl) rfl (fun b3=> ?_);refine St.ak ?_;refine St.ak ?_;refine St.nn (St.sr ?_);refine St.ak ?_;refine St.nn (St.seq (St.sr ?_));refine St.ak ?_;refine St.nn (St.block ?_);refine St.mf (ι:=Nat) (κ:=Nat) (fun k m T=>(7,iv k)::(6,iv ((m:Nat):Int))::T) (fun k m=>[ae b3 (.cells [q.vv.1,q.kv.1].toArray 36 (0,0)),aG (sl gz q.vv.1 q.vars),aG (sl iH q.kv.1 q.aZ),aG (sl mr u S),aG (aY rH S)]) (fun k m=>k≤q.vars.length∧m=S.length^k∧m≤400000) (fun k m=>q.vars.length-k) 0 1 (aE.cons 0 rfl (aE.cons 3 rfl aE.nil)) ⟨Nat.zero_le _,rfl,by decide⟩ ?_;rintro k m ⟨hk,hm,hmb⟩;refine St.seq (St.sr ?_);refine St.mv ?_;refine St.ee (Ev.aD (.mk rfl) eg) ?_;refine St.ee (Ev.l0 (.mk rfl) eX) ?_;refine St.ee (Ev.ao (.mk rfl) eX) ?_;refine St.ee Ev.dn ?_;refine St.nn ?_;refine St.cond _ rfl (fun oW=> ?_) (fun oW=> ?_)
 ·try simp only[aC]at oW
  have sX:m*S.length≤400000*200:=Nat.mul_le_mul hmb hS2
  refine St.skip (St.aA (St.seq (St.block (St.sr ?_))));refine St.mv ?_;refine St.mv ?_;refine St.ee (Ev.ao (.mk rfl) tY) ?_;refine St.ee (Ev.mul (.mk rfl) (.mk rfl) (by rw[←Int.natCast_mul];omega)) ?_;refine St.slot 26 (iv ((m*S.length:Nat):Int)) rfl (congrArg iv (Int.natCast_mul _ _)) ?_;refine St.ak ?_;refine St.nn (St.sr ?_);refine St.mv ?_;refine St.ee Ev.qn ?_;refine St.nn ?_;refine St.cond _ rfl (fun qX=> ?_) (fun qX=> ?_)
  ·try simp only[aC]at qX
   have LR:¬S.length^q.vars.length≤400000:=by have h2:=Nat.pow_le_pow_right hS1 (show k+1≤q.vars.length by omega);rw[Nat.pow_succ,←hm]at h2;omega
   refine St.sr ?_;refine St.ak ?_;refine St.ak ?_;refine St.nn (St.aX (St.aM (St.aB (St.aB (St.aM (St.aB ?_))))));refine St.hY cC ?_;refine St.n8 aK ?_;refine St.BZ (Rr:=aK) (l:=[]) (.slice none 0 0) (vs:=[]) rfl ?_;refine St.rT [_,_] [aG (sG aK (.slice none 0 0) [])] Tryz.results12 ⟨rfl,⟨rfl,trivial⟩⟩ ?_;exact⟨(.slice none 0 0),congrArg (fun b=>Value.tuple #[(.slice none 0 0),.bool b]) (decide_eq_false LR).symm,by unfold Mh;rw[hSl,if_neg LR]⟩
  ·try simp only[aC]at qX
   refine St.skip (St.aN (St.aA (St.rg ?_)));refine St.mv ?_;refine St.ee Ev.a0 ?_;refine St.ak ?_;refine St.nn ?_;refine St.jb (k+1) (m*S.length) ⟨by omega,by rw[hm,Nat.pow_succ],by omega⟩
 ·try simp only[aC]at oW
  obtain rfl:k=q.vars.length:=by omega
  refine St.exit (St.aF (St.aF (St.bH (St.aA (St.sr ?_)))));refine St.cn rfl (.nil) dE eI fU rfl rfl (by simp[Value.cells]) rfl rfl (fun b29=> ?_);refine St.ak ?_;refine St.nn (St.seq (St.seq ?_));refine St.bB (.slice (some ⟨b29,0,none⟩) 0 0) (show _=([]:List (List Nat)).length from rfl) (show _=rows cC []from rfl) ?_;refine St.n8 aK ?_;refine St.cast (H':=_::_) (show aG (jx aK [] [])::_=aG (jx aK [] (([]:List (List Nat)).map ints))::_ from rfl) ?_;refine St.rg ?_;refine St.ak ?_;refine St.nn (St.block ?_);refine St.mf (ι:=Nat) (κ:=Value×List ck×List (List Nat)) (fun k z T=>(9,iv k)::(8,z.1)::T) (fun k z=>[row z.1 57 1 (z.2.2).length (rows cC (z.2.1)),aG (jx aK (z.2.1) ((z.2.2).map ints)),ae b3 (.cells [q.vv.1,q.kv.1].toArray 36 (0,0)),aG (sl gz q.vv.1 q.vars),aG (sl iH q.kv.1 q.aZ),aG (sl mr u S),aG (aY rH S)]) (fun k z=>k≤m∧z.1.oneCell'=true∧z.2.1.length=z.2.2.length∧z.2.2=((List.range (k)).map (rI S.length q.vars.length)).filter (uy (S.map mu) q.vars q.aZ)∧z.2.2.length≤k) (fun k z=>m-k) 0 ((.slice (some ⟨b29,0,none⟩) 0 0),[],[]) (aE.cons 0 rfl (aE.cons 3 rfl (aE.cons 6 rfl aE.nil))) ⟨Nat.zero_le _,rfl,rfl,rfl,Nat.le_refl _⟩ ?_;rintro k ⟨vo,us,O⟩ ⟨hk,NS,yc,hO,hOk⟩
  dsimp only at NS yc hO hOk⊢
  refine St.seq (St.sr ?_);refine St.mv ?_;refine St.mv ?_;refine St.ee Ev.dn ?_;refine St.nn ?_;refine St.cond _ rfl (fun oE=> ?_) (fun oE=> ?_)
  ·try simp only[aC]at oE
   refine St.skip (St.aA (St.seq (St.block (St.sr ?_))));refine St.ee (Ev.aD (.mk rfl) eg) ?_;refine St.ee (Ev.l0 (.mk rfl) eX) ?_;refine St.ee (Ev.ao (.mk rfl) eX) ?_;refine St.gB (m:=q.vars.length) (.mk rfl) (.mk rfl) bE cr eJ Gh rfl rfl (by omega) rfl rfl (fun Je=> ?_);refine St.bB (.slice (some ⟨Je,0,none⟩) q.vars.length q.vars.length) rfl (AR _) ?_;refine St.ak ?_;refine St.nn (St.sr ?_);refine St.mv ?_;refine St.ak ?_;refine St.nn (St.seq (St.sr ?_));refine St.mv ?_;refine St.ee (Ev.fS (.mk rfl) bE) ?_;refine St.ee Ev.s0 ?_;refine St.ak ?_;refine St.nn (St.block ?_);refine St.bB (.slice (some ⟨Je,0,none⟩) q.vars.length q.vars.length) rfl (show _=rows aK (List.replicate q.vars.length 0++ints []) by rw[show ints []=[]from rfl,List.append_nil]) ?_;refine St.mf (ι:=Nat) (κ:=Nat×List Nat) (fun i z T=>(12,iv ((i:Nat)-1:Int))::(11,iv ((z.1:Nat):Int))::T) (fun i z=>[row (.slice (some ⟨Je,0,none⟩) q.vars.length q.vars.length) 3 1 q.vars.length (rows aK (List.replicate i 0++ints z.2)),row vo 57 1 (O).length (rows cC (us)),aG (jx aK (us) ((O).map ints)),ae b3 (.cells [q.vv.1,q.kv.1].toArray 36 (0,0)),aG (sl gz q.vv.1 q.vars),aG (sl iH q.kv.1 q.aZ),aG (sl mr u S),aG (aY rH S)]) (fun i z=>i≤q.vars.length∧z.2.length+i=q.vars.length∧rI S.length i z.1++z.2=rI S.length q.vars.length k∧z.1≤400000) (fun i z=>i) q.vars.length (k,[]) (aE.cons 0 rfl (aE.cons 3 rfl (aE.cons 6 rfl (aE.cons 8 rfl (aE.cons 9 rfl (aE.cons 10 rfl aE.nil)))))) ⟨Nat.le_refl _,Nat.zero_add _,List.append_nil _,by dsimp only;omega⟩ ?_;rintro i ⟨r,D⟩ ⟨hi,Qv,hdg,hr⟩
   dsimp only at Qv hdg hr⊢
   refine St.seq (St.sr ?_);refine St.mv ?_;refine St.ee Ev.qV ?_;refine St.nn ?_;refine St.cond _ rfl (fun vC=> ?_) (fun vC=> ?_)
   ·try simp only[aC]at vC
    obtain⟨j,rfl⟩:∃j,i=j+1:=⟨i-1,by omega⟩
    have hii:((j+1:Nat):Int)-1=(j:Nat):=by omega
    have hrd:=Nat.div_le_self r S.length
    refine St.skip (St.aA (St.seq (St.block (St.seq ?_))));refine St.slot 12 (iv ((j:Nat):Int)) rfl (congrArg iv hii) ?_;refine St.rg ?_;refine St.mv ?_;refine St.mv ?_;refine St.mv ?_;refine St.mv ?_;refine St.ee (Ev.ao (.mk rfl) tY) ?_;refine St.ee (Ev.rem (.mk rfl) (.mk rfl) (by omega)) ?_;refine St.slot 52 (iv ((r%S.length:Nat):Int)) rfl (congrArg iv (Int.ofNat_tmod _ _).symm) ?_;refine St.ee (Ev.cK (k:=j) (.mk rfl) (.mk rfl) bE cr (by omega) (by omega)) ?_;refine St.dH (.mk rfl) (.mk rfl) cr rfl (by omega) (by decide) ?_;refine St.Mw (.slice (some ⟨Je,0,none⟩) q.vars.length q.vars.length) (show _=rows aK (List.replicate j 0++ints (r%S.length::D)) by rw[AL,Mi]) ?_;refine St.nn (St.rg ?_);refine St.mv ?_;refine St.mv ?_;refine St.ee (Ev.ao (.mk rfl) tY) ?_;refine St.ee (Ev.Xu (.mk rfl) (.mk rfl) (by omega)) ?_;refine St.slot 57 (iv ((r/S.length:Nat):Int)) rfl (congrArg iv (adE (by omega))) ?_;refine St.ak ?_;refine St.nil (St.aN (St.aA (St.rg ?_)));refine St.mv ?_;refine St.ee Ev.s0 ?_;refine St.ak ?_;refine St.nn ?_;refine St.slot 12 (iv ((j:Nat)-1:Int)) rfl rfl ?_;refine St.jb j (r/S.length,r%S.length::D) ⟨by omega,by dsimp only;rw[List.length_cons];omega,by dsimp only;rw[←hdg,rI,List.append_assoc];rfl,by dsimp only;omega⟩
   ·try simp only[aC]at vC
    obtain rfl:i=0:=by omega
    have hDk:D=rI S.length q.vars.length k:=hdg
    refine St.bB (.slice (some ⟨Je,0,none⟩) q.vars.length q.vars.length) rfl (show _=rows aK (ints D)from rfl) ?_
    have adF:D.length=q.vars.length:=by omega
    have Qe:∀i∈D,i<S.length:=by rw[hDk];exact E5 hS1 _ _
    refine St.exit (St.aF (St.aF (St.bH (St.aA (St.sr ?_)))));refine St.ak ?_;refine St.nn (St.seq (St.sr ?_));refine St.ak ?_;refine St.nn (St.block ?_);refine St.mf (ι:=Nat) (κ:=Bool) (fun i b T=>(14,iv i)::(13,.bool b)::T) (fun i b=>[row (.slice (some ⟨Je,0,none⟩) q.vars.length q.vars.length) 3 1 q.vars.length (rows aK (ints D)),row vo 57 1 (O).length (rows cC (us)),aG (jx aK (us) ((O).map ints)),ae b3 (.cells [q.vv.1,q.kv.1].toArray 36 (0,0)),aG (sl gz q.vv.1 q.vars),aG (sl iH q.kv.1 q.aZ),aG (sl mr u S),aG (aY rH S)]) (fun i b=>i≤q.vars.length∧b=(List.range i).all (Cs (S.map mu) q.vars D)) (fun i b=>q.vars.length-i) 0 true (aE.cons 0 rfl (aE.cons 3 rfl (aE.cons 6 rfl (aE.cons 8 rfl (aE.cons 9 rfl (aE.cons 10 rfl aE.nil)))))) ⟨Nat.zero_le _,rfl⟩ ?_;rintro i b ⟨RU,hb⟩;refine St.seq (St.sr ?_);refine St.mv ?_;refine St.mv ?_;refine St.ee (Ev.fS (.mk rfl) bE) ?_;refine St.ee Ev.dn ?_;refine St.mv ?_;refine St.gt _ rfl rfl (fun hg=>Ev.move (.mk rfl)) rfl ?_;refine St.ee Ev.n0 ?_;refine St.nn ?_;refine St.cond _ rfl (fun mh=> ?_) (fun mh=> ?_)
    ·skip
     simp only[Bool.and_eq_true,decide_eq_true_eq]at mh
     obtain⟨iW,Jn⟩:=mh;obtain⟨va,Na⟩:=aO (show i<q.vars.length by omega)
     have hDi:=Qe _ (List.getElem_mem (show i<D.length by omega))
     have Ob:D.getD i 0<S.length:=l7 Qe (by omega)
     obtain⟨x,hx⟩:=aO Ob
     have Ym:yu va (mu x)=Cs (S.map mu) q.vars D i:=by unfold Cs;rw[rK hx,List.getD_eq_getElem?_getD (l:=q.vars),Na];rfl
     refine St.skip (St.aA (St.seq (St.block ?_)));refine St.eV [] mixed (fun np ns=> ?_);refine SW.dd 0 rfl (fun _=>Ev.aD (.mk rfl) eg) ?_;refine SW.dd 1 rfl (fun _=>Ev.cN (.mk rfl) eX trivial (by rfl)) ?_;refine SW.dd 2 rfl (fun _=>Ev.move (.mk rfl)) ?_;refine SW.dd 3 rfl (fun _=>Ev.aR (k:=i) (.mk rfl) (.mk rfl) eX nX (by omega) (by omega)) ?_;refine SW.dd 4 rfl (fun _=>Ev.fg (.mk rfl) Na Ge trivial nX ei.eq) ?_;refine SW.slot 71 (.agg #[sv va.name,iv va.kind,sv va.label]) rfl rfl ?_;refine SW.dd 5 rfl (fun _=>Ev.move (.mk rfl)) ?_;refine SW.dd 6 rfl (fun _=>Ev.move (.mk rfl)) ?_;refine SW.dd 7 rfl (fun _=>Ev.move (.mk rfl)) ?_;refine SW.dd 8 rfl (fun _=>Ev.jL (k:=i) rfl (.mk rfl) (.mk rfl) bE cr (by omega) (by omega)) ?_;refine SW.dd 9 rfl (fun _=>Ev.hS (.mk rfl) bP trivial (by omega) (qB (ints_at (show i<D.length by omega)))) ?_;refine SW.dd 10 rfl (fun _=>Ev.aR (k:=D.getD i 0) (.mk rfl) (.mk rfl) tY sR (by omega) (by omega)) ?_;refine SW.dd 11 rfl (fun _=>Ev.fg (.mk rfl) hx Tryz.underlying60 trivial sR ei.eq) ?_;refine SW.slot 78 (.agg #[x.pv.1,.bool x.leaf,sv x.label,iv x.oO,iv x.sV]) rfl rfl ?_;refine SW.dd 12 rfl (fun _=>Ev.call (vi va x) acS (.cons (.mk rfl) (.cons (.mk rfl) .nil))) ?_;refine SW.slot 79 (.bool (Cs (S.map mu) q.vars D i)) rfl (congrArg Value.bool Ym) ?_;refine SW.dd 13 rfl (fun _=>Ev.assign (.mk rfl)) ?_;refine SW.done (by kernel_rfl) ?_;refine St.aN (St.aA (St.rg ?_));refine St.mv ?_;refine St.ee Ev.a0 ?_;refine St.ak ?_;refine St.nn ?_;refine St.jb (i+1) (Cs (S.map mu) q.vars D i) ⟨by omega,by rw[List.range_succ,List.all_append,←hb,Jn,List.all_cons,List.all_nil,Bool.and_true,Bool.true_and]⟩
    ·skip
     have hfa:b=(List.range D.length).all (Cs (S.map mu) q.vars D):=by rcases Nat.lt_or_ge i q.vars.length with h|h;(have Qw:b=false:=by cases b;rfl;rw[decide_eq_true (by omega)]at mh;cases mh);(rw[Qw];rw[Qw]at hb;symm;exact B6 (k:=i) (by rw[Ct (by omega)];exact hb.symm));rw[hb,show i=D.length by omega]
     refine St.exit (St.aF (St.aF (St.bH (St.aA (St.seq (St.sr ?_))))));refine St.ak ?_;refine St.nn (St.block ?_);refine St.mf (ι:=Nat) (κ:=Bool) (fun i d T=>(15,iv i)::(13,.bool d)::T) (fun i d=>[row (.slice (some ⟨Je,0,none⟩) q.vars.length q.vars.length) 3 1 q.vars.length (rows aK (ints D)),row vo 57 1 (O).length (rows cC (us)),aG (jx aK (us) ((O).map ints)),ae b3 (.cells [q.vv.1,q.kv.1].toArray 36 (0,0)),aG (sl gz q.vv.1 q.vars),aG (sl iH q.kv.1 q.aZ),aG (sl mr u S),aG (aY rH S)]) (fun i d=>i≤q.aZ.length∧d=(b&&(q.aZ.take i).all (Fe (S.map mu) D))) (fun i d=>q.aZ.length-i) 0 b (aE.cons 0 rfl (aE.cons 3 rfl (aE.cons 6 rfl (aE.cons 8 rfl (aE.cons 9 rfl (aE.cons 10 rfl aE.nil)))))) ⟨Nat.zero_le _,(Bool.and_true _).symm⟩ ?_;rintro i d ⟨hi3,hd⟩;refine St.seq (St.sr ?_);refine St.mv ?_;refine St.ee (Ev.aD (.mk rfl) kJ) ?_;refine St.ee (Ev.l0 (.mk rfl) jG) ?_;refine St.ee (Ev.ao (.mk rfl) jG) ?_;refine St.ee Ev.dn ?_;refine St.mv ?_;refine St.gt _ rfl rfl (fun hg=>Ev.move (.mk rfl)) rfl ?_;refine St.ee Ev.n0 ?_;refine St.nn ?_;refine St.cond _ rfl (fun vU=> ?_) (fun vU=> ?_)
     ·skip
      simp only[Bool.and_eq_true,decide_eq_true_eq]at vU
      obtain⟨iW,hdt⟩:=vU;obtain⟨x,hx⟩:=aO (show i<q.aZ.length by omega);obtain⟨Pe,TV,R0,NU,hx5,hx6,hx7⟩:=hq.link x (List.mem_of_getElem? hx);obtain⟨y,hy⟩:=aO (l7 Qe (show x.a.toNat<D.length by omega));obtain⟨w,hw⟩:=aO (l7 Qe (show x.b.toNat<D.length by omega))
      have sc:oY x.kind (mu y) (mu w)=Fe (S.map mu) D x:=by unfold Fe;rw[rK hy,rK hw]
      have hya:=l7 Qe (show x.a.toNat<D.length by omega)
      have WV:=l7 Qe (show x.b.toNat<D.length by omega)
      refine St.cD rH S (x:=y) (List.mem_of_getElem? hy) ?_;refine St.cD rH S (x:=w) (List.mem_of_getElem? hw) ?_;refine St.skip (St.aA (St.seq (St.block ?_)));refine St.eV [] mixed (fun np ns=> ?_);refine SW.dd 0 rfl (fun _=>Ev.aD (.mk rfl) kJ) ?_;refine SW.dd 1 rfl (fun _=>Ev.cN (.mk rfl) jG trivial (by rfl)) ?_;refine SW.dd 2 rfl (fun _=>Ev.move (.mk rfl)) ?_;refine SW.dd 3 rfl (fun _=>Ev.aR (k:=i) (.mk rfl) (.mk rfl) jG oV (by omega) (by omega)) ?_;refine SW.dd 4 rfl (fun _=>Ev.e8 (.mk rfl) (by omega) pH) ?_;refine SW.dd 5 rfl (fun _=>Ev.ff (.mk rfl) hx bP trivial rfl) ?_;refine SW.dd 6 rfl (fun _=>Ev.move (.mk rfl)) ?_;refine SW.dd 7 rfl (fun _=>Ev.move (.mk rfl)) ?_;refine SW.dd 8 rfl (fun _=>Ev.aD (.mk rfl) kJ) ?_;refine SW.dd 9 rfl (fun _=>Ev.cN (.mk rfl) jG trivial (by rfl)) ?_;refine SW.dd 10 rfl (fun _=>Ev.move (.mk rfl)) ?_;refine SW.dd 11 rfl (fun _=>Ev.aR (k:=i) (.mk rfl) (.mk rfl) jG oV (by omega) (by omega)) ?_;refine SW.dd 12 rfl (fun _=>Ev.e8 (.mk rfl) (by omega) lL) ?_;refine SW.dd 13 rfl (fun _=>Ev.ff (.mk rfl) hx bP trivial rfl) ?_;refine SW.dd 14 rfl (fun _=>Ev.jL (k:=x.a.toNat) rfl (.mk rfl) (.mk rfl) bE cr (by omega) (by omega)) ?_;refine SW.dd 15 rfl (fun _=>Ev.hS (.mk rfl) bP trivial (by omega) (qB (ints_at (show x.a.toNat<D.length by omega)))) ?_;refine SW.dd 16 rfl (fun _=>Ev.aR (k:=D.getD x.a.toNat 0) (.mk rfl) (.mk rfl) tY sR (by omega) (by omega)) ?_;refine SW.dd 17 rfl (fun _=>Ev.fg (.mk rfl) hy Tryz.underlying60 trivial sR ei.eq) ?_;refine SW.slot 107 (.agg #[y.pv.1,.bool y.leaf,sv y.label,iv y.oO,iv y.sV]) rfl rfl ?_;refine SW.dd 18 rfl (fun _=>Ev.move (.mk rfl)) ?_;refine SW.dd 19 rfl (fun _=>Ev.move (.mk rfl)) ?_;refine SW.dd 20 rfl (fun _=>Ev.aD (.mk rfl) kJ) ?_;refine SW.dd 21 rfl (fun _=>Ev.cN (.mk rfl) jG trivial (by rfl)) ?_;refine SW.dd 22 rfl (fun _=>Ev.move (.mk rfl)) ?_;refine SW.dd 23 rfl (fun _=>Ev.aR (k:=i) (.mk rfl) (.mk rfl) jG oV (by omega) (by omega)) ?_;refine SW.dd 24 rfl (fun _=>Ev.e8 (.mk rfl) (by omega) lM) ?_;refine SW.dd 25 rfl (fun _=>Ev.ff (.mk rfl) hx bP trivial rfl) ?_;refine SW.dd 26 rfl (fun _=>Ev.jL (k:=x.b.toNat) rfl (.mk rfl) (.mk rfl) bE cr (by omega) (by omega)) ?_;refine SW.dd 27 rfl (fun _=>Ev.hS (.mk rfl) bP trivial (by omega) (qB (ints_at (show x.b.toNat<D.length by omega)))) ?_;refine SW.dd 28 rfl (fun _=>Ev.aR (k:=D.getD x.b.toNat 0) (.mk rfl) (.mk rfl) tY sR (by omega) (by omega)) ?_;refine SW.dd 29 rfl (fun _=>Ev.fg (.mk rfl) hw Tryz.underlying60 trivial sR ei.eq) ?_;refine SW.slot 119 (.agg #[w.pv.1,.bool w.leaf,sv w.label,iv w.oO,iv w.sV]) rfl rfl ?_;refine SW.dd 30 rfl (fun _=>Ev.call (sW x.kind y w (hSp y (List.mem_of_getElem? hy))) acT (.cons (.mk rfl) (.cons (.mk rfl) (.cons (.mk rfl) .nil)))) ?_;refine SW.slot 120 (.bool (Fe (S.map mu) D x)) rfl (congrArg Value.bool sc) ?_;refine SW.dd 31 rfl (fun _=>Ev.assign (.mk rfl)) ?_;refine SW.done (by kernel_rfl) ?_;refine St.aN (St.aA (St.rg ?_));refine St.mv ?_;refine St.ee Ev.a0 ?_;refine St.ak ?_;refine St.nn ?_;refine St.jb (i+1) (Fe (S.map mu) D x) ⟨by omega,by rw[bI hx,List.all_append,←Bool.and_assoc,←hd,hdt,List.all_cons,List.all_nil,Bool.and_true,Bool.true_and]⟩
     ·skip
      have hda:d=uy (S.map mu) q.vars q.aZ D:=by rw[Jd,←hfa];rcases Nat.lt_or_ge i q.aZ.length with h|h;(have Cw:d=false:=by cases d;rfl;rw[decide_eq_true (by omega)]at vU;cases vU);(rw[Cw];rw[Cw]at hd;cases b;rfl;rw[Bool.true_and]at hd⊢;symm;exact B6 hd.symm);rw[hd,List.take_of_length_le h]
      refine St.exit (St.aF (St.aF (St.bH (St.aA (St.sr ?_)))));refine St.mv ?_;refine St.nn ?_;refine St.cond _ rfl (fun Jf=> ?_) (fun Jf=> ?_)
      ·try simp only[aC]at Jf
       have hOn:O++ [D]=((List.range (k+1)).map (rI S.length q.vars.length)).filter (uy (S.map mu) q.vars q.aZ):=by rw[xR,←hO,←hDk,if_pos (by rw[←hda];exact Jf)]
       refine St.aV (.slice (some ⟨Je,0,none⟩) q.vars.length q.vars.length) aK (ints D) rfl (by rw[ri];exact adF.symm) (qC fun i hi=>by have:=Qe i hi;omega) ?_;refine St.rg ?_;refine St.mv ?_;refine St.mv ?_;refine St.cn rfl (.cons (.mk rfl) .nil) dE eI fU rfl rfl (by simp[Value.cells]) rfl rfl (fun FJ=> ?_);refine St.cS (.mk rfl) (.mk rfl) dE eI fU Hc (by simp[Value.oneCell',Value.cells]) (by omega) (by omega) rfl rfl rfl rfl (fun Qf adQ=> ?_);refine St.bB Qf (show _=(O++ [D]).length by rw[List.length_append];rfl) (show _=rows cC (us++ [⟨(.slice (some ⟨Je,0,none⟩) q.vars.length q.vars.length),rfl⟩]) by rw[cz];rfl) ?_;refine St.eG Qf (fun JT _=> ?_);refine St.nw us ⟨(.slice (some ⟨Je,0,none⟩) q.vars.length q.vars.length),rfl⟩ (by rw[List.length_map];exact yc) ?_;rw[show O.map ints++ [ints D]=(O++ [D]).map ints by rw[List.map_append];rfl];refine St.ak ?_;refine St.nil (St.aN (St.aA (St.rg ?_)));refine St.mv ?_;refine St.ee Ev.a0 ?_;refine St.ak ?_;refine St.nn ?_;refine St.jb (k+1) (Qf,us++ [⟨(.slice (some ⟨Je,0,none⟩) q.vars.length q.vars.length),rfl⟩],O++ [D]) ⟨by omega,JT,by dsimp only;rw[List.length_append,List.length_append,yc];rfl,hOn,by dsimp only;rw[List.length_append,List.length_singleton];omega⟩
      ·try simp only[aC]at Jf
       have hOn:O=((List.range (k+1)).map (rI S.length q.vars.length)).filter (uy (S.map mu) q.vars q.aZ):=by rw[xR,←hO,←hDk,if_neg (by rw[←hda,Jf];decide),List.append_nil]
       refine St.skip (St.aN (St.aA (St.rg ?_)));refine St.mv ?_;refine St.ee Ev.a0 ?_;refine St.ak ?_;refine St.nn ?_;refine St.jb (k+1) (vo,us,O) ⟨by omega,NS,yc,hOn,by dsimp only;omega⟩
  ·try simp only[aC]at oE
   obtain rfl:k=m:=by omega
   have nS:O=Jb (S.map mu) q.vars q.aZ:=by rw[hO,Jb,hSl,hm]
   refine St.exit (St.aF (St.aF (St.bH (St.aA (St.sr ?_)))));refine St.mv ?_;refine St.ak ?_;refine St.ak ?_;refine St.nn (St.aX ?_);refine St.aV vo cC us rfl yc.symm (fun _ _=>trivial) ?_;refine St.BZ (Rr:=aK) (l:=O.map ints) vo (vs:=us) (by rw[List.length_map];exact yc) ?_;refine St.rT [_,_] [aG (sG aK vo (O.map ints))] Tryz.results12 ⟨rfl,⟨rfl,trivial⟩⟩ ?_;exact⟨vo,congrArg (fun b=>Value.tuple #[vo,.bool b]) (decide_eq_true (by omega)).symm,by unfold Mh;rw[hSl,if_pos (by omega),←nS]⟩
set_option maxHeartbeats 4000000 in
theorem qS (q:eu):ct Tryz.prog 8 #[gJ q] [dD q] (fv (iy q.vars q.aZ)):=by
 unfold ct;refine fF.body (args:=[gJ q]) 167 Tryz.func8 rfl Tryz.ntmps8 rfl (fun c=> ?_);refine St.cast (H':=[aG (dD q)]) rfl ?_;refine St.seq ?_
 refine St.fI (dD q) (fun _:Unit=>p8 q) (fun ρ h=>⟨(),h⟩) fun _=> ?_
 refine St.cast (H':=[aG (sl gz q.vv.1 q.vars),aG (sl iH q.kv.1 q.aZ),aG (dD q)]) rfl ?_
 have oX:=Dh q.vars q.aZ
 refine St.wf q.vv.1 (fun TR wv=> ?_);refine St.wf q.kv.1 (fun NN qa=> ?_);refine St.rg ?_;refine St.cV (.mk rfl) rfl (fun b1=> ?_);refine St.alloc dF rfl (fun b2=> ?_);refine St.nn (St.seq (St.sr ?_));refine St.ee (Ev.aD (.mk rfl) eg) ?_;refine St.ee (Ev.l0 (.mk rfl) eX) ?_;refine St.ee (Ev.ao (.mk rfl) eX) ?_;refine St.ee Ev.qn ?_;refine St.mv ?_;refine St.gf _ rfl rfl (fun hg=>Ev.aD (.mk rfl) kJ) rfl ?_;refine St.gf _ rfl rfl (fun hg=>Ev.cN (aL.gv rfl hg) jG trivial (by rfl)) rfl ?_;refine St.gf _ rfl rfl (fun hg=>Ev.ao (aL.gv rfl hg) jG) rfl ?_;refine St.gf _ rfl rfl (fun hg=>Ev.gtr (aL.gv rfl hg) (.mk rfl)) rfl ?_;refine St.ee Ev.o0 ?_;refine St.nn ?_;refine St.cond _ rfl (fun fN=> ?_) (fun fN=> ?_)
 ·try simp only[aC]at fN
  rw[if_pos (by omega)]at oX;refine St.sr ?_;refine St.ee (Ev.build (ps:=[(0,(.const (.int .i64 2))),(1,(.const (.int .i64 (-1))))]) (aU.cons (aL.mk rfl) (aU.cons (aL.mk rfl) aU.nil)) (fun w=>bJ rfl rfl w)) ?_;refine St.sA (.mk rfl) (.mk rfl) ay ?_;refine St.nn (St.aX (St.aB ?_));refine St.rU [_] [] Tryz.results8 ?_;exact congrArg fv oX.symm
 ·try simp only[aC]at fN
  rw[if_neg (by omega)]at oX
  have hv4:q.vars.length≤4:=by omega
  have hk8:q.aZ.length≤8:=by omega
  refine St.skip (St.aA (St.seq (St.sr ?_)));refine St.ee (Ev.aD (.mk rfl) eg) ?_;refine St.ee (Ev.l0 (.mk rfl) eX) ?_;refine St.ee (Ev.ao (.mk rfl) eX) ?_;refine St.ee Ev.ey ?_;refine St.nn ?_;refine St.cond _ rfl (fun uX=> ?_) (fun uX=> ?_)
  ·try simp only[aC]at uX
   rw[if_pos (by omega)]at oX;refine St.sr ?_;refine St.ee (Ev.build (ps:=[(0,(.const (.int .i64 9))),(1,(.const (.int .i64 (-1))))]) (aU.cons (aL.mk rfl) (aU.cons (aL.mk rfl) aU.nil)) (fun w=>bJ rfl rfl w)) ?_;refine St.sA (.mk rfl) (.mk rfl) ay ?_;refine St.nn (St.aX (St.aB ?_));refine St.rU [_] [] Tryz.results8 ?_;exact congrArg fv oX.symm
  ·try simp only[aC]at uX
   rw[if_neg (by omega)]at oX;refine St.skip (St.aA (St.seq (St.sr ?_)));refine St.ak ?_;refine St.nn (St.block ?_);refine St.lH (ι:=Nat) (fun k T=>(3,iv k)::T) (fun k=>[ae b1 (.cells [q.vv.1,q.kv.1].toArray 36 (0,0)),ae b2 (.cells [iv 0,iv 0].toArray 42 (0,0)),aG (sl gz q.vv.1 q.vars),aG (sl iH q.kv.1 q.aZ)]) (fun k=>k≤q.vars.length∧fT [] 0 q.vars=fT ((q.vars.take k).map cj.name) k (q.vars.drop k)) (fun k=>q.vars.length-k) 0 (aE.cons 1 rfl (aE.cons 2 rfl aE.nil)) ⟨Nat.zero_le _,rfl⟩ ?_;rintro k ⟨hk,hv⟩;refine St.seq (St.sr ?_);refine St.mv ?_;refine St.ee (Ev.aD (.mk rfl) eg) ?_;refine St.ee (Ev.l0 (.mk rfl) eX) ?_;refine St.ee (Ev.ao (.mk rfl) eX) ?_;refine St.ee Ev.dn ?_;refine St.nn ?_;refine St.cond _ rfl (fun yp=> ?_) (fun yp=> ?_)
   ·try simp only[aC]at yp
    obtain⟨va,ht⟩:=aO (show k<q.vars.length by omega)
    have lU:=List.mem_of_getElem? ht
    have cE:=rp ht ((q.vars.take k).map cj.name)
    obtain⟨R2,hn2,Ta⟩:=TR va lU
    replace R2:va.name.length≤140737488351232:=R2
    replace Ta:va.label.length≤140737488351232:=Ta
    refine St.skip (St.aA (St.seq (St.block (St.sr ?_))));refine St.ee (Ev.aD (.mk rfl) eg) ?_;refine St.ee (Ev.l0 (.mk rfl) eX) ?_;refine St.mv ?_;refine St.ee (Ev.aR (k:=k) (.mk rfl) (.mk rfl) eX nX (by omega) (by omega)) ?_;refine St.ee (Ev.fg (.mk rfl) ht Ge trivial nX ei.eq) ?_;refine St.alloc LA rfl (fun b4=> ?_);refine St.sA (.mk rfl) (.mk rfl) nX ?_ (h1:=(by simp only[List.all_cons,List.all_nil,Bool.and_true,Bool.and_eq_true];exact⟨rfl,rfl,rfl⟩));refine St.nn (St.seq (St.sr ?_));refine St.ee (Ev.aD (.mk rfl) gO) ?_;refine St.ee (Ev.l0 (.mk rfl) bP) ?_;refine St.ee Ev.dn ?_;refine St.mv ?_;refine St.gf _ rfl rfl (fun hg=>Ev.aD (.mk rfl) gO) rfl ?_;refine St.gf _ rfl rfl (fun hg=>Ev.cN (aL.gv rfl hg) bP trivial (by rfl)) rfl ?_;refine St.gf _ rfl rfl (fun hg=>Ev.gtr (aL.gv rfl hg) (.mk rfl)) rfl ?_;refine St.ee Ev.o0 ?_;refine St.nn ?_;refine St.cond _ rfl (fun vC=> ?_) (fun vC=> ?_)
    ·try simp only[aC]at vC
     rw[if_pos (by omega)]at cE;refine St.sr ?_;refine St.mv ?_;refine St.ee (Ev.build (ps:=[(0,(.const (.int .i64 4))),(1,(.tmp 45))]) (aU.cons (aL.mk rfl) (aU.cons (aL.mk rfl) aU.nil)) (fun w=>bJ rfl rfl w)) ?_;refine St.sA (.mk rfl) (.mk rfl) ay ?_;refine St.nn (St.aX (St.aB (St.aM (St.aB (St.aB (St.aM (St.aB ?_)))))));refine St.rU [_] [] Tryz.results8 ?_;exact congrArg fv (fH oX (hv.trans cE) (by decide)).symm
    ·try simp only[aC]at vC
     rw[if_neg (by omega)]at cE;refine St.skip (St.aA (St.seq (St.sr ?_)));refine St.ee (Ev.aD (.mk rfl) mS) ?_;refine St.ee (Ev.l0 (.mk rfl) df) ?_;refine St.ee (Ev.call (s8 va.name (by omega)) WK (.cons (.mk rfl) .nil)) ?_;refine St.ee (Ev.not (.mk rfl)) ?_;refine St.mv ?_;refine St.gf _ rfl rfl (fun hg=>Ev.aD (.mk rfl) gO) rfl ?_;refine St.gf _ rfl rfl (fun hg=>Ev.cN (aL.gv rfl hg) bP trivial (by rfl)) rfl ?_;refine St.gf _ rfl rfl (fun hg=>Ev.eql (aL.gv rfl hg) (.mk rfl)) rfl ?_;refine St.gf _ rfl rfl (fun hg=>Ev.move (aL.gv rfl hg)) rfl ?_;refine St.oZ _ rfl rfl (fun hg=>Ev.aD (.mk rfl) kK) rfl ?_;refine St.oZ _ rfl rfl (fun hg=>Ev.cN (aL.gv rfl hg) df trivial (by rfl)) rfl ?_;refine St.oZ _ rfl rfl (fun hg=>Ev.call (s8 va.label (by omega)) WK (.cons (aL.gv rfl hg) .nil)) rfl ?_;refine St.oZ _ rfl rfl (fun hg=>Ev.not (aL.gv rfl hg)) rfl ?_;refine St.gf _ rfl rfl (fun hg=>Ev.and (aL.gv rfl hg) (fun hp=>aL.gv rfl (hN hg hp))) rfl ?_;refine St.ee Ev.o0 ?_;refine St.mv ?_;refine St.gf _ rfl rfl (fun hg=>Ev.aD (.mk rfl) gO) rfl ?_;refine St.gf _ rfl rfl (fun hg=>Ev.cN (aL.gv rfl hg) bP trivial (by rfl)) rfl ?_;refine St.gf _ rfl rfl (fun hg=>Ev.eql (aL.gv rfl hg) (.mk rfl)) rfl ?_;refine St.gf _ rfl rfl (fun hg=>Ev.move (aL.gv rfl hg)) rfl ?_;refine St.oZ _ rfl rfl (fun hg=>Ev.aD (.mk rfl) kK) rfl ?_;refine St.oZ _ rfl rfl (fun hg=>Ev.cN (aL.gv rfl hg) df trivial (by rfl)) rfl ?_;refine St.oZ _ rfl rfl (fun hg=>Ev.call (Ao va.label (by omega)) acU (.cons (aL.gv rfl hg) .nil)) rfl ?_;refine St.oZ _ rfl rfl (fun hg=>Ev.not (aL.gv rfl hg)) rfl ?_;refine St.gf _ rfl rfl (fun hg=>Ev.and (aL.gv rfl hg) (fun hp=>aL.gv rfl (hN hg hp))) rfl ?_;refine St.ee Ev.o0 ?_;refine St.nn ?_;refine St.cond _ rfl (fun BD=> ?_) (fun BD=> ?_)
     ·try simp only[aC]at BD
      rw[if_pos (by rcases BD with(h|h)|h;exact .inl h;exact .inr (.inl h);exact .inr (.inr h))]at cE;refine St.sr ?_;refine St.mv ?_;refine St.ee (Ev.build (ps:=[(0,(.const (.int .i64 10))),(1,(.tmp 73))]) (aU.cons (aL.mk rfl) (aU.cons (aL.mk rfl) aU.nil)) (fun w=>bJ rfl rfl w)) ?_;refine St.sA (.mk rfl) (.mk rfl) ay ?_;refine St.nn (St.aX (St.aB (St.aM (St.aB (St.aB (St.aM (St.aB ?_)))))));refine St.rU [_] [] Tryz.results8 ?_;exact congrArg fv (fH oX (hv.trans cE) (by decide)).symm
     ·try simp only[aC]at BD
      rw[if_neg (by rintro (h|⟨h,h2⟩|⟨h,h2⟩)<;>simp_all)]at cE;refine St.skip (St.aA (St.seq (St.sr ?_)));refine St.ak ?_;refine St.nn (St.block ?_);refine St.lH (ι:=Nat) (fun p T=>(5,iv p)::T) (fun p=>[ae b4 (.cells [sv va.name,iv va.kind,sv va.label].toArray 71 (0,0)),ae b1 (.cells [q.vv.1,q.kv.1].toArray 36 (0,0)),ae b2 (.cells [iv 0,iv 0].toArray 42 (0,0)),aG (sl gz q.vv.1 q.vars),aG (sl iH q.kv.1 q.aZ)]) (fun p=>p≤k∧va.name∉((q.vars.take p).map cj.name)) (fun p=>k-p) 0 (aE.cons 1 rfl (aE.cons 2 rfl (aE.cons 3 rfl (aE.cons 4 rfl aE.nil)))) ⟨Nat.zero_le _,by simp⟩ ?_;rintro p ⟨hp,WW⟩;refine St.seq (St.sr ?_);refine St.mv ?_;refine St.mv ?_;refine St.ee Ev.dn ?_;refine St.nn ?_;refine St.cond _ rfl (fun yK=> ?_) (fun yK=> ?_)
      ·try simp only[aC]at yK
       obtain⟨vu,hu⟩:=aO (show p<q.vars.length by omega);refine St.skip (St.aA (St.seq (St.block (St.seq ?_))));refine St.rq mixed (by kernel_rfl) (Mm.drawn _ _) ?_;refine Sq.ee (Ev.aD (.mk rfl) eg) ?_;refine Sq.ee (Ev.l0 (.mk rfl) eX) ?_;refine Sq.ee (Ev.move (.mk rfl)) ?_;refine Sq.ee (Ev.aR (k:=p) (.mk rfl) (.mk rfl) eX nX (by omega) (by omega)) ?_;refine Sq.ee (Ev.e8 (.mk rfl) (by omega) mS) ?_;refine Sq.ee (Ev.ff (.mk rfl) hu df trivial rfl) ?_;refine Sq.ee (Ev.aD (.mk rfl) mS) ?_;refine Sq.ee (Ev.l0 (.mk rfl) df) ?_;refine Sq.ee (Ev.hP (.mk rfl) (.mk rfl)) ?_;refine Sq.nil ?_;refine St.aA ?_;refine St.cond _ rfl (fun vb=> ?_) (fun vb=> ?_)
       ·try simp only[aC]at vb
        have oC:va.name∈((q.vars.take k).map cj.name):=by rw[←vb];exact List.mem_map_of_mem (List.mem_of_getElem? (show(q.vars.take k)[p]?=some vu by rw[List.getElem?_take,if_pos (by omega)];exact hu))
        rw[if_pos oC]at cE;refine St.sr ?_;refine St.mv ?_;refine St.ee (Ev.build (ps:=[(0,(.const (.int .i64 7))),(1,(.tmp 89))]) (aU.cons (aL.mk rfl) (aU.cons (aL.mk rfl) aU.nil)) (fun w=>bJ rfl rfl w)) ?_;refine St.sA (.mk rfl) (.mk rfl) ay ?_;refine St.nn (St.aX (St.aM (St.aB (St.aB (St.aM (St.aB (St.aM (St.aB (St.aB (St.aM (St.aB ?_)))))))))));refine St.rU [_] [] Tryz.results8 ?_;exact congrArg fv (fH oX (hv.trans cE) (by decide)).symm
       ·try simp only[aC]at vb
        refine St.skip (St.aN (St.aA (St.rg ?_)));refine St.mv ?_;refine St.ee Ev.a0 ?_;refine St.ak ?_;refine St.nn ?_;refine St.aH (p+1) ⟨by omega,by rw[bx cj.name hu];intro h;rcases List.mem_append.1 h with h|h;exact WW h;exact vb (List.mem_singleton.1 h).symm⟩
      ·try simp only[aC]at yK
       obtain rfl:k=p:=by omega
       rw[if_neg WW]at cE;refine St.exit (St.aF (St.aF (St.bH (St.aA (St.sr ?_)))));refine St.ee (Ev.aD (.mk rfl) gO) ?_;refine St.ee (Ev.l0 (.mk rfl) bP) ?_;refine St.ee Ev.k9 ?_;refine St.mv ?_;refine St.gt _ rfl rfl (fun hg=>Ev.aD (.mk rfl) gO) rfl ?_;refine St.gt _ rfl rfl (fun hg=>Ev.cN (aL.gv rfl hg) bP trivial (by rfl)) rfl ?_;refine St.gt _ rfl rfl (fun hg=>Ev.neq (aL.gv rfl hg) (.mk rfl)) rfl ?_;refine St.ee Ev.n0 ?_;refine St.mv ?_;refine St.gt _ rfl rfl (fun hg=>Ev.aD (.mk rfl) kK) rfl ?_;refine St.gt _ rfl rfl (fun hg=>Ev.cN (aL.gv rfl hg) df trivial (by rfl)) rfl ?_;refine St.gt _ rfl rfl (fun hg=>Ev.oa (aL.gv rfl hg) (.mk rfl)) rfl ?_;refine St.ee Ev.n0 ?_;refine St.nn ?_;refine St.cond _ rfl (fun na=> ?_) (fun na=> ?_)
       ·try simp only[aC]at na
        rw[if_pos ⟨by omega,na.2⟩]at cE;refine St.sr ?_;refine St.mv ?_;refine St.ee (Ev.build (ps:=[(0,(.const (.int .i64 5))),(1,(.tmp 104))]) (aU.cons (aL.mk rfl) (aU.cons (aL.mk rfl) aU.nil)) (fun w=>bJ rfl rfl w)) ?_;refine St.sA (.mk rfl) (.mk rfl) ay ?_;refine St.nn (St.aX (St.aM (St.aB (St.aB (St.aM (St.aB ?_))))));refine St.rU [_] [] Tryz.results8 ?_;exact congrArg fv (fH oX (hv.trans cE) (by decide)).symm
       ·try simp only[aC]at na
        rw[if_neg (fun hh=>by rcases na with h|h;omega;exact hh.2 h)]at cE;refine St.skip (St.aN (St.aA (St.rg ?_)));refine St.mv ?_;refine St.ee Ev.a0 ?_;refine St.ak ?_;refine St.nn ?_;refine St.aH (k+1) ⟨by omega,by rw[hv,cE,bx cj.name ht]⟩
   ·try simp only[aC]at yp
    rw[uN (by omega)]at hv
    replace oX:=oD oX hv
    refine St.exit (St.aF (St.aF (St.bH (St.aA (St.seq (St.sr ?_))))));refine St.ak ?_;refine St.nn (St.block ?_);refine St.lH (ι:=Nat) (fun p T=>(6,iv p)::T) (fun p=>[ae b1 (.cells [q.vv.1,q.kv.1].toArray 36 (0,0)),ae b2 (.cells [iv 0,iv 0].toArray 42 (0,0)),aG (sl gz q.vv.1 q.vars),aG (sl iH q.kv.1 q.aZ)]) (fun p=>p≤q.aZ.length∧gV q.vars.length q.vars.length q.aZ=gV q.vars.length (q.vars.length+p) (q.aZ.drop p)) (fun p=>q.aZ.length-p) 0 (aE.cons 1 rfl (aE.cons 2 rfl aE.nil)) ⟨Nat.zero_le _,rfl⟩ ?_;rintro p ⟨hp,mR⟩;refine St.seq (St.sr ?_);refine St.mv ?_;refine St.ee (Ev.aD (.mk rfl) kJ) ?_;refine St.ee (Ev.l0 (.mk rfl) jG) ?_;refine St.ee (Ev.ao (.mk rfl) jG) ?_;refine St.ee Ev.dn ?_;refine St.nn ?_;refine St.cond _ rfl (fun Qg=> ?_) (fun Qg=> ?_)
    ·try simp only[aC]at Qg
     obtain⟨x,hx⟩:=aO (show p<q.aZ.length by omega)
     have cE:=rr (n:=q.vars.length) (m:=q.vars.length) hx
     refine St.skip (St.aA (St.seq (St.block (St.sr ?_))));refine St.ee (Ev.aD (.mk rfl) kJ) ?_;refine St.ee (Ev.l0 (.mk rfl) jG) ?_;refine St.mv ?_;refine St.ee (Ev.aR (k:=p) (.mk rfl) (.mk rfl) jG oV (by omega) (by omega)) ?_;refine St.ee (Ev.fg (.mk rfl) hx Km trivial oV ei.eq) ?_;refine St.alloc HZ rfl (fun b7=> ?_);refine St.sA (.mk rfl) (.mk rfl) oV ?_ (h1:=(by simp only[List.all_cons,List.all_nil,Bool.and_true,Bool.and_eq_true];exact⟨rfl,rfl,rfl⟩));refine St.nn (St.sr ?_);refine St.ee (Ev.aD (.mk rfl) eg) ?_;refine St.ee (Ev.l0 (.mk rfl) eX) ?_;refine St.ee (Ev.ao (.mk rfl) eX) ?_;refine St.mv ?_;refine St.ee Ev.a0 ?_;refine St.slot 122 (iv ((q.vars.length+p:Nat):Int)) rfl rfl ?_;refine St.ak ?_;refine St.nn (St.seq (St.sr ?_));refine St.ee (Ev.aD (.mk rfl) pH) ?_;refine St.ee (Ev.l0 (.mk rfl) bP) ?_;refine St.ee Ev.dn ?_;refine St.mv ?_;refine St.gf _ rfl rfl (fun hg=>Ev.aD (.mk rfl) pH) rfl ?_;refine St.gf _ rfl rfl (fun hg=>Ev.cN (aL.gv rfl hg) bP trivial (by rfl)) rfl ?_;refine St.gf _ rfl rfl (fun hg=>Ev.gtr (aL.gv rfl hg) (.mk rfl)) rfl ?_;refine St.ee Ev.o0 ?_;refine St.nn ?_;refine St.cond _ rfl (fun Qh=> ?_) (fun Qh=> ?_)
     ·try simp only[aC]at Qh
      rw[if_pos (by omega)]at cE;refine St.sr ?_;refine St.mv ?_;refine St.ee (Ev.build (ps:=[(0,(.const (.int .i64 4))),(1,(.tmp 131))]) (aU.cons (aL.mk rfl) (aU.cons (aL.mk rfl) aU.nil)) (fun w=>bJ rfl rfl w)) ?_;refine St.sA (.mk rfl) (.mk rfl) ay ?_;refine St.nn (St.aX (St.aB (St.aM (St.aB (St.aB (St.aM (St.aB ?_)))))));refine St.rU [_] [] Tryz.results8 ?_;exact congrArg fv (oX.trans (mR.trans cE)).symm
     ·try simp only[aC]at Qh
      rw[if_neg (by omega)]at cE;refine St.skip (St.aA (St.seq (St.sr ?_)));refine St.ee (Ev.aD (.mk rfl) lL) ?_;refine St.ee (Ev.l0 (.mk rfl) bP) ?_;refine St.ee Ev.dn ?_;refine St.mv ?_;refine St.gf _ rfl rfl (fun hg=>Ev.aD (.mk rfl) lL) rfl ?_;refine St.gf _ rfl rfl (fun hg=>Ev.cN (aL.gv rfl hg) bP trivial (by rfl)) rfl ?_;refine St.gf _ rfl rfl (fun hg=>Ev.aD (.mk rfl) eg) rfl ?_;refine St.gf _ rfl rfl (fun hg=>Ev.cN (aL.gv rfl hg) eX trivial (by rfl)) rfl ?_;refine St.gf _ rfl rfl (fun hg=>Ev.ao (aL.gv rfl hg) eX) rfl ?_;refine St.gf _ rfl rfl (fun hg=>Ev.geq (aL.gv rfl hg) (aL.gv rfl hg)) rfl ?_;refine St.ee Ev.o0 ?_;refine St.mv ?_;refine St.gf _ rfl rfl (fun hg=>Ev.aD (.mk rfl) lM) rfl ?_;refine St.gf _ rfl rfl (fun hg=>Ev.cN (aL.gv rfl hg) bP trivial (by rfl)) rfl ?_;refine St.gf _ rfl rfl (fun hg=>Ev.lss (aL.gv rfl hg) (.mk rfl)) rfl ?_;refine St.ee Ev.o0 ?_;refine St.mv ?_;refine St.gf _ rfl rfl (fun hg=>Ev.aD (.mk rfl) lM) rfl ?_;refine St.gf _ rfl rfl (fun hg=>Ev.cN (aL.gv rfl hg) bP trivial (by rfl)) rfl ?_;refine St.gf _ rfl rfl (fun hg=>Ev.aD (.mk rfl) eg) rfl ?_;refine St.gf _ rfl rfl (fun hg=>Ev.cN (aL.gv rfl hg) eX trivial (by rfl)) rfl ?_;refine St.gf _ rfl rfl (fun hg=>Ev.ao (aL.gv rfl hg) eX) rfl ?_;refine St.gf _ rfl rfl (fun hg=>Ev.geq (aL.gv rfl hg) (aL.gv rfl hg)) rfl ?_;refine St.ee Ev.o0 ?_;refine St.nn ?_;refine St.cond _ rfl (fun Qi=> ?_) (fun Qi=> ?_)
      ·try simp only[aC]at Qi
       rw[if_pos (by omega)]at cE;refine St.sr ?_;refine St.mv ?_;refine St.ee (Ev.build (ps:=[(0,(.const (.int .i64 3))),(1,(.tmp 157))]) (aU.cons (aL.mk rfl) (aU.cons (aL.mk rfl) aU.nil)) (fun w=>bJ rfl rfl w)) ?_;refine St.sA (.mk rfl) (.mk rfl) ay ?_;refine St.nn (St.aX (St.aB (St.aM (St.aB (St.aB (St.aM (St.aB ?_)))))));refine St.rU [_] [] Tryz.results8 ?_;exact congrArg fv (oX.trans (mR.trans cE)).symm
      ·try simp only[aC]at Qi
       rw[if_neg (by omega)]at cE;refine St.skip (St.aA (St.sr ?_));refine St.ee (Ev.aD (.mk rfl) lL) ?_;refine St.ee (Ev.l0 (.mk rfl) bP) ?_;refine St.ee (Ev.aD (.mk rfl) lM) ?_;refine St.ee (Ev.l0 (.mk rfl) bP) ?_;refine St.ee Ev.ey ?_;refine St.nn ?_;refine St.cond _ rfl (fun Qj=> ?_) (fun Qj=> ?_)
       ·try simp only[aC]at Qj
        rw[if_pos (by omega)]at cE;refine St.sr ?_;refine St.mv ?_;refine St.ee (Ev.build (ps:=[(0,(.const (.int .i64 5))),(1,(.tmp 164))]) (aU.cons (aL.mk rfl) (aU.cons (aL.mk rfl) aU.nil)) (fun w=>bJ rfl rfl w)) ?_;refine St.sA (.mk rfl) (.mk rfl) ay ?_;refine St.nn (St.aX (St.aM (St.aB (St.aB (St.aM (St.aB ?_))))));refine St.rU [_] [] Tryz.results8 ?_;exact congrArg fv (oX.trans (mR.trans cE)).symm
       ·try simp only[aC]at Qj
        rw[if_neg (by omega)]at cE;refine St.skip (St.aN (St.aA (St.rg ?_)));refine St.mv ?_;refine St.ee Ev.a0 ?_;refine St.ak ?_;refine St.nn ?_;refine St.aH (p+1) ⟨by omega,mR.trans cE⟩
    ·try simp only[aC]at Qg
     rw[uO (by omega)]at mR
     have Tb:=oX.trans mR
     refine St.exit (St.aF (St.aF (St.bH (St.aA (St.sr ?_)))));refine St.ee (Ev.build (ps:=[]) (aU.nil) (fun w=>fA w)) ?_;refine St.sA (.mk rfl) (.mk rfl) ay ?_;refine St.nn (St.aX ?_);refine St.rU [_] [] Tryz.results8 ?_;exact congrArg fv Tb.symm
def Jw (g:iV)(vs:List cj)(ks:List eH):Int×Int:=if(kP g).1=0 then iy vs ks else kP g
def Jx (g:iV)(vs:List cj)(ks:List eH)(t:fG):Int×Int:=if(Jw g vs ks).1=0 then ja g t else Jw g vs ks
theorem Mj {g:iV}{vs:List cj}{ks:List eH}{t:fG}(h:(Jx g vs ks t).1≠0):vX g vs ks t=([],Jx g vs ks t):=by
 rw[yb];unfold Jx Jw at h⊢
 by_cases h1:(kP g).1=0
 ·rw[if_pos h1]at h⊢
  rw[if_neg (by simpa using h1)]
  by_cases h2:(iy vs ks).1=0
  ·rw[if_pos h2]at h⊢
   rw[if_neg (by simpa using h2),if_pos h]
  ·rw[if_neg h2,if_pos h2]
 ·rw[if_neg h1]at h⊢
  rw[if_neg h1,if_pos h1]
theorem Jg {g:iV}{vs:List cj}{ks:List eH}{t:fG}(h:(Jx g vs ks t).1=0):(kP g).1=0∧(iy vs ks).1=0∧(ja g t).1=0:=by
 unfold Jx Jw at h
 by_cases h1:(kP g).1=0
 ·rw[if_pos h1]at h
  by_cases h2:(iy vs ks).1=0
  ·rw[if_pos h2]at h
   exact⟨h1,h2,h⟩
  ·rw[if_neg h2]at h;exact absurd h h2
 ·rw[if_neg h1]at h
  rw[if_neg h1]at h;exact absurd h h1
theorem Mk {g:iX}(h:(kP (fV g)).1=0):∀r∈g.rules,1≤r.kids:=fun r hr=>((DX h).eK (mH r) (List.mem_map_of_mem hr)).1
set_option maxHeartbeats 4000000 in
theorem Fg (g:iX)(q:eu)(t:bh)(qY:db.wf t):gw Tryz.prog 3 #[iG g,gJ q,er t] [dw g,dD q,cB t,tz,u8,BI] (.bool true):=by
 refine gw.body (args:=[iG g,gJ q,er t]) (ds:=[dw g,dD q,cB t,tz,u8,BI]) 81 Tryz.func3 rfl Tryz.ntmps3 rfl (fun c jJ=> ?_);refine St.cast (H':=[aG (dw g),aG (dD q),aG (cB t),aG (tz),aG (u8),aG (BI)]) rfl ?_;refine St.sr ?_;refine St.cV (.mk rfl) rfl (fun b3=> ?_);refine St.cV (.mk rfl) rfl (fun b4=> ?_);refine St.cV (.mk rfl) rfl (fun b5=> ?_);refine St.ak ?_;refine St.nn (St.seq (St.seq ?_));refine St.eV [] mixed (fun np ns=> ?_);refine SW.dd 0 rfl (fun _=>Ev.jZ jJ CT cb6 (.nil)) ?_;refine SW.dd 1 rfl (fun _=>Ev.not (.mk rfl)) ?_;refine SW.dd 2 rfl (fun _=>Ev.move (.mk rfl)) ?_;refine SW.slot 14 (.bool false) rfl (congrArg Value.bool rfl) ?_;refine SW.gf 3 _ np ns rfl rfl rfl (fun R _=>Ev.bF (.mk rfl) sL trivial (by exact r4)) (by kernel_rfl) rfl ?_;refine SW.slot 15 _ rfl (bM rfl _) ?_;refine SW.slot 15 (gJ q) rfl rfl ?_;refine SW.gf 4 _ np ns rfl rfl rfl (fun R _=>Ev.jZ jJ (nc q) Z6 (.cons (.mk rfl) .nil)) (by kernel_rfl) rfl ?_;refine SW.slot 16 _ rfl (bM rfl _) ?_;refine SW.gf 5 _ np ns rfl rfl rfl (fun R _=>Ev.bF (.mk rfl) sL trivial (by exact r4)) (by kernel_rfl) rfl ?_;refine SW.slot 17 _ rfl (bM rfl _) ?_;refine SW.gf 6 _ np ns rfl rfl rfl (fun R _=>Ev.call (qS q) cb8 (.cons (.mk rfl) .nil)) (by kernel_rfl) rfl ?_;refine SW.slot 18 _ rfl (bM rfl _) ?_;refine SW.gf 7 _ np ns rfl rfl rfl (fun R _=>Ev.EF (.mk rfl) (.mk rfl) Tryz.eqGuardType42 (fun w=>J0 _ _ _ _ w)) (by kernel_rfl) rfl ?_;refine SW.slot 19 _ rfl (bM rfl _) ?_;refine SW.dd 8 rfl (fun _=>Ev.oc (.mk rfl) rfl (.mk rfl)) ?_;refine SW.done (by kernel_rfl) ?_;refine St.aA ?_;refine St.zA _ rfl (by simp) ?_;refine St.skip (St.aA (St.sr ?_));refine St.ee (Ev.bF (.mk rfl) sK trivial (by exact qo)) ?_;refine St.slot 22 (iG g) rfl rfl ?_;refine St.ee (Ev.bF (.mk rfl) sL trivial (by exact r4)) ?_;refine St.slot 23 (gJ q) rfl rfl ?_;refine St.ee (Ev.bF (.mk rfl) lk trivial (by exact gZ)) ?_;refine St.slot 24 (er t) rfl rfl ?_;refine St.tC jJ (kL g q t qY) Tm (.cons (.mk rfl) (.cons (.mk rfl) (.cons (.mk rfl) .nil))) rfl ?_;rintro v25 _ ⟨Wg,rfl,afL,rfl⟩;refine St.bL ?_
 obtain⟨M1,hM1⟩:∃M,M=vX (fV g) q.vars q.aZ (an t):=⟨_,rfl⟩
 rw[←hM1];refine St.mv ?_;refine St.ee (Ev.extract (.mk rfl) rfl) ?_;refine St.ee (Ev.extract (.mk rfl) rfl) ?_;refine St.alloc dF rfl (fun b8=> ?_);refine St.ak ?_;refine St.sA (.mk rfl) (.mk rfl) ay ?_;refine St.nn (St.sr ?_);refine St.ee (Ev.bF (.mk rfl) sK trivial (by exact qo)) ?_;refine St.slot 28 (iG g) rfl rfl ?_;refine St.ee (Ev.call (FY g) acV (.cons (.mk rfl) .nil)) ?_;refine St.alloc dF rfl (fun b9=> ?_);refine St.sA (.mk rfl) (.mk rfl) ay ?_;refine St.nn ?_;refine St.join (ι:=Int×Int) (fun e T=>T) (fun e=>[ae b9 (.cells [iv e.1,iv e.2].toArray 42 (0,0)),ae b8 (.cells [iv M1.2.1,iv M1.2.2].toArray 42 (0,0)),ae b3 (.cells (Om g).toArray 32 (0,0)),ae b4 (.cells [q.vv.1,q.kv.1].toArray 36 (0,0)),ae b5 (.cells (k6 t).toArray 39 (0,0)),aG (sG aK Wg (M1.1.map ints)),aG (dw g),aG (dD q),aG (cB t),aG tz,aG u8,aG BI]) (fun e=>e=Jw (fV g) q.vars q.aZ) (aE.cons 3 rfl (aE.cons 4 rfl (aE.cons 5 rfl (aE.cons 6 rfl (aE.cons 7 rfl (aE.cons 8 rfl (aE.cons 9 rfl aE.nil))))))) ?_ ?_
 ·refine St.sr ?_
  refine St.ee (Ev.aD (.mk rfl) cX) ?_;refine St.ee (Ev.l0 (.mk rfl) bP) ?_;refine St.ee Ev.ey ?_;refine St.nn ?_;refine St.cond _ rfl (fun oE=> ?_) (fun oE=> ?_)
  ·try simp only[aC]at oE
   have Js:(kP (fV g)).1=0:=oE
   refine St.rg ?_;refine St.ee (Ev.bF (.mk rfl) sL trivial (by exact r4)) ?_;refine St.slot 33 (gJ q) rfl rfl ?_;refine St.ee (Ev.call (qS q) cb8 (.cons (.mk rfl) .nil)) ?_;refine St.sA (.mk rfl) (.mk rfl) ay ?_;refine St.nn ?_;refine St.mE (iy q.vars q.aZ) (by unfold Jw;rw[if_pos Js])
  ·try simp only[aC]at oE
   have Js:¬(kP (fV g)).1=0:=oE
   refine St.skip (St.aA ?_);refine St.mE (kP (fV g)) (by unfold Jw;rw[if_neg Js])
 ·intro e he
  refine St.join (ι:=Int×Int) (fun d T=>T) (fun d=>[ae b9 (.cells [iv d.1,iv d.2].toArray 42 (0,0)),ae b8 (.cells [iv M1.2.1,iv M1.2.2].toArray 42 (0,0)),ae b3 (.cells (Om g).toArray 32 (0,0)),ae b4 (.cells [q.vv.1,q.kv.1].toArray 36 (0,0)),ae b5 (.cells (k6 t).toArray 39 (0,0)),aG (sG aK Wg (M1.1.map ints)),aG (dw g),aG (dD q),aG (cB t),aG tz,aG u8,aG BI]) (fun d=>d=Jx (fV g) q.vars q.aZ (an t)) (aE.cons 3 rfl (aE.cons 4 rfl (aE.cons 5 rfl (aE.cons 6 rfl (aE.cons 7 rfl (aE.cons 8 rfl (aE.cons 9 rfl aE.nil))))))) ?_ ?_
  ·refine St.sr ?_
   refine St.ee (Ev.aD (.mk rfl) cX) ?_;refine St.ee (Ev.l0 (.mk rfl) bP) ?_;refine St.ee Ev.ey ?_;refine St.nn ?_;refine St.cond _ rfl (fun tg=> ?_) (fun tg=> ?_)
   ·try simp only[aC]at tg
    have yy:(Jw (fV g) q.vars q.aZ).1=0:=by rw[←he];exact tg
    have FV:∀r∈g.rules,1≤r.kids:=by unfold Jw at yy;by_cases h:(kP (fV g)).1=0;exact Mk h;rw[if_neg h]at yy;exact absurd yy h
    refine St.rg ?_;refine St.ee (Ev.bF (.mk rfl) sK trivial (by exact qo)) ?_;refine St.slot 38 (iG g) rfl rfl ?_;refine St.ee (Ev.bF (.mk rfl) lk trivial (by exact gZ)) ?_;refine St.slot 39 (er t) rfl rfl ?_;refine St.ee (Ev.call (Cn g t qY FV) acW (.cons (.mk rfl) (.cons (.mk rfl) .nil))) ?_;refine St.sA (.mk rfl) (.mk rfl) ay ?_;refine St.nn ?_;refine St.mE (ja (fV g) (an t)) (by unfold Jx;rw[if_pos yy])
   ·try simp only[aC]at tg
    have yy:¬(Jw (fV g) q.vars q.aZ).1=0:=by rw[←he];exact tg
    refine St.skip (St.aA ?_);refine St.mE e (by unfold Jx;rw[if_neg yy,he])
  ·intro d hd
   refine St.seq (St.sr ?_);refine St.ee (Ev.aD (.mk rfl) cX) ?_;refine St.ee (Ev.l0 (.mk rfl) bP) ?_;refine St.ee Ev.k9 ?_;refine St.nn ?_;refine St.cond _ rfl (fun ye=> ?_) (fun ye=> ?_)
   ·skip
    have hz:(Jx (fV g) q.vars q.aZ (an t)).1≠0:=by rw[←hd];simpa using ye
    have hb:=Mj hz
    rw[←hM1,←hd]at hb;subst hb;refine St.lD Wg (fun vs1 wa=> ?_);rw[List.length_map]at wa;refine St.sr ?_;refine St.ee (Ev.bF (.mk rfl) fl trivial (by exact ay)) ?_;refine St.ee (Ev.bF (.mk rfl) fl trivial (by exact ay)) ?_;refine St.ee (Ev.vw (.mk rfl) (.mk rfl) Tryz.eqGuardType42 (fun w=>J0 _ _ _ _ w)) ?_;refine St.mv ?_;refine St.gt _ rfl rfl (fun hg=>Ev.move (.mk rfl)) rfl ?_;refine St.gt _ rfl rfl (fun hg=>Ev.ao (aL.gv rfl hg) dE) rfl ?_;refine St.gt _ rfl rfl (fun hg=>Ev.eql (aL.gv rfl hg) (.mk rfl)) rfl ?_;refine St.ee Ev.n0 ?_;refine St.ak ?_;refine St.nn (St.aX (St.aB ?_));refine St.rU [_] [] Tryz.results3 ?_;exact be (by rw[wa];simp)
   ·skip
    have hz:(Jx (fV g) q.vars q.aZ (an t)).1=0:=by rw[←hd];simpa using ye
    obtain⟨Js,yy,hz3⟩:=Jg hz
    have hq:=(yO yy).2
    obtain⟨FA,Tf,Zf⟩:=AG Js hz3;rw[show(fV g).rules.length=g.rules.length from List.length_map _,show(fV g).bA.length=g.bA.length from List.length_map _]at FA
    have ry:=yb (fV g) q.vars q.aZ (an t)
    rw[←hM1,if_neg (by simpa using Js),if_neg (by simpa using yy),if_neg (by simpa using hz3)]at ry;refine St.skip (St.aA (St.seq ?_))
    have hml:=Fc (fV g) (t:=(an t)) FA hq
    have WW:0<oP (an t):=by rw[Hh];omega
    refine St.jw 60 5 ?_;refine St.bB (.slice none 0 0) (show _=([]:List cp).length from rfl) (show _=rows mr []from rfl) ?_;refine St.hY aK ?_;refine St.dup (dw g) ?_;refine St.dup (cB t) ?_;refine St.dup (dD q) ?_;refine St.eV [row (.slice none 0 0) 60 5 ([]:List cp).length (rows mr ([]:List cp)),aG (sl aK (.slice none 0 0) []),aG (dw g),aG (cB t),aG (dD q)] mixed (fun np ns=> ?_);refine SW.dd 0 rfl (fun _=>Ev.bF (.mk rfl) sK trivial (by exact qo)) ?_;refine SW.slot 53 (iG g) rfl rfl ?_;refine SW.dd 1 rfl (fun _=>Ev.bF (.mk rfl) lk trivial (by exact gZ)) ?_;refine SW.slot 54 (er t) rfl rfl ?_;refine SW.dd 3 rfl (fun _=>Ev.bF (.mk rfl) sL trivial (by exact r4)) ?_;refine SW.slot 56 (gJ q) rfl rfl ?_;refine SW.bG (i:=2) (by kernel_rfl) rfl ?_;refine St.call (Co g t [] (.slice none 0 0) 0 [] (.slice none 0 0) rfl qY FA (fun z hz=>by cases hz) (by simp only[List.length_nil];omega) (by omega) (by simp only[List.length_nil];omega)) WJ (.cons (.mk rfl) (.cons (.mk rfl) (.cons (.mk rfl) (.cons (.mk rfl) (.cons (.mk rfl) .nil))))) rfl ?_;rintro XN _ ⟨W,afM,hW,rfl⟩;refine St.cb ?_;refine St.bB XN (show _=W.length from rfl) (show _=rows mr W from rfl) ?_;refine St.aV XN mr W rfl rfl (fun _ _=>trivial) ?_
    have RD:W.length=oP (an t):=by have:=congrArg List.length hW;rwa[List.length_map,uq]at this
    have hWp:∀x∈W,x.path.length≤1000000:=fun x hx=>by have:=B4 (fV g) (an t) [] 0 (mu x) (by rw[←hW];exact List.mem_map_of_mem hx);simp only[List.length_nil]at this;have e:(mu x).path=x.path:=rfl;rw[e]at this;omega
    refine St.nn ?_;refine SW.go ?_;refine SW.bG (i:=4) (by kernel_rfl) rfl ?_;refine St.aw (vj XN W q hq (by omega) (by omega) hWp) acX (.cons (.mk rfl) (.cons (.mk rfl) .nil)) rfl ?_;rintro v57 _ ⟨Pv,rfl,rfl⟩;refine St.bL ?_;rw[hW,Mh,hml,uq (fV g),←RD];refine St.nn ?_;refine SW.go ?_;refine SW.dd 5 rfl (fun _=>Ev.move (.mk rfl)) ?_;refine SW.dd 6 rfl (fun _=>Ev.extract (.mk rfl) rfl) ?_;refine SW.dd 7 rfl (fun _=>Ev.extract (.mk rfl) rfl) ?_;refine SW.dd 8 rfl (fun _=>Ev.assign (.mk rfl)) ?_;refine SW.dd 9 rfl (fun _=>Ev.assign (.mk rfl)) ?_;refine SW.done (by kernel_rfl) ?_;refine St.aA (St.seq (St.sr ?_));refine St.mv ?_;refine St.ee (Ev.not (.mk rfl)) ?_;refine St.nn ?_;refine St.cond _ rfl (fun BC=> ?_) (fun BC=> ?_)
    ·try simp only[aC]at BC
     refine St.sr ?_;refine St.ak ?_;refine St.nn (St.aX (St.aB ?_));refine St.rU [_] [] Tryz.results3 ?_;exact be rfl
    ·try simp only[aC]at BC
     have Kz:W.length^q.vars.length≤400000:=by simpa using BC
     rw[if_pos Kz];refine St.lD Pv (fun vs2 mR=> ?_);rw[List.length_map]at mR;refine St.skip (St.aA (St.seq (St.sr ?_)));refine St.mv ?_;refine St.ee (Ev.ao (.mk rfl) dE) ?_;refine St.ee Ev.qn ?_;refine St.nn ?_;refine St.cond _ rfl (fun mh=> ?_) (fun mh=> ?_)
     ·try simp only[aC]at mh
      rw[if_pos (by omega)]at ry;subst ry;refine St.lD Wg (fun vs1 wa=> ?_);rw[List.length_map]at wa;refine St.sr ?_;refine St.ee (Ev.bF (.mk rfl) fl trivial (by exact ay)) ?_;refine St.ee (Ev.build (ps:=[(0,(.const (.int .i64 17)))]) (aU.cons (aL.mk rfl) aU.nil) (fun w=>DJ rfl w)) ?_;refine St.ee (Ev.vw (.mk rfl) (.mk rfl) Tryz.eqGuardType42 (fun w=>J0 _ _ _ _ w)) ?_;refine St.mv ?_;refine St.gt _ rfl rfl (fun hg=>Ev.move (.mk rfl)) rfl ?_;refine St.gt _ rfl rfl (fun hg=>Ev.ao (aL.gv rfl hg) dE) rfl ?_;refine St.gt _ rfl rfl (fun hg=>Ev.eql (aL.gv rfl hg) (.mk rfl)) rfl ?_;refine St.ee Ev.n0 ?_;refine St.ak ?_;refine St.nn (St.aX (St.aB ?_));refine St.rU [_] [] Tryz.results3 ?_;exact be (by rw[wa];simp)
     ·try simp only[aC]at mh
      rw[if_neg (by omega)]at ry;rw[ry];refine St.skip (St.aA (St.sr ?_));refine St.ee (Ev.aD (.mk rfl) cX) ?_;refine St.ee (Ev.l0 (.mk rfl) bP) ?_;refine St.ee Ev.ey ?_;refine St.mv ?_;refine St.gt _ rfl rfl (fun hg=>Ev.move (.mk rfl)) rfl ?_;refine St.gt _ rfl rfl (fun hg=>Ev.move (.mk rfl)) rfl ?_;refine St.gt _ rfl rfl (fun hg=>Ev.call (qF Wg Pv ((kI (fV g) q.vars q.aZ (an t),((0,0):Int×Int)).1.map ints) ((kI (fV g) q.vars q.aZ (an t)).map ints)) acY (.cons (aL.gv rfl hg) (.cons (aL.gv rfl hg) .nil))) rfl ?_;refine St.ee Ev.n0 ?_;refine St.ak ?_;refine St.nn (St.aX ?_);refine St.rU [_] [] Tryz.results3 ?_;exact be (by simp)
end Go.Proofs.YtolmidffiegkaaaGreatDoor
