/-
  Laws of walks through programs, and facts on grammars, trees and queries.
  Conditions: none.
-/
import Derived.Test.YtoioijgdggkabaaGreatDoorGC7
import Derived.Test.YtoioijgdggkabaaGreatDoorGC2
import Derived.Test.YtoioijgdggkabaaGreatDoorGC1
import Derived.Test.YtoioijgdggkabaaGreatDoorGC5
import Derived.Test.YtoioijgdggkabaaGreatDoorGC4
import Derived.Laws.StructEq
set_option linter.unusedVariables false
set_option linter.unusedSimpArgs false
set_option maxRecDepth 20000
namespace Go.Proofs.YtoioijgdggkabaaGreatDoor
open Go Go.J
open Go.Lib
theorem yt {s:ax}{p k:Nat}:dW s p k=true↔p+1+k<s.length∧(if k=0 then s8 (bt s p)else 128)≤bt s (p+1+k)∧bt s (p+1+k)≤(if k=0 then s9 (bt s p)else 191):=by
 unfold dW;exact decide_eq_true_iff
theorem BP {s:ax}{p k:Nat}(h:¬(p+1+k<s.length∧(if k=0 then s8 (bt s p)else 128)≤bt s (p+1+k)∧bt s (p+1+k)≤(if k=0 then s9 (bt s p)else 191))):dW s p k=false:=by
 unfold dW;exact decide_eq_false h
theorem qo {q:Nat→Bool}{k:Nat}(h:(List.range k).all q=true)(hk:q k=true):(List.range (k+1)).all q=true:=by
 rw[List.range_succ,List.all_append,h];simp[hk]
theorem FY {a:Int}{b:Nat}(h:a=b):iv a=iv (b:Int):=by rw[h]
theorem sm {a:Int}{b:Nat}(h:a=b):Value.int .u8 a= .int .u8 (b:Int):=by rw[h]
set_option maxHeartbeats 2000000 in
theorem p8 (s:ax)(hs:s.length<9223372036854775807):de Tryz.prog 18 #[sv s] [] (.bool (isWord s)):=by
 refine de.iZ (args:=[sv s]) 114 Tryz.func18 rfl Tryz.ntmps18 rfl (fun c=> ?_);refine St.sr ?_;refine St.ao ?_;refine St.nn (St.sr ?_);refine St.ao ?_;refine St.nn (St.seq (St.sr ?_));refine St.ao ?_;refine St.nn (St.block ?_);refine St.lS (ι:=Nat×Nat) (fun x T=>(3,iv x.1)::(4,iv x.2)::T) (fun x=>x.2≤s.length∧x.1≤x.2∧isWord s=ij s x.1 x.2) (fun x=>s.length-x.2) (0,0) (aG.cons 0 rfl aG.nil) ⟨Nat.zero_le _,Nat.le_refl _,vH s⟩ ?_;rintro ⟨n,p⟩ ⟨LJ,hn,hv⟩
 dsimp only at LJ hn hv⊢
 refine St.seq (St.sr ?_);refine St.mv ?_;refine St.mv ?_;refine St.ee (Ev.dF (.mk rfl) cZ) ?_;refine St.ee Ev.ez ?_;refine St.nn ?_;refine St.cond _ rfl (fun wP=> ?_) (fun wP=> ?_)
 ·try simp only[aA]at wP
  have hp:p<s.length:=by omega
  have LK:bt s p=(s.getD p 0).toNat:=rfl
  refine St.skip (St.a7 (St.block (St.sr ?_)));refine St.mv ?_;refine St.mv ?_;refine St.ee (Ev.fz (k:=p) (.mk rfl) (.mk rfl) cZ (by omega) (by omega)) ?_;refine St.ao ?_;refine St.nn (St.sr ?_);refine St.ao ?_;refine St.nn (St.sr ?_);refine St.ao ?_;refine St.ao ?_;refine St.nn (St.seq (St.sr ?_));refine St.mv ?_;refine St.ee Ev.fE ?_;refine St.mv ?_;refine St.gf _ rfl rfl (fun hg=>Ev.move (.mk rfl)) rfl ?_;refine St.gf _ rfl rfl (fun hg=>Ev.eql (aL.gv rfl hg) (.mk rfl)) rfl ?_;refine St.ee Ev.o0 ?_;refine St.mv ?_;refine St.gf _ rfl rfl (fun hg=>Ev.move (.mk rfl)) rfl ?_;refine St.gf _ rfl rfl (fun hg=>Ev.eql (aL.gv rfl hg) (.mk rfl)) rfl ?_;refine St.ee Ev.o0 ?_;refine St.mv ?_;refine St.gf _ rfl rfl (fun hg=>Ev.move (.mk rfl)) rfl ?_;refine St.gf _ rfl rfl (fun hg=>Ev.eql (aL.gv rfl hg) (.mk rfl)) rfl ?_;refine St.ee Ev.o0 ?_;refine St.mv ?_;refine St.gf _ rfl rfl (fun hg=>Ev.move (.mk rfl)) rfl ?_;refine St.gf _ rfl rfl (fun hg=>Ev.eql (aL.gv rfl hg) (.mk rfl)) rfl ?_;refine St.ee Ev.o0 ?_;refine St.mv ?_;refine St.gf _ rfl rfl (fun hg=>Ev.move (.mk rfl)) rfl ?_;refine St.gf _ rfl rfl (fun hg=>Ev.eql (aL.gv rfl hg) (.mk rfl)) rfl ?_;refine St.ee Ev.o0 ?_;refine St.mv ?_;refine St.gf _ rfl rfl (fun hg=>Ev.move (.mk rfl)) rfl ?_;refine St.gf _ rfl rfl (fun hg=>Ev.eql (aL.gv rfl hg) (.mk rfl)) rfl ?_;refine St.ee Ev.o0 ?_;refine St.mv ?_;refine St.gf _ rfl rfl (fun hg=>Ev.move (.mk rfl)) rfl ?_;refine St.gf _ rfl rfl (fun hg=>Ev.eql (aL.gv rfl hg) (.mk rfl)) rfl ?_;refine St.ee Ev.o0 ?_;refine St.mv ?_;refine St.gf _ rfl rfl (fun hg=>Ev.move (.mk rfl)) rfl ?_;refine St.gf _ rfl rfl (fun hg=>Ev.eql (aL.gv rfl hg) (.mk rfl)) rfl ?_;refine St.ee Ev.o0 ?_;refine St.nn ?_;refine St.cond _ rfl (fun Ch=> ?_) (fun Ch=> ?_)
  ·try simp only[aA]at Ch
   refine St.sr ?_;refine St.ao ?_;refine St.nn (St.ae (St.a8 (St.aN (St.a8 (St.aN (St.a8 ?_))))));refine St.rU [_] [] Tryz.results18 ?_;exact be (by rw[hv,kg hp (Fy (nk.2 (by omega)))])
  ·try simp only[aA]at Ch
   have hse:eB (s.getD p 0)=false:=by
    cases hq:eB (s.getD p 0)with
    |false=>rfl
    |true=>have:=nk.1 hq;omega
   refine St.skip (St.a7 ?_);refine St.join (ι:=Unit) (fun u T=>(6,iv ((more (bt s p):Nat):Int))::(7,.int .u8 ((s8 (bt s p):Nat):Int))::(8,.int .u8 ((s9 (bt s p):Nat):Int))::T) (fun u=>[]) (fun u=>dZ (bt s p)=false) (aG.cons 0 rfl (aG.cons 3 rfl (aG.cons 4 rfl aG.nil))) ?_ ?_
   ·refine St.sr ?_
    refine St.mv ?_;refine St.ee Ev.xi ?_;refine St.mv ?_;refine St.gt _ rfl rfl (fun hg=>Ev.move (.mk rfl)) rfl ?_;refine St.gt _ rfl rfl (fun hg=>Ev.leq (aL.gv rfl hg) (.mk rfl)) rfl ?_;refine St.ee Ev.n0 ?_;refine St.nn ?_;refine St.cond _ rfl (fun Vj=> ?_) (fun Vj=> ?_)
    ·try simp only[aA]at Vj
     refine St.rg ?_;refine St.ao ?_;refine St.nn ?_
     have Bh:=e4 (bt s p)
     have Hq:=eo (bt s p)
     have Hr:=ep (bt s p)
     refine St.slot 6 (iv ((more (bt s p):Nat):Int)) rfl (FY (by omega)) ?_;refine St.slot 7 (.int .u8 ((s8 (bt s p):Nat):Int)) rfl (sm (by omega)) ?_;refine St.slot 8 (.int .u8 ((s9 (bt s p):Nat):Int)) rfl (sm (by omega)) ?_;refine St.mE () (by unfold dZ;exact decide_eq_false (by omega))
    ·try simp only[aA]at Vj
     refine St.sr ?_;refine St.mv ?_;refine St.ee Ev.xi ?_;refine St.mv ?_;refine St.gt _ rfl rfl (fun hg=>Ev.move (.mk rfl)) rfl ?_;refine St.gt _ rfl rfl (fun hg=>Ev.leq (aL.gv rfl hg) (.mk rfl)) rfl ?_;refine St.ee Ev.n0 ?_;refine St.nn ?_;refine St.cond _ rfl (fun qP=> ?_) (fun qP=> ?_)
     ·try simp only[aA]at qP
      refine St.sr ?_;refine St.ao ?_;refine St.nn (St.seq (St.sr ?_));refine St.mv ?_;refine St.ee Ev.fE ?_;refine St.nn ?_;refine St.cond _ rfl (fun Bc=> ?_) (fun Bc=> ?_)
      ·try simp only[aA]at Bc
       refine St.rg ?_;refine St.ao ?_;refine St.nn (St.sr ?_);refine St.mv ?_;refine St.ee Ev.fE ?_;refine St.nn ?_;refine St.cond _ rfl (fun sj=> ?_) (fun sj=> ?_)
       ·try simp only[aA]at sj
        refine St.rg ?_;refine St.ao ?_;refine St.nn ?_
        have Bh:=e4 (bt s p)
        have Hq:=eo (bt s p)
        have Hr:=ep (bt s p)
        refine St.slot 6 (iv ((more (bt s p):Nat):Int)) rfl (FY (by omega)) ?_;refine St.slot 7 (.int .u8 ((s8 (bt s p):Nat):Int)) rfl (sm (by omega)) ?_;refine St.slot 8 (.int .u8 ((s9 (bt s p):Nat):Int)) rfl (sm (by omega)) ?_;refine St.mE () (by unfold dZ;exact decide_eq_false (by omega))
       ·try simp only[aA]at sj
        refine St.skip (St.a7 ?_)
        have Bh:=e4 (bt s p)
        have Hq:=eo (bt s p)
        have Hr:=ep (bt s p)
        refine St.slot 6 (iv ((more (bt s p):Nat):Int)) rfl (FY (by omega)) ?_;refine St.slot 7 (.int .u8 ((s8 (bt s p):Nat):Int)) rfl (sm (by omega)) ?_;refine St.slot 8 (.int .u8 ((s9 (bt s p):Nat):Int)) rfl (sm (by omega)) ?_;refine St.mE () (by unfold dZ;exact decide_eq_false (by omega))
      ·try simp only[aA]at Bc
       refine St.skip (St.a7 (St.sr ?_));refine St.mv ?_;refine St.ee Ev.fE ?_;refine St.nn ?_;refine St.cond _ rfl (fun sj=> ?_) (fun sj=> ?_)
       ·try simp only[aA]at sj
        refine St.rg ?_;refine St.ao ?_;refine St.nn ?_
        have Bh:=e4 (bt s p)
        have Hq:=eo (bt s p)
        have Hr:=ep (bt s p)
        refine St.slot 6 (iv ((more (bt s p):Nat):Int)) rfl (FY (by omega)) ?_;refine St.slot 7 (.int .u8 ((s8 (bt s p):Nat):Int)) rfl (sm (by omega)) ?_;refine St.slot 8 (.int .u8 ((s9 (bt s p):Nat):Int)) rfl (sm (by omega)) ?_;refine St.mE () (by unfold dZ;exact decide_eq_false (by omega))
       ·try simp only[aA]at sj
        refine St.skip (St.a7 ?_)
        have Bh:=e4 (bt s p)
        have Hq:=eo (bt s p)
        have Hr:=ep (bt s p)
        refine St.slot 6 (iv ((more (bt s p):Nat):Int)) rfl (FY (by omega)) ?_;refine St.slot 7 (.int .u8 ((s8 (bt s p):Nat):Int)) rfl (sm (by omega)) ?_;refine St.slot 8 (.int .u8 ((s9 (bt s p):Nat):Int)) rfl (sm (by omega)) ?_;refine St.mE () (by unfold dZ;exact decide_eq_false (by omega))
     ·try simp only[aA]at qP
      refine St.sr ?_;refine St.mv ?_;refine St.ee Ev.xi ?_;refine St.mv ?_;refine St.gt _ rfl rfl (fun hg=>Ev.move (.mk rfl)) rfl ?_;refine St.gt _ rfl rfl (fun hg=>Ev.leq (aL.gv rfl hg) (.mk rfl)) rfl ?_;refine St.ee Ev.n0 ?_;refine St.nn ?_;refine St.cond _ rfl (fun ue=> ?_) (fun ue=> ?_)
      ·try simp only[aA]at ue
       refine St.sr ?_;refine St.ao ?_;refine St.nn (St.seq (St.sr ?_));refine St.mv ?_;refine St.ee Ev.fE ?_;refine St.nn ?_;refine St.cond _ rfl (fun xA=> ?_) (fun xA=> ?_)
       ·try simp only[aA]at xA
        refine St.rg ?_;refine St.ao ?_;refine St.nn (St.sr ?_);refine St.mv ?_;refine St.ee Ev.fE ?_;refine St.nn ?_;refine St.cond _ rfl (fun BL=> ?_) (fun BL=> ?_)
        ·try simp only[aA]at BL
         refine St.rg ?_;refine St.ao ?_;refine St.nn ?_
         have Bh:=e4 (bt s p)
         have Hq:=eo (bt s p)
         have Hr:=ep (bt s p)
         refine St.slot 6 (iv ((more (bt s p):Nat):Int)) rfl (FY (by omega)) ?_;refine St.slot 7 (.int .u8 ((s8 (bt s p):Nat):Int)) rfl (sm (by omega)) ?_;refine St.slot 8 (.int .u8 ((s9 (bt s p):Nat):Int)) rfl (sm (by omega)) ?_;refine St.mE () (by unfold dZ;exact decide_eq_false (by omega))
        ·try simp only[aA]at BL
         refine St.skip (St.a7 ?_)
         have Bh:=e4 (bt s p)
         have Hq:=eo (bt s p)
         have Hr:=ep (bt s p)
         refine St.slot 6 (iv ((more (bt s p):Nat):Int)) rfl (FY (by omega)) ?_;refine St.slot 7 (.int .u8 ((s8 (bt s p):Nat):Int)) rfl (sm (by omega)) ?_;refine St.slot 8 (.int .u8 ((s9 (bt s p):Nat):Int)) rfl (sm (by omega)) ?_;refine St.mE () (by unfold dZ;exact decide_eq_false (by omega))
       ·try simp only[aA]at xA
        refine St.skip (St.a7 (St.sr ?_));refine St.mv ?_;refine St.ee Ev.fE ?_;refine St.nn ?_;refine St.cond _ rfl (fun BL=> ?_) (fun BL=> ?_)
        ·try simp only[aA]at BL
         refine St.rg ?_;refine St.ao ?_;refine St.nn ?_
         have Bh:=e4 (bt s p)
         have Hq:=eo (bt s p)
         have Hr:=ep (bt s p)
         refine St.slot 6 (iv ((more (bt s p):Nat):Int)) rfl (FY (by omega)) ?_;refine St.slot 7 (.int .u8 ((s8 (bt s p):Nat):Int)) rfl (sm (by omega)) ?_;refine St.slot 8 (.int .u8 ((s9 (bt s p):Nat):Int)) rfl (sm (by omega)) ?_;refine St.mE () (by unfold dZ;exact decide_eq_false (by omega))
        ·try simp only[aA]at BL
         refine St.skip (St.a7 ?_)
         have Bh:=e4 (bt s p)
         have Hq:=eo (bt s p)
         have Hr:=ep (bt s p)
         refine St.slot 6 (iv ((more (bt s p):Nat):Int)) rfl (FY (by omega)) ?_;refine St.slot 7 (.int .u8 ((s8 (bt s p):Nat):Int)) rfl (sm (by omega)) ?_;refine St.slot 8 (.int .u8 ((s9 (bt s p):Nat):Int)) rfl (sm (by omega)) ?_;refine St.mE () (by unfold dZ;exact decide_eq_false (by omega))
      ·try simp only[aA]at ue
       refine St.sr ?_;refine St.mv ?_;refine St.ee Ev.xi ?_;refine St.nn ?_;refine St.cond _ rfl (fun DG=> ?_) (fun DG=> ?_)
       ·try simp only[aA]at DG
        refine St.sr ?_;refine St.ao ?_;refine St.nn (St.ae (St.a8 (St.aN (St.a8 (St.aN (St.a8 ?_))))));refine St.rU [_] [] Tryz.results18 ?_;exact be (by rw[hv,kg hp (Fz (by have Bh:=e4 (bt s p);unfold dZ;exact decide_eq_true (by omega)))])
       ·try simp only[aA]at DG
        refine St.skip (St.a7 ?_)
        have Bh:=e4 (bt s p)
        have Hq:=eo (bt s p)
        have Hr:=ep (bt s p)
        refine St.slot 6 (iv ((more (bt s p):Nat):Int)) rfl (FY (by omega)) ?_;refine St.slot 7 (.int .u8 ((s8 (bt s p):Nat):Int)) rfl (sm (by omega)) ?_;refine St.slot 8 (.int .u8 ((s9 (bt s p):Nat):Int)) rfl (sm (by omega)) ?_;refine St.mE () (by unfold dZ;exact decide_eq_false (by omega))
   ·intro u hbl
    refine St.sr ?_;refine St.mv ?_;refine St.ee Ev.a0 ?_;refine St.ao ?_;refine St.nn (St.seq (St.sr ?_));refine St.ao ?_;refine St.nn (St.block ?_);refine St.lS (ι:=Nat) (fun k T=>(9,iv k)::(4,iv ((p+1+k:Nat):Int))::(7,.int .u8 (((if k=0 then s8 (bt s p)else 128):Nat):Int))::(8,.int .u8 (((if k=0 then s9 (bt s p)else 191):Nat):Int))::T) (fun k=>k≤more (bt s p)∧p+1+k≤s.length∧(List.range k).all (dW s p)=true) (fun k=>more (bt s p)-k) 0 (aG.cons 0 rfl (aG.cons 3 rfl (aG.cons 6 rfl aG.nil))) ⟨Nat.zero_le _,by omega,rfl⟩ ?_;intro k iQ;obtain⟨hk,Ss,ej⟩:=iQ;refine St.seq (St.sr ?_);refine St.mv ?_;refine St.mv ?_;refine St.ee Ev.ez ?_;refine St.nn ?_;refine St.cond _ rfl (fun H9=> ?_) (fun H9=> ?_)
    ·try simp only[aA]at H9
     have Qx:bt s (p+1+k)=(s.getD (p+1+k) 0).toNat:=rfl
     refine St.skip (St.a7 (St.seq (St.block (St.seq (St.sr ?_)))));refine St.mv ?_;refine St.mv ?_;refine St.ee (Ev.dF (.mk rfl) cZ) ?_;refine St.ee Ev.xi ?_;refine St.mv ?_;refine St.gf _ rfl rfl (fun hg=>Ev.move (.mk rfl)) rfl ?_;refine St.gf _ rfl rfl (fun hg=>Ev.move (.mk rfl)) rfl ?_;refine St.gf _ rfl rfl (fun hg=>Ev.fz (k:=(p+1+k)) (aL.gv rfl hg) (aL.gv rfl hg) cZ (by omega) (by first|omega|(simp only[aA]at hg;omega))) rfl ?_;refine St.gf _ rfl rfl (fun hg=>Ev.move (.mk rfl)) rfl ?_;refine St.gf _ rfl rfl (fun hg=>Ev.lss (aL.gv rfl hg) (aL.gv rfl hg)) rfl ?_;refine St.ee Ev.o0 ?_;refine St.mv ?_;refine St.gf _ rfl rfl (fun hg=>Ev.move (.mk rfl)) rfl ?_;refine St.gf _ rfl rfl (fun hg=>Ev.move (.mk rfl)) rfl ?_;refine St.gf _ rfl rfl (fun hg=>Ev.fz (k:=(p+1+k)) (aL.gv rfl hg) (aL.gv rfl hg) cZ (by omega) (by first|omega|(simp only[aA]at hg;omega))) rfl ?_;refine St.gf _ rfl rfl (fun hg=>Ev.move (.mk rfl)) rfl ?_;refine St.gf _ rfl rfl (fun hg=>Ev.gtr (aL.gv rfl hg) (aL.gv rfl hg)) rfl ?_;refine St.ee Ev.o0 ?_;refine St.nn ?_;refine St.cond _ rfl (fun oJ=> ?_) (fun oJ=> ?_)
     ·try simp only[aA]at oJ
      refine St.sr ?_;refine St.ao ?_;refine St.nn (St.ae (St.a8 (St.aN (St.a8 (St.a8 (St.aN (St.a8 (St.aN (St.a8 (St.aN (St.a8 ?_)))))))))));refine St.rU [_] [] Tryz.results18 ?_;exact be (by rw[hv,kg hp (C7 (k:=k) (by omega) (BP (by omega)))])
     ·try simp only[aA]at oJ
      have hck:dW s p k=true:=yt.2 (by omega)
      refine St.skip (St.a7 (St.sr ?_));refine St.ao ?_;refine St.ao ?_;refine St.nn (St.rg ?_);refine St.mv ?_;refine St.ee Ev.a0 ?_;refine St.ao ?_;refine St.nil (St.aW (St.a7 (St.rg ?_)));refine St.mv ?_;refine St.ee Ev.a0 ?_;refine St.ao ?_;refine St.nn ?_;refine St.aS (k+1) ⟨by omega,by omega,qo ej hck⟩
    ·try simp only[aA]at H9
     have WW:k=more (bt s p):=by omega
     subst WW
     have zL:=Jj hse hbl ej
     refine St.exit (St.aJ (St.aJ (St.bO (St.a7 (St.rg ?_)))));refine St.mv ?_;refine St.ee Ev.a0 ?_;refine St.ao ?_;refine St.nil (St.aW (St.a7 ?_));refine St.aS (n+1,p+1+more (bt s p)) ⟨by show p+1+more (bt s p)≤s.length;omega,by show n+1≤p+1+more (bt s p);omega,by rw[hv,vI hp zL];show _=ij s (n+1) (p+1+more (bt s p));congr 1;omega⟩
 ·try simp only[aA]at wP
  refine St.exit (St.aJ (St.aJ (St.bO (St.a7 (St.sr ?_)))));refine St.mv ?_;refine St.ee Ev.xi ?_;refine St.mv ?_;refine St.gt _ rfl rfl (fun hg=>Ev.move (.mk rfl)) rfl ?_;refine St.gt _ rfl rfl (fun hg=>Ev.leq (aL.gv rfl hg) (.mk rfl)) rfl ?_;refine St.ee Ev.n0 ?_;refine St.ao ?_;refine St.nn (St.ae ?_);refine St.rU [_] [] Tryz.results18 ?_;exact be (by rw[hv,xU (by omega)];rw[Bool.eq_iff_iff];simp only[Bool.and_eq_true,decide_eq_true_eq];omega)
end Go.Proofs.YtoioijgdggkabaaGreatDoor
namespace Go.Proofs.YtoioijgdggkabaaGreatDoor
open Go Go.J
set_option maxHeartbeats 4000000 in
theorem nS (q:cF):de Tryz.prog 6 #[da q] [bG q] (fv (ec q.vars q.aV)):=by
 unfold de;refine eI.body (args:=[da q]) 167 Tryz.func6 rfl Tryz.ntmps6 rfl (fun c=> ?_);refine St.cast (H':=[aE (bG q)]) rfl ?_;refine St.seq ?_
 refine St.fP (bG q) (fun _:Unit=>kD q) (fun ρ h=>⟨(),h⟩) fun _=> ?_
 refine St.cast (H':=[aE (sl cC q.vv.1 q.vars),aE (sl cE q.kv.1 q.aV),aE (bG q)]) rfl ?_
 have lz:=zw q.vars q.aV
 refine St.wf q.vv.1 (fun yb rV=> ?_);refine St.wf q.kv.1 (fun zf wv=> ?_);refine St.rg ?_;refine St.dS (.mk rfl) rfl (fun b1=> ?_);refine St.alloc dR rfl (fun b2=> ?_);refine St.nn (St.seq (St.sr ?_));refine St.ee (Ev.aD (.mk rfl) cN) ?_;refine St.ee (Ev.l0 (.mk rfl) cM) ?_;refine St.ee (Ev.bA (.mk rfl) cM) ?_;refine St.ee Ev.vQ ?_;refine St.mv ?_;refine St.gf _ rfl rfl (fun hg=>Ev.aD (.mk rfl) dz) rfl ?_;refine St.gf _ rfl rfl (fun hg=>Ev.cY (aL.gv rfl hg) dw trivial (by rfl)) rfl ?_;refine St.gf _ rfl rfl (fun hg=>Ev.bA (aL.gv rfl hg) dw) rfl ?_;refine St.gf _ rfl rfl (fun hg=>Ev.gtr (aL.gv rfl hg) (.mk rfl)) rfl ?_;refine St.ee Ev.o0 ?_;refine St.nn ?_;refine St.cond _ rfl (fun eT=> ?_) (fun eT=> ?_)
 ·try simp only[aA]at eT
  rw[if_pos (by omega)]at lz;refine St.sr ?_;refine St.ee (Ev.build (ps:=[(0,(.const (.int .i64 2))),(1,(.const (.int .i64 (-1))))]) (aQ.cons (aL.mk rfl) (aQ.cons (aL.mk rfl) aQ.nil)) (fun w=>cX rfl rfl w)) ?_;refine St.sA (.mk rfl) (.mk rfl) aR ?_;refine St.nn (St.ae (St.a8 ?_));refine St.rT [_] [] Tryz.results6 ⟨⟨_,_,_,_,rfl,c4.mem,.inl ⟨⟨_,bC⟩,aR,rfl⟩⟩,trivial⟩ ?_;exact congrArg fv lz.symm
 ·try simp only[aA]at eT
  rw[if_neg (by omega)]at lz
  have Za:q.vars.length≤4:=by omega
  have XG:q.aV.length≤8:=by omega
  refine St.skip (St.a7 (St.seq (St.sr ?_)));refine St.ee (Ev.aD (.mk rfl) cN) ?_;refine St.ee (Ev.l0 (.mk rfl) cM) ?_;refine St.ee (Ev.bA (.mk rfl) cM) ?_;refine St.ee Ev.fE ?_;refine St.nn ?_;refine St.cond _ rfl (fun A3=> ?_) (fun A3=> ?_)
  ·try simp only[aA]at A3
   rw[if_pos (by omega)]at lz;refine St.sr ?_;refine St.ee (Ev.build (ps:=[(0,(.const (.int .i64 9))),(1,(.const (.int .i64 (-1))))]) (aQ.cons (aL.mk rfl) (aQ.cons (aL.mk rfl) aQ.nil)) (fun w=>cX rfl rfl w)) ?_;refine St.sA (.mk rfl) (.mk rfl) aR ?_;refine St.nn (St.ae (St.a8 ?_));refine St.rT [_] [] Tryz.results6 ⟨⟨_,_,_,_,rfl,c4.mem,.inl ⟨⟨_,bC⟩,aR,rfl⟩⟩,trivial⟩ ?_;exact congrArg fv lz.symm
  ·try simp only[aA]at A3
   rw[if_neg (by omega)]at lz;refine St.skip (St.a7 (St.seq (St.sr ?_)));refine St.ao ?_;refine St.nn (St.block ?_);refine St.lH (ι:=Nat) (fun k T=>(3,iv k)::T) (fun k=>[aZ b1 (.cells [q.vv.1,q.kv.1].toArray 25 (0,0)),aZ b2 (.cells [iv 0,iv 0].toArray 28 (0,0)),aE (sl cC q.vv.1 q.vars),aE (sl cE q.kv.1 q.aV)]) (fun k=>k≤q.vars.length∧dp [] 0 q.vars=dp ((q.vars.take k).map bL.name) k (q.vars.drop k)) (fun k=>q.vars.length-k) 0 (aG.cons 1 rfl (aG.cons 2 rfl aG.nil)) ⟨Nat.zero_le _,rfl⟩ ?_;rintro k ⟨hk,hv⟩;refine St.seq (St.sr ?_);refine St.mv ?_;refine St.ee (Ev.aD (.mk rfl) cN) ?_;refine St.ee (Ev.l0 (.mk rfl) cM) ?_;refine St.ee (Ev.bA (.mk rfl) cM) ?_;refine St.ee Ev.ez ?_;refine St.nn ?_;refine St.cond _ rfl (fun Vk=> ?_) (fun Vk=> ?_)
   ·try simp only[aA]at Vk
    obtain⟨va,ht⟩:=aY (show k<q.vars.length by omega)
    have qM:=List.mem_of_getElem? ht
    have cq:=p2 ht ((q.vars.take k).map bL.name)
    obtain⟨LS,Wz,Nj⟩:=yb va qM
    replace LS:va.name.length≤140737488351232:=LS
    replace Nj:va.label.length≤140737488351232:=Nj
    refine St.skip (St.a7 (St.seq (St.block (St.sr ?_))));refine St.ee (Ev.aD (.mk rfl) cN) ?_;refine St.ee (Ev.l0 (.mk rfl) cM) ?_;refine St.mv ?_;refine St.ee (Ev.aa (k:=k) (.mk rfl) (.mk rfl) cM cv (by omega) (by omega)) ?_;refine St.ee (Ev.iH (.mk rfl) ht gP trivial cv fw.eq) ?_;refine St.alloc pM rfl (fun b4=> ?_);refine St.sA (.mk rfl) (.mk rfl) cv ?_ (h1:=(by simp only[List.all_cons,List.all_nil,Bool.and_true,Bool.and_eq_true];exact⟨rfl,rfl,rfl⟩));refine St.nn (St.seq (St.sr ?_));refine St.ee (Ev.aD (.mk rfl) db) ?_;refine St.ee (Ev.l0 (.mk rfl) bf) ?_;refine St.ee Ev.ez ?_;refine St.mv ?_;refine St.gf _ rfl rfl (fun hg=>Ev.aD (.mk rfl) db) rfl ?_;refine St.gf _ rfl rfl (fun hg=>Ev.cY (aL.gv rfl hg) bf trivial (by rfl)) rfl ?_;refine St.gf _ rfl rfl (fun hg=>Ev.gtr (aL.gv rfl hg) (.mk rfl)) rfl ?_;refine St.ee Ev.o0 ?_;refine St.nn ?_;refine St.cond _ rfl (fun ud=> ?_) (fun ud=> ?_)
    ·try simp only[aA]at ud
     rw[if_pos (by omega)]at cq;refine St.sr ?_;refine St.mv ?_;refine St.ee (Ev.build (ps:=[(0,(.const (.int .i64 4))),(1,(.tmp 45))]) (aQ.cons (aL.mk rfl) (aQ.cons (aL.mk rfl) aQ.nil)) (fun w=>cX rfl rfl w)) ?_;refine St.sA (.mk rfl) (.mk rfl) aR ?_;refine St.nn (St.ae (St.a8 (St.aN (St.a8 (St.a8 (St.aN (St.a8 ?_)))))));refine St.rT [_] [] Tryz.results6 ⟨⟨_,_,_,_,rfl,c4.mem,.inl ⟨⟨_,bC⟩,aR,rfl⟩⟩,trivial⟩ ?_;exact congrArg fv (ff lz (hv.trans cq) (by decide)).symm
    ·try simp only[aA]at ud
     rw[if_neg (by omega)]at cq;refine St.skip (St.a7 (St.seq (St.sr ?_)));refine St.ee (Ev.aD (.mk rfl) fm) ?_;refine St.ee (Ev.l0 (.mk rfl) cZ) ?_;refine St.ee (Ev.call (gl va.name (by omega)) Ep (.cons (.mk rfl) .nil)) ?_;refine St.ee (Ev.not (.mk rfl)) ?_;refine St.mv ?_;refine St.gf _ rfl rfl (fun hg=>Ev.aD (.mk rfl) db) rfl ?_;refine St.gf _ rfl rfl (fun hg=>Ev.cY (aL.gv rfl hg) bf trivial (by rfl)) rfl ?_;refine St.gf _ rfl rfl (fun hg=>Ev.eql (aL.gv rfl hg) (.mk rfl)) rfl ?_;refine St.gf _ rfl rfl (fun hg=>Ev.move (aL.gv rfl hg)) rfl ?_;refine St.kW _ rfl rfl (fun hg=>Ev.aD (.mk rfl) fL) rfl ?_;refine St.kW _ rfl rfl (fun hg=>Ev.cY (aL.gv rfl hg) cZ trivial (by rfl)) rfl ?_;refine St.kW _ rfl rfl (fun hg=>Ev.call (gl va.label (by omega)) Ep (.cons (aL.gv rfl hg) .nil)) rfl ?_;refine St.kW _ rfl rfl (fun hg=>Ev.not (aL.gv rfl hg)) rfl ?_;refine St.gf _ rfl rfl (fun hg=>Ev.and (aL.gv rfl hg) (fun hp=>aL.gv rfl (ji hg hp))) rfl ?_;refine St.ee Ev.o0 ?_;refine St.mv ?_;refine St.gf _ rfl rfl (fun hg=>Ev.aD (.mk rfl) db) rfl ?_;refine St.gf _ rfl rfl (fun hg=>Ev.cY (aL.gv rfl hg) bf trivial (by rfl)) rfl ?_;refine St.gf _ rfl rfl (fun hg=>Ev.eql (aL.gv rfl hg) (.mk rfl)) rfl ?_;refine St.gf _ rfl rfl (fun hg=>Ev.move (aL.gv rfl hg)) rfl ?_;refine St.kW _ rfl rfl (fun hg=>Ev.aD (.mk rfl) fL) rfl ?_;refine St.kW _ rfl rfl (fun hg=>Ev.cY (aL.gv rfl hg) cZ trivial (by rfl)) rfl ?_;refine St.kW _ rfl rfl (fun hg=>Ev.call (p8 va.label (by omega)) QD (.cons (aL.gv rfl hg) .nil)) rfl ?_;refine St.kW _ rfl rfl (fun hg=>Ev.not (aL.gv rfl hg)) rfl ?_;refine St.gf _ rfl rfl (fun hg=>Ev.and (aL.gv rfl hg) (fun hp=>aL.gv rfl (ji hg hp))) rfl ?_;refine St.ee Ev.o0 ?_;refine St.nn ?_;refine St.cond _ rfl (fun ue=> ?_) (fun ue=> ?_)
     ·try simp only[aA]at ue
      rw[if_pos (by rcases ue with(h|h)|h;exact .inl h;exact .inr (.inl h);exact .inr (.inr h))]at cq;refine St.sr ?_;refine St.mv ?_;refine St.ee (Ev.build (ps:=[(0,(.const (.int .i64 10))),(1,(.tmp 73))]) (aQ.cons (aL.mk rfl) (aQ.cons (aL.mk rfl) aQ.nil)) (fun w=>cX rfl rfl w)) ?_;refine St.sA (.mk rfl) (.mk rfl) aR ?_;refine St.nn (St.ae (St.a8 (St.aN (St.a8 (St.a8 (St.aN (St.a8 ?_)))))));refine St.rT [_] [] Tryz.results6 ⟨⟨_,_,_,_,rfl,c4.mem,.inl ⟨⟨_,bC⟩,aR,rfl⟩⟩,trivial⟩ ?_;exact congrArg fv (ff lz (hv.trans cq) (by decide)).symm
     ·try simp only[aA]at ue
      rw[if_neg (by rintro (h|⟨h,h2⟩|⟨h,h2⟩)<;>simp_all)]at cq;refine St.skip (St.a7 (St.seq (St.sr ?_)));refine St.ao ?_;refine St.nn (St.block ?_);refine St.lH (ι:=Nat) (fun p T=>(5,iv p)::T) (fun p=>[aZ b4 (.cells [sv va.name,iv va.kind,sv va.label].toArray 38 (0,0)),aZ b1 (.cells [q.vv.1,q.kv.1].toArray 25 (0,0)),aZ b2 (.cells [iv 0,iv 0].toArray 28 (0,0)),aE (sl cC q.vv.1 q.vars),aE (sl cE q.kv.1 q.aV)]) (fun p=>p≤k∧va.name∉((q.vars.take p).map bL.name)) (fun p=>k-p) 0 (aG.cons 1 rfl (aG.cons 2 rfl (aG.cons 3 rfl (aG.cons 4 rfl aG.nil)))) ⟨Nat.zero_le _,by simp⟩ ?_;rintro p ⟨hp,Vl⟩;refine St.seq (St.sr ?_);refine St.mv ?_;refine St.mv ?_;refine St.ee Ev.ez ?_;refine St.nn ?_;refine St.cond _ rfl (fun uH=> ?_) (fun uH=> ?_)
      ·try simp only[aA]at uH
       obtain⟨vu,hu⟩:=aY (show p<q.vars.length by omega);refine St.skip (St.a7 (St.seq (St.block (St.seq ?_))));refine St.rq mixed (by kernel_rfl) (Mm.drawn _ _) ?_;refine Sq.ee (Ev.aD (.mk rfl) cN) ?_;refine Sq.ee (Ev.l0 (.mk rfl) cM) ?_;refine Sq.ee (Ev.move (.mk rfl)) ?_;refine Sq.ee (Ev.aa (k:=p) (.mk rfl) (.mk rfl) cM cv (by omega) (by omega)) ?_;refine Sq.ee (Ev.eY (.mk rfl) (by omega) fm) ?_;refine Sq.ee (Ev.jA (.mk rfl) hu cZ trivial rfl) ?_;refine Sq.ee (Ev.aD (.mk rfl) fm) ?_;refine Sq.ee (Ev.l0 (.mk rfl) cZ) ?_;refine Sq.ee (Ev.fC (.mk rfl) (.mk rfl)) ?_;refine Sq.nil ?_;refine St.a7 ?_;refine St.cond _ rfl (fun yZ=> ?_) (fun yZ=> ?_)
       ·try simp only[aA]at yZ
        have qR:va.name∈((q.vars.take k).map bL.name):=by rw[←yZ];exact List.mem_map_of_mem (List.mem_of_getElem? (show(q.vars.take k)[p]?=some vu by rw[List.getElem?_take,if_pos (by omega)];exact hu))
        rw[if_pos qR]at cq;refine St.sr ?_;refine St.mv ?_;refine St.ee (Ev.build (ps:=[(0,(.const (.int .i64 7))),(1,(.tmp 89))]) (aQ.cons (aL.mk rfl) (aQ.cons (aL.mk rfl) aQ.nil)) (fun w=>cX rfl rfl w)) ?_;refine St.sA (.mk rfl) (.mk rfl) aR ?_;refine St.nn (St.ae (St.aN (St.a8 (St.a8 (St.aN (St.a8 (St.aN (St.a8 (St.a8 (St.aN (St.a8 ?_)))))))))));refine St.rT [_] [] Tryz.results6 ⟨⟨_,_,_,_,rfl,c4.mem,.inl ⟨⟨_,bC⟩,aR,rfl⟩⟩,trivial⟩ ?_;exact congrArg fv (ff lz (hv.trans cq) (by decide)).symm
       ·try simp only[aA]at yZ
        refine St.skip (St.aW (St.a7 (St.rg ?_)));refine St.mv ?_;refine St.ee Ev.a0 ?_;refine St.ao ?_;refine St.nn ?_;refine St.aH (p+1) ⟨by omega,by rw[c9 bL.name hu];intro h;rcases List.mem_append.1 h with h|h;exact Vl h;exact yZ (List.mem_singleton.1 h).symm⟩
      ·try simp only[aA]at uH
       obtain rfl:k=p:=by omega
       rw[if_neg Vl]at cq;refine St.exit (St.aJ (St.aJ (St.bO (St.a7 (St.sr ?_)))));refine St.ee (Ev.aD (.mk rfl) db) ?_;refine St.ee (Ev.l0 (.mk rfl) bf) ?_;refine St.ee Ev.kz ?_;refine St.mv ?_;refine St.gt _ rfl rfl (fun hg=>Ev.aD (.mk rfl) db) rfl ?_;refine St.gt _ rfl rfl (fun hg=>Ev.cY (aL.gv rfl hg) bf trivial (by rfl)) rfl ?_;refine St.gt _ rfl rfl (fun hg=>Ev.neq (aL.gv rfl hg) (.mk rfl)) rfl ?_;refine St.ee Ev.n0 ?_;refine St.mv ?_;refine St.gt _ rfl rfl (fun hg=>Ev.aD (.mk rfl) fL) rfl ?_;refine St.gt _ rfl rfl (fun hg=>Ev.cY (aL.gv rfl hg) cZ trivial (by rfl)) rfl ?_;refine St.gt _ rfl rfl (fun hg=>Ev.oU (aL.gv rfl hg) (.mk rfl)) rfl ?_;refine St.ee Ev.n0 ?_;refine St.nn ?_;refine St.cond _ rfl (fun oJ=> ?_) (fun oJ=> ?_)
       ·try simp only[aA]at oJ
        rw[if_pos ⟨by omega,oJ.2⟩]at cq;refine St.sr ?_;refine St.mv ?_;refine St.ee (Ev.build (ps:=[(0,(.const (.int .i64 5))),(1,(.tmp 104))]) (aQ.cons (aL.mk rfl) (aQ.cons (aL.mk rfl) aQ.nil)) (fun w=>cX rfl rfl w)) ?_;refine St.sA (.mk rfl) (.mk rfl) aR ?_;refine St.nn (St.ae (St.aN (St.a8 (St.a8 (St.aN (St.a8 ?_))))));refine St.rT [_] [] Tryz.results6 ⟨⟨_,_,_,_,rfl,c4.mem,.inl ⟨⟨_,bC⟩,aR,rfl⟩⟩,trivial⟩ ?_;exact congrArg fv (ff lz (hv.trans cq) (by decide)).symm
       ·try simp only[aA]at oJ
        rw[if_neg (fun hh=>by rcases oJ with h|h;omega;exact hh.2 h)]at cq;refine St.skip (St.aW (St.a7 (St.rg ?_)));refine St.mv ?_;refine St.ee Ev.a0 ?_;refine St.ao ?_;refine St.nn ?_;refine St.aH (k+1) ⟨by omega,by rw[hv,cq,c9 bL.name ht]⟩
   ·try simp only[aA]at Vk
    rw[qe (by omega)]at hv
    replace lz:=pa lz hv
    refine St.exit (St.aJ (St.aJ (St.bO (St.a7 (St.seq (St.sr ?_))))));refine St.ao ?_;refine St.nn (St.block ?_);refine St.lH (ι:=Nat) (fun p T=>(6,iv p)::T) (fun p=>[aZ b1 (.cells [q.vv.1,q.kv.1].toArray 25 (0,0)),aZ b2 (.cells [iv 0,iv 0].toArray 28 (0,0)),aE (sl cC q.vv.1 q.vars),aE (sl cE q.kv.1 q.aV)]) (fun p=>p≤q.aV.length∧fI q.vars.length q.vars.length q.aV=fI q.vars.length (q.vars.length+p) (q.aV.drop p)) (fun p=>q.aV.length-p) 0 (aG.cons 1 rfl (aG.cons 2 rfl aG.nil)) ⟨Nat.zero_le _,rfl⟩ ?_;rintro p ⟨hp,oI⟩;refine St.seq (St.sr ?_);refine St.mv ?_;refine St.ee (Ev.aD (.mk rfl) dz) ?_;refine St.ee (Ev.l0 (.mk rfl) dw) ?_;refine St.ee (Ev.bA (.mk rfl) dw) ?_;refine St.ee Ev.ez ?_;refine St.nn ?_;refine St.cond _ rfl (fun Kr=> ?_) (fun Kr=> ?_)
    ·try simp only[aA]at Kr
     obtain⟨x,hx⟩:=aY (show p<q.aV.length by omega)
     have cq:=p4 (n:=q.vars.length) (m:=q.vars.length) hx
     refine St.skip (St.a7 (St.seq (St.block (St.sr ?_))));refine St.ee (Ev.aD (.mk rfl) dz) ?_;refine St.ee (Ev.l0 (.mk rfl) dw) ?_;refine St.mv ?_;refine St.ee (Ev.aa (k:=p) (.mk rfl) (.mk rfl) dw gj (by omega) (by omega)) ?_;refine St.ee (Ev.iH (.mk rfl) hx tq trivial gj fw.eq) ?_;refine St.alloc B2 rfl (fun b7=> ?_);refine St.sA (.mk rfl) (.mk rfl) gj ?_ (h1:=(by simp only[List.all_cons,List.all_nil,Bool.and_true,Bool.and_eq_true];exact⟨rfl,rfl,rfl⟩));refine St.nn (St.sr ?_);refine St.ee (Ev.aD (.mk rfl) cN) ?_;refine St.ee (Ev.l0 (.mk rfl) cM) ?_;refine St.ee (Ev.bA (.mk rfl) cM) ?_;refine St.mv ?_;refine St.ee Ev.a0 ?_;refine St.slot 122 (iv ((q.vars.length+p:Nat):Int)) rfl rfl ?_;refine St.ao ?_;refine St.nn (St.seq (St.sr ?_));refine St.ee (Ev.aD (.mk rfl) mV) ?_;refine St.ee (Ev.l0 (.mk rfl) bf) ?_;refine St.ee Ev.ez ?_;refine St.mv ?_;refine St.gf _ rfl rfl (fun hg=>Ev.aD (.mk rfl) mV) rfl ?_;refine St.gf _ rfl rfl (fun hg=>Ev.cY (aL.gv rfl hg) bf trivial (by rfl)) rfl ?_;refine St.gf _ rfl rfl (fun hg=>Ev.gtr (aL.gv rfl hg) (.mk rfl)) rfl ?_;refine St.ee Ev.o0 ?_;refine St.nn ?_;refine St.cond _ rfl (fun Ks=> ?_) (fun Ks=> ?_)
     ·try simp only[aA]at Ks
      rw[if_pos (by omega)]at cq;refine St.sr ?_;refine St.mv ?_;refine St.ee (Ev.build (ps:=[(0,(.const (.int .i64 4))),(1,(.tmp 131))]) (aQ.cons (aL.mk rfl) (aQ.cons (aL.mk rfl) aQ.nil)) (fun w=>cX rfl rfl w)) ?_;refine St.sA (.mk rfl) (.mk rfl) aR ?_;refine St.nn (St.ae (St.a8 (St.aN (St.a8 (St.a8 (St.aN (St.a8 ?_)))))));refine St.rT [_] [] Tryz.results6 ⟨⟨_,_,_,_,rfl,c4.mem,.inl ⟨⟨_,bC⟩,aR,rfl⟩⟩,trivial⟩ ?_;exact congrArg fv (lz.trans (oI.trans cq)).symm
     ·try simp only[aA]at Ks
      rw[if_neg (by omega)]at cq;refine St.skip (St.a7 (St.seq (St.sr ?_)));refine St.ee (Ev.aD (.mk rfl) hG) ?_;refine St.ee (Ev.l0 (.mk rfl) bf) ?_;refine St.ee Ev.ez ?_;refine St.mv ?_;refine St.gf _ rfl rfl (fun hg=>Ev.aD (.mk rfl) hG) rfl ?_;refine St.gf _ rfl rfl (fun hg=>Ev.cY (aL.gv rfl hg) bf trivial (by rfl)) rfl ?_;refine St.gf _ rfl rfl (fun hg=>Ev.aD (.mk rfl) cN) rfl ?_;refine St.gf _ rfl rfl (fun hg=>Ev.cY (aL.gv rfl hg) cM trivial (by rfl)) rfl ?_;refine St.gf _ rfl rfl (fun hg=>Ev.bA (aL.gv rfl hg) cM) rfl ?_;refine St.gf _ rfl rfl (fun hg=>Ev.geq (aL.gv rfl hg) (aL.gv rfl hg)) rfl ?_;refine St.ee Ev.o0 ?_;refine St.mv ?_;refine St.gf _ rfl rfl (fun hg=>Ev.aD (.mk rfl) hJ) rfl ?_;refine St.gf _ rfl rfl (fun hg=>Ev.cY (aL.gv rfl hg) bf trivial (by rfl)) rfl ?_;refine St.gf _ rfl rfl (fun hg=>Ev.lss (aL.gv rfl hg) (.mk rfl)) rfl ?_;refine St.ee Ev.o0 ?_;refine St.mv ?_;refine St.gf _ rfl rfl (fun hg=>Ev.aD (.mk rfl) hJ) rfl ?_;refine St.gf _ rfl rfl (fun hg=>Ev.cY (aL.gv rfl hg) bf trivial (by rfl)) rfl ?_;refine St.gf _ rfl rfl (fun hg=>Ev.aD (.mk rfl) cN) rfl ?_;refine St.gf _ rfl rfl (fun hg=>Ev.cY (aL.gv rfl hg) cM trivial (by rfl)) rfl ?_;refine St.gf _ rfl rfl (fun hg=>Ev.bA (aL.gv rfl hg) cM) rfl ?_;refine St.gf _ rfl rfl (fun hg=>Ev.geq (aL.gv rfl hg) (aL.gv rfl hg)) rfl ?_;refine St.ee Ev.o0 ?_;refine St.nn ?_;refine St.cond _ rfl (fun Kt=> ?_) (fun Kt=> ?_)
      ·try simp only[aA]at Kt
       rw[if_pos (by omega)]at cq;refine St.sr ?_;refine St.mv ?_;refine St.ee (Ev.build (ps:=[(0,(.const (.int .i64 3))),(1,(.tmp 157))]) (aQ.cons (aL.mk rfl) (aQ.cons (aL.mk rfl) aQ.nil)) (fun w=>cX rfl rfl w)) ?_;refine St.sA (.mk rfl) (.mk rfl) aR ?_;refine St.nn (St.ae (St.a8 (St.aN (St.a8 (St.a8 (St.aN (St.a8 ?_)))))));refine St.rT [_] [] Tryz.results6 ⟨⟨_,_,_,_,rfl,c4.mem,.inl ⟨⟨_,bC⟩,aR,rfl⟩⟩,trivial⟩ ?_;exact congrArg fv (lz.trans (oI.trans cq)).symm
      ·try simp only[aA]at Kt
       rw[if_neg (by omega)]at cq;refine St.skip (St.a7 (St.sr ?_));refine St.ee (Ev.aD (.mk rfl) hG) ?_;refine St.ee (Ev.l0 (.mk rfl) bf) ?_;refine St.ee (Ev.aD (.mk rfl) hJ) ?_;refine St.ee (Ev.l0 (.mk rfl) bf) ?_;refine St.ee Ev.fE ?_;refine St.nn ?_;refine St.cond _ rfl (fun Ku=> ?_) (fun Ku=> ?_)
       ·try simp only[aA]at Ku
        rw[if_pos (by omega)]at cq;refine St.sr ?_;refine St.mv ?_;refine St.ee (Ev.build (ps:=[(0,(.const (.int .i64 5))),(1,(.tmp 164))]) (aQ.cons (aL.mk rfl) (aQ.cons (aL.mk rfl) aQ.nil)) (fun w=>cX rfl rfl w)) ?_;refine St.sA (.mk rfl) (.mk rfl) aR ?_;refine St.nn (St.ae (St.aN (St.a8 (St.a8 (St.aN (St.a8 ?_))))));refine St.rT [_] [] Tryz.results6 ⟨⟨_,_,_,_,rfl,c4.mem,.inl ⟨⟨_,bC⟩,aR,rfl⟩⟩,trivial⟩ ?_;exact congrArg fv (lz.trans (oI.trans cq)).symm
       ·try simp only[aA]at Ku
        rw[if_neg (by omega)]at cq;refine St.skip (St.aW (St.a7 (St.rg ?_)));refine St.mv ?_;refine St.ee Ev.a0 ?_;refine St.ao ?_;refine St.nn ?_;refine St.aH (p+1) ⟨by omega,oI.trans cq⟩
    ·try simp only[aA]at Kr
     rw[qf (by omega)]at oI
     have Tl:=lz.trans oI
     refine St.exit (St.aJ (St.aJ (St.bO (St.a7 (St.sr ?_)))));refine St.ee (Ev.build (ps:=[]) (aQ.nil) (fun w=>fK w)) ?_;refine St.sA (.mk rfl) (.mk rfl) aR ?_;refine St.nn (St.ae ?_);refine St.rT [_] [] Tryz.results6 ⟨⟨_,_,_,_,rfl,c4.mem,.inl ⟨⟨_,bC⟩,aR,rfl⟩⟩,trivial⟩ ?_;exact congrArg fv Tl.symm
def FZ (s:ax):Nat→Nat→Nat
 |0,n=>n
 |f+1,n=>if n<s.length∧isName (s.take (n+1))=true then FZ s f (n+1)else n
def lM (s:ax):Nat:=FZ s (s.length+1) 0
theorem qp {s:ax}{f n:Nat}(h:¬(n<s.length∧isName (s.take (n+1))=true)):FZ s f n=n:=by
 cases f with
 |zero=>rfl
 |succ f=>rw[FZ,if_neg h]
theorem yu {s:ax}{n:Nat}(h:n<s.length∧isName (s.take (n+1))=true):FZ s (s.length+1-n) n=FZ s (s.length+1-(n+1)) (n+1):=by
 rw[show s.length+1-n=(s.length-n)+1 by omega,FZ,if_pos h,show s.length+1-(n+1)=s.length-n by omega]
theorem Er {s:ax}{m:Nat}(hm:m≤s.length)(h:∀k,k<m→isName (s.take (k+1))=true)(hs:¬(m<s.length∧isName (s.take (m+1))=true)):lM s=m:=by
 have go:∀n,n≤m→lM s=FZ s (s.length+1-n) n:=by
  intro n
  induction n with
  |zero=>intro _;rfl
  |succ n ih=>intro hn;rw[ih (by omega),yu ⟨by omega,h n (by omega)⟩]
 rw[go m (Nat.le_refl _),qp hs]
theorem eA {s:ax}:isName s=true↔(0<s.length∧s.length≤30∧low (s.getD 0 0)=true∧s.all eE=true):=by
 unfold isName
 simp only[Bool.and_eq_true,decide_eq_true_eq,and_assoc]
theorem BQ {s:ax}(h:isName s=true){k:Nat}(hk:k<s.length):isName (s.take (k+1))=true:=by
 obtain⟨h1,h2,h3,h4⟩:=eA.1 h;refine eA.2 ⟨by rw[List.length_take];omega,by rw[List.length_take];omega,?_,?_⟩
 ·rw[List.getD_eq_getElem?_getD,List.getElem?_take,if_pos (by omega),←List.getD_eq_getElem?_getD];exact h3
 ·rw[List.all_eq_true]at h4⊢
  exact fun c hc=>h4 c (List.mem_of_mem_take hc)
theorem wQ {s r:ax}{c:UInt8}(h:isName s=true)(hc:eE c=false):lM (s++c::r)=s.length:=by
 refine Er (by rw[List.length_append];omega) (fun k hk=> ?_) (fun⟨_,hh⟩=> ?_)
 ·rw[List.take_append_of_le_length (by omega)];exact BQ h hk
 ·have:=(eA.1 hh).2.2.2
  rw[show s++c::r=(s++ [c])++r by simp,List.take_append_of_le_length (by rw[List.length_append];exact Nat.le_refl _),List.take_of_length_le (by rw[List.length_append];exact Nat.le_refl _),List.all_append,List.all_cons,hc,Bool.false_and,Bool.and_false]at this
  cases this
def jh (r:ax):Bool:=if r=[42]then true else if r=[46]then true else if r.head?=some 39 then isWord r.tail else isName r
def jF (nm r:ax):bL:=if r=[42]then⟨nm,1,[]⟩else if r=[46]then⟨nm,4,[]⟩else if r.head?=some 39 then⟨nm,3,r.tail⟩else⟨nm,2,r⟩
def eH (k:Int):ax:=if k=1 then [62]else if k=2 then [62,62]else if k=3 then [60]else if k=4 then [60,60]else [126]
def nT (r:ax)(k:Int):Bool:=decide (r.take (eH k).length=eH k)&&isName (r.drop (eH k).length)
def uV (nm r:ax):List Int→Option (Int×ax×ax)
 | []=>none
 |k::ks=>if nT r k=true then some (k,nm,r.drop (eH k).length)else uV nm r ks
def dE (s:ax):Option (bL ⊕ (Int×ax×ax)):=
 if lM s=0∨lM s=s.length then none
 else if s.getD (lM s) 0=58 then(if jh (s.drop (lM s+1))=true then some (.inl (jF (s.take (lM s)) (s.drop (lM s+1))))else none)
 else(uV (s.take (lM s)) (s.drop (lM s)) [1,2,3,4,5]).map .inr
def cr:List bL→ax→Option Nat
 | [],_=>none
 |v::vs,s=>if v.name=s then some 0 else(cr vs s).map (· +1)
def pA (vs:List bL)(ks:List cL)(s:ax)(at_:Int):(List bL×List cL) ⊕ (Int×Int):=
 match dE s with
 |none=> .inr (11,at_)
 |some (.inl v)=>if ks=[]then .inl (vs++ [v],ks)else .inr (11,at_)
 |some (.inr (k,a,b))=>match cr vs a,cr vs b with
  |some i,some j=> .inl (vs,ks++ [⟨k,i,j⟩])
  |_,_=> .inr (6,at_)
def dP:List ax→List bL→List cL→Nat→(List bL×List cL) ⊕ (Int×Int)
 | [],vs,ks,_=> .inl (vs,ks)
 |s::l,vs,ks,n=>match pA vs ks s n with
  | .inr f=> .inr f
  | .inl (vs',ks')=>dP l vs' ks' (n+s.length+1)
theorem ll {s:ax}(h:isName s=true):∃c r,s=c::r∧low c=true:=by
 obtain⟨h1,_,h3,_⟩:=eA.1 h
 cases s with
 |nil=>exact absurd h1 (by simp)
 |cons c r=>exact⟨c,r,rfl,h3⟩
theorem wR {c:UInt8}{r:ax}(h:low c=false):isName (c::r)=false:=by
 rw[Bool.eq_false_iff];intro hh
 have:=(eA.1 hh).2.2.1
 rw[show(c::r).getD 0 0=c from rfl,h]at this
 cases this
theorem Et {v:bL}(h1:1≤v.kind)(h4:v.kind≤4)(h2:v.kind=2→isName v.label=true)(h3:v.kind=3→isWord v.label=true)(h0:(v.kind=1∨v.kind=4)→v.label=[]):
 jh (jg v.kind++v.label)=true∧jF v.name (jg v.kind++v.label)=v:=by
 obtain⟨nm,k,lb⟩:=v
 dsimp only at h1 h4 h2 h3 h0⊢
 rcases(show k=1∨k=2∨k=3∨k=4 by omega)with rfl|rfl|rfl|rfl
 ·rw[h0 (.inl rfl)];exact⟨rfl,rfl⟩
 ·have hn:=h2 rfl
  obtain⟨c,r,rfl,hc⟩:=ll hn
  have a1:c≠42:=fun e=>by rw[e]at hc;exact absurd hc (by decide)
  have a2:c≠46:=fun e=>by rw[e]at hc;exact absurd hc (by decide)
  have a3:c≠39:=fun e=>by rw[e]at hc;exact absurd hc (by decide)
  rw[show jg 2=[]from rfl,List.nil_append];unfold jh jF
  have b1:c::r≠ [42]:=fun e=>a1 (List.cons.inj e).1
  have b2:c::r≠ [46]:=fun e=>a2 (List.cons.inj e).1
  have b3:(c::r).head?≠some 39:=fun e=>a3 (Option.some.inj e)
  rw[if_neg b1,if_neg b2,if_neg b3,if_neg b1,if_neg b2,if_neg b3];exact⟨hn,rfl⟩
 ·rw[show jg 3=[39]from rfl]
  unfold jh jF
  have a1:[39]++lb≠ [42]:=fun e=>by have:=(List.cons.inj e).1;exact absurd this (by decide)
  have a2:[39]++lb≠ [46]:=fun e=>by have:=(List.cons.inj e).1;exact absurd this (by decide)
  have a3:([39]++lb).head?=some 39:=rfl
  rw[if_neg a1,if_neg a2,if_pos a3,if_neg a1,if_neg a2,if_pos a3];exact⟨h3 rfl,rfl⟩
 ·rw[h0 (.inr rfl)];exact⟨rfl,rfl⟩
theorem Eu {v:bL}(h1:1≤v.kind)(h4:v.kind≤4)(hn:isName v.name=true)(h2:v.kind=2→isName v.label=true)(h3:v.kind=3→isWord v.label=true)(h0:(v.kind=1∨v.kind=4)→v.label=[]):dE (dY v)=some (.inl v):=by
 have e:dY v=v.name++58::(jg v.kind++v.label):=by unfold dY;simp
 have hm:lM (v.name++58::(jg v.kind++v.label))=v.name.length:=wQ hn (by decide)
 obtain⟨b1,b2⟩:=Et h1 h4 h2 h3 h0
 have hl:=(eA.1 hn).1
 unfold dE;rw[e,hm,if_neg (by rw[List.length_append,List.length_cons];omega),if_pos (by rw[List.getD_eq_getElem?_getD,List.getElem?_append_right (Nat.le_refl _),Nat.sub_self];rfl)]
 have hd:(v.name++58::(jg v.kind++v.label)).drop (v.name.length+1)=jg v.kind++v.label:=by
  rw[show v.name++58::(jg v.kind++v.label)=(v.name++ [58])++(jg v.kind++v.label) by simp,List.drop_left' (by simp)]
 rw[hd,List.take_left' rfl,if_pos b1,b2]
theorem uW {k:Int}(h1:1≤k)(h5:k≤5):cn.getD k.toNat []=eH k:=by
 rcases(show k=1∨k=2∨k=3∨k=4∨k=5 by omega)with rfl|rfl|rfl|rfl|rfl<;>rfl
theorem Ew (nm nb:ax){k:Int}(h1:1≤k)(h5:k≤5)(hb:isName nb=true):uV nm (eH k++nb) [1,2,3,4,5]=some (k,nm,nb):=by
 obtain⟨c,r,rfl,hc⟩:=ll hb
 have n62:∀s:ax,isName (62::s)=false:=fun s=>wR (by decide)
 have n60:∀s:ax,isName (60::s)=false:=fun s=>wR (by decide)
 have e62:c≠62:=fun e=>by rw[e]at hc;exact absurd hc (by decide)
 have e60:c≠60:=fun e=>by rw[e]at hc;exact absurd hc (by decide)
 rcases(show k=1∨k=2∨k=3∨k=4∨k=5 by omega)with rfl|rfl|rfl|rfl|rfl
 ·simp[uV,nT,eH,hb]
 ·simp[uV,nT,eH,hb,n62]
 ·simp[uV,nT,eH,hb,n60,e60]
 ·simp[uV,nT,eH,hb,n60]
 ·simp[uV,nT,eH,hb]
theorem BR {k:Int}(h1:1≤k)(h5:k≤5):∃c r,eH k=c::r∧eE c=false∧c≠58:=by
 rcases(show k=1∨k=2∨k=3∨k=4∨k=5 by omega)with rfl|rfl|rfl|rfl|rfl<;>exact⟨_,_,rfl,by decide,by decide⟩
theorem BS {na nb:ax}{k:Int}(h1:1≤k)(h5:k≤5)(ha:isName na=true)(hb:isName nb=true):dE ((na++eH k)++nb)=some (.inr (k,na,nb)):=by
 obtain⟨c,r,hs,hc,nP⟩:=BR h1 h5
 have hm:lM ((na++eH k)++nb)=na.length:=by
  rw[hs,show(na++c::r)++nb=na++c::(r++nb) by simp];exact wQ ha hc
 have hl:=(eA.1 ha).1
 have AU:0<(eH k).length:=by rw[hs];simp
 unfold dE;rw[hm,if_neg (by rw[List.length_append,List.length_append];omega),if_neg (by rw[List.getD_eq_getElem?_getD,List.append_assoc,List.getElem?_append_right (Nat.le_refl _),Nat.sub_self,hs];exact nP)]
 rw[List.append_assoc,List.take_left' rfl,List.drop_left' rfl,Ew na nb h1 h5 hb];rfl
theorem nU:∀{vs:List bL} {known:List ax} {i:Nat},(dp known i vs).1=0→(vs.map bL.name).Nodup∧∀v∈vs,v.name∉known
 | [],_,_,_=>⟨List.nodup_nil,fun v h=>by cases h⟩
 |v::vs,known,i,h=>by
  rw[dp]at h
  split at h
  ·exact absurd h (by simp)
  split at h
  ·exact absurd h (by simp)
  split at h
  ·exact absurd h (by simp)
  rename_i hk
  split at h
  ·exact absurd h (by simp)
  obtain⟨h1,h2⟩:=nU h;refine⟨?_,fun u hu=> ?_⟩
  ·rw[List.map_cons,List.nodup_cons]
   refine⟨fun hm=> ?_,h1⟩;obtain⟨u,hu,e⟩:=List.mem_map.1 hm;exact h2 u hu (by rw[e];simp)
  ·rcases List.mem_cons.1 hu with rfl|hu
   ·exact hk
   ·exact fun hh=>h2 u hu (by simp[hh])
theorem qq:∀{vs:List bL} {i:Nat} {v:bL},(vs.map bL.name).Nodup→vs[i]?=some v→cr vs v.name=some i
 | [],_,_,_,h=>by simp at h
 |u::vs,0,v,hn,h=>by
  rw[List.getElem?_cons_zero]at h
  cases h
  rw[cr,if_pos rfl]
 |u::vs,i+1,v,hn,h=>by
  rw[List.getElem?_cons_succ]at h;rw[List.map_cons,List.nodup_cons]at hn
  rw[cr,if_neg (fun e=>hn.1 (by rw[e];exact List.mem_map_of_mem (List.mem_of_getElem? h))),qq hn.2 h];rfl
theorem so:∀(l done:List bL) (rest:List ax) (n:Nat),(∀v∈l,dE (dY v)=some (.inl v))→∃m,dP (l.map dY++rest) done [] n=dP rest (done++l) [] m
 | [],done,rest,n,_=>⟨n,by simp⟩
 |v::l,done,rest,n,h=>by
  obtain⟨m,hm⟩:=so l (done++ [v]) rest (n+(dY v).length+1) fun u hu=>h u (by simp[hu])
  refine⟨m,?_⟩;rw[List.map_cons,List.cons_append,dP,pA,h v (by simp)]
  dsimp only
  rw[if_pos rfl]
  dsimp only
  rw[hm,List.append_assoc];rfl
theorem qs (vs:List bL):∀(l done:List cL) (n:Nat),(∀x∈l,∃i j:Nat,x.a=i∧x.b=j∧∃a b,dE (fF vs x)=some (.inr (x.kind,a,b))∧cr vs a=some i∧cr vs b=some j)→dP (l.map (fF vs)) vs done n= .inl (vs,done++l)
 | [],done,n,_=>by rw[List.map_nil,dP,List.append_nil]
 |x::l,done,n,h=>by
  obtain⟨i,j,hi,hj,a,b,h1,h2,h3⟩:=h x (by simp);rw[List.map_cons,dP,pA,h1]
  dsimp only
  rw[h2,h3]
  dsimp only
  rw[qs vs l _ _ fun u hu=>h u (by simp[hu]),List.append_assoc];obtain⟨k,xa,xb⟩:=x
  dsimp only at hi hj
  rw[hi,hj];rfl
theorem BT {vs:List bL}{ks:List cL}(h:(ec vs ks).1=0):dP (cU vs ks) [] [] 0= .inl (vs,ks):=by
 have hq:=(la h).2
 have Bd:(vs.map bL.name).Nodup:=by
  have h2:(dp [] 0 vs).1=0:=by
   unfold ec at h
   have a:=hq.LM;have b:=hq.aV;have d:=hq.pos
   rw[if_neg (by omega),if_neg (by omega)]at h
   by_cases e:(dp [] 0 vs).1=0
   ·exact e
   ·rw[if_pos e]at h;exact absurd h e
  exact(nU h2).1
 unfold cU
 obtain⟨m,hm⟩:=so vs [] (ks.map (fF vs)) 0 fun v hv=>by
  obtain⟨a,b,c,d,e,f⟩:=hq.var v hv;exact Eu a b c d e f
 rw[hm,List.nil_append,qs vs ks [] m fun x hx=> ?_,List.nil_append];obtain⟨k1,k5,a0,a1,b0,b1,_⟩:=hq.link x hx
 obtain⟨u,hu⟩:∃u,vs[x.a.toNat]?=some u:=⟨_,List.getElem?_eq_getElem (by omega)⟩
 obtain⟨w,hw⟩:∃w,vs[x.b.toNat]?=some w:=⟨_,List.getElem?_eq_getElem (by omega)⟩
 refine⟨x.a.toNat,x.b.toNat,by omega,by omega,u.name,w.name,?_,qq Bd hu,qq Bd hw⟩
 have eu:vs.getD x.a.toNat Ny=u:=by rw[List.getD_eq_getElem?_getD,hu];rfl
 have ew:vs.getD x.b.toNat Ny=w:=by rw[List.getD_eq_getElem?_getD,hw];rfl
 unfold fF;rw[eu,ew,uW k1 k5];exact BS k1 k5 (hq.var u (List.mem_of_getElem? hu)).2.2.1 (hq.var w (List.mem_of_getElem? hw)).2.2.1
def fN:ax→List ax
 | []=>[[]]
 |c::s=>if c=32 then []::fN s else match fN s with
  |x::l=>(c::x)::l
  | []=>[[c]]
theorem Kv (s:ax):fN s≠ []:=by
 cases s with
 |nil=>simp[fN]
 |cons c s=>rw[fN];split<;>(try split)<;>simp
theorem pd:∀{s:ax},32∉s→fN s=[s]
 | [],_=>rfl
 |c::s,h=>by
  rw[fN,if_neg (fun e=>h (by simp[e])),pd (fun e=>h (by simp[e]))]
theorem nV:∀{s:ax} (r:ax),32∉s→fN (s++32::r)=s::fN r
 | [],r,_=>by rw[List.nil_append,fN,if_pos rfl]
 |c::s,r,h=>by
  rw[List.cons_append,fN,if_neg (fun e=>h (by simp[e])),nV r (fun e=>h (by simp[e]))]
theorem wS:∀(x:ax) (l:List ax),(∀s∈x::l,32∉s)→fN (Lib.join (x::l) [32])=x::l
 |x,[],h=>by rw[Lib.join_one];exact pd (h x (by simp))
 |x,y::l,h=>by
  have e:Lib.join (x::y::l) [32]=x++32::Lib.join (y::l) [32]:=by
   rw[Lib.join_cons,Lib.join_cons];simp[Lib.joinTail]
  rw[e,nV _ (h x (by simp)),wS y l fun s hs=>h s (by simp[hs])]
end Go.Proofs.YtoioijgdggkabaaGreatDoor
namespace Go.J
open Go
theorem lN {P:Program}(w:World)(d:Nat)(t:TypeId)(a b:ax)(h:P.underlying t=some .string):(Op.equalIn (d+1) t (sv a) (sv b)).run P w= .ok (a==b) w:=by
 have:=run_equalIn_string (P:=P) w d t ⟨a.toArray⟩ ⟨b.toArray⟩ h
 simpa using this
end Go.J
namespace Go.Proofs.YtoioijgdggkabaaGreatDoor
open Go Go.J
theorem QF:aU Tryz.prog 19:=⟨_,Tryz.func19,rfl,by kernel_rfl⟩
theorem Vm:aU Tryz.prog 25:=⟨_,Tryz.func25,rfl,by kernel_rfl⟩
theorem QG:(Tryz.prog.info? 38).map (·.bytes)=some 40:=by kernel_rfl
theorem QH:(Tryz.prog.info? 22).map (·.size)=some 1:=by kernel_rfl
theorem QI:(Tryz.prog.info? 40).map (·.bytes)=some 24:=by kernel_rfl
theorem QJ:(Tryz.prog.info? 23).map (·.size)=some 1:=by kernel_rfl
theorem Xu:aU Tryz.prog 6:=⟨_,Tryz.func6,rfl,by kernel_rfl⟩
theorem Vn:aU Tryz.prog 70:=⟨_,Tryz.func70,rfl,by kernel_rfl⟩
theorem Vo:aU Tryz.prog 48:=⟨_,Tryz.func48,rfl,by kernel_rfl⟩
theorem Vp:aU Tryz.prog 47:=⟨_,Tryz.func47,rfl,by kernel_rfl⟩
theorem Vq:aU Tryz.prog 21:=⟨_,Tryz.func21,rfl,by kernel_rfl⟩
theorem Vr:aU Tryz.prog 23:=⟨_,Tryz.func23,rfl,by kernel_rfl⟩
theorem Vs:aU Tryz.prog 24:=⟨_,Tryz.func24,rfl,by kernel_rfl⟩
theorem cb4:aU Tryz.prog 4:=⟨_,Tryz.func4,rfl,by kernel_rfl⟩
theorem cb7:aU Tryz.prog 7:=⟨_,Tryz.func7,rfl,by kernel_rfl⟩
theorem Vt:aU Tryz.prog 8:=⟨_,Tryz.func8,rfl,by kernel_rfl⟩
theorem Vu:aU Tryz.prog 9:=⟨_,Tryz.func9,rfl,by kernel_rfl⟩
theorem QK:aU Tryz.prog 10:=⟨_,Tryz.func10,rfl,by kernel_rfl⟩
theorem QL (a0 b0:ax)(a1 b1:Int)(a2 b2:ax)(w:World):(Op.equalIn 10000 38 (.agg #[sv a0,.int .i64 a1,sv a2]) (.agg #[sv b0,.int .i64 b1,sv b2])).run Tryz.prog w= .ok ((a0==b0)&&((a1==b1)&&((a2==b2)&&true))) w:=by
 have e:Tryz.prog.underlying 38=some (.struct (Tryz.prog.fieldsOf 38)):=by simp only[Program.fieldsOf,gP]
 have p3:∀(xs:Array Value) (k:Nat) (v:Value) w,xs[k]?=some v→(part 3 xs k).run Tryz.prog w= .ok v w:=fun xs k v w hv=>kb (by rw[bf]) hv
 have p9:∀(xs:Array Value) (k:Nat) (v:Value) w,xs[k]?=some v→(part 9 xs k).run Tryz.prog w= .ok v w:=fun xs k v w hv=>kb (by rw[cZ]) hv
 rw[run_equalIn_struct w 9999 38 _ _ e Tryz.stoodInHeld38]
 simp only[Program.fieldsOf,gP]
 refine gY rfl (fun w=>p9 _ _ _ w rfl) (fun w=>p9 _ _ _ w rfl) (fun w=>lN w 9998 9 _ _ cZ) (fun w=> ?_) w;refine gY rfl (fun w=>p3 _ _ _ w rfl) (fun w=>p3 _ _ _ w rfl) (fun w=>run_equalIn_int w 9998 3 _ _ _ _ bf) (fun w=> ?_) w;refine gY rfl (fun w=>p9 _ _ _ w rfl) (fun w=>p9 _ _ _ w rfl) (fun w=>lN w 9998 9 _ _ cZ) (fun w=> ?_) w;exact tP _ _ _ _ _
theorem QM (a0 b0:Int)(a1 b1:Int)(a2 b2:Int)(w:World):(Op.equalIn 10000 40 (.agg #[.int .i64 a0,.int .i64 a1,.int .i64 a2]) (.agg #[.int .i64 b0,.int .i64 b1,.int .i64 b2])).run Tryz.prog w= .ok ((a0==b0)&&((a1==b1)&&((a2==b2)&&true))) w:=by
 have e:Tryz.prog.underlying 40=some (.struct (Tryz.prog.fieldsOf 40)):=by simp only[Program.fieldsOf,tq]
 have p3:∀(xs:Array Value) (k:Nat) (v:Value) w,xs[k]?=some v→(part 3 xs k).run Tryz.prog w= .ok v w:=fun xs k v w hv=>kb (by rw[bf]) hv
 rw[run_equalIn_struct w 9999 40 _ _ e Tryz.stoodInHeld40]
 simp only[Program.fieldsOf,tq]
 refine gY rfl (fun w=>p3 _ _ _ w rfl) (fun w=>p3 _ _ _ w rfl) (fun w=>run_equalIn_int w 9998 3 _ _ _ _ bf) (fun w=> ?_) w;refine gY rfl (fun w=>p3 _ _ _ w rfl) (fun w=>p3 _ _ _ w rfl) (fun w=>run_equalIn_int w 9998 3 _ _ _ _ bf) (fun w=> ?_) w;refine gY rfl (fun w=>p3 _ _ _ w rfl) (fun w=>p3 _ _ _ w rfl) (fun w=>run_equalIn_int w 9998 3 _ _ _ _ bf) (fun w=> ?_) w;exact tP _ _ _ _ _
theorem Kw (w:World):(Instr.build 38 #[]).run Tryz.prog w= .ok (.agg #[.string ⟨#[]⟩,.int .i64 0,.string ⟨#[]⟩]) w:=
 bP pM (Nu w) (by simp[Instr.fill,J.bR])
theorem j7 (w:World):(Instr.build 25 #[]).run Tryz.prog w= .ok (.agg #[.slice none 0 0,.slice none 0 0]) w:=
 bP pP (Nv w) (by simp[Instr.fill,J.bR])
theorem Ex (a0 b0:Int)(a1 b1:Int)(w:World):(Op.equalIn 10000 28 (.agg #[.int .i64 a0,.int .i64 a1]) (.agg #[.int .i64 b0,.int .i64 b1])).run Tryz.prog w= .ok ((a0==b0)&&((a1==b1)&&true)) w:=by
 have e:Tryz.prog.underlying 28=some (.struct (Tryz.prog.fieldsOf 28)):=by simp only[Program.fieldsOf,bC]
 have p3:∀(xs:Array Value) (k:Nat) (v:Value) w,xs[k]?=some v→(part 3 xs k).run Tryz.prog w= .ok v w:=fun xs k v w hv=>kb (by rw[bf]) hv
 rw[run_equalIn_struct w 9999 28 _ _ e Tryz.stoodInHeld28]
 simp only[Program.fieldsOf,bC]
 refine gY rfl (fun w=>p3 _ _ _ w rfl) (fun w=>p3 _ _ _ w rfl) (fun w=>run_equalIn_int w 9998 3 _ _ _ _ bf) (fun w=> ?_) w;refine gY rfl (fun w=>p3 _ _ _ w rfl) (fun w=>p3 _ _ _ w rfl) (fun w=>run_equalIn_int w 9998 3 _ _ _ _ bf) (fun w=> ?_) w;exact tP _ _ _ _ _
theorem sq (sep:ax):∀(l:List ax) (x:ax),Lib.join (l++ [x]) sep=(Lib.join l sep++(if 0<l.length then sep else []))++x
 | [],x=>by rw[List.nil_append,Lib.join_one,Lib.join_nil];rfl
 |y::l,x=>by
  rw[List.cons_append,Lib.join_cons,Lib.join_cons]
  simp[Lib.joinTail]
theorem uX {vs:List bL}{ks:List cL}{k:Nat}{v:bL}(h:vs[k]?=some v):(cU vs ks).take (k+1)=(cU vs ks).take k++ [dY v]:=by
 refine bD ?_;unfold cU
 rw[List.getElem?_append_left (by rw[List.length_map];exact cg h),List.getElem?_map,h];rfl
theorem uY {vs:List bL}{ks:List cL}{k:Nat}{x:cL}(h:ks[k]?=some x):(cU vs ks).take (vs.length+k+1)=(cU vs ks).take (vs.length+k)++ [fF vs x]:=by
 refine bD ?_;unfold cU
 rw[List.getElem?_append_right (by rw[List.length_map];omega),List.length_map,show vs.length+k-vs.length=k by omega,List.getElem?_map,h];rfl
theorem lO {vs:List bL}{ks:List cL}{k:Nat}(h:k≤vs.length+ks.length):((cU vs ks).take k).length=k:=by
 unfold cU
 rw[List.length_take,List.length_append,List.length_map,List.length_map];omega
theorem lP (k:Int)(h1:1≤k)(h5:k≤5):de Tryz.prog 19 #[iv k] [] (sv (eH k)):=by
 refine de.iZ (args:=[iv k]) 11 Tryz.func19 rfl Tryz.ntmps19 rfl (fun c=> ?_);refine St.sr ?_;refine St.ao ?_;refine St.nn (St.seq (St.sr ?_));refine St.mv ?_;refine St.ee Ev.fE ?_;refine St.nn ?_;refine St.cond _ rfl (fun h4=> ?_) (fun h4=> ?_)
 ·try simp only[aA]at h4
  refine St.sr ?_;refine St.ao ?_;refine St.nn (St.ae (St.a8 ?_));refine St.rU [_] [] Tryz.results19 ?_;exact congrArg sv (by unfold eH;rw[if_pos h4])
 ·try simp only[aA]at h4
  refine St.skip (St.a7 (St.seq (St.sr ?_)));refine St.mv ?_;refine St.ee Ev.fE ?_;refine St.nn ?_;refine St.cond _ rfl (fun h6=> ?_) (fun h6=> ?_)
  ·try simp only[aA]at h6
   refine St.sr ?_;refine St.ao ?_;refine St.nn (St.ae (St.a8 ?_));refine St.rU [_] [] Tryz.results19 ?_;exact congrArg sv (by unfold eH;rw[if_neg h4,if_pos h6])
  ·try simp only[aA]at h6
   refine St.skip (St.a7 (St.seq (St.sr ?_)));refine St.mv ?_;refine St.ee Ev.fE ?_;refine St.nn ?_;refine St.cond _ rfl (fun h8=> ?_) (fun h8=> ?_)
   ·try simp only[aA]at h8
    refine St.sr ?_;refine St.ao ?_;refine St.nn (St.ae (St.a8 ?_));refine St.rU [_] [] Tryz.results19 ?_;exact congrArg sv (by unfold eH;rw[if_neg h4,if_neg h6,if_pos h8])
   ·try simp only[aA]at h8
    refine St.skip (St.a7 (St.seq (St.sr ?_)));refine St.mv ?_;refine St.ee Ev.fE ?_;refine St.nn ?_;refine St.cond _ rfl (fun sR=> ?_) (fun sR=> ?_)
    ·try simp only[aA]at sR
     refine St.sr ?_;refine St.ao ?_;refine St.nn (St.ae (St.a8 ?_));refine St.rU [_] [] Tryz.results19 ?_;exact congrArg sv (by unfold eH;rw[if_neg h4,if_neg h6,if_neg h8,if_pos sR])
    ·try simp only[aA]at sR
     refine St.skip (St.a7 (St.sr ?_));refine St.ao ?_;refine St.nn (St.ae ?_);refine St.rU [_] [] Tryz.results19 ?_;exact congrArg sv (by unfold eH;rw[if_neg h4,if_neg h6,if_neg h8,if_neg sR])
set_option maxHeartbeats 2000000 in
theorem qt (q:cF)(hq:oy q.vars q.aV):de Tryz.prog 7 #[da q] [bG q] (sv (kQ q.vars q.aV)):=by
 unfold de;refine eI.body (args:=[da q]) 89 Tryz.func7 rfl Tryz.ntmps7 rfl (fun c=> ?_);refine St.cast (H':=[aE (bG q)]) rfl ?_;refine St.seq ?_
 refine St.fP (bG q) (fun _:Unit=>kD q) (fun ρ h=>⟨(),h⟩) fun _=> ?_
 refine St.cast (H':=[aE (sl cC q.vv.1 q.vars),aE (sl cE q.kv.1 q.aV),aE (bG q)]) rfl ?_;refine St.wf q.vv.1 (fun yb rV=> ?_);refine St.wf q.kv.1 (fun _ wv=> ?_)
 have ZR:=hq.LM
 have Qd:=hq.pos
 have XG:=hq.aV
 refine St.rg ?_;refine St.dS (.mk rfl) rfl (fun b1=> ?_);refine St.ao ?_;refine St.nn (St.sr ?_);refine St.ao ?_;refine St.nn (St.seq (St.sr ?_));refine St.ao ?_;refine St.nn (St.block ?_);refine St.pH (ι:=Nat) (κ:=ax) (fun k s T=>(4,iv k)::(3,sv s)::T) (fun k s=>[aZ b1 (.cells [q.vv.1,q.kv.1].toArray 25 (0,0)),aE (sl cC q.vv.1 q.vars),aE (sl cE q.kv.1 q.aV)]) (fun k s=>k≤q.vars.length∧s=(Lib.join ((cU q.vars q.aV).take (k)) [32])∧s.length≤300*k) (fun k s=>q.vars.length-k) 0 [] (aG.cons 1 rfl (aG.cons 2 rfl aG.nil)) ⟨Nat.zero_le _,rfl,Nat.zero_le _⟩ ?_;rintro k s ⟨hk,hs,AU⟩;refine St.seq (St.sr ?_);refine St.mv ?_;refine St.ee (Ev.aD (.mk rfl) cN) ?_;refine St.ee (Ev.l0 (.mk rfl) cM) ?_;refine St.ee (Ev.bA (.mk rfl) cM) ?_;refine St.ee Ev.ez ?_;refine St.nn ?_;refine St.cond _ rfl (fun Dt=> ?_) (fun Dt=> ?_)
 ·try simp only[aA]at Dt
  obtain⟨va,ht⟩:=aY (show k<q.vars.length by omega)
  have xL:=uX (ks:=q.aV) ht
  obtain⟨Nr,A4⟩:=jT hq va (List.mem_of_getElem? ht)
  have LH:=lO (vs:=q.vars) (ks:=q.aV) (k:=k) (by omega)
  refine St.skip (St.a7 (St.seq (St.block (St.sr ?_))));refine St.ee (Ev.aD (.mk rfl) cN) ?_;refine St.ee (Ev.l0 (.mk rfl) cM) ?_;refine St.mv ?_;refine St.ee (Ev.aa (k:=k) (.mk rfl) (.mk rfl) cM cv (by omega) (by omega)) ?_;refine St.ee (Ev.iH (.mk rfl) ht gP trivial cv fw.eq) ?_;refine St.alloc pM rfl (fun b5=> ?_);refine St.sA (.mk rfl) (.mk rfl) cv ?_ (h1:=(by simp only[List.all_cons,List.all_nil,Bool.and_true,Bool.and_eq_true];exact⟨rfl,rfl,rfl⟩));refine St.nn ?_;refine St.join (ι:=ax) (fun s2 T=>(3,sv s2)::T) (fun s2=>[aZ b5 (.cells [sv va.name,iv va.kind,sv va.label].toArray 38 (0,0)),aZ b1 (.cells [q.vv.1,q.kv.1].toArray 25 (0,0)),aE (sl cC q.vv.1 q.vars),aE (sl cE q.kv.1 q.aV)]) (fun s2=>s2=s++(if 0<k then [32]else [])) (aG.cons 1 rfl (aG.cons 2 rfl (aG.cons 4 rfl (aG.cons 5 rfl aG.nil)))) ?_ ?_
  ·refine St.sr ?_
   refine St.mv ?_;refine St.ee Ev.vQ ?_;refine St.nn ?_;refine St.cond _ rfl (fun qc=> ?_) (fun qc=> ?_)
   ·try simp only[aA]at qc
    refine St.rg ?_;refine St.mv ?_;refine St.ee (Ev.fH (.mk rfl) (.mk rfl) (by simp only[List.length_append,List.length_cons,List.length_nil];omega)) ?_;refine St.ao ?_;refine St.nn ?_;refine St.mE (s++ [32]) (by rw[if_pos (by omega)])
   ·try simp only[aA]at qc
    refine St.skip (St.a7 ?_);refine St.mE s (by rw[if_neg (by omega),List.append_nil])
  ·intro s2 RN
   have K5:s2.length≤s.length+1:=by rw[RN,List.length_append];split<;>simp
   refine St.sr ?_;refine St.mv ?_;refine St.ee (Ev.aD (.mk rfl) fm) ?_;refine St.ee (Ev.l0 (.mk rfl) cZ) ?_;refine St.ee (Ev.fH (.mk rfl) (.mk rfl) (by simp only[List.length_append,List.length_cons,List.length_nil];omega)) ?_;refine St.ee (Ev.fH (.mk rfl) (.mk rfl) (by simp only[List.length_append,List.length_cons,List.length_nil];omega)) ?_;refine St.ao ?_;refine St.nn ?_;refine St.join (ι:=ax) (fun s3 T=>(3,sv s3)::T) (fun s3=>[aZ b5 (.cells [sv va.name,iv va.kind,sv va.label].toArray 38 (0,0)),aZ b1 (.cells [q.vv.1,q.kv.1].toArray 25 (0,0)),aE (sl cC q.vv.1 q.vars),aE (sl cE q.kv.1 q.aV)]) (fun s3=>s3=(s2++(va.name++ [58]))++jg va.kind) (aG.cons 1 rfl (aG.cons 2 rfl (aG.cons 4 rfl (aG.cons 5 rfl aG.nil)))) ?_ ?_
   ·refine St.sr ?_
    refine St.ee (Ev.aD (.mk rfl) db) ?_;refine St.ee (Ev.l0 (.mk rfl) bf) ?_;refine St.ee Ev.fE ?_;refine St.nn ?_;refine St.cond _ rfl (fun l8=> ?_) (fun l8=> ?_)
    ·try simp only[aA]at l8
     refine St.rg ?_;refine St.mv ?_;refine St.ee (Ev.fH (.mk rfl) (.mk rfl) (by simp only[List.length_append,List.length_cons,List.length_nil];omega)) ?_;refine St.ao ?_;refine St.nn ?_;refine St.mE ((s2++(va.name++ [58]))++ [42]) (by rw[jg,if_pos l8])
    ·try simp only[aA]at l8
     refine St.sr ?_;refine St.ee (Ev.aD (.mk rfl) db) ?_;refine St.ee (Ev.l0 (.mk rfl) bf) ?_;refine St.ee Ev.fE ?_;refine St.nn ?_;refine St.cond _ rfl (fun xC=> ?_) (fun xC=> ?_)
     ·try simp only[aA]at xC
      refine St.rg ?_;refine St.mv ?_;refine St.ee (Ev.fH (.mk rfl) (.mk rfl) (by simp only[List.length_append,List.length_cons,List.length_nil];omega)) ?_;refine St.ao ?_;refine St.nn ?_;refine St.mE ((s2++(va.name++ [58]))++ [46]) (by rw[jg,if_neg l8,if_neg (by omega),if_pos xC])
     ·try simp only[aA]at xC
      refine St.sr ?_;refine St.ee (Ev.aD (.mk rfl) db) ?_;refine St.ee (Ev.l0 (.mk rfl) bf) ?_;refine St.ee Ev.fE ?_;refine St.nn ?_;refine St.cond _ rfl (fun ze=> ?_) (fun ze=> ?_)
      ·try simp only[aA]at ze
       refine St.rg ?_;refine St.mv ?_;refine St.ee (Ev.fH (.mk rfl) (.mk rfl) (by simp only[List.length_append,List.length_cons,List.length_nil];omega)) ?_;refine St.ao ?_;refine St.nn ?_;refine St.mE ((s2++(va.name++ [58]))++ [39]) (by rw[jg,if_neg l8,if_pos ze])
      ·try simp only[aA]at ze
       refine St.skip (St.a7 ?_);refine St.mE (s2++(va.name++ [58])) (by rw[jg,if_neg l8,if_neg ze,if_neg xC,List.append_nil])
   ·intro s4 RO
    have hl4:s4.length≤s2.length+32:=by have:=qj va.kind;rw[RO];simp only[List.length_append,List.length_cons,List.length_nil];omega
    refine St.rg ?_;refine St.mv ?_;refine St.ee (Ev.aD (.mk rfl) fL) ?_;refine St.ee (Ev.l0 (.mk rfl) cZ) ?_;refine St.ee (Ev.fH (.mk rfl) (.mk rfl) (by omega)) ?_
    have hl3:(s4++va.label).length≤300*(k+1):=by rw[List.length_append];omega
    have RP:s4++va.label=(Lib.join ((cU q.vars q.aV).take (k+1)) [32]):=by rw[xL,sq,LH,←hs,←RN,RO];unfold dY;simp
    generalize s4++va.label=s3 at RP hl3⊢
    refine St.ao ?_;refine St.nil (St.aW (St.a7 (St.rg ?_)));refine St.mv ?_;refine St.ee Ev.a0 ?_;refine St.ao ?_;refine St.nn ?_;refine St.ly (k+1) s3 ⟨by omega,RP,by omega⟩
 ·try simp only[aA]at Dt
  obtain rfl:k=q.vars.length:=by omega
  refine St.exit (St.aJ (St.aJ (St.bO (St.a7 (St.seq (St.sr ?_))))));refine St.ao ?_;refine St.nn (St.block ?_);refine St.pH (ι:=Nat) (κ:=ax) (fun p s T=>(6,iv p)::(3,sv s)::T) (fun p s=>[aZ b1 (.cells [q.vv.1,q.kv.1].toArray 25 (0,0)),aE (sl cC q.vv.1 q.vars),aE (sl cE q.kv.1 q.aV)]) (fun p s=>p≤q.aV.length∧s=(Lib.join ((cU q.vars q.aV).take (q.vars.length+p)) [32])∧s.length≤1200+300*p) (fun p s=>q.aV.length-p) 0 s (aG.cons 1 rfl (aG.cons 2 rfl aG.nil)) ⟨Nat.zero_le _,hs,by omega⟩ ?_;rintro p w ⟨hp,hw,KV⟩;refine St.seq (St.sr ?_);refine St.mv ?_;refine St.ee (Ev.aD (.mk rfl) dz) ?_;refine St.ee (Ev.l0 (.mk rfl) dw) ?_;refine St.ee (Ev.bA (.mk rfl) dw) ?_;refine St.ee Ev.ez ?_;refine St.nn ?_;refine St.cond _ rfl (fun uC=> ?_) (fun uC=> ?_)
  ·try simp only[aA]at uC
   obtain⟨x,hx⟩:=aY (show p<q.aV.length by omega);obtain⟨Gx,Ip,Nb,Nc,ZJ,ZK,ZL⟩:=hq.link x (List.mem_of_getElem? hx);obtain⟨va,HG⟩:=aY (show x.a.toNat<q.vars.length by omega);obtain⟨vb,A4⟩:=aY (show x.b.toNat<q.vars.length by omega)
   have xL:=uY (vs:=q.vars) hx
   have LH:=lO (vs:=q.vars) (ks:=q.aV) (k:=q.vars.length+p) (by omega)
   have Il:=(jT hq va (List.mem_of_getElem? HG)).1
   have Im:=(jT hq vb (List.mem_of_getElem? A4)).1
   have Vv:(eH x.kind).length≤2:=by rw[←uW Gx Ip];exact pc _
   have hit:fF q.vars x=(va.name++eH x.kind)++vb.name:=by unfold fF;rw[List.getD_eq_getElem?_getD,HG,List.getD_eq_getElem?_getD (l:=q.vars),A4,uW Gx Ip];rfl
   refine St.skip (St.a7 (St.seq (St.block ?_)));refine St.ek [] mixed (fun np ns=> ?_);refine SW.dd 0 rfl (fun _=>Ev.move (.mk rfl)) ?_;refine SW.dd 1 rfl (fun _=>Ev.aD (.mk rfl) cN) ?_;refine SW.dd 2 rfl (fun _=>Ev.cY (.mk rfl) cM trivial (by rfl)) ?_;refine SW.dd 3 rfl (fun _=>Ev.aD (.mk rfl) dz) ?_;refine SW.dd 4 rfl (fun _=>Ev.cY (.mk rfl) dw trivial (by rfl)) ?_;refine SW.dd 5 rfl (fun _=>Ev.move (.mk rfl)) ?_;refine SW.dd 6 rfl (fun _=>Ev.aa (k:=p) (.mk rfl) (.mk rfl) dw gj (by omega) (by omega)) ?_;refine SW.dd 7 rfl (fun _=>Ev.eY (.mk rfl) (by omega) hG) ?_;refine SW.dd 8 rfl (fun _=>Ev.jA (.mk rfl) hx bf trivial rfl) ?_;refine SW.dd 9 rfl (fun _=>Ev.aa (k:=x.a.toNat) (.mk rfl) (.mk rfl) cM cv (by omega) (by omega)) ?_;refine SW.dd 10 rfl (fun _=>Ev.eY (.mk rfl) (by omega) fm) ?_;refine SW.dd 11 rfl (fun _=>Ev.jA (.mk rfl) HG cZ trivial rfl) ?_;refine SW.dd 12 rfl (fun _=>Ev.fH (.mk rfl) (.mk rfl) (by simp only[List.length_append,List.length_cons,List.length_nil];omega)) ?_;refine SW.dd 13 rfl (fun _=>Ev.aD (.mk rfl) dz) ?_;refine SW.dd 14 rfl (fun _=>Ev.cY (.mk rfl) dw trivial (by rfl)) ?_;refine SW.dd 15 rfl (fun _=>Ev.move (.mk rfl)) ?_;refine SW.dd 16 rfl (fun _=>Ev.aa (k:=p) (.mk rfl) (.mk rfl) dw gj (by omega) (by omega)) ?_;refine SW.dd 17 rfl (fun _=>Ev.eY (.mk rfl) (by omega) mV) ?_;refine SW.dd 18 rfl (fun _=>Ev.jA (.mk rfl) hx bf trivial rfl) ?_;refine SW.dd 19 rfl (fun _=>Ev.call (lP x.kind Gx Ip) QF (.cons (.mk rfl) .nil)) ?_;refine SW.dd 20 rfl (fun _=>Ev.fH (.mk rfl) (.mk rfl) (by simp only[List.length_append,List.length_cons,List.length_nil];omega)) ?_;refine SW.dd 21 rfl (fun _=>Ev.aD (.mk rfl) cN) ?_;refine SW.dd 22 rfl (fun _=>Ev.cY (.mk rfl) cM trivial (by rfl)) ?_;refine SW.dd 23 rfl (fun _=>Ev.aD (.mk rfl) dz) ?_;refine SW.dd 24 rfl (fun _=>Ev.cY (.mk rfl) dw trivial (by rfl)) ?_;refine SW.dd 25 rfl (fun _=>Ev.move (.mk rfl)) ?_;refine SW.dd 26 rfl (fun _=>Ev.aa (k:=p) (.mk rfl) (.mk rfl) dw gj (by omega) (by omega)) ?_;refine SW.dd 27 rfl (fun _=>Ev.eY (.mk rfl) (by omega) hJ) ?_;refine SW.dd 28 rfl (fun _=>Ev.jA (.mk rfl) hx bf trivial rfl) ?_;refine SW.dd 29 rfl (fun _=>Ev.aa (k:=x.b.toNat) (.mk rfl) (.mk rfl) cM cv (by omega) (by omega)) ?_;refine SW.dd 30 rfl (fun _=>Ev.eY (.mk rfl) (by omega) fm) ?_;refine SW.dd 31 rfl (fun _=>Ev.jA (.mk rfl) A4 cZ trivial rfl) ?_;refine SW.dd 32 rfl (fun _=>Ev.fH (.mk rfl) (.mk rfl) (by simp only[List.length_append,List.length_cons,List.length_nil];omega)) ?_;refine SW.dd 33 rfl (fun _=>Ev.fH (.mk rfl) (.mk rfl) (by simp only[List.length_append,List.length_cons,List.length_nil];omega)) ?_
   have Ng:(w++((([32]++va.name)++eH x.kind)++vb.name)).length≤1200+300*(p+1):=by simp only[List.length_append,List.length_cons,List.length_nil];omega
   have Xv:(Lib.join ((cU q.vars q.aV).take (q.vars.length+(p+1))) [32])=w++((([32]++va.name)++eH x.kind)++vb.name):=by rw[show q.vars.length+(p+1)=q.vars.length+p+1 from rfl,xL,sq,LH,if_pos (by omega),←hw,hit];simp
   refine SW.slot 87 (sv (Lib.join ((cU q.vars q.aV).take (q.vars.length+(p+1))) [32])) rfl (congrArg sv Xv.symm) ?_;refine SW.dd 34 rfl (fun _=>Ev.assign (.mk rfl)) ?_;refine SW.done (by kernel_rfl) ?_;refine St.aW (St.a7 (St.rg ?_));refine St.mv ?_;refine St.ee Ev.a0 ?_;refine St.ao ?_;refine St.nn ?_;refine St.ly (p+1) (Lib.join ((cU q.vars q.aV).take (q.vars.length+(p+1))) [32]) ⟨by omega,rfl,by rw[Xv];exact Ng⟩
  ·try simp only[aA]at uC
   obtain rfl:p=q.aV.length:=by omega
   refine St.exit (St.aJ (St.aJ (St.bO (St.a7 (St.sr ?_)))));refine St.mv ?_;refine St.ao ?_;refine St.nn (St.ae ?_);refine St.rU [_] [] Tryz.results7 ?_;exact congrArg sv (by rw[hw,kQ,List.take_of_length_le (by unfold cU;rw[List.length_append,List.length_map,List.length_map];exact Nat.le_refl _)])
def vt (v:bL):ax×Int×ax:=(v.name,v.kind,v.label)
def Vw (l:cL):Int×Int×Int:=(l.kind,l.a,l.b)
def wT (vs us:List bL)(ks ls:List cL):Bool:=decide (vs.map vt=us.map vt)&&decide (ks.map Vw=ls.map Vw)
theorem ma {α β:Type}{f:α→β}(hf:∀a b,f a=f b→a=b):∀{l m:List α},l.map f=m.map f→l=m
 | [],[],_=>rfl
 | [],_::_,h=>by cases h
 |_::_,[],h=>by cases h
 |a::l,b::m,h=>by
  rw[List.map_cons,List.map_cons,List.cons.injEq]at h;rw[hf a b h.1,ma hf h.2]
theorem oS {vs us:List bL}{ks ls:List cL}:wT vs us ks ls=true↔(vs=us∧ks=ls):=by
 unfold wT;rw[Bool.and_eq_true,decide_eq_true_iff,decide_eq_true_iff];refine⟨fun h=>⟨ma (fun a b e=> ?_) h.1,ma (fun a b e=> ?_) h.2⟩,fun h=>⟨by rw[h.1],by rw[h.2]⟩⟩
 ·obtain⟨a1,a2,a3⟩:=a;obtain⟨b1,b2,b3⟩:=b;simp only[vt,Prod.mk.injEq]at e;rw[e.1,e.2.1,e.2.2]
 ·obtain⟨a1,a2,a3⟩:=a;obtain⟨b1,b2,b3⟩:=b;simp only[Vw,Prod.mk.injEq]at e;rw[e.1,e.2.1,e.2.2]
theorem qu {vs us:List bL}{ks ls:List cL}(h:¬(vs=us∧ks=ls)):wT vs us ks ls=false:=by
 rw[Bool.eq_false_iff];exact fun e=>h (oS.1 e)
theorem nW {α:Type}{a b:List α}{k:Nat}(hk:a.length≤k)(hl:a.length=b.length)(h:a.take k=b.take k):a=b:=by
 rwa[List.take_of_length_le hk,List.take_of_length_le (by omega)]at h
theorem qv {α:Type}{a b:List α}{k:Nat}{x y:α}(hx:a[k]?=some x)(hy:b[k]?=some y)(h:x≠y):a≠b:=fun e=>by rw[e,hy]at hx;exact h (Option.some.inj hx).symm
set_option maxHeartbeats 2000000 in
theorem j8 (q r:cF):de Tryz.prog 9 #[da q,da r] [bG q,bG r] (.bool (wT q.vars r.vars q.aV r.aV)):=by
 unfold de;refine eI.body (args:=[da q,da r]) 59 Tryz.func9 rfl Tryz.ntmps9 rfl (fun c=> ?_);refine St.cast (H':=[aE (bG q),aE (bG r)]) rfl ?_;refine St.seq ?_
 refine St.fP (bG q) (fun _:Unit=>kD q) (fun ρ h=>⟨(),h⟩) fun _=> ?_
 refine St.cast (H':=[aE (sl cC q.vv.1 q.vars),aE (sl cE q.kv.1 q.aV),aE (bG q),aE (bG r)]) rfl ?_
 refine St.fP (bG r) (fun _:Unit=>kD r) (fun ρ h=>⟨(),h⟩) fun _=> ?_
 refine St.cast (H':=[aE (sl cC r.vv.1 r.vars),aE (sl cE r.kv.1 r.aV),aE (sl cC q.vv.1 q.vars),aE (sl cE q.kv.1 q.aV),aE (bG q),aE (bG r)]) rfl ?_;refine St.wf q.vv.1 (fun _ rV=> ?_);refine St.wf q.kv.1 (fun _ wv=> ?_);refine St.wf r.vv.1 (fun _ aaV=> ?_);refine St.wf r.kv.1 (fun _ aaW=> ?_);refine St.rg ?_;refine St.dS (.mk rfl) rfl (fun b2=> ?_);refine St.dS (.mk rfl) rfl (fun b3=> ?_);refine St.ao ?_;refine St.nn (St.seq (St.sr ?_));refine St.ee (Ev.aD (.mk rfl) cN) ?_;refine St.ee (Ev.l0 (.mk rfl) cM) ?_;refine St.ee (Ev.bA (.mk rfl) cM) ?_;refine St.ee (Ev.aD (.mk rfl) cN) ?_;refine St.ee (Ev.l0 (.mk rfl) cM) ?_;refine St.ee (Ev.bA (.mk rfl) cM) ?_;refine St.ee Ev.kz ?_;refine St.mv ?_;refine St.gf _ rfl rfl (fun hg=>Ev.aD (.mk rfl) dz) rfl ?_;refine St.gf _ rfl rfl (fun hg=>Ev.cY (aL.gv rfl hg) dw trivial (by rfl)) rfl ?_;refine St.gf _ rfl rfl (fun hg=>Ev.bA (aL.gv rfl hg) dw) rfl ?_;refine St.gf _ rfl rfl (fun hg=>Ev.aD (.mk rfl) dz) rfl ?_;refine St.gf _ rfl rfl (fun hg=>Ev.cY (aL.gv rfl hg) dw trivial (by rfl)) rfl ?_;refine St.gf _ rfl rfl (fun hg=>Ev.bA (aL.gv rfl hg) dw) rfl ?_;refine St.gf _ rfl rfl (fun hg=>Ev.neq (aL.gv rfl hg) (aL.gv rfl hg)) rfl ?_;refine St.ee Ev.o0 ?_;refine St.nn ?_;refine St.cond _ rfl (fun pL=> ?_) (fun pL=> ?_)
 ·try simp only[aA]at pL
  refine St.sr ?_;refine St.ao ?_;refine St.nn (St.ae (St.a8 ?_));refine St.rU [_] [] Tryz.results9 ?_;exact be (qu (fun h=>by have a:=congrArg List.length h.1;have b:=congrArg List.length h.2;omega)).symm
 ·try simp only[aA]at pL
  refine St.skip (St.a7 (St.seq (St.sr ?_)));refine St.ao ?_;refine St.nn (St.block ?_);refine St.lH (ι:=Nat) (fun k T=>(5,iv k)::T) (fun k=>[aZ b2 (.cells [q.vv.1,q.kv.1].toArray 25 (0,0)),aZ b3 (.cells [r.vv.1,r.kv.1].toArray 25 (0,0)),aE (sl cC q.vv.1 q.vars),aE (sl cE q.kv.1 q.aV),aE (sl cC r.vv.1 r.vars),aE (sl cE r.kv.1 r.aV)]) (fun k=>k≤q.vars.length∧q.vars.take k=r.vars.take k) (fun k=>q.vars.length-k) 0 (aG.cons 2 rfl (aG.cons 3 rfl aG.nil)) ⟨Nat.zero_le _,rfl⟩ ?_;rintro k ⟨hk,heq⟩;refine St.seq (St.sr ?_);refine St.mv ?_;refine St.ee (Ev.aD (.mk rfl) cN) ?_;refine St.ee (Ev.l0 (.mk rfl) cM) ?_;refine St.ee (Ev.bA (.mk rfl) cM) ?_;refine St.ee Ev.ez ?_;refine St.nn ?_;refine St.cond _ rfl (fun yf=> ?_) (fun yf=> ?_)
  ·try simp only[aA]at yf
   obtain⟨x,hx⟩:=aY (show k<q.vars.length by omega);obtain⟨y,hy⟩:=aY (show k<r.vars.length by omega);refine St.skip (St.a7 (St.seq (St.block (St.seq ?_))));refine St.ek [] mixed (fun np ns=> ?_);refine SW.dd 0 rfl (fun _=>Ev.aD (.mk rfl) cN) ?_;refine SW.dd 1 rfl (fun _=>Ev.cY (.mk rfl) cM trivial (by rfl)) ?_;refine SW.dd 2 rfl (fun _=>Ev.move (.mk rfl)) ?_;refine SW.dd 3 rfl (fun _=>Ev.aa (k:=k) (.mk rfl) (.mk rfl) cM cv (by omega) (by omega)) ?_;refine SW.dd 4 rfl (fun _=>Ev.iH (.mk rfl) hx gP trivial cv fw.eq) ?_;refine SW.slot 34 (.agg #[sv x.name,iv x.kind,sv x.label]) rfl rfl ?_;refine SW.dd 5 rfl (fun _=>Ev.aD (.mk rfl) cN) ?_;refine SW.dd 6 rfl (fun _=>Ev.cY (.mk rfl) cM trivial (by rfl)) ?_;refine SW.dd 7 rfl (fun _=>Ev.move (.mk rfl)) ?_;refine SW.dd 8 rfl (fun _=>Ev.aa (k:=k) (.mk rfl) (.mk rfl) cM cv (by omega) (by omega)) ?_;refine SW.dd 9 rfl (fun _=>Ev.iH (.mk rfl) hy gP trivial cv fw.eq) ?_;refine SW.slot 39 (.agg #[sv y.name,iv y.kind,sv y.label]) rfl rfl ?_;refine SW.dd 10 rfl (fun _=>Ev.nj (.mk rfl) (.mk rfl) Tryz.eqGuardType38 (fun w=>QL _ _ _ _ _ _ w)) ?_;refine SW.done (by kernel_rfl) ?_;refine St.a7 ?_;refine St.cond _ rfl (fun ze=> ?_) (fun ze=> ?_)
   ·skip
    have Kx:x≠y:=fun e=>by subst e;simp at ze
    refine St.sr ?_;refine St.ao ?_;refine St.nn (St.ae (St.aN (St.a8 (St.a8 (St.aN (St.a8 ?_))))));refine St.rU [_] [] Tryz.results9 ?_;exact be (qu (fun h=>qv hx hy Kx h.1)).symm
   ·skip
    have Kx:x=y:=by obtain⟨x1,x2,x3⟩:=x;obtain⟨y1,y2,y3⟩:=y;simp at ze;simp[ze]
    refine St.skip (St.aW (St.a7 (St.rg ?_)));refine St.mv ?_;refine St.ee Ev.a0 ?_;refine St.ao ?_;refine St.nn ?_;refine St.aH (k+1) ⟨by omega,by rw[bD hx,bD hy,heq,Kx]⟩
  ·try simp only[aA]at yf
   have hve:=nW (by omega) (by omega) heq
   refine St.exit (St.aJ (St.aJ (St.bO (St.a7 (St.seq (St.sr ?_))))));refine St.ao ?_;refine St.nn (St.block ?_);refine St.lH (ι:=Nat) (fun k T=>(6,iv k)::T) (fun k=>[aZ b2 (.cells [q.vv.1,q.kv.1].toArray 25 (0,0)),aZ b3 (.cells [r.vv.1,r.kv.1].toArray 25 (0,0)),aE (sl cC q.vv.1 q.vars),aE (sl cE q.kv.1 q.aV),aE (sl cC r.vv.1 r.vars),aE (sl cE r.kv.1 r.aV)]) (fun k=>k≤q.aV.length∧q.aV.take k=r.aV.take k) (fun k=>q.aV.length-k) 0 (aG.cons 2 rfl (aG.cons 3 rfl aG.nil)) ⟨Nat.zero_le _,rfl⟩ ?_;rintro k ⟨hk,heq⟩;refine St.seq (St.sr ?_);refine St.mv ?_;refine St.ee (Ev.aD (.mk rfl) dz) ?_;refine St.ee (Ev.l0 (.mk rfl) dw) ?_;refine St.ee (Ev.bA (.mk rfl) dw) ?_;refine St.ee Ev.ez ?_;refine St.nn ?_;refine St.cond _ rfl (fun sM=> ?_) (fun sM=> ?_)
   ·try simp only[aA]at sM
    obtain⟨x,hx⟩:=aY (show k<q.aV.length by omega);obtain⟨y,hy⟩:=aY (show k<r.aV.length by omega);refine St.skip (St.a7 (St.seq (St.block (St.seq ?_))));refine St.ek [] mixed (fun np ns=> ?_);refine SW.dd 0 rfl (fun _=>Ev.aD (.mk rfl) dz) ?_;refine SW.dd 1 rfl (fun _=>Ev.cY (.mk rfl) dw trivial (by rfl)) ?_;refine SW.dd 2 rfl (fun _=>Ev.move (.mk rfl)) ?_;refine SW.dd 3 rfl (fun _=>Ev.aa (k:=k) (.mk rfl) (.mk rfl) dw gj (by omega) (by omega)) ?_;refine SW.dd 4 rfl (fun _=>Ev.iH (.mk rfl) hx tq trivial gj fw.eq) ?_;refine SW.slot 52 (.agg #[iv x.kind,iv x.a,iv x.b]) rfl rfl ?_;refine SW.dd 5 rfl (fun _=>Ev.aD (.mk rfl) dz) ?_;refine SW.dd 6 rfl (fun _=>Ev.cY (.mk rfl) dw trivial (by rfl)) ?_;refine SW.dd 7 rfl (fun _=>Ev.move (.mk rfl)) ?_;refine SW.dd 8 rfl (fun _=>Ev.aa (k:=k) (.mk rfl) (.mk rfl) dw gj (by omega) (by omega)) ?_;refine SW.dd 9 rfl (fun _=>Ev.iH (.mk rfl) hy tq trivial gj fw.eq) ?_;refine SW.slot 57 (.agg #[iv y.kind,iv y.a,iv y.b]) rfl rfl ?_;refine SW.dd 10 rfl (fun _=>Ev.nj (.mk rfl) (.mk rfl) Tryz.eqGuardType40 (fun w=>QM _ _ _ _ _ _ w)) ?_;refine SW.done (by kernel_rfl) ?_;refine St.a7 ?_;refine St.cond _ rfl (fun nP=> ?_) (fun nP=> ?_)
    ·skip
     have Kx:x≠y:=fun e=>by subst e;simp at nP
     refine St.sr ?_;refine St.ao ?_;refine St.nn (St.ae (St.aN (St.a8 (St.a8 (St.aN (St.a8 ?_))))));refine St.rU [_] [] Tryz.results9 ?_;exact be (qu (fun h=>qv hx hy Kx h.2)).symm
    ·skip
     have Kx:x=y:=by obtain⟨x1,x2,x3⟩:=x;obtain⟨y1,y2,y3⟩:=y;simp at nP;simp[nP]
     refine St.skip (St.aW (St.a7 (St.rg ?_)));refine St.mv ?_;refine St.ee Ev.a0 ?_;refine St.ao ?_;refine St.nn ?_;refine St.aH (k+1) ⟨by omega,by rw[bD hx,bD hy,heq,Kx]⟩
   ·try simp only[aA]at sM
    have N6:=nW (by omega) (by omega) heq
    refine St.exit (St.aJ (St.aJ (St.bO (St.a7 (St.sr ?_)))));refine St.ao ?_;refine St.nn (St.ae ?_);refine St.rU [_] [] Tryz.results9 ?_;exact be (oS.2 ⟨hve,N6⟩).symm
theorem Ky {r:ax}(h1:1<r.length)(pZ:((r.getD 0 0).toNat:Int)=39):r=39::r.drop 1:=by
 cases r with
 |nil=>exact absurd h1 (by simp)
 |cons c r=>
  have h:c.toNat=39:=by have:((c.toNat:Nat):Int)=39:=pZ;omega
  have:c=39:=UInt8.toNat_inj.1 h
  rw[this];rfl
theorem yv {r:ax}(h1:1<r.length)(pZ:((r.getD 0 0).toNat:Int)=39)(hw:isWord (r.drop 1)=true)(nm:ax):(if jh r=true then some (Sum.inl (β:=Int×ax×ax) (jF nm r))else none)=some (.inl ⟨nm,3,r.drop 1⟩):=by
 have e:=Ky h1 pZ
 have a1:r≠ [42]:=fun e=>by rw[e]at h1;exact absurd h1 (by simp)
 have a2:r≠ [46]:=fun e=>by rw[e]at h1;exact absurd h1 (by simp)
 have a3:r.head?=some 39:=by rw[e];rfl
 have a4:r.tail=r.drop 1:=List.drop_one.symm
 unfold jh jF
 rw[if_neg a1,if_neg a2,if_pos a3,if_neg a1,if_neg a2,if_pos a3,a4,hw];rfl
theorem Ey {r:ax}(hn:isName r=true)(nm:ax):(if jh r=true then some (Sum.inl (β:=Int×ax×ax) (jF nm r))else none)=some (.inl ⟨nm,2,r⟩):=by
 obtain⟨c,q,rfl,hc⟩:=ll hn
 have b1:c::q≠ [42]:=fun e=>by rw[(List.cons.inj e).1]at hc;exact absurd hc (by decide)
 have b2:c::q≠ [46]:=fun e=>by rw[(List.cons.inj e).1]at hc;exact absurd hc (by decide)
 have b3:(c::q).head?≠some 39:=fun e=>by rw[show c=39 from Option.some.inj e]at hc;exact absurd hc (by decide)
 unfold jh jF
 rw[if_neg b1,if_neg b2,if_neg b3,if_neg b1,if_neg b2,if_neg b3,hn];rfl
theorem yw:isWord []=false:=by kernel_rfl
theorem Hs {r:ax}(h1:r≠ [42])(h2:r≠ [46])(h3:¬((1<(r.length:Int)∧((r.getD 0 0).toNat:Int)=39)∧isWord (r.drop 1)=true))(h4:isName r=false):jh r=false:=by
 unfold jh;rw[if_neg h1,if_neg h2]
 by_cases h:r.head?=some 39
 ·rw[if_pos h]
  cases r with
  |nil=>cases h
  |cons c q=>
   have hc:c=39:=Option.some.inj h
   subst hc;rw[Bool.eq_false_iff];intro hw;refine h3 ⟨⟨?_,rfl⟩,hw⟩
   cases q with
   |nil=>rw[show([39]:ax).tail=[]from rfl,yw]at hw;cases hw
   |cons=>simp only[List.length_cons];omega
 ·rw[if_neg h,h4]
def Kz (s:ax)(w:Int)(v:bL)(k:Int)(a b:ax):Prop:=(w=0∧dE s=none)∨(w=1∧dE s=some (.inl v))∨(w=2∧dE s=some (.inr (k,a,b)))
def Vx (w:Int)(v:bL)(k:Int)(a b:ax):Value:= .tuple #[iv w,.agg #[sv v.name,iv v.kind,sv v.label],iv k,sv a,sv b]
theorem yx {j:Nat}(h:j<5):([1,2,3,4,5]:List Int).drop j=((j+1:Nat):Int)::([1,2,3,4,5]:List Int).drop (j+1):=by
 rcases(show j=0∨j=1∨j=2∨j=3∨j=4 by omega)with rfl|rfl|rfl|rfl|rfl<;>rfl
set_option maxHeartbeats 4000000 in
theorem qw (s:ax)(hs:s.length≤1000000):eI Tryz.prog 25 #[sv s] [] (fun r H'=>H'=[]∧∃w v k a b,r=Vx w v k a b∧Kz s w v k a b):=by
 refine eI.body (args:=[sv s]) 122 Tryz.func25 rfl Tryz.ntmps25 rfl (fun c=> ?_);refine St.cast (H':=[]) rfl ?_;refine St.sr ?_;refine St.ao ?_;refine St.alloc pM rfl (fun b3=> ?_);refine St.ao ?_;refine St.ao ?_;refine St.ao ?_;refine St.nn (St.sr ?_);refine St.ee (Ev.build (ps:=[]) (aQ.nil) (fun w=>Kw w)) ?_;refine St.alloc pM rfl (fun b7=> ?_);refine St.sA (.mk rfl) (.mk rfl) cv ?_;refine St.nn (St.sr ?_);refine St.ao ?_;refine St.nn (St.seq (St.block ?_));refine St.lH (ι:=Nat) (fun n T=>(8,iv n)::T) (fun n=>[aZ b7 (.cells [sv [],iv 0,sv []].toArray 38 (0,0)),aZ b3 (.cells [sv [],iv 0,sv []].toArray 38 (0,0))]) (fun n=>n≤s.length∧lM s=FZ s (s.length+1-n) n) (fun n=>s.length-n) 0 (aG.cons 0 rfl (aG.cons 2 rfl (aG.cons 3 rfl (aG.cons 4 rfl (aG.cons 5 rfl (aG.cons 6 rfl (aG.cons 7 rfl aG.nil))))))) ⟨Nat.zero_le _,rfl⟩ ?_;rintro n ⟨hn,E3⟩;refine St.seq (St.sr ?_);refine St.mv ?_;refine St.mv ?_;refine St.ee (Ev.dF (.mk rfl) cZ) ?_;refine St.ee Ev.ez ?_;refine St.mv ?_;refine St.gt _ rfl rfl (fun hg=>Ev.move (.mk rfl)) rfl ?_;refine St.gt _ rfl rfl (fun hg=>Ev.move (.mk rfl)) rfl ?_;refine St.gt _ rfl rfl (fun hg=>Ev.add (aL.gv rfl hg) (.mk rfl) (by first|omega|(simp only[aA]at hg;omega))) rfl ?_;refine St.gt _ rfl rfl (fun hg=>Ev.kE (l:=n+1) (aL.gv rfl hg) (aL.gv rfl hg) cZ (by omega) (by first|omega|(simp only[aA]at hg;omega))) rfl ?_;refine St.gt _ rfl rfl (fun hg=>Ev.call (gl (s.take (n+1)) (by rw[List.length_take];omega)) Ep (.cons (aL.gv rfl hg) .nil)) rfl ?_;refine St.ee Ev.n0 ?_;refine St.nn ?_;refine St.cond _ rfl (fun A3=> ?_) (fun A3=> ?_)
 ·try simp only[aA]at A3
  refine St.skip (St.a7 (St.block (St.rg ?_)));refine St.mv ?_;refine St.ee Ev.a0 ?_;refine St.ao ?_;refine St.nil (St.aW (St.a7 ?_));refine St.aH (n+1) ⟨by omega,E3.trans (yu ⟨by omega,A3.2⟩)⟩
 ·try simp only[aA]at A3
  have er:lM s=n:=by rw[E3];refine qp (fun h=> ?_);rcases A3 with h2|h2;omega;rw[h.2]at h2;cases h2
  refine St.exit (St.aJ (St.aJ (St.bO (St.a7 (St.seq (St.sr ?_))))));refine St.mv ?_;refine St.ee Ev.fE ?_;refine St.mv ?_;refine St.gf _ rfl rfl (fun hg=>Ev.move (.mk rfl)) rfl ?_;refine St.gf _ rfl rfl (fun hg=>Ev.move (.mk rfl)) rfl ?_;refine St.gf _ rfl rfl (fun hg=>Ev.dF (aL.gv rfl hg) cZ) rfl ?_;refine St.gf _ rfl rfl (fun hg=>Ev.eql (aL.gv rfl hg) (aL.gv rfl hg)) rfl ?_;refine St.ee Ev.o0 ?_;refine St.nn ?_;refine St.cond _ rfl (fun nZ=> ?_) (fun nZ=> ?_)
  ·try simp only[aA]at nZ
   have QN:dE s=none:=by unfold dE;rw[er,if_pos (by omega)]
   refine St.seq ?_;refine St.lr [b3] mixed (fun np ns=> ?_);refine SW.dd 0 rfl (fun _=>Ev.an (.mk rfl) gP trivial (by exact cv)) ?_;refine SW.dd 1 rfl (fun _=>Ev.assign (.mk rfl)) ?_;refine SW.ar (i:=2) (by kernel_rfl) rfl ?_;refine St.sA (.mk rfl) (.mk rfl) cv ?_;refine St.nn ?_;refine SW.go ?_;refine SW.dd 3 rfl (fun _=>Ev.assign (.mk rfl)) ?_;refine SW.dd 4 rfl (fun _=>Ev.assign (.mk rfl)) ?_;refine SW.dd 5 rfl (fun _=>Ev.assign (.mk rfl)) ?_;refine SW.done (by kernel_rfl) ?_;refine St.a7 (St.ae (St.a8 ?_));refine St.rT [_,_,_,_,_] [] Tryz.results25 ⟨rfl,⟨⟨_,_,_,_,rfl,c4.mem,.inl ⟨⟨_,gP⟩,cv,rfl⟩⟩,⟨rfl,⟨rfl,⟨rfl,trivial⟩⟩⟩⟩⟩ ?_;exact⟨rfl,0,⟨[],0,[]⟩,0,[],[],rfl,.inl ⟨rfl,QN⟩⟩
  ·try simp only[aA]at nZ
   refine St.skip (St.a7 (St.sr ?_));refine St.mv ?_;refine St.mv ?_;refine St.ee (Ev.kE (l:=n) (.mk rfl) (.mk rfl) cZ (by omega) (by omega)) ?_;refine St.ee (Ev.aD (.mk rfl) fm) ?_;refine St.bQ (.mk rfl) (.mk rfl) tt rfl (by rfl) ?_;refine St.nn (St.seq (St.sr ?_));refine St.mv ?_;refine St.mv ?_;refine St.ee (Ev.fz (k:=n) (.mk rfl) (.mk rfl) cZ (by omega) (by omega)) ?_;refine St.ee Ev.fE ?_;refine St.nn ?_;refine St.cond _ rfl (fun E5=> ?_) (fun E5=> ?_)
   ·try simp only[aA]at E5
    have nP:s.getD n 0=58:=UInt8.toNat_inj.1 (show(s.getD n 0).toNat=58 by omega)
    obtain⟨r,hr⟩:∃r,r=s.drop (n+1):=⟨_,rfl⟩
    have TJ:r.length≤1000000:=by rw[hr,List.length_drop];omega
    have hit:dE s=if jh r=true then some (.inl (jF (s.take n) r))else none:=by unfold dE;rw[er,if_neg (by omega),if_pos nP,←hr]
    refine St.sr ?_;refine St.mv ?_;refine St.mv ?_;refine St.ee Ev.a0 ?_;refine St.ee (Ev.jN (l:=n+1) (.mk rfl) (.mk rfl) cZ (by omega) (by omega)) ?_;rw[←hr];refine St.ao ?_;refine St.nn ?_;refine St.join (ι:=bL) (fun v T=>T) (fun v=>[aZ b7 (.cells [sv v.name,iv v.kind,sv v.label].toArray 38 (0,0)),aZ b3 (.cells [sv [],iv 0,sv []].toArray 38 (0,0))]) (fun v=>dE s=some (.inl v)) (aG.cons 0 rfl (aG.cons 3 rfl (aG.cons 7 rfl (aG.cons 8 rfl aG.nil)))) ?_ ?_
    ·refine St.sr ?_
     refine St.mv ?_;refine St.ee (Ev.fC (.mk rfl) (.mk rfl)) ?_;refine St.nn ?_;refine St.cond _ rfl (fun BB=> ?_) (fun BB=> ?_)
     ·try simp only[aA]at BB
      refine St.rg ?_;refine St.ee (Ev.aD (.mk rfl) db) ?_;refine St.bQ (.mk rfl) (.mk rfl) cu rfl (by rfl) ?_;refine St.nn ?_;refine St.mE ⟨s.take n,1,[]⟩ (by rw[hit,BB];rfl)
     ·try simp only[aA]at BB
      refine St.sr ?_;refine St.mv ?_;refine St.ee (Ev.fC (.mk rfl) (.mk rfl)) ?_;refine St.nn ?_;refine St.cond _ rfl (fun uC=> ?_) (fun uC=> ?_)
      ·try simp only[aA]at uC
       refine St.rg ?_;refine St.ee (Ev.aD (.mk rfl) db) ?_;refine St.bQ (.mk rfl) (.mk rfl) cu rfl (by rfl) ?_;refine St.nn ?_;refine St.mE ⟨s.take n,4,[]⟩ (by rw[hit,uC];rfl)
      ·try simp only[aA]at uC
       refine St.sr ?_;refine St.mv ?_;refine St.ee (Ev.dF (.mk rfl) cZ) ?_;refine St.ee Ev.vQ ?_;refine St.mv ?_;refine St.gt _ rfl rfl (fun hg=>Ev.move (.mk rfl)) rfl ?_;refine St.gt _ rfl rfl (fun hg=>Ev.fz (k:=0) (aL.gv rfl hg) (.mk rfl) cZ (by omega) (by first|omega|(simp only[aA]at hg;omega))) rfl ?_;refine St.gt _ rfl rfl (fun hg=>Ev.eql (aL.gv rfl hg) (.mk rfl)) rfl ?_;refine St.ee Ev.n0 ?_;refine St.mv ?_;refine St.gt _ rfl rfl (fun hg=>Ev.move (.mk rfl)) rfl ?_;refine St.gt _ rfl rfl (fun hg=>Ev.jN (l:=1) (aL.gv rfl hg) (.mk rfl) cZ rfl (by first|omega|(simp only[aA]at hg;omega))) rfl ?_;refine St.gt _ rfl rfl (fun hg=>Ev.call (p8 (r.drop 1) (by rw[List.length_drop];omega)) QD (.cons (aL.gv rfl hg) .nil)) rfl ?_;refine St.ee Ev.n0 ?_;refine St.nn ?_;refine St.cond _ rfl (fun re=> ?_) (fun re=> ?_)
       ·try simp only[aA]at re
        obtain⟨⟨KT,pZ⟩,hwd⟩:=re;refine St.sr ?_;refine St.ee (Ev.aD (.mk rfl) db) ?_;refine St.bQ (.mk rfl) (.mk rfl) cu rfl (by rfl) ?_;refine St.nn (St.rg ?_);refine St.mv ?_;refine St.ee (Ev.jN (l:=1) (.mk rfl) (.mk rfl) cZ rfl (by omega)) ?_;refine St.ee (Ev.aD (.mk rfl) fL) ?_;refine St.bQ (.mk rfl) (.mk rfl) tt rfl (by rfl) ?_;refine St.nn ?_;refine St.mE ⟨s.take n,3,r.drop 1⟩ (by rw[hit];exact yv (by omega) pZ hwd _)
       ·try simp only[aA]at re
        refine St.sr ?_;refine St.mv ?_;refine St.ee (Ev.call (gl r (by omega)) Ep (.cons (.mk rfl) .nil)) ?_;refine St.nn ?_;refine St.cond _ rfl (fun QO=> ?_) (fun QO=> ?_)
        ·try simp only[aA]at QO
         refine St.sr ?_;refine St.ee (Ev.aD (.mk rfl) db) ?_;refine St.bQ (.mk rfl) (.mk rfl) cu rfl (by rfl) ?_;refine St.nn (St.rg ?_);refine St.mv ?_;refine St.ee (Ev.aD (.mk rfl) fL) ?_;refine St.bQ (.mk rfl) (.mk rfl) tt rfl (by rfl) ?_;refine St.nn ?_;refine St.mE ⟨s.take n,2,r⟩ (by rw[hit];exact Ey QO _)
        ·try simp only[aA]at QO
         refine St.seq ?_;refine St.lr [b3] mixed (fun np ns=> ?_);refine SW.dd 0 rfl (fun _=>Ev.an (.mk rfl) gP trivial (by exact cv)) ?_;refine SW.dd 1 rfl (fun _=>Ev.assign (.mk rfl)) ?_;refine SW.ar (i:=2) (by kernel_rfl) rfl ?_;refine St.sA (.mk rfl) (.mk rfl) cv ?_;refine St.nn ?_;refine SW.go ?_;refine SW.dd 3 rfl (fun _=>Ev.assign (.mk rfl)) ?_;refine SW.dd 4 rfl (fun _=>Ev.assign (.mk rfl)) ?_;refine SW.dd 5 rfl (fun _=>Ev.assign (.mk rfl)) ?_;refine SW.done (by kernel_rfl) ?_;refine St.a7 (St.ae (St.a8 (St.a8 ?_)));refine St.rT [_,_,_,_,_] [] Tryz.results25 ⟨rfl,⟨⟨_,_,_,_,rfl,c4.mem,.inl ⟨⟨_,gP⟩,cv,rfl⟩⟩,⟨rfl,⟨rfl,⟨rfl,trivial⟩⟩⟩⟩⟩ ?_;exact⟨rfl,0,⟨s.take n,0,[]⟩,0,[],[],rfl,.inl ⟨rfl,by rw[hit,Hs BB uC (fun hh=>by rcases re with(h|h)|h;omega;exact h hh.1.2;rw[hh.2]at h;cases h) QO];rfl⟩⟩
    ·intro v hv
     refine St.seq ?_;refine St.lr [b3] mixed (fun np ns=> ?_);refine SW.dd 0 rfl (fun _=>Ev.an (.mk rfl) gP trivial (by exact cv)) ?_;refine SW.dd 1 rfl (fun _=>Ev.assign (.mk rfl)) ?_;refine SW.ar (i:=2) (by kernel_rfl) rfl ?_;refine St.sA (.mk rfl) (.mk rfl) cv ?_;refine St.nn ?_;refine SW.go ?_;refine SW.dd 3 rfl (fun _=>Ev.assign (.mk rfl)) ?_;refine SW.dd 4 rfl (fun _=>Ev.assign (.mk rfl)) ?_;refine SW.dd 5 rfl (fun _=>Ev.assign (.mk rfl)) ?_;refine SW.done (by kernel_rfl) ?_;refine St.a7 (St.ae (St.a8 ?_));refine St.rT [_,_,_,_,_] [] Tryz.results25 ⟨rfl,⟨⟨_,_,_,_,rfl,c4.mem,.inl ⟨⟨_,gP⟩,cv,rfl⟩⟩,⟨rfl,⟨rfl,⟨rfl,trivial⟩⟩⟩⟩⟩ ?_;exact⟨rfl,1,v,0,[],[],rfl,.inr (.inl ⟨rfl,hv⟩)⟩
   ·try simp only[aA]at E5
    have nP:s.getD n 0≠58:=fun e=>by rw[e]at E5;exact E5 rfl
    have hit:dE s=(uV (s.take n) (s.drop n) (([1,2,3,4,5]:List Int).drop 0)).map .inr:=by unfold dE;rw[er,if_neg (by omega),if_neg nP];rfl
    refine St.skip (St.a7 (St.seq (St.sr ?_)));refine St.ao ?_;refine St.nn (St.block ?_);refine St.lH (ι:=Nat) (fun j T=>(10,iv ((j+1:Nat):Int))::T) (fun j=>[aZ b7 (.cells [sv (s.take n),iv 0,sv []].toArray 38 (0,0)),aZ b3 (.cells [sv [],iv 0,sv []].toArray 38 (0,0))]) (fun j=>j≤5∧dE s=(uV (s.take n) (s.drop n) (([1,2,3,4,5]:List Int).drop j)).map .inr) (fun j=>5-j) 0 (aG.cons 0 rfl (aG.cons 3 rfl (aG.cons 7 rfl (aG.cons 8 rfl aG.nil)))) ⟨Nat.zero_le _,hit⟩ ?_;rintro j ⟨hj,cq⟩;refine St.seq (St.sr ?_);refine St.mv ?_;refine St.ee Ev.Ju ?_;refine St.nn ?_;refine St.cond _ rfl (fun DG=> ?_) (fun DG=> ?_)
    ·try simp only[aA]at DG
     have hkd:=yx (show j<5 by omega)
     rw[hkd,uV]at cq
     obtain⟨g,IC⟩:∃g,g=eH ((j+1:Nat):Int):=⟨_,rfl⟩
     have JX:g.length≤2:=by rw[IC,←uW (by omega) (by omega)];exact pc _
     unfold nT at cq;rw[←IC,List.drop_drop]at cq;refine St.skip (St.a7 (St.seq (St.block (St.sr ?_))));refine St.mv ?_;refine St.ee (Ev.call (lP ((j+1:Nat):Int) (by omega) (by omega)) QF (.cons (.mk rfl) .nil)) ?_;rw[←IC];refine St.ao ?_;refine St.nn (St.sr ?_);refine St.mv ?_;refine St.mv ?_;refine St.ee (Ev.dF (.mk rfl) cZ) ?_;refine St.ee Ev.a0 ?_;refine St.mv ?_;refine St.ee (Ev.dF (.mk rfl) cZ) ?_;refine St.ee Ev.ez ?_;refine St.mv ?_;refine St.gt _ rfl rfl (fun hg=>Ev.move (.mk rfl)) rfl ?_;refine St.gt _ rfl rfl (fun hg=>Ev.move (.mk rfl)) rfl ?_;refine St.gt _ rfl rfl (fun hg=>Ev.move (.mk rfl)) rfl ?_;refine St.gt _ rfl rfl (fun hg=>Ev.move (.mk rfl)) rfl ?_;refine St.gt _ rfl rfl (fun hg=>Ev.dF (aL.gv rfl hg) cZ) rfl ?_;refine St.gt _ rfl rfl (fun hg=>Ev.add (aL.gv rfl hg) (aL.gv rfl hg) (by first|omega|(simp only[aA]at hg;omega))) rfl ?_;refine St.gt _ rfl rfl (fun hg=>Ev.zQ (l:=n) (m:=n+g.length) (aL.gv rfl hg) (aL.gv rfl hg) (aL.gv rfl hg) cZ rfl (by omega) (by first|omega|(simp only[aA]at hg;omega))) rfl ?_;refine St.gt _ rfl rfl (fun hg=>Ev.move (.mk rfl)) rfl ?_;refine St.gt _ rfl rfl (fun hg=>Ev.fC (aL.gv rfl hg) (aL.gv rfl hg)) rfl ?_;refine St.ee Ev.n0 ?_;refine St.mv ?_;refine St.gt _ rfl rfl (fun hg=>Ev.move (.mk rfl)) rfl ?_;refine St.gt _ rfl rfl (fun hg=>Ev.move (.mk rfl)) rfl ?_;refine St.gt _ rfl rfl (fun hg=>Ev.move (.mk rfl)) rfl ?_;refine St.gt _ rfl rfl (fun hg=>Ev.dF (aL.gv rfl hg) cZ) rfl ?_;refine St.gt _ rfl rfl (fun hg=>Ev.add (aL.gv rfl hg) (aL.gv rfl hg) (by first|omega|(simp only[aA]at hg;omega))) rfl ?_;refine St.gt _ rfl rfl (fun hg=>Ev.jN (l:=n+g.length) (aL.gv rfl hg) (aL.gv rfl hg) cZ (by omega) (by first|omega|(simp only[aA]at hg;omega))) rfl ?_;refine St.gt _ rfl rfl (fun hg=>Ev.call (gl (s.drop (n+g.length)) (by rw[List.length_drop];omega)) Ep (.cons (aL.gv rfl hg) .nil)) rfl ?_;refine St.ee Ev.n0 ?_;refine St.nn ?_;refine St.cond _ rfl (fun uZ=> ?_) (fun uZ=> ?_)
     ·try simp only[aA]at uZ
      obtain⟨⟨KT,Vv⟩,Im⟩:=uZ
      have Vy:dE s=some (.inr (((j+1:Nat):Int),s.take n,s.drop (n+g.length))):=by rw[cq,if_pos (by rw[Bool.and_eq_true,decide_eq_true_iff];refine⟨?_,Im⟩;rw[List.drop_take,show n+g.length-n=g.length by omega]at Vv;exact Vv)];rfl
      refine St.seq ?_;refine St.lr [b3] mixed (fun np ns=> ?_);refine SW.dd 0 rfl (fun _=>Ev.an (.mk rfl) gP trivial (by exact cv)) ?_;refine SW.dd 1 rfl (fun _=>Ev.move (.mk rfl)) ?_;refine SW.dd 2 rfl (fun _=>Ev.move (.mk rfl)) ?_;refine SW.dd 3 rfl (fun _=>Ev.move (.mk rfl)) ?_;refine SW.dd 4 rfl (fun _=>Ev.kE (l:=n) (.mk rfl) (.mk rfl) cZ (by omega) (by omega)) ?_;refine SW.dd 5 rfl (fun _=>Ev.move (.mk rfl)) ?_;refine SW.dd 6 rfl (fun _=>Ev.move (.mk rfl)) ?_;refine SW.dd 7 rfl (fun _=>Ev.move (.mk rfl)) ?_;refine SW.dd 8 rfl (fun _=>Ev.dF (.mk rfl) cZ) ?_;refine SW.dd 9 rfl (fun _=>Ev.a0) ?_;refine SW.dd 10 rfl (fun _=>Ev.jN (l:=n+g.length) (.mk rfl) (.mk rfl) cZ (by omega) (by omega)) ?_;refine SW.dd 11 rfl (fun _=>Ev.assign (.mk rfl)) ?_;refine SW.ar (i:=12) (by kernel_rfl) rfl ?_;refine St.sA (.mk rfl) (.mk rfl) cv ?_;refine St.nn ?_;refine SW.go ?_;refine SW.dd 13 rfl (fun _=>Ev.assign (.mk rfl)) ?_;refine SW.dd 14 rfl (fun _=>Ev.assign (.mk rfl)) ?_;refine SW.dd 15 rfl (fun _=>Ev.assign (.mk rfl)) ?_;refine SW.done (by kernel_rfl) ?_;refine St.a7 (St.ae (St.aN (St.a8 (St.a8 (St.aN (St.a8 ?_))))));refine St.rT [_,_,_,_,_] [] Tryz.results25 ⟨rfl,⟨⟨_,_,_,_,rfl,c4.mem,.inl ⟨⟨_,gP⟩,cv,rfl⟩⟩,⟨rfl,⟨rfl,⟨rfl,trivial⟩⟩⟩⟩⟩ ?_;exact⟨rfl,2,⟨s.take n,0,[]⟩,((j+1:Nat):Int),s.take n,s.drop (n+g.length),rfl,.inr (.inr ⟨rfl,Vy⟩)⟩
     ·try simp only[aA]at uZ
      have wm:dE s=(uV (s.take n) (s.drop n) (([1,2,3,4,5]:List Int).drop (j+1))).map .inr:=by rw[cq,if_neg];rw[Bool.and_eq_true,decide_eq_true_iff];rintro ⟨e1,e2⟩;have hp:=(eA.1 e2).1;rw[List.length_drop]at hp;rcases uZ with(h|h)|h;omega;exact h (by rw[List.drop_take,show n+g.length-n=g.length by omega];exact e1);rw[e2]at h;cases h
      refine St.skip (St.aW (St.a7 (St.rg ?_)));refine St.mv ?_;refine St.ee Ev.a0 ?_;refine St.ao ?_;refine St.nn ?_;refine St.aH (j+1) ⟨by omega,wm⟩
    ·try simp only[aA]at DG
     obtain rfl:j=5:=by omega
     refine St.exit (St.aJ (St.aJ (St.bO (St.a7 (St.seq ?_)))));refine St.lr [b3] mixed (fun np ns=> ?_);refine SW.dd 0 rfl (fun _=>Ev.an (.mk rfl) gP trivial (by exact cv)) ?_;refine SW.dd 1 rfl (fun _=>Ev.assign (.mk rfl)) ?_;refine SW.ar (i:=2) (by kernel_rfl) rfl ?_;refine St.sA (.mk rfl) (.mk rfl) cv ?_;refine St.nn ?_;refine SW.go ?_;refine SW.dd 3 rfl (fun _=>Ev.assign (.mk rfl)) ?_;refine SW.dd 4 rfl (fun _=>Ev.assign (.mk rfl)) ?_;refine SW.dd 5 rfl (fun _=>Ev.assign (.mk rfl)) ?_;refine SW.done (by kernel_rfl) ?_;refine St.a7 (St.ae ?_);refine St.rT [_,_,_,_,_] [] Tryz.results25 ⟨rfl,⟨⟨_,_,_,_,rfl,c4.mem,.inl ⟨⟨_,gP⟩,cv,rfl⟩⟩,⟨rfl,⟨rfl,⟨rfl,trivial⟩⟩⟩⟩⟩ ?_;exact⟨rfl,0,⟨s.take n,0,[]⟩,0,[],[],rfl,.inl ⟨rfl,cq⟩⟩
theorem Ez {s:ax}{m:Nat}(h:32∉s.take m)(hm:m<s.length)(hc:s.getD m 0=32):fN s=s.take m::fN (s.drop (m+1)):=by
 have e:s=s.take m++32::s.drop (m+1):=by
  conv=>lhs;rw[←List.take_append_drop m s]
  rw[List.drop_eq_getElem_cons hm];rw[List.getD_eq_getElem?_getD,List.getElem?_eq_getElem hm]at hc;rw[show s[m]=32 from hc]
 conv=>lhs;rw[e]
 exact nV _ h
theorem yy {s:ax}{m:Nat}(h:32∉s.take m)(hm:m<s.length)(hc:s.getD m 0≠32):32∉s.take (m+1):=by
 rw[bD (show s[m]?=some (s.getD m 0) by rw[List.getD_eq_getElem?_getD,List.getElem?_eq_getElem hm];rfl)];intro hh
 rcases List.mem_append.1 hh with hh|hh
 ·exact h hh
 ·exact hc (List.mem_singleton.1 hh).symm
theorem ss (nm r:ax):(jF nm r).name=nm∧(jF nm r).label.length≤r.length∧1≤(jF nm r).kind∧(jF nm r).kind≤4:=by
 unfold jF
 split
 ·exact⟨rfl,Nat.zero_le _,by dsimp only;omega,by dsimp only;omega⟩
 split
 ·exact⟨rfl,Nat.zero_le _,by dsimp only;omega,by dsimp only;omega⟩
 split
 ·exact⟨rfl,by dsimp only;rw[List.length_tail];omega,by dsimp only;omega,by dsimp only;omega⟩
 ·exact⟨rfl,Nat.le_refl _,by dsimp only;omega,by dsimp only;omega⟩
theorem wU {nm r:ax}:∀{l:List Int} {k:Int} {a b:ax},uV nm r l=some (k,a,b)→k∈l
 | [],k,a,b,h=>by cases h
 |c::l,k,a,b,h=>by
  rw[uV]at h
  split at h
  ·have:=Option.some.inj h
   simp only[Prod.mk.injEq]at this
   rw[←this.1];simp
  ·exact List.mem_cons_of_mem _ (wU h)
theorem su {s:ax}{v:bL}(h:dE s=some (.inl v)):v.name.length≤s.length∧v.label.length≤s.length∧1≤v.kind∧v.kind≤4:=by
 unfold dE at h
 split at h
 ·cases h
 split at h
 ·split at h
  ·have e:jF (s.take (lM s)) (s.drop (lM s+1))=v:=Sum.inl.inj (Option.some.inj h)
   obtain⟨h1,h2,h3,h4⟩:=ss (s.take (lM s)) (s.drop (lM s+1));rw[e]at h1 h2 h3 h4;refine⟨by rw[h1,List.length_take];omega,?_,h3,h4⟩
   rw[List.length_drop]at h2;omega
  ·cases h
 ·obtain⟨z,_,hz⟩:=Option.map_eq_some_iff.1 h
  cases hz
theorem sx {s:ax}{k:Int}{a b:ax}(h:dE s=some (.inr (k,a,b))):1≤k∧k≤5:=by
 unfold dE at h
 split at h
 ·cases h
 split at h
 ·split at h<;>cases h
 ·obtain⟨z,hz,e⟩:=Option.map_eq_some_iff.1 h
  obtain rfl:z=(k,a,b):=Sum.inr.inj e
  have:=wU hz
  simp only[List.mem_cons,List.not_mem_nil,or_false]at this
  omega
def z6 (t:ax):(List bL×List cL)×(Int×Int):=
 if 4000<t.length then(([],[]),(1,0))else match dP (fN t) [] [] 0 with
  | .inr f=>(([],[]),f)
  | .inl (vs,ks)=>if(ec vs ks).1≠0 then(([],[]),ec vs ks)else((vs,ks),(0,0))
theorem wV {t:ax}(h:4000<t.length):z6 t=(([],[]),(1,0)):=by unfold z6;rw[if_pos h]
theorem ln {t:ax}{f:Int×Int}(h:¬4000<t.length)(h1:dP (fN t) [] [] 0= .inr f):z6 t=(([],[]),f):=by unfold z6;rw[if_neg h,h1]
theorem A5 {t:ax}{vs:List bL}{ks:List cL}(h:¬4000<t.length)(h1:dP (fN t) [] [] 0= .inl (vs,ks))(h2:(ec vs ks).1≠0):z6 t=(([],[]),ec vs ks):=by unfold z6;rw[if_neg h,h1];dsimp only;rw[if_pos h2]
theorem z7 {t:ax}{vs:List bL}{ks:List cL}(h:¬4000<t.length)(h1:dP (fN t) [] [] 0= .inl (vs,ks))(h2:(ec vs ks).1=0):z6 t=((vs,ks),(0,0)):=by unfold z6;rw[if_neg h,h1];dsimp only;rw[if_neg (by simpa using h2)]
theorem F1 {vs:List bL}{ks:List cL}(h:(ec vs ks).1=0)(hl:(kQ vs ks).length≤4000)(hs:∀s∈cU vs ks,(32:UInt8)∉s):z6 (kQ vs ks)=((vs,ks),(0,0)):=by
 refine z7 (by omega) ?_ h
 have hp:=(la h).2.pos
 have er:cU vs ks≠ []:=fun e=>by
  have:=congrArg List.length e
  unfold cU at this;rw[List.length_append,List.length_map]at this
  simp only[List.length_nil]at this
  omega
 obtain⟨x,l,e⟩:=List.exists_cons_of_ne_nil er;unfold kQ;rw[e,wS x l (by rw[←e];exact hs),←e];exact BT h
def oT (vs:List bL)(i:Nat)(a:ax):Int:=match cr (vs.drop i) a with
 |none=> -1
 |some j=>((i+j:Nat):Int)
theorem wW {vs:List bL}{i:Nat}(h:vs.length≤i)(a:ax):oT vs i a= -1:=by unfold oT;rw[List.drop_of_length_le h];rfl
theorem sy {vs:List bL}{i:Nat}{v:bL}(h:vs[i]?=some v)(a:ax):oT vs i a=if v.name=a then(i:Int)else oT vs (i+1) a:=by
 unfold oT;rw[bS h,cr]
 by_cases e:v.name=a
 ·rw[if_pos e,if_pos e];rfl
 ·rw[if_neg e,if_neg e]
  cases cr (vs.drop (i+1)) a with
  |none=>rfl
  |some j=>simp only[Option.map_some];omega
theorem lp (vs:List bL)(a:ax):(oT vs 0 a<0∧cr vs a=none)∨∃j:Nat,oT vs 0 a=j∧cr vs a=some j:=by
 unfold oT;rw[List.drop_zero]
 cases cr vs a with
 |none=>exact .inl ⟨by decide,rfl⟩
 |some j=>exact .inr ⟨j,by simp,rfl⟩
def Rest (t:ax)(p:Nat)(l:List ax):Prop:=(p≤t.length∧l=fN (t.drop p))∨(p=t.length+1∧l=[])
theorem BU {t:ax}{p m:Nat}{l:List ax}(h:Rest t p l)(hp:p≤m)(hm:m≤t.length)(hn:32∉(t.drop p).take (m-p))(hs:¬(m<t.length∧t.getD m 0≠32)):∃r,l=(t.take m).drop p::r∧Rest t (m+1) r:=by
 rcases h with⟨_,rfl⟩|⟨h,_⟩
 ·rw[List.drop_take]
  rcases Nat.lt_or_ge m t.length with c|c
  ·have hc:t.getD m 0=32:=Decidable.not_not.1 fun e=>hs ⟨c,e⟩
   refine⟨fN (t.drop (m+1)),?_,.inl ⟨by omega,rfl⟩⟩;rw[Ez hn (by rw[List.length_drop];omega) (by rw[List.getD_eq_getElem?_getD,List.getElem?_drop,show p+(m-p)=m by omega,←List.getD_eq_getElem?_getD];exact hc),List.drop_drop,show p+(m-p+1)=m+1 by omega]
  ·refine⟨[],?_,.inr ⟨by omega,rfl⟩⟩
   have e:(t.drop p).take (m-p)=t.drop p:=List.take_of_length_le (by rw[List.length_drop];omega)
   rw[e]at hn⊢;exact pd hn
 ·omega
theorem z8 {t:ax}{p m:Nat}(hp:p≤m)(hm:m<t.length)(h:32∉(t.drop p).take (m-p))(hc:t.getD m 0≠32):32∉(t.drop p).take (m+1-p):=by
 rw[show m+1-p=(m-p)+1 by omega];refine yy h (by rw[List.length_drop];omega) ?_
 rw[List.getD_eq_getElem?_getD,List.getElem?_drop,show p+(m-p)=m by omega,←List.getD_eq_getElem?_getD];exact hc
theorem lq {vs:List bL}{ks:List cL}{s:ax}{r:List ax}{n:Nat}(h:dE s=none):dP (s::r) vs ks n= .inr (11,(n:Int)):=by rw[dP,pA,h]
theorem sz {vs:List bL}{ks:List cL}{s:ax}{r:List ax}{n:Nat}{v:bL}(h:dE s=some (.inl v))(hk:ks≠ []):dP (s::r) vs ks n= .inr (11,(n:Int)):=by rw[dP,pA,h];dsimp only;rw[if_neg hk]
theorem wX {vs:List bL}{s:ax}{r:List ax}{n:Nat}{v:bL}(h:dE s=some (.inl v)):dP (s::r) vs [] n=dP r (vs++ [v]) [] (n+s.length+1):=by rw[dP,pA,h];dsimp only;rw[if_pos rfl]
theorem tA {vs:List bL}{ks:List cL}{s:ax}{r:List ax}{n:Nat}{k:Int}{a b:ax}(h:dE s=some (.inr (k,a,b)))(hn:cr vs a=none∨cr vs b=none):dP (s::r) vs ks n= .inr (6,(n:Int)):=by
 rw[dP,pA,h];dsimp only
 rcases hn with e|e
 ·rw[e]
 ·rw[e];cases cr vs a<;>rfl
theorem tB {vs:List bL}{ks:List cL}{s:ax}{r:List ax}{n i j:Nat}{k:Int}{a b:ax}(h:dE s=some (.inr (k,a,b)))(h1:cr vs a=some i)(h2:cr vs b=some j):dP (s::r) vs ks n=dP r vs (ks++ [⟨k,i,j⟩]) (n+s.length+1):=by rw[dP,pA,h];dsimp only;rw[h1,h2]
theorem lQ:∀{vs:List bL} {a:ax} {j:Nat},cr vs a=some j→j<vs.length
 | [],_,_,h=>by cases h
 |v::vs,a,j,h=>by
  rw[cr]at h
  split at h
  ·obtain rfl:=Option.some.inj h;simp
  ·obtain⟨i,hi,rfl⟩:=Option.map_eq_some_iff.1 h
   have:=lQ hi
   rw[List.length_cons];omega
set_option maxHeartbeats 8000000 in
theorem lR (t:ax)(ht:t.length≤140737488351232):eI Tryz.prog 10 #[sv t] [] (fun r H'=>∃q:cF,r= .tuple #[da q,fv (z6 t).2]∧q.vars=(z6 t).1.1∧q.aV=(z6 t).1.2∧H'=[aE (bG q)]):=by
 refine eI.body (args:=[sv t]) 130 Tryz.func10 rfl Tryz.ntmps10 rfl (fun c=> ?_);refine St.cast (H':=[]) rfl ?_;refine St.sr ?_;refine St.alloc pP rfl (fun b2=> ?_);refine St.alloc dR rfl (fun b3=> ?_);refine St.nn (St.seq (St.sr ?_));refine St.mv ?_;refine St.ee (Ev.dF (.mk rfl) cZ) ?_;refine St.ee Ev.vQ ?_;refine St.nn ?_;refine St.cond _ rfl (fun yR=> ?_) (fun yR=> ?_)
 ·try simp only[aA]at yR
  refine St.sr ?_;refine St.ee (Ev.build (ps:=[]) (aQ.nil) (fun w=>j7 w)) ?_;refine St.ee (Ev.build (ps:=[(0,(.const (.int .i64 1)))]) (aQ.cons (aL.mk rfl) aQ.nil) (fun w=>zX rfl w)) ?_;refine St.sA (.mk rfl) (.mk rfl) dX ?_;refine St.sA (.mk rfl) (.mk rfl) aR ?_;refine St.nn (St.ae (St.a8 ?_));refine St.dN cC ?_;refine St.dN cE ?_;refine St.iJ (bG (⟨bu,[],bu,[]⟩:cF)) [sl cC (.slice none 0 0) [],sl cE (.slice none 0 0) []] (fun ρ h=>h) ?_;refine St.rT [_,_] [aE (bG (⟨bu,[],bu,[]⟩:cF))] Tryz.results10 ⟨⟨_,_,_,_,rfl,c4.mem,.inl ⟨⟨_,fV⟩,dX,rfl⟩⟩,⟨⟨_,_,_,_,rfl,c4.mem,.inl ⟨⟨_,bC⟩,aR,rfl⟩⟩,trivial⟩⟩ ?_
  have hP:=wV (t:=t) (by omega)
  exact⟨(⟨bu,[],bu,[]⟩:cF),by rw[hP];rfl,by rw[hP],by rw[hP],rfl⟩
 ·try simp only[aA]at yR
  refine St.skip (St.a7 (St.sr ?_));refine St.ee (Ev.build (ps:=[]) (aQ.nil) (fun w=>j7 w)) ?_;refine St.alloc pP rfl (fun b4=> ?_);refine St.sA (.mk rfl) (.mk rfl) dX ?_;refine St.nn (St.sr ?_);refine St.ao ?_;refine St.nn (St.seq (St.block ?_));refine St.ic 38 3 ?_;refine St.bI (.slice none 0 0) (show _=([]:List bL).length from rfl) (show _=rows cC []from rfl) ?_;refine St.ic 40 3 ?_;refine St.bI (.slice none 0 0) (show _=([]:List cL).length from rfl) (show _=rows cE []from rfl) ?_;refine St.pH (ι:=Nat) (κ:=Value×Value×List bL×List cL×List ax) (fun p z T=>(5,iv p)::T) (fun p z=>[aZ b4 (.cells [z.1,z.2.1].toArray 25 (0,0)),row z.1 38 3 (z.2.2.1).length (rows cC (z.2.2.1)),row z.2.1 40 3 (z.2.2.2.1).length (rows cE (z.2.2.2.1)),aZ b2 (.cells [(.slice none 0 0),(.slice none 0 0)].toArray 25 (0,0)),aZ b3 (.cells [iv 0,iv 0].toArray 28 (0,0))]) (fun p z=>z.1.oneCell'=true∧z.2.1.oneCell'=true∧dP (fN t) [] [] 0=dP z.2.2.2.2 z.2.2.1 z.2.2.2.1 p∧Rest t p z.2.2.2.2∧(z.2.2.1.length≤p∧z.2.2.2.1.length≤p)∧(∀v∈z.2.2.1,cC.wf v)∧(∀x∈z.2.2.2.1,cE.wf x)) (fun p z=>t.length+1-p) 0 ((.slice none 0 0),(.slice none 0 0),[],[],fN t) (aG.cons 0 rfl (aG.cons 2 rfl (aG.cons 3 rfl (aG.cons 4 rfl aG.nil)))) ⟨rfl,rfl,rfl,.inl ⟨Nat.zero_le _,rfl⟩,⟨Nat.le_refl _,Nat.le_refl _⟩,(fun v h=>by cases h),(fun v h=>by cases h)⟩ ?_;rintro p ⟨zv,zk,vs,ks,l⟩ ⟨rA,uf,j9,A6,⟨rV,wv⟩,yb,zf⟩
  dsimp only at rA uf j9 A6 rV wv yb zf⊢
  have hp1:p≤t.length+1:=by rcases A6 with⟨h,_⟩|⟨h,_⟩<;>omega
  refine St.seq (St.sr ?_);refine St.mv ?_;refine St.mv ?_;refine St.ee (Ev.dF (.mk rfl) cZ) ?_;refine St.ee Ev.Ju ?_;refine St.nn ?_;refine St.cond _ rfl (fun y0=> ?_) (fun y0=> ?_)
  ·try simp only[aA]at y0
   refine St.skip (St.a7 (St.block (St.sr ?_)));refine St.mv ?_;refine St.ao ?_;refine St.nn (St.seq (St.block ?_));refine St.lH (ι:=Nat) (fun m T=>(6,iv m)::T) (fun m=>[aZ b4 (.cells [zv,zk].toArray 25 (0,0)),row zv 38 3 (vs).length (rows cC (vs)),row zk 40 3 (ks).length (rows cE (ks)),aZ b2 (.cells [(.slice none 0 0),(.slice none 0 0)].toArray 25 (0,0)),aZ b3 (.cells [iv 0,iv 0].toArray 28 (0,0))]) (fun m=>p≤m∧m≤t.length∧32∉(t.drop p).take (m-p)) (fun m=>t.length-m) p (aG.cons 0 rfl (aG.cons 2 rfl (aG.cons 3 rfl (aG.cons 4 rfl (aG.cons 5 rfl aG.nil))))) ⟨Nat.le_refl _,by omega,by rw[Nat.sub_self];simp⟩ ?_;rintro m ⟨Sh,hm,Xw⟩;refine St.seq (St.sr ?_);refine St.mv ?_;refine St.mv ?_;refine St.ee (Ev.dF (.mk rfl) cZ) ?_;refine St.ee Ev.ez ?_;refine St.mv ?_;refine St.gt _ rfl rfl (fun hg=>Ev.move (.mk rfl)) rfl ?_;refine St.gt _ rfl rfl (fun hg=>Ev.move (.mk rfl)) rfl ?_;refine St.gt _ rfl rfl (fun hg=>Ev.fz (k:=m) (aL.gv rfl hg) (aL.gv rfl hg) cZ (by omega) (by first|omega|(simp only[aA]at hg;omega))) rfl ?_;refine St.gt _ rfl rfl (fun hg=>Ev.neq (aL.gv rfl hg) (.mk rfl)) rfl ?_;refine St.ee Ev.n0 ?_;refine St.nn ?_;refine St.cond _ rfl (fun xC=> ?_) (fun xC=> ?_)
   ·try simp only[aA]at xC
    refine St.skip (St.a7 (St.block (St.rg ?_)));refine St.mv ?_;refine St.ee Ev.a0 ?_;refine St.ao ?_;refine St.nil (St.aW (St.a7 ?_));refine St.aH (m+1) ⟨by omega,by omega,z8 Sh (by omega) Xw (fun e=>by rw[e]at xC;exact absurd xC.2 (by decide))⟩
   ·try simp only[aA]at xC
    obtain⟨rs,hlr,Xx⟩:=BU A6 Sh hm Xw (fun hh=>by rcases xC with h|h;omega;exact hh.2 (UInt8.toNat_inj.1 (show(t.getD m 0).toNat=32 by omega)))
    obtain⟨it,hit⟩:∃it,it=(t.take m).drop p:=⟨_,rfl⟩
    have CC:it.length=m-p:=by rw[hit,List.length_drop,List.length_take];omega
    rw[hlr,←hit]at j9
    have F2:p+it.length+1=m+1:=by omega
    refine St.exit (St.aJ (St.aJ (St.bO (St.a7 (St.sr ?_)))));refine St.mv ?_;refine St.mv ?_;refine St.mv ?_;refine St.ee (Ev.zQ (l:=p) (m:=m) (.mk rfl) (.mk rfl) (.mk rfl) cZ rfl rfl (by omega)) ?_;rw[←hit];refine St.call (qw it (by omega)) Vm (.cons (.mk rfl) .nil) rfl ?_;rintro XI _ ⟨rfl,w,v,k,a,b,rfl,Vz⟩;refine St.aC ?_;refine St.slot 43 (.tuple #[iv w,.agg #[sv v.name,iv v.kind,sv v.label],iv k,sv a,sv b]) rfl rfl ?_;refine St.mv ?_;refine St.ee (Ev.extract (.mk rfl) rfl) ?_;refine St.ee (Ev.extract (.mk rfl) rfl) ?_;refine St.ee (Ev.extract (.mk rfl) rfl) ?_;refine St.ee (Ev.extract (.mk rfl) rfl) ?_;refine St.ee (Ev.extract (.mk rfl) rfl) ?_;refine St.alloc pM rfl (fun b8=> ?_);refine St.ao ?_;refine St.sA (.mk rfl) (.mk rfl) cv ?_ (h1:=(by simp only[List.all_cons,List.all_nil,Bool.and_true,Bool.and_eq_true];exact⟨rfl,rfl,rfl⟩));refine St.ao ?_;refine St.ao ?_;refine St.ao ?_;refine St.nn (St.seq (St.sr ?_));refine St.mv ?_;refine St.ee Ev.fE ?_;refine St.mv ?_;refine St.gf _ rfl rfl (fun hg=>Ev.move (.mk rfl)) rfl ?_;refine St.gf _ rfl rfl (fun hg=>Ev.eql (aL.gv rfl hg) (.mk rfl)) rfl ?_;refine St.gf _ rfl rfl (fun hg=>Ev.move (aL.gv rfl hg)) rfl ?_;refine St.kW _ rfl rfl (fun hg=>Ev.aD (.mk rfl) dz) rfl ?_;refine St.kW _ rfl rfl (fun hg=>Ev.cY (aL.gv rfl hg) dw trivial (by rfl)) rfl ?_;refine St.kW _ rfl rfl (fun hg=>Ev.gm (aL.gv rfl hg) dw) rfl ?_;refine St.kW _ rfl rfl (fun hg=>Ev.gtr (aL.gv rfl hg) (.mk rfl)) rfl ?_;refine St.gf _ rfl rfl (fun hg=>Ev.and (aL.gv rfl hg) (fun hp=>aL.gv rfl (ji hg hp))) rfl ?_;refine St.ee Ev.o0 ?_;refine St.nn ?_;refine St.cond _ rfl (fun Gb=> ?_) (fun Gb=> ?_)
    ·try simp only[aA]at Gb
     have n5:dP (fN t) [] [] 0= .inr (11,(p:Int)):=by rcases Vz with⟨e,h⟩|⟨e,h⟩|⟨e,h⟩;(rw[j9,lq h]);(rw[j9,sz h (fun hk=>by rw[hk]at Gb;simp at Gb;omega)]);omega
     refine St.sr ?_;refine St.ee (Ev.build (ps:=[]) (aQ.nil) (fun w=>j7 w)) ?_;refine St.mv ?_;refine St.ee (Ev.build (ps:=[(0,(.const (.int .i64 11))),(1,(.tmp 62))]) (aQ.cons (aL.mk rfl) (aQ.cons (aL.mk rfl) aQ.nil)) (fun w=>cX rfl rfl w)) ?_;refine St.sA (.mk rfl) (.mk rfl) dX ?_;refine St.sA (.mk rfl) (.mk rfl) aR ?_;refine St.nn (St.ae (St.a8 (St.aN (St.a8 (St.aN (St.a8 ?_))))));refine St.dN cC ?_;refine St.dN cE ?_;refine St.iJ (bG (⟨bu,[],bu,[]⟩:cF)) [sl cC (.slice none 0 0) [],sl cE (.slice none 0 0) []] (fun ρ h=>h) ?_;refine St.rT [_,_] [aE (bG (⟨bu,[],bu,[]⟩:cF))] Tryz.results10 ⟨⟨_,_,_,_,rfl,c4.mem,.inl ⟨⟨_,fV⟩,dX,rfl⟩⟩,⟨⟨_,_,_,_,rfl,c4.mem,.inl ⟨⟨_,bC⟩,aR,rfl⟩⟩,trivial⟩⟩ ?_
     have hP:=ln (by omega) n5
     exact⟨(⟨bu,[],bu,[]⟩:cF),by rw[hP];rfl,by rw[hP],by rw[hP],rfl⟩
    ·try simp only[aA]at Gb
     refine St.skip (St.a7 (St.seq (St.sr ?_)));refine St.mv ?_;refine St.ee Ev.fE ?_;refine St.nn ?_;refine St.cond _ rfl (fun re=> ?_) (fun re=> ?_)
     ·try simp only[aA]at re
      have vm:dE it=some (.inl v):=by rcases Vz with⟨e,h⟩|⟨e,h⟩|⟨e,h⟩;omega;exact h;omega
      have Qz:ks=[]:=List.eq_nil_of_length_eq_zero (by omega)
      subst Qz;rw[wX vm,F2]at j9;obtain⟨hs1,RN,RP,RO⟩:=su vm
      have W0:cC.wf v:=⟨by show v.name.length≤_;omega,by show aj v.kind;unfold aj;omega,by show v.label.length≤_;omega⟩
      refine St.rg ?_;refine St.ee (Ev.aD (.mk rfl) cN) ?_;refine St.ee (Ev.l0 (.mk rfl) cM) ?_;refine St.ee (Ev.an (.mk rfl) gP trivial (by exact cv)) ?_;refine St.slot 68 (.agg #[sv v.name,iv v.kind,sv v.label]) rfl rfl ?_;refine St.cS rfl (.cons (.mk rfl) .nil) cM cv Dv rfl rfl (by simp[Value.cells]) rfl rfl (fun b69=> ?_);refine St.cT (.mk rfl) (.mk rfl) cM cv Dv QG (by simp[Value.oneCell',Value.cells]) (by omega) (by omega) rfl rfl rfl rfl (fun v70 aaX=> ?_);refine St.bI v70 (show _=(vs++ [v]).length by rw[List.length_append];rfl) (show _=rows cC (vs++ [v]) by rw[dA];rfl) ?_;refine St.e7 v70 (fun sN _=> ?_);refine St.ee (Ev.aD (.mk rfl) cN) ?_;refine St.bQ (.mk rfl) (.mk rfl) QH sN (by rfl) ?_;refine St.nn (St.rg ?_);refine St.mv ?_;refine St.ee Ev.a0 ?_;refine St.ao ?_;refine St.nil (St.aW (St.a7 ?_));refine St.ly (m+1) (v70,zk,vs++ [v],[],rs) ⟨sN,uf,j9,Xx,⟨by rw[List.length_append,List.length_singleton];omega,Nat.zero_le _⟩,fun u hu=>by rcases List.mem_append.1 hu with h|h;exact yb u h;rw[List.mem_singleton.1 h];exact W0,zf⟩
     ·try simp only[aA]at re
      have vj:dE it=some (.inr (k,a,b)):=by rcases Vz with⟨e,h⟩|⟨e,h⟩|⟨e,h⟩;omega;omega;exact h
      have NO:=sx vj
      refine St.sr ?_;refine St.mv ?_;refine St.ee (Ev.build (ps:=[(0,(.tmp 72)),(1,(.const (.int .i64 (-1)))),(2,(.const (.int .i64 (-1))))]) (aQ.cons (aL.mk rfl) (aQ.cons (aL.mk rfl) (aQ.cons (aL.mk rfl) aQ.nil))) (fun w=>lK rfl rfl rfl w)) ?_;refine St.alloc B2 rfl (fun Ij=> ?_);refine St.sA (.mk rfl) (.mk rfl) gj ?_ (h1:=(by simp only[List.all_cons,List.all_nil,Bool.and_true,Bool.and_eq_true];exact⟨rfl,rfl,rfl⟩));refine St.nn (St.seq (St.sr ?_));refine St.ee (Ev.aD (.mk rfl) cN) ?_;refine St.ee (Ev.l0 (.mk rfl) cM) ?_;refine St.ee (Ev.gm (.mk rfl) cM) ?_;refine St.ee Ev.s0 ?_;refine St.ao ?_;refine St.nn (St.block ?_);refine St.pH (ι:=Nat) (κ:=Int×Int) (fun i z T=>(13,iv ((i:Nat)-1:Int))::T) (fun i z=>[aZ Ij (.cells [iv k,iv z.1,iv z.2].toArray 40 (0,0)),aZ b8 (.cells [sv v.name,iv v.kind,sv v.label].toArray 38 (0,0)),aZ b4 (.cells [zv,zk].toArray 25 (0,0)),row zv 38 3 (vs).length (rows cC (vs)),row zk 40 3 (ks).length (rows cE (ks)),aZ b2 (.cells [(.slice none 0 0),(.slice none 0 0)].toArray 25 (0,0)),aZ b3 (.cells [iv 0,iv 0].toArray 28 (0,0))]) (fun i z=>i≤vs.length∧z.1=oT vs i a∧z.2=oT vs i b) (fun i z=>i) vs.length (-1,-1) (aG.cons 0 rfl (aG.cons 2 rfl (aG.cons 3 rfl (aG.cons 4 rfl (aG.cons 5 rfl (aG.cons 6 rfl (aG.cons 10 rfl (aG.cons 11 rfl (aG.cons 12 rfl aG.nil))))))))) ⟨Nat.le_refl _,(wW (Nat.le_refl _) _).symm,(wW (Nat.le_refl _) _).symm⟩ ?_;rintro i ⟨ia,ib⟩ ⟨hi,FM,RQ⟩
      dsimp only at FM RQ⊢
      refine St.seq (St.sr ?_);refine St.mv ?_;refine St.ee Ev.xi ?_;refine St.nn ?_;refine St.cond _ rfl (fun W1=> ?_) (fun W1=> ?_)
      ·try simp only[aA]at W1
       obtain⟨j,rfl⟩:∃j,i=j+1:=⟨i-1,by omega⟩
       have Xy:((j+1:Nat):Int)-1=(j:Nat):=by omega
       obtain⟨u,hu⟩:=aY (show j<vs.length by omega)
       have W2:=sy hu a
       have W3:=sy hu b
       rw[←FM]at W2;rw[←RQ]at W3;refine St.skip (St.a7 (St.seq (St.block ?_)));refine St.join (ι:=Int) (fun y T=>T) (fun y=>[aZ Ij (.cells [iv k,iv y,iv ib].toArray 40 (0,0)),aZ b8 (.cells [sv v.name,iv v.kind,sv v.label].toArray 38 (0,0)),aZ b4 (.cells [zv,zk].toArray 25 (0,0)),row zv 38 3 (vs).length (rows cC (vs)),row zk 40 3 (ks).length (rows cE (ks)),aZ b2 (.cells [(.slice none 0 0),(.slice none 0 0)].toArray 25 (0,0)),aZ b3 (.cells [iv 0,iv 0].toArray 28 (0,0))]) (fun y=>y=oT vs j a) (aG.cons 0 rfl (aG.cons 2 rfl (aG.cons 3 rfl (aG.cons 4 rfl (aG.cons 5 rfl (aG.cons 6 rfl (aG.cons 10 rfl (aG.cons 11 rfl (aG.cons 12 rfl (aG.cons 13 rfl aG.nil)))))))))) ?_ ?_
       ·refine St.seq ?_
        refine St.slot 13 (iv ((j:Nat):Int)) rfl (congrArg iv Xy) ?_;refine St.rg ?_;refine St.ee (Ev.aD (.mk rfl) cN) ?_;refine St.ee (Ev.l0 (.mk rfl) cM) ?_;refine St.mv ?_;refine St.ee (Ev.dm (k:=j) (.mk rfl) (.mk rfl) cM cv (by omega) (by omega)) ?_;refine St.ee (Ev.Bn (.mk rfl) (by omega) fm) ?_;refine St.ee (Ev.jn (.mk rfl) cZ trivial (by omega) (mg cC vs j 0 u hu (by decide))) ?_;refine St.mv ?_;refine St.ee (Ev.fC (.mk rfl) (.mk rfl)) ?_;refine St.nn ?_;refine St.cond _ rfl (fun E6=> ?_) (fun E6=> ?_)
        ·try simp only[aA]at E6
         refine St.rg ?_;refine St.mv ?_;refine St.ee (Ev.aD (.mk rfl) hG) ?_;refine St.bQ (.mk rfl) (.mk rfl) cu rfl (by rfl) ?_;refine St.nn ?_;refine St.mE ((j:Nat):Int) (by rw[W2,if_pos E6])
        ·try simp only[aA]at E6
         refine St.skip (St.a7 ?_);refine St.mE ia (by rw[W2,if_neg E6])
       ·intro y hy
        refine St.seq ?_;refine St.slot 13 (iv ((j:Nat):Int)) rfl (congrArg iv Xy) ?_;refine St.rg ?_;refine St.ee (Ev.aD (.mk rfl) cN) ?_;refine St.ee (Ev.l0 (.mk rfl) cM) ?_;refine St.mv ?_;refine St.ee (Ev.dm (k:=j) (.mk rfl) (.mk rfl) cM cv (by omega) (by omega)) ?_;refine St.ee (Ev.Bn (.mk rfl) (by omega) fm) ?_;refine St.ee (Ev.jn (.mk rfl) cZ trivial (by omega) (mg cC vs j 0 u hu (by decide))) ?_;refine St.mv ?_;refine St.ee (Ev.fC (.mk rfl) (.mk rfl)) ?_;refine St.nn ?_;refine St.cond _ rfl (fun Ck=> ?_) (fun Ck=> ?_)
        ·try simp only[aA]at Ck
         refine St.rg ?_;refine St.mv ?_;refine St.ee (Ev.aD (.mk rfl) hJ) ?_;refine St.bQ (.mk rfl) (.mk rfl) cu rfl (by rfl) ?_;refine St.nil (St.aW (St.a7 (St.rg ?_)));refine St.mv ?_;refine St.ee Ev.s0 ?_;refine St.ao ?_;refine St.nn ?_;refine St.slot 13 (iv ((j:Nat)-1:Int)) rfl (congrArg iv (by omega)) ?_;refine St.ly j (y,((j:Nat):Int)) ⟨by omega,hy,by dsimp only;rw[W3,if_pos Ck]⟩
        ·try simp only[aA]at Ck
         refine St.skip (St.aW (St.a7 (St.rg ?_)));refine St.mv ?_;refine St.ee Ev.s0 ?_;refine St.ao ?_;refine St.nn ?_;refine St.slot 13 (iv ((j:Nat)-1:Int)) rfl (congrArg iv (by omega)) ?_;refine St.ly j (y,ib) ⟨by omega,hy,by dsimp only;rw[W3,if_neg Ck]⟩
      ·try simp only[aA]at W1
       obtain rfl:i=0:=by omega
       refine St.exit (St.aJ (St.aJ (St.bO (St.a7 (St.seq (St.sr ?_))))));refine St.ee (Ev.aD (.mk rfl) hG) ?_;refine St.ee (Ev.l0 (.mk rfl) bf) ?_;refine St.ee Ev.ez ?_;refine St.mv ?_;refine St.gf _ rfl rfl (fun hg=>Ev.aD (.mk rfl) hJ) rfl ?_;refine St.gf _ rfl rfl (fun hg=>Ev.cY (aL.gv rfl hg) bf trivial (by rfl)) rfl ?_;refine St.gf _ rfl rfl (fun hg=>Ev.lss (aL.gv rfl hg) (.mk rfl)) rfl ?_;refine St.ee Ev.o0 ?_;refine St.nn ?_;refine St.cond _ rfl (fun uZ=> ?_) (fun uZ=> ?_)
       ·try simp only[aA]at uZ
        have F3:dP (fN t) [] [] 0= .inr (6,(p:Int)):=by rw[j9];refine tA vj ?_;rcases lp vs a with⟨_,e⟩|⟨ja,e,_⟩;exact .inl e;rcases lp vs b with⟨_,e2⟩|⟨jb,e2,_⟩;exact .inr e2;omega
        refine St.sr ?_;refine St.ee (Ev.build (ps:=[]) (aQ.nil) (fun w=>j7 w)) ?_;refine St.mv ?_;refine St.ee (Ev.build (ps:=[(0,(.const (.int .i64 6))),(1,(.tmp 111))]) (aQ.cons (aL.mk rfl) (aQ.cons (aL.mk rfl) aQ.nil)) (fun w=>cX rfl rfl w)) ?_;refine St.sA (.mk rfl) (.mk rfl) dX ?_;refine St.sA (.mk rfl) (.mk rfl) aR ?_;refine St.nn (St.ae (St.a8 (St.a8 (St.aN (St.a8 (St.aN (St.a8 ?_)))))));refine St.dN cC ?_;refine St.dN cE ?_;refine St.iJ (bG (⟨bu,[],bu,[]⟩:cF)) [sl cC (.slice none 0 0) [],sl cE (.slice none 0 0) []] (fun ρ h=>h) ?_;refine St.rT [_,_] [aE (bG (⟨bu,[],bu,[]⟩:cF))] Tryz.results10 ⟨⟨_,_,_,_,rfl,c4.mem,.inl ⟨⟨_,fV⟩,dX,rfl⟩⟩,⟨⟨_,_,_,_,rfl,c4.mem,.inl ⟨⟨_,bC⟩,aR,rfl⟩⟩,trivial⟩⟩ ?_
        have hP:=ln (by omega) F3
        exact⟨(⟨bu,[],bu,[]⟩:cF),by rw[hP];rfl,by rw[hP],by rw[hP],rfl⟩
       ·try simp only[aA]at uZ
        obtain⟨ja,ea,fa⟩:∃j:Nat,oT vs 0 a=j∧cr vs a=some j:=by rcases lp vs a with⟨e,_⟩|h;omega;exact h
        obtain⟨jb,eb,fb⟩:∃j:Nat,oT vs 0 b=j∧cr vs b=some j:=by rcases lp vs b with⟨e,_⟩|h;omega;exact h
        rw[tB vj fa fb,F2]at j9;rw[ea]at FM;rw[eb]at RQ;subst FM;subst RQ
        have LR:=lQ fa
        have Ik:=lQ fb
        have W4:cE.wf (⟨k,ja,jb⟩:cL):=⟨by show aj k;unfold aj;omega,by show aj (ja:Int);unfold aj;omega,by show aj (jb:Int);unfold aj;omega⟩
        refine St.skip (St.a7 (St.rg ?_));refine St.ee (Ev.aD (.mk rfl) dz) ?_;refine St.ee (Ev.l0 (.mk rfl) dw) ?_;refine St.ee (Ev.an (.mk rfl) tq trivial (by exact gj)) ?_;refine St.slot 115 (.agg #[iv k,iv ja,iv jb]) rfl rfl ?_;refine St.cS rfl (.cons (.mk rfl) .nil) dw gj Dw rfl rfl (by simp[Value.cells]) rfl rfl (fun BM=> ?_);refine St.cT (.mk rfl) (.mk rfl) dw gj Dw QI (by simp[Value.oneCell',Value.cells]) (by omega) (by omega) rfl rfl rfl rfl (fun v117 Xz=> ?_);refine St.bI v117 (show _=(ks++ [(⟨k,ja,jb⟩:cL)]).length by rw[List.length_append];rfl) (show _=rows cE (ks++ [(⟨k,ja,jb⟩:cL)]) by rw[dA];rfl) ?_;refine St.e7 v117 (fun rQ _=> ?_);refine St.ee (Ev.aD (.mk rfl) dz) ?_;refine St.bQ (.mk rfl) (.mk rfl) QJ rQ (by rfl) ?_;refine St.nn (St.rg ?_);refine St.mv ?_;refine St.ee Ev.a0 ?_;refine St.ao ?_;refine St.nil (St.aW (St.a7 ?_));refine St.ly (m+1) (zv,v117,vs,ks++ [(⟨k,ja,jb⟩:cL)],rs) ⟨rA,rQ,j9,Xx,⟨by dsimp only;omega,by dsimp only;rw[List.length_append,List.length_singleton];omega⟩,yb,fun u hu=>by rcases List.mem_append.1 hu with h|h;exact zf u h;rw[List.mem_singleton.1 h];exact W4⟩
  ·try simp only[aA]at y0
   have xN:l=[]:=by rcases A6 with⟨h,_⟩|⟨_,h⟩;omega;exact h
   subst xN
   have yS:dP (fN t) [] [] 0= .inl (vs,ks):=j9
   refine St.aM zv cC vs rfl rfl yb ?_;refine St.aM zk cE ks rfl rfl zf ?_;refine St.iJ (bG ⟨⟨zv,rA⟩,vs,⟨zk,uf⟩,ks⟩) [sl cC zv vs,sl cE zk ks] (fun ρ h=>h) ?_;refine St.exit (St.aJ (St.aJ (St.bO (St.a7 (St.sr ?_)))));refine St.ee (Ev.an (.mk rfl) fV trivial (by exact dX)) ?_;refine St.slot 121 (da ⟨⟨zv,rA⟩,vs,⟨zk,uf⟩,ks⟩) rfl rfl ?_;refine St.ee (Ev.call (nS ⟨⟨zv,rA⟩,vs,⟨zk,uf⟩,ks⟩) Xu (.cons (.mk rfl) .nil)) ?_;refine St.alloc dR rfl (fun r7=> ?_);refine St.sA (.mk rfl) (.mk rfl) aR ?_;refine St.nn (St.seq (St.sr ?_));refine St.ee (Ev.aD (.mk rfl) cW) ?_;refine St.ee (Ev.l0 (.mk rfl) bf) ?_;refine St.ee Ev.kz ?_;refine St.nn ?_;refine St.cond _ rfl (fun L0=> ?_) (fun L0=> ?_)
   ·skip
    have Bf:(ec vs ks).1≠0:=by simpa using L0
    refine St.seq ?_;refine St.lr [b2,b3] mixed (fun np ns=> ?_);refine SW.dd 0 rfl (fun _=>Ev.build (ps:=[]) (aQ.nil) (fun w=>j7 w)) ?_;refine SW.dd 1 rfl (fun _=>Ev.an (.mk rfl) bC trivial (by exact aR)) ?_;refine SW.ar (i:=2) (by kernel_rfl) rfl ?_;refine St.sA (.mk rfl) (.mk rfl) dX ?_;refine St.nn ?_;refine SW.go ?_;refine SW.ar (i:=3) (by kernel_rfl) rfl ?_;refine St.sA (.mk rfl) (.mk rfl) aR ?_;refine St.nn ?_;refine SW.go ?_;refine SW.done (by kernel_rfl) ?_;refine St.a7 (St.ae (St.a8 ?_));refine St.dN cC ?_;refine St.dN cE ?_;refine St.iJ (bG (⟨bu,[],bu,[]⟩:cF)) [sl cC (.slice none 0 0) [],sl cE (.slice none 0 0) []] (fun ρ h=>h) ?_;refine St.rT [_,_] [aE (bG (⟨bu,[],bu,[]⟩:cF))] Tryz.results10 ⟨⟨_,_,_,_,rfl,c4.mem,.inl ⟨⟨_,fV⟩,dX,rfl⟩⟩,⟨⟨_,_,_,_,rfl,c4.mem,.inl ⟨⟨_,bC⟩,aR,rfl⟩⟩,trivial⟩⟩ ?_
    have hP:=A5 (by omega) yS Bf
    exact⟨(⟨bu,[],bu,[]⟩:cF),by rw[hP];rfl,by rw[hP],by rw[hP],rfl⟩
   ·skip
    have Bf:(ec vs ks).1=0:=by simpa using L0
    refine St.skip (St.a7 (St.sr ?_));refine St.ee (Ev.an (.mk rfl) fV trivial (by exact dX)) ?_;refine St.ee (Ev.build (ps:=[]) (aQ.nil) (fun w=>fK w)) ?_;refine St.sA (.mk rfl) (.mk rfl) dX ?_ (h1:=(by simp only[List.all_cons,List.all_nil,Bool.and_true,Bool.and_eq_true];exact⟨rA,uf⟩));refine St.sA (.mk rfl) (.mk rfl) aR ?_;refine St.nn (St.ae ?_);refine St.rT [_,_] [aE (bG ⟨⟨zv,rA⟩,vs,⟨zk,uf⟩,ks⟩)] Tryz.results10 ⟨⟨_,_,_,_,rfl,c4.mem,.inl ⟨⟨_,fV⟩,dX,rfl⟩⟩,⟨⟨_,_,_,_,rfl,c4.mem,.inl ⟨⟨_,bC⟩,aR,rfl⟩⟩,trivial⟩⟩ ?_
    have hP:=z7 (by omega) yS Bf
    exact⟨⟨⟨zv,rA⟩,vs,⟨zk,uf⟩,ks⟩,by rw[hP];rfl,by rw[hP],by rw[hP],rfl⟩
def RR (s p:ax):Bool:=decide ((p.length:Int)≤(s.length:Int))&&(s.take p.length==p)
theorem QP (s:ax):RR s [39]=true↔s.head?=some 39:=by
 unfold RR
 cases s with
 |nil=>simp
 |cons c r=>simp;intro _;omega
theorem ua (s p:ax)(hs:s.length≤9223372036854775807)(hp:p.length≤9223372036854775807):de Tryz.prog 70 #[sv s,sv p] [] (.bool (RR s p)):=by
 refine de.iZ (args:=[sv s,sv p]) 18 Tryz.func70 rfl Tryz.ntmps70 rfl (fun c=> ?_);refine St.sr ?_;refine St.ao ?_;refine St.nn (St.sr ?_);refine St.mv ?_;refine St.ee (Ev.dF (.mk rfl) cZ) ?_;refine St.mv ?_;refine St.ee (Ev.dF (.mk rfl) cZ) ?_;refine St.ee Ev.xi ?_;refine St.mv ?_;refine St.gt _ rfl rfl (fun hg=>Ev.move (.mk rfl)) rfl ?_;refine St.gt _ rfl rfl (fun hg=>Ev.move (.mk rfl)) rfl ?_;refine St.gt _ rfl rfl (fun hg=>Ev.dF (aL.gv rfl hg) cZ) rfl ?_;refine St.gt _ rfl rfl (fun hg=>Ev.kE (l:=p.length) (aL.gv rfl hg) (aL.gv rfl hg) cZ rfl (by first|omega|(simp only[aA]at hg;omega))) rfl ?_;refine St.gt _ rfl rfl (fun hg=>Ev.move (.mk rfl)) rfl ?_;refine St.gt _ rfl rfl (fun hg=>Ev.fC (aL.gv rfl hg) (aL.gv rfl hg)) rfl ?_;refine St.ee Ev.n0 ?_;refine St.ao ?_;refine St.nn (St.ae ?_);refine St.rU [_] [] Tryz.results70 ?_;exact be rfl
theorem wY (s p:ax)(hs:s.length≤9223372036854775807)(hp:p.length≤9223372036854775807):de Tryz.prog 48 #[sv s,sv p] [] (.bool (RR s p)):=by
 refine de.iZ (args:=[sv s,sv p]) 8 Tryz.func48 rfl Tryz.ntmps48 rfl (fun c=> ?_);refine St.sr ?_;refine St.ao ?_;refine St.nn (St.sr ?_);refine St.mv ?_;refine St.mv ?_;refine St.ee (Ev.call (ua s p hs hp) Vn (.cons (.mk rfl) (.cons (.mk rfl) .nil))) ?_;refine St.ao ?_;refine St.nn (St.ae ?_);refine St.rU [_] [] Tryz.results48 ?_;rfl
set_option maxHeartbeats 2000000 in
theorem rh (nm s:ax)(hs:s.length≤1000000):um Tryz.prog 23 #[sv nm,sv s] ([u8].map aE) (fun r H'=>H'=[]∧∃v:bL,r= .tuple #[.agg #[sv v.name,iv v.kind,sv v.label],.bool (jh s)]∧(jh s=true→v=jF nm s)):=by
 refine um.body (args:=[sv nm,sv s]) 35 Tryz.func23 rfl Tryz.ntmps23 rfl (fun c gL=> ?_);refine St.cast (H':=[aE (u8)]) rfl ?_;refine St.sr ?_;refine St.alloc pM rfl (fun b4=> ?_);refine St.ao ?_;refine St.nn (St.sr ?_);refine St.mv ?_;refine St.mv ?_;refine St.ee (Ev.build (ps:=[(0,(.tmp 7)),(1,(.const (.int .i64 2))),(2,(.tmp 8))]) (aQ.cons (aL.mk rfl) (aQ.cons (aL.mk rfl) (aQ.cons (aL.mk rfl) aQ.nil))) (fun w=>lJ rfl rfl rfl w)) ?_;refine St.alloc pM rfl (fun b6=> ?_);refine St.sA (.mk rfl) (.mk rfl) cv ?_;refine St.nn ?_;refine St.join (ι:=bL) (fun v T=>T) (fun v=>[aZ b6 (.cells [sv v.name,iv v.kind,sv v.label].toArray 38 (0,0)),aZ b4 (.cells [sv [],iv 0,sv []].toArray 38 (0,0)),aE u8]) (fun v=>v=jF nm s∧jh s=true) (aG.cons 4 rfl (aG.cons 6 rfl aG.nil)) ?_ ?_
 ·refine St.block (St.sr ?_)
  refine St.mv ?_;refine St.ee (Ev.fC (.mk rfl) (.mk rfl)) ?_;refine St.ao ?_;refine St.nn ?_;refine St.cond _ rfl (fun wP=> ?_) (fun wP=> ?_)
  ·try simp only[aA]at wP
   refine St.rg ?_;refine St.ee (Ev.aD (.mk rfl) db) ?_;refine St.bQ (.mk rfl) (.mk rfl) cu rfl (by rfl) ?_;refine St.ee (Ev.aD (.mk rfl) fL) ?_;refine St.bQ (.mk rfl) (.mk rfl) tt rfl (by rfl) ?_;refine St.nil (St.aW (St.a7 ?_));refine St.mE ⟨nm,1,[]⟩ ⟨by rw[wP];rfl,by rw[wP];rfl⟩
  ·try simp only[aA]at wP
   refine St.sr ?_;refine St.mv ?_;refine St.ee (Ev.fC (.mk rfl) (.mk rfl)) ?_;refine St.ao ?_;refine St.nn ?_;refine St.cond _ rfl (fun eT=> ?_) (fun eT=> ?_)
   ·try simp only[aA]at eT
    refine St.rg ?_;refine St.ee (Ev.aD (.mk rfl) db) ?_;refine St.bQ (.mk rfl) (.mk rfl) cu rfl (by rfl) ?_;refine St.ee (Ev.aD (.mk rfl) fL) ?_;refine St.bQ (.mk rfl) (.mk rfl) tt rfl (by rfl) ?_;refine St.nil (St.aW (St.a7 ?_));refine St.mE ⟨nm,4,[]⟩ ⟨by rw[eT];rfl,by rw[eT];rfl⟩
   ·try simp only[aA]at eT
    refine St.sr ?_;refine St.mv ?_;refine St.ee (Ev.call (wY s [39] (by omega) (by decide)) Vo (.cons (.mk rfl) (.cons (.mk rfl) .nil))) ?_;refine St.ao ?_;refine St.nn ?_;refine St.cond _ rfl (fun A3=> ?_) (fun A3=> ?_)
    ·skip
     have pZ:s.head?=some 39:=(QP s).1 A3
     have A4:jh s=isWord s.tail:=by unfold jh;rw[if_neg wP,if_neg eT,if_pos pZ]
     have LX:jF nm s=⟨nm,3,s.tail⟩:=by unfold jF;rw[if_neg wP,if_neg eT,if_pos pZ]
     have AU:1≤s.length:=by cases s;cases pZ;simp
     have AR:s.drop 1=s.tail:=List.drop_one
     refine St.seq ?_;refine St.lr [b6] mixed (fun np ns=> ?_);refine SW.dd 0 rfl (fun _=>Ev.move (.mk rfl)) ?_;refine SW.dd 1 rfl (fun _=>Ev.jN (l:=1) (.mk rfl) (.mk rfl) cZ rfl (by omega)) ?_;refine SW.slot 27 (sv s.tail) rfl (congrArg sv AR) ?_;refine SW.dd 2 rfl (fun _=>Ev.aD (.mk rfl) db) ?_;refine SW.ar (i:=3) (by kernel_rfl) rfl ?_;refine St.bQ (.mk rfl) (.mk rfl) cu rfl (by rfl) ?_;refine St.nn ?_;refine SW.go ?_;refine SW.dd 4 rfl (fun _=>Ev.aD (.mk rfl) fL) ?_;refine SW.ar (i:=5) (by kernel_rfl) rfl ?_;refine St.bQ (.mk rfl) (.mk rfl) tt rfl (by rfl) ?_;refine St.nn ?_;refine SW.go ?_;refine SW.done (by kernel_rfl) ?_;refine St.a7 (St.seq ?_);refine St.lr [b4] mixed (fun np ns=> ?_);refine SW.dd 0 rfl (fun _=>Ev.an (.mk rfl) gP trivial (by exact cv)) ?_;refine SW.dd 1 rfl (fun _=>Ev.aD (.mk rfl) fL) ?_;refine SW.dd 2 rfl (fun _=>Ev.cY (.mk rfl) cZ trivial (by rfl)) ?_;refine SW.dd 3 rfl (fun _=>Ev.gA gL (oO s.tail (by rw[←AR,List.length_drop];omega)) KJ (.cons (.mk rfl) .nil)) ?_;refine SW.ar (i:=4) (by kernel_rfl) rfl ?_;refine St.sA (.mk rfl) (.mk rfl) cv ?_;refine St.nn ?_;refine SW.go ?_;refine SW.dd 5 rfl (fun _=>Ev.assign (.mk rfl)) ?_;refine SW.done (by kernel_rfl) ?_;refine St.a7 (St.ae (St.aN (St.a8 ?_)));refine St.rT [_,_] [] Tryz.results23 ⟨⟨_,_,_,_,rfl,c4.mem,.inl ⟨⟨_,gP⟩,cv,rfl⟩⟩,⟨rfl,trivial⟩⟩ ?_;exact⟨rfl,⟨nm,3,s.tail⟩,by rw[A4];rfl,fun _=>LX.symm⟩
    ·skip
     have pZ:s.head?≠some 39:=fun e=>by rw[(QP s).2 e]at A3;cases A3
     have A4:jh s=isName s:=by unfold jh;rw[if_neg wP,if_neg eT,if_neg pZ]
     have LX:jF nm s=⟨nm,2,s⟩:=by unfold jF;rw[if_neg wP,if_neg eT,if_neg pZ]
     refine St.seq ?_;refine St.lr [b4] mixed (fun np ns=> ?_);refine SW.dd 0 rfl (fun _=>Ev.an (.mk rfl) gP trivial (by exact cv)) ?_;refine SW.dd 1 rfl (fun _=>Ev.move (.mk rfl)) ?_;refine SW.dd 2 rfl (fun _=>Ev.call (fB s (by omega)) u5 (.cons (.mk rfl) .nil)) ?_;refine SW.ar (i:=3) (by kernel_rfl) rfl ?_;refine St.sA (.mk rfl) (.mk rfl) cv ?_;refine St.nn ?_;refine SW.go ?_;refine SW.dd 4 rfl (fun _=>Ev.assign (.mk rfl)) ?_;refine SW.done (by kernel_rfl) ?_;refine St.a7 (St.ae (St.aN (St.a8 ?_)));refine St.rT [_,_] [] Tryz.results23 ⟨⟨_,_,_,_,rfl,c4.mem,.inl ⟨⟨_,gP⟩,cv,rfl⟩⟩,⟨rfl,trivial⟩⟩ ?_;exact⟨rfl,⟨nm,2,s⟩,by rw[A4];rfl,fun _=>LX.symm⟩
 ·rintro v ⟨hv,A4⟩
  refine St.sr ?_;refine St.ee (Ev.an (.mk rfl) gP trivial (by exact cv)) ?_;refine St.sA (.mk rfl) (.mk rfl) cv ?_;refine St.ao ?_;refine St.nn (St.ae ?_);refine St.rT [_,_] [] Tryz.results23 ⟨⟨_,_,_,_,rfl,c4.mem,.inl ⟨⟨_,gP⟩,cv,rfl⟩⟩,⟨rfl,trivial⟩⟩ ?_;exact⟨rfl,v,by rw[A4];rfl,fun _=>hv⟩
def kK (c:UInt8):Bool:=([60,62,126]:List UInt8).contains c
theorem L1 {c:UInt8}(h:low c=true):kK c=false:=by
 rw[Bool.eq_false_iff];intro e;unfold kK at e
 simp only[List.contains_cons,List.contains_nil,Bool.or_false,Bool.or_eq_true,beq_iff_eq]at e
 rcases e with rfl|rfl|rfl<;>exact absurd h (by decide)
theorem F4 {k:Int}(h1:1≤k)(h5:k≤5):∀c∈eH k,kK c=true:=by
 rcases(show k=1∨k=2∨k=3∨k=4∨k=5 by omega)with rfl|rfl|rfl|rfl|rfl<;>decide
theorem F5 {s o:ax}(hs:∀c∈s,kK c=true)(ho:isName o=true):(s++o).takeWhile kK=s∧(s++o).dropWhile kK=o:=by
 obtain⟨c,r,rfl,hc⟩:=ll ho
 have hn:=L1 hc
 induction s with
 |nil=>rw[List.nil_append,List.takeWhile_cons,List.dropWhile_cons,hn];exact⟨rfl,rfl⟩
 |cons d s ih=>
  obtain⟨i1,i2⟩:=ih fun c hc=>hs c (by simp[hc])
  rw[List.cons_append,List.takeWhile_cons,List.dropWhile_cons,hs d (by simp)];exact⟨by rw[if_pos rfl,i1],by rw[if_pos rfl,i2]⟩
theorem qx {r:ax}{k:Int}(h1:1≤k)(h5:k≤5):nT r k=true↔(r.takeWhile kK=eH k∧isName (r.dropWhile kK)=true):=by
 unfold nT;rw[Bool.and_eq_true,decide_eq_true_iff]
 constructor
 ·rintro ⟨e1,e2⟩
  have e:r=eH k++r.drop (eH k).length:=by
   conv=>lhs;rw[←List.take_append_drop (eH k).length r]
   rw[e1]
  obtain⟨a,b⟩:=F5 (F4 h1 h5) e2;rw[←e]at a b;exact⟨a,by rw[b];exact e2⟩
 ·rintro ⟨e1,e2⟩
  have e:r=eH k++r.dropWhile kK:=by
   conv=>lhs;rw[←List.takeWhile_append_dropWhile (p:=kK) (l:=r)]
   rw[e1]
  refine⟨?_,?_⟩
  ·conv=>lhs;rw[e]
   exact List.take_left' rfl
  ·have e3:r.drop (eH k).length=r.dropWhile kK:=by
    conv=>lhs;rw[e]
    exact List.drop_left' rfl
   rw[e3];exact e2
def jG (run:ax):Nat→Int
 |0=>0
 |j+1=>if cn.getD j []=run then(j:Int)else jG run j
theorem wZ (run:ax):jG run 6=if [126]=run then 5 else if [60,60]=run then 4 else if [60]=run then 3 else if [62,62]=run then 2 else if [62]=run then 1 else 0:=by
 show(if([126]:ax)=run then(5:Int)else if([60,60]:ax)=run then 4 else if([60]:ax)=run then 3 else if([62,62]:ax)=run then 2 else if([62]:ax)=run then 1 else if([]:ax)=run then 0 else 0)=_
 simp only[ite_self]
theorem F6 {r:ax}{k:Int}(h:r.takeWhile kK=eH k):r.drop (eH k).length=r.dropWhile kK:=by
 have e:r=eH k++r.dropWhile kK:=by
  conv=>lhs;rw[←List.takeWhile_append_dropWhile (p:=kK) (l:=r)]
  rw[h]
 conv=>lhs;rw[e]
 exact List.drop_left' rfl
theorem qy {nm r:ax}:∀{l:List Int},(∀k∈l,nT r k=false)→uV nm r l=none
 | [],_=>rfl
 |k::l,h=>by
  rw[uV,h k (by simp),if_neg (by decide)]
  exact qy fun j hj=>h j (by simp[hj])
theorem wa {nm r:ax}{k:Int}:∀{l:List Int},k∈l→(∀j∈l,nT r j=true↔j=k)→uV nm r l=some (k,nm,r.drop (eH k).length)
 | [],hk,_=>by cases hk
 |j::l,hk,h=>by
  rw[uV]
  by_cases e:j=k
  ·rw[if_pos ((h j (by simp)).2 e),e]
  ·rw[if_neg (fun hh=>e ((h j (by simp)).1 hh))]
   exact wa ((List.mem_cons.1 hk).resolve_left (fun x=>e x.symm)) fun i hi=>h i (by simp[hi])
theorem F7 {j k:Int}(hj:j∈([1,2,3,4,5]:List Int))(hk:k∈([1,2,3,4,5]:List Int))(h:eH j=eH k):j=k:=by
 simp only[List.mem_cons,List.not_mem_nil,or_false]at hj hk
 rcases hj with rfl|rfl|rfl|rfl|rfl<;>rcases hk with rfl|rfl|rfl|rfl|rfl<;>first|rfl|(exact absurd h (by decide))
theorem Ht (nm r:ax):uV nm r [1,2,3,4,5]=if jG (r.takeWhile kK) 6=0∨isName (r.dropWhile kK)=false then none else some (jG (r.takeWhile kK) 6,nm,r.dropWhile kK):=by
 have L2:∀k∈([1,2,3,4,5]:List Int),1≤k∧k≤5:=by decide
 by_cases ho:isName (r.dropWhile kK)=true
 ·by_cases hk:∃k∈([1,2,3,4,5]:List Int),r.takeWhile kK=eH k
  ·obtain⟨k,hk,e⟩:=hk
   have wu:jG (r.takeWhile kK) 6=k:=by
    rw[e,wZ]
    simp only[List.mem_cons,List.not_mem_nil,or_false]at hk
    rcases hk with rfl|rfl|rfl|rfl|rfl<;>rfl
   have only:∀j∈([1,2,3,4,5]:List Int),nT r j=true↔j=k:=fun j hj=>by
    rw[qx (L2 j hj).1 (L2 j hj).2];exact⟨fun h=>F7 hj hk (h.1.symm.trans e),fun h=>⟨by rw[h];exact e,ho⟩⟩
   rw[wa hk only,F6 e,wu,if_neg (fun h=>by rcases h with h|h;(have:=L2 k hk;omega);(rw[ho]at h;cases h))]
  ·have no:∀k∈([1,2,3,4,5]:List Int),eH k≠r.takeWhile kK:=fun k h e=>hk ⟨k,h,e.symm⟩
   have z:jG (r.takeWhile kK) 6=0:=by rw[wZ,if_neg (show([126]:ax)≠r.takeWhile kK from no 5 (by decide)),if_neg (show([60,60]:ax)≠r.takeWhile kK from no 4 (by decide)),if_neg (show([60]:ax)≠r.takeWhile kK from no 3 (by decide)),if_neg (show([62,62]:ax)≠r.takeWhile kK from no 2 (by decide)),if_neg (show([62]:ax)≠r.takeWhile kK from no 1 (by decide))]
   have none_:∀k∈([1,2,3,4,5]:List Int),nT r k=false:=fun k h=>by
    rw[Bool.eq_false_iff]
    exact fun hh=>hk ⟨k,h,((qx (L2 k h).1 (L2 k h).2).1 hh).1⟩
   rw[qy none_,if_pos (.inl z)]
 ·have none_:∀k∈([1,2,3,4,5]:List Int),nT r k=false:=fun k h=>by
   rw[Bool.eq_false_iff]
   exact fun hh=>ho ((qx (L2 k h).1 (L2 k h).2).1 hh).2
  rw[qy none_,if_pos (.inr (Bool.eq_false_iff.2 ho))]
theorem F8 {s:ax}(h:(32:UInt8)∉s):Lib.index s [32]= -1:=Lib.index_none fun j _=>by
 rw[Bool.eq_false_iff];intro e
 exact h (List.mem_of_getElem? (Lib.occAt_head rfl e))
theorem BV {a:ax}(r:ax)(h:(32:UInt8)∉a):Lib.index (a++32::r) [32]=(a.length:Int):=by
 refine Lib.index_first (by simp) ?_ fun j hj=> ?_
 ·rw[Lib.occAt_iff_take _ _ _ (by simp),List.drop_left' rfl];rfl
 ·rw[Bool.eq_false_iff];intro e
  have e2:=Lib.occAt_head rfl e
  rw[List.getElem?_append_left hj]at e2;exact h (List.mem_of_getElem? e2)
theorem QQ:∀(n:Nat) (s:ax),s.length≤n→Lib.splitK [32] 0 (Lib.count s [32]) s=fN s
 |n,s,hn=>by
  by_cases h:(32:UInt8)∈s
  ·obtain⟨a,r,rfl,ha⟩:=List.eq_append_cons_of_mem h
   have hi:=BV r ha
   have hd:(a++32::r).drop (a.length+1)=r:=by rw[←List.drop_drop,List.drop_left' rfl,List.drop_one,List.tail_cons]
   have hc:=Lib.count_hit (s:=a++32::r) (sub:=[32]) (by decide) hi
   rw[show a.length+([32]:ax).length=a.length+1 from rfl,hd]at hc;rw[hc,Nat.add_comm,Lib.splitK,hi,if_neg (by simp),Int.toNat_natCast,Nat.add_zero,List.take_left' rfl,show a.length+([32]:ax).length=a.length+1 from rfl,hd,nV r ha]
   cases n with
   |zero=>simp at hn
   |succ n=>rw[QQ n r (by simp at hn;omega)]
  ·rw[Lib.count_miss (F8 h),pd h];rfl
def wb (l:List ax):Nat:=(l.map fun s=>s.length+1).sum
theorem iY (s:ax)(l:List ax):wb (s::l)=s.length+1+wb l:=by simp[wb]
theorem pe:∀s:ax,wb (fN s)=s.length+1
 | []=>rfl
 |c::s=>by
  have ih:=pe s
  rw[fN]
  split
  ·rw[iY,ih,List.length_cons];simp;omega
  ·split
   ·rename_i x l e
    rw[e,iY]at ih
    rw[iY,List.length_cons,List.length_cons];omega
   ·rename_i e;exact absurd e (Kv s)
theorem we (l:List ax):l.length≤wb l:=by
 induction l with
 |nil=>exact Nat.zero_le _
 |cons s l ih=>rw[iY,List.length_cons];omega
theorem F9 {l:List ax}{s:ax}(h:s∈l):s.length+1≤wb l:=by
 induction l with
 |nil=>cases h
 |cons x l ih=>
  rw[iY]
  rcases List.mem_cons.1 h with rfl|h
  ·omega
  ·have:=ih h;omega
theorem Hu {s x:ax}(h:x∈fN s):x.length≤s.length:=by
 have:=F9 h
 rw[pe]at this;omega
theorem tC (xs:List ax):rows dH xs=xs.map (fun x=>sv x):=by
 induction xs with
 |nil=>rfl
 |cons x xs ih=>rw[List.map_cons,←ih];rfl
theorem tD (xs:List ax):(rows dH xs).length=xs.length:=by rw[tC,List.length_map]
theorem W5 (s:ax):(⟨s.toArray⟩:ByteArray).data.toList=s:=by simp
theorem QR (s:ax):(Lib.splitB ⟨#[32]⟩ 0 (Lib.countB ⟨s.toArray⟩ ⟨#[32]⟩) ⟨s.toArray⟩).map Value.string=rows dH (fN s):=by
 have h:=Lib.splitB_data ⟨#[32]⟩ 0 (Lib.countB ⟨s.toArray⟩ ⟨#[32]⟩) ⟨s.toArray⟩
 have hc:Lib.countB ⟨s.toArray⟩ ⟨#[32]⟩=Lib.count s [32]:=by show Lib.count _ _=_;rw[W5]
 rw[W5]at h;rw[hc]at h⊢;rw[show Lib.splitK (⟨#[32]⟩:ByteArray).data.toList 0 (Lib.count s [32]) s=Lib.splitK [32] 0 (Lib.count s [32]) s from rfl,QQ _ s (Nat.le_refl _)]at h;rw[tC,←h,List.map_map]
 refine List.map_congr_left fun x _=> ?_
 show Value.string x=Value.string ⟨x.data.toList.toArray⟩
 rw[Array.toArray_toList]
theorem hi9:(Tryz.prog.info? (Tryz.oq.t 9)).map (fun i=>(i.zero,i.size,i.bytes))=some (some (.string ByteArray.empty),1,16):=by kernel_rfl
theorem ri (s:ax)(hs:s.length≤1000000):eI Tryz.prog 47 #[sv s,sv [32],iv 0,iv (-1)] [] (fun v H'=>∃b,v= .slice (some ⟨b,0,none⟩) (fN s).length (fN s).length∧H'=[row v 9 1 (fN s).length (rows dH (fN s))]):=by
 have QS:=pe s
 have hlen:=we (fN s)
 refine eI.Jt (tD _) (by unfold maxLen;omega) fun w=> ?_
 have hle:=Lib.countB_le ⟨#[32]⟩ (Nat.le_refl _) (⟨s.toArray⟩:ByteArray).size ⟨s.toArray⟩ (Nat.le_refl _)
 have ej:=Lib.splitB_all ⟨#[32]⟩ (Nat.le_refl _) 0 _ ⟨s.toArray⟩ rfl
 have hz:(⟨s.toArray⟩:ByteArray).size=s.length:=wJ s
 have K5:=congrArg List.length (QR s)
 rw[List.length_map,ej,tD]at K5;refine(Any.strings_genSplit_core Tryz.tm hi9 ⟨s.toArray⟩ ⟨#[32]⟩ 0 (-1) (Lib.countB ⟨s.toArray⟩ ⟨#[32]⟩+1) w (by rw[hz];omega) (Nat.le_refl _) (Nat.zero_le _) (fun x c _=> ?_) ?_ (by decide) (by decide) (by rw[if_pos (by decide)];omega)).mono ?_
 ·refine(Any.strings_Index_one {Tryz.tm with} x 32 _).mono fun e w' ⟨h1,h2⟩=>⟨?_,h2⟩
  rw[h1,←Lib.index_one]
 ·refine(Any.strings_Count_one {Tryz.tm with} ⟨s.toArray⟩ 32 w).mono fun e w' ⟨h1,h2⟩=>⟨?_,h2⟩
  rw[h1]
  show _=Ending.returned (Value.int .i64 ((Lib.count (⟨s.toArray⟩:ByteArray).data.toList [32]:Nat):Int))
  rw[Lib.count_one];rfl
 ·rintro e w' ⟨rfl,rfl⟩
  have e2:Lib.cellsOf (Lib.splitB ⟨#[32]⟩ 0 (Lib.countB ⟨s.toArray⟩ ⟨#[32]⟩) ⟨s.toArray⟩) (Lib.countB ⟨s.toArray⟩ ⟨#[32]⟩+1)=(rows dH (fN s)).toArray:=by rw[←QR,←ej];exact Lib.cellsOf_full _
  rw[Nat.add_sub_cancel,e2,ej,K5];exact⟨rfl,rfl⟩
theorem L3:(Tryz.prog.info? (Tryz.ou.t 116)).map (fun i=>(i.zero,i.size))=some (some (.agg (Array.replicate 256 (.bool false))),256):=by kernel_rfl
theorem BW (s:ax):fG Tryz.prog 24 #[sv s,sv [60,62,126]] [u8] (sv (s.dropWhile kK)):=
 fG.jq fun w _=>by
  have:=Any.strings_TrimLeft_laid Tryz.GF L3 ⟨s.toArray⟩ ⟨#[60,62,126]⟩ w (by decide) (fun j b h=>by
   have:∀b∈([60,62,126]:ax),b.toNat<128:=by decide
   exact this b (List.mem_of_getElem? h))
  rw[W5]at this;exact this
def wg (m:List (ax×Value))(vs:List bL):Prop:=∀a,jy m a=(cr vs a).map fun i:Nat=>iv (i:Int)
theorem qz (vs:List bL)(v:bL)(a:ax):cr (vs++ [v]) a=match cr vs a with|some i=>some i|none=>if v.name=a then some vs.length else none:=by
 induction vs with
 |nil=>simp[cr]
 |cons u vs ih=>
  rw[List.cons_append,cr,cr]
  by_cases e:u.name=a
  ·rw[if_pos e,if_pos e]
  ·rw[if_neg e,if_neg e,ih]
   cases cr vs a with
   |some i=>rfl
   |none=>by_cases e2:v.name=a<;>simp[e2]
theorem wg.wi {m:List (ax×Value)}{vs:List bL}(h:wg m vs){v:bL}(hk:(jy m v.name).isSome=true):wg m (vs++ [v]):=fun a=>by
 rw[qz,h a];rw[h v.name]at hk
 cases e:cr vs a with
 |some i=>rfl
 |none=>
  dsimp only
  rw[if_neg (fun e2=>by rw[e2,e]at hk;cases hk)]
theorem wg.new {m:List (ax×Value)}{vs:List bL}(h:wg m vs){v:bL}(hk:(jy m v.name).isSome=false):wg (gZ m v.name (iv vs.length)) (vs++ [v]):=fun a=>by
 rw[qz,vC]
 have hn:cr vs v.name=none:=by rw[h v.name]at hk;cases e:cr vs v.name with
  |none=>rfl
  |some i=>rw[e]at hk;cases hk
 by_cases e:a=v.name
 ·subst e;rw[if_pos rfl,hn];dsimp only;rw[if_pos rfl];rfl
 ·rw[if_neg e,h a]
  cases cr vs a with
  |some i=>rfl
  |none=>dsimp only;rw[if_neg (fun h=>e h.symm)]
theorem tE {run:ax}{j:Nat}:jG run (j+1)=if cn.getD j []=run then(j:Int)else jG run j:=rfl
theorem BX {s:ax}(h0:¬(lM s=0∨lM s=s.length))(nP:s.getD (lM s) 0≠58):dE s=if jG ((s.drop (lM s)).takeWhile kK) 6=0∨isName ((s.drop (lM s)).dropWhile kK)=false then none else some (.inr (jG ((s.drop (lM s)).takeWhile kK) 6,s.take (lM s),(s.drop (lM s)).dropWhile kK)):=by
 unfold dE;rw[if_neg h0,if_neg nP,Ht]
 split<;>rfl
theorem FA (r:ax):r.take (r.length-(r.dropWhile kK).length)=r.takeWhile kK:=by
 have h:=List.takeWhile_append_dropWhile (p:=kK) (l:=r)
 have hl:=congrArg List.length h
 rw[List.length_append]at hl
 conv=>lhs;rw[←h]
 rw[List.take_left']
 rw[h];omega
theorem r4 {run:ax}:∀j:Nat,0≤jG run j∧(jG run j=0∨jG run j<j)
 |0=>⟨Int.le_refl _,.inl rfl⟩
 |j+1=>by
  have ih:=r4 (run:=run) j
  rw[tE]
  split
  ·exact⟨by omega,.inr (by omega)⟩
  ·exact⟨ih.1,by omega⟩
theorem zA (s:ax)(hs:s.length≤1000000):eI Tryz.prog 21 #[sv s,sv [32]] [] (fun v H'=>∃b,v= .slice (some ⟨b,0,none⟩) (fN s).length (fN s).length∧H'=[row v 9 1 (fN s).length (rows dH (fN s))]):=by
 refine eI.body (args:=[sv s,sv [32]]) 8 Tryz.func21 rfl Tryz.ntmps21 rfl (fun c=> ?_);refine St.cast (H':=[]) rfl ?_;refine St.sr ?_;refine St.ao ?_;refine St.nn (St.sr ?_);refine St.mv ?_;refine St.mv ?_;refine St.call (ri s hs) Vp (.cons (.mk rfl) (.cons (.mk rfl) (.cons (.mk rfl) (.cons (.mk rfl) .nil)))) rfl ?_;rintro v7 _ ⟨b,rfl,rfl⟩;refine St.aC ?_;refine St.ao ?_;refine St.nn (St.ae ?_);refine St.rU [_] [row (.slice (some ⟨b,0,none⟩) (fN s).length (fN s).length) 9 1 (fN s).length (rows dH (fN s))] Tryz.results21 ?_;exact⟨b,rfl,rfl⟩
end Go.Proofs.YtoioijgdggkabaaGreatDoor
