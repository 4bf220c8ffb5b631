/-
  Laws of walks through programs, and facts on grammars, trees and queries.
  Conditions: none.
-/
import Derived.Test.YtolmidffiegkaaaGreatDoorGA7
import Derived.Test.YtolmidffiegkaaaGreatDoorGA2
import Derived.Test.YtolmidffiegkaaaGreatDoorGA1
import Derived.Laws.Slices
import Derived.Laws.Strings2
import Derived.Laws.RangeAny
set_option maxRecDepth 20000
set_option linter.unusedSimpArgs false
set_option linter.unusedVariables false
namespace Go.Proofs.YtolmidffiegkaaaGreatDoor
open Go Go.J
theorem pN (s:cQ)(hs:s.length≤9223372036854775807):ct Tryz.prog 36 #[sv s] [] (.bool (isName s)):=by
 refine ct.jA (args:=[sv s]) 54 Tryz.func36 rfl Tryz.ntmps36 rfl (fun c=> ?_);refine St.sr ?_;refine St.ak ?_;refine St.nn (St.seq (St.sr ?_));refine St.mv ?_;refine St.ee (Ev.gx (.mk rfl) df) ?_;refine St.ee Ev.dn ?_;refine St.mv ?_;refine St.gf _ rfl rfl (fun hg=>Ev.move (.mk rfl)) rfl ?_;refine St.gf _ rfl rfl (fun hg=>Ev.gx (aL.gv rfl hg) df) rfl ?_;refine St.gf _ rfl rfl (fun hg=>Ev.gtr (aL.gv rfl hg) (.mk rfl)) rfl ?_;refine St.ee Ev.o0 ?_;refine St.nn ?_;refine St.cond _ rfl (fun pF=> ?_) (fun pF=> ?_)
 ·try simp only[aC]at pF
  refine St.sr ?_;refine St.ak ?_;refine St.nn (St.aX (St.aB ?_));refine St.rU [_] [] Tryz.results36 ?_;exact be (gD (by omega)).symm
 ·try simp only[aC]at pF
  refine St.skip (St.aA (St.seq (St.sr ?_)));refine St.mv ?_;refine St.Iv (.mk rfl) hs df Tryz.underlying138 DG rfl (fun XZ=> ?_);refine St.ee (Ev.ao (.mk rfl) Tryz.underlying138) ?_;refine St.mv ?_;refine St.nn (St.block ?_);refine St.lS (ι:=Nat) (fun k T=>(18,iv k)::T) (fun k=>k≤s.length∧(s.take k).all du=true∧(0<k→low (s.getD 0 0)=true)) (fun k=>s.length-k) 0 (aE.cons 16 rfl (aE.cons 17 rfl aE.nil)) ⟨Nat.zero_le _,rfl,by omega⟩ ?_;intro k dA;obtain⟨hk,eP,Ae⟩:=dA;refine St.sr ?_;refine St.ee Ev.dn ?_;refine St.nn (St.seq ?_);refine St.cond _ rfl (fun gY=> ?_) (fun gY=> ?_)
  ·try simp only[aC]at gY
   refine St.skip (St.aA (St.seq (St.block (St.sr ?_))));refine St.mv ?_;refine St.ee (Ev.aR (k:=k) (.mk rfl) (.mk rfl) Tryz.underlying138 sz5 (by omega) (by omega)) ?_;refine St.ee (Ev.ff (.mk rfl) (by first|assumption|exact jq 0 (by omega)) DG trivial rfl) ?_;refine St.ak ?_;refine St.ak ?_;refine St.nn (St.sr ?_);refine St.mv ?_;refine St.ee Ev.qV ?_;refine St.mv ?_;refine St.gt _ rfl rfl (fun hg=>Ev.move (.mk rfl)) rfl ?_;refine St.gt _ rfl rfl (fun hg=>Ev.leq (aL.gv rfl hg) (.mk rfl)) rfl ?_;refine St.ee Ev.n0 ?_;refine St.ak ?_;refine St.nn (St.sr ?_);refine St.mv ?_;refine St.ee Ev.qV ?_;refine St.mv ?_;refine St.gt _ rfl rfl (fun hg=>Ev.move (.mk rfl)) rfl ?_;refine St.gt _ rfl rfl (fun hg=>Ev.leq (aL.gv rfl hg) (.mk rfl)) rfl ?_;refine St.ee Ev.n0 ?_;refine St.mv ?_;refine St.gf _ rfl rfl (fun hg=>Ev.move (.mk rfl)) rfl ?_;refine St.gf _ rfl rfl (fun hg=>Ev.eql (aL.gv rfl hg) (.mk rfl)) rfl ?_;refine St.ee Ev.o0 ?_;refine St.mv ?_;refine St.gf _ rfl rfl (fun hg=>Ev.move (.mk rfl)) rfl ?_;refine St.gf _ rfl rfl (fun hg=>Ev.eql (aL.gv rfl hg) (.mk rfl)) rfl ?_;refine St.ee Ev.o0 ?_;refine St.ak ?_;refine St.nn (St.sr ?_);refine St.mv ?_;refine St.ee (Ev.not (.mk rfl)) ?_;refine St.mv ?_;refine St.gt _ rfl rfl (fun hg=>Ev.move (.mk rfl)) rfl ?_;refine St.gt _ rfl rfl (fun hg=>Ev.not (aL.gv rfl hg)) rfl ?_;refine St.gt _ rfl rfl (fun hg=>Ev.move (aL.gv rfl hg)) rfl ?_;refine St.lR _ rfl rfl (fun hg=>Ev.move (.mk rfl)) rfl ?_;refine St.lR _ rfl rfl (fun hg=>Ev.eql (aL.gv rfl hg) (.mk rfl)) rfl ?_;refine St.gt _ rfl rfl (fun hg=>Ev.or (aL.gv rfl hg) (fun hp=>aL.gv rfl (hN hg hp))) rfl ?_;refine St.ee Ev.n0 ?_;refine St.nn ?_;refine St.cond _ rfl (fun Ep=> ?_) (fun Ep=> ?_)
   ·try simp only[aC]at Ep
    refine St.sr ?_;refine St.ak ?_;refine St.nn (St.aX (St.aM (St.aB (St.aB (St.aM (St.aB ?_))))));refine St.rU [_] [] Tryz.results36 ?_
    rcases Nat.eq_zero_or_pos k with rfl|h0
    ·exact be (gD (by omega)).symm
    ·exact be (kU (k:=k) (by omega) (by simp only[du,low,digit,Bool.and_eq_false_iff,Bool.or_eq_false_iff,decide_eq_false_iff_not];omega)).symm
   ·try simp only[aC]at Ep
    refine St.skip (St.aN (St.aA (St.rg ?_)));refine St.ee Ev.a0 ?_;refine St.mv ?_;refine St.nn ?_
    have hy:k+1≤s.length∧(s.take (k+1)).all du=true∧(0<k+1→low (s.getD 0 0)=true):=by
     refine⟨by omega,j7 (d:=0) eP (by simp only[du,low,digit,Bool.and_eq_true,Bool.or_eq_true,decide_eq_true_eq];omega),fun _=> ?_⟩
     rcases Nat.eq_zero_or_pos k with rfl|h0
     ·simp only[low,Bool.and_eq_true,decide_eq_true_eq];omega
     ·exact Ae h0
    refine St.aS (k+1) hy
  ·try simp only[aC]at gY
   refine St.exit (St.aF (St.aF (St.bH (St.aA (St.sr ?_)))));refine St.ak ?_;refine St.nn (St.aX ?_);refine St.rU [_] [] Tryz.results36 ?_;exact be (kV (by omega) (by omega) (Ae (by omega)) (kT eP (by omega))).symm
theorem CW (s:cQ)(hs:s.length≤9223372036854775807):ct Tryz.prog 123 #[sv s] [] (.bool (isName s)):=by
 refine ct.jA (args:=[sv s]) 62 Tryz.func123 rfl Tryz.ntmps123 rfl (fun c=> ?_);refine St.sr ?_;refine St.ak ?_;refine St.nn (St.seq (St.sr ?_));refine St.mv ?_;refine St.ee (Ev.gx (.mk rfl) df) ?_;refine St.ee Ev.dn ?_;refine St.mv ?_;refine St.gf _ rfl rfl (fun hg=>Ev.move (.mk rfl)) rfl ?_;refine St.gf _ rfl rfl (fun hg=>Ev.gx (aL.gv rfl hg) df) rfl ?_;refine St.gf _ rfl rfl (fun hg=>Ev.gtr (aL.gv rfl hg) (.mk rfl)) rfl ?_;refine St.ee Ev.o0 ?_;refine St.nn ?_;refine St.cond _ rfl (fun CX=> ?_) (fun CX=> ?_)
 ·try simp only[aC]at CX
  refine St.sr ?_;refine St.ak ?_;refine St.nn (St.aX (St.aB ?_));refine St.rU [_] [] Tryz.results123 ?_;exact be (gD (by omega)).symm
 ·try simp only[aC]at CX
  refine St.skip (St.aA (St.seq (St.sr ?_)));refine St.ak ?_;refine St.nn (St.block ?_);refine St.lS (ι:=Nat) (fun k T=>(3,iv k)::T) (fun k=>k≤s.length∧(s.take k).all du=true∧(0<k→low (s.getD 0 0)=true)) (fun k=>s.length-k) 0 (aE.cons 0 rfl aE.nil) ⟨Nat.zero_le _,rfl,by omega⟩ ?_;intro k dA;obtain⟨hk,eP,Ae⟩:=dA;refine St.seq (St.sr ?_);refine St.mv ?_;refine St.mv ?_;refine St.ee (Ev.gx (.mk rfl) df) ?_;refine St.ee Ev.dn ?_;refine St.nn ?_;refine St.cond _ rfl (fun m8=> ?_) (fun m8=> ?_)
  ·try simp only[aC]at m8
   refine St.skip (St.aA (St.seq (St.block (St.sr ?_))));refine St.mv ?_;refine St.mv ?_;refine St.ee (Ev.en (.mk rfl) (.mk rfl) df rfl (by omega)) ?_;refine St.ee Ev.Jm ?_;refine St.mv ?_;refine St.gt _ rfl rfl (fun hg=>Ev.move (.mk rfl)) rfl ?_;refine St.gt _ rfl rfl (fun hg=>Ev.move (.mk rfl)) rfl ?_;refine St.gt _ rfl rfl (fun hg=>Ev.en (aL.gv rfl hg) (aL.gv rfl hg) df rfl (by first|omega|(simp only[aC]at hg;omega))) rfl ?_;refine St.gt _ rfl rfl (fun hg=>Ev.leq (aL.gv rfl hg) (.mk rfl)) rfl ?_;refine St.ee Ev.n0 ?_;refine St.ak ?_;refine St.nn (St.sr ?_);refine St.mv ?_;refine St.mv ?_;refine St.ee (Ev.en (.mk rfl) (.mk rfl) df rfl (by omega)) ?_;refine St.ee Ev.Jm ?_;refine St.mv ?_;refine St.gt _ rfl rfl (fun hg=>Ev.move (.mk rfl)) rfl ?_;refine St.gt _ rfl rfl (fun hg=>Ev.move (.mk rfl)) rfl ?_;refine St.gt _ rfl rfl (fun hg=>Ev.en (aL.gv rfl hg) (aL.gv rfl hg) df rfl (by first|omega|(simp only[aC]at hg;omega))) rfl ?_;refine St.gt _ rfl rfl (fun hg=>Ev.leq (aL.gv rfl hg) (.mk rfl)) rfl ?_;refine St.ee Ev.n0 ?_;refine St.mv ?_;refine St.gf _ rfl rfl (fun hg=>Ev.move (.mk rfl)) rfl ?_;refine St.gf _ rfl rfl (fun hg=>Ev.move (.mk rfl)) rfl ?_;refine St.gf _ rfl rfl (fun hg=>Ev.en (aL.gv rfl hg) (aL.gv rfl hg) df rfl (by first|omega|(simp only[aC]at hg;omega))) rfl ?_;refine St.gf _ rfl rfl (fun hg=>Ev.eql (aL.gv rfl hg) (.mk rfl)) rfl ?_;refine St.ee Ev.o0 ?_;refine St.mv ?_;refine St.gf _ rfl rfl (fun hg=>Ev.move (.mk rfl)) rfl ?_;refine St.gf _ rfl rfl (fun hg=>Ev.move (.mk rfl)) rfl ?_;refine St.gf _ rfl rfl (fun hg=>Ev.en (aL.gv rfl hg) (aL.gv rfl hg) df rfl (by first|omega|(simp only[aC]at hg;omega))) rfl ?_;refine St.gf _ rfl rfl (fun hg=>Ev.eql (aL.gv rfl hg) (.mk rfl)) rfl ?_;refine St.ee Ev.o0 ?_;refine St.ak ?_;refine St.nn (St.sr ?_);refine St.mv ?_;refine St.ee (Ev.not (.mk rfl)) ?_;refine St.mv ?_;refine St.gt _ rfl rfl (fun hg=>Ev.move (.mk rfl)) rfl ?_;refine St.gt _ rfl rfl (fun hg=>Ev.eql (aL.gv rfl hg) (.mk rfl)) rfl ?_;refine St.gt _ rfl rfl (fun hg=>Ev.move (aL.gv rfl hg)) rfl ?_;refine St.lR _ rfl rfl (fun hg=>Ev.move (.mk rfl)) rfl ?_;refine St.lR _ rfl rfl (fun hg=>Ev.not (aL.gv rfl hg)) rfl ?_;refine St.gt _ rfl rfl (fun hg=>Ev.or (aL.gv rfl hg) (fun hp=>aL.gv rfl (hN hg hp))) rfl ?_;refine St.ee Ev.n0 ?_;refine St.nn ?_;refine St.cond _ rfl (fun BC=> ?_) (fun BC=> ?_)
   ·try simp only[aC]at BC
    refine St.sr ?_;refine St.ak ?_;refine St.nn (St.aX (St.aM (St.aB (St.aB (St.aM (St.aB ?_))))));refine St.rU [_] [] Tryz.results123 ?_
    rcases Nat.eq_zero_or_pos k with rfl|h0
    ·exact be (gD (by omega)).symm
    ·exact be (kU (k:=k) (by omega) (by simp only[du,low,digit,Bool.and_eq_false_iff,Bool.or_eq_false_iff,decide_eq_false_iff_not];omega)).symm
   ·try simp only[aC]at BC
    refine St.skip (St.aN (St.aA (St.rg ?_)));refine St.mv ?_;refine St.ee Ev.a0 ?_;refine St.ak ?_;refine St.nn ?_
    have hy:k+1≤s.length∧(s.take (k+1)).all du=true∧(0<k+1→low (s.getD 0 0)=true):=by
     refine⟨by omega,j7 (d:=0) eP (by simp only[du,low,digit,Bool.and_eq_true,Bool.or_eq_true,decide_eq_true_eq];omega),fun _=> ?_⟩
     rcases Nat.eq_zero_or_pos k with rfl|h0
     ·simp only[low,Bool.and_eq_true,decide_eq_true_eq];omega
     ·exact Ae h0
    refine St.aS (k+1) hy
  ·try simp only[aC]at m8
   refine St.exit (St.aF (St.aF (St.bH (St.aA (St.sr ?_)))));refine St.ak ?_;refine St.nn (St.aX ?_);refine St.rU [_] [] Tryz.results123 ?_;exact be (kV (by omega) (by omega) (Ae (by omega)) (kT eP (by omega))).symm
theorem s8 (s:cQ)(hs:s.length≤9223372036854775807):ct Tryz.prog 27 #[sv s] [] (.bool (isName s)):=by
 refine ct.jA (args:=[sv s]) 52 Tryz.func27 rfl Tryz.ntmps27 rfl (fun c=> ?_);refine St.sr ?_;refine St.ak ?_;refine St.nn (St.seq (St.sr ?_));refine St.mv ?_;refine St.ee (Ev.gx (.mk rfl) df) ?_;refine St.ee Ev.dn ?_;refine St.mv ?_;refine St.gf _ rfl rfl (fun hg=>Ev.move (.mk rfl)) rfl ?_;refine St.gf _ rfl rfl (fun hg=>Ev.gx (aL.gv rfl hg) df) rfl ?_;refine St.gf _ rfl rfl (fun hg=>Ev.gtr (aL.gv rfl hg) (.mk rfl)) rfl ?_;refine St.ee Ev.o0 ?_;refine St.nn ?_;refine St.cond _ rfl (fun CX=> ?_) (fun CX=> ?_)
 ·try simp only[aC]at CX
  refine St.sr ?_;refine St.ak ?_;refine St.nn (St.aX (St.aB ?_));refine St.rU [_] [] Tryz.results27 ?_;exact be (gD (by omega)).symm
 ·try simp only[aC]at CX
  refine St.skip (St.aA (St.seq (St.sr ?_)));refine St.ak ?_;refine St.nn (St.block ?_);refine St.lS (ι:=Nat) (fun k T=>(3,iv k)::T) (fun k=>k≤s.length∧(s.take k).all du=true∧(0<k→low (s.getD 0 0)=true)) (fun k=>s.length-k) 0 (aE.cons 0 rfl aE.nil) ⟨Nat.zero_le _,rfl,by omega⟩ ?_;intro k dA;obtain⟨hk,eP,Ae⟩:=dA;refine St.seq (St.sr ?_);refine St.mv ?_;refine St.mv ?_;refine St.ee (Ev.gx (.mk rfl) df) ?_;refine St.ee Ev.dn ?_;refine St.nn ?_;refine St.cond _ rfl (fun m8=> ?_) (fun m8=> ?_)
  ·try simp only[aC]at m8
   refine St.skip (St.aA (St.seq (St.block (St.sr ?_))));refine St.mv ?_;refine St.mv ?_;refine St.ee (Ev.en (.mk rfl) (.mk rfl) df rfl (by omega)) ?_;refine St.ak ?_;refine St.nn (St.sr ?_);refine St.mv ?_;refine St.ee Ev.qV ?_;refine St.mv ?_;refine St.gt _ rfl rfl (fun hg=>Ev.move (.mk rfl)) rfl ?_;refine St.gt _ rfl rfl (fun hg=>Ev.leq (aL.gv rfl hg) (.mk rfl)) rfl ?_;refine St.ee Ev.n0 ?_;refine St.ak ?_;refine St.nn (St.sr ?_);refine St.mv ?_;refine St.ee (Ev.not (.mk rfl)) ?_;refine St.mv ?_;refine St.gt _ rfl rfl (fun hg=>Ev.move (.mk rfl)) rfl ?_;refine St.gt _ rfl rfl (fun hg=>Ev.eql (aL.gv rfl hg) (.mk rfl)) rfl ?_;refine St.gt _ rfl rfl (fun hg=>Ev.move (aL.gv rfl hg)) rfl ?_;refine St.lR _ rfl rfl (fun hg=>Ev.move (.mk rfl)) rfl ?_;refine St.lR _ rfl rfl (fun hg=>Ev.geq (aL.gv rfl hg) (.mk rfl)) rfl ?_;refine St.lR _ rfl rfl (fun hg=>Ev.move (aL.gv rfl hg)) rfl ?_;refine St.oZ _ rfl rfl (fun hg=>Ev.move (.mk rfl)) rfl ?_;refine St.oZ _ rfl rfl (fun hg=>Ev.leq (aL.gv rfl hg) (.mk rfl)) rfl ?_;refine St.lR _ rfl rfl (fun hg=>Ev.and (aL.gv rfl hg) (fun hp=>aL.gv rfl (hN hg hp))) rfl ?_;refine St.lR _ rfl rfl (fun hg=>Ev.not (aL.gv rfl hg)) rfl ?_;refine St.lR _ rfl rfl (fun hg=>Ev.move (aL.gv rfl hg)) rfl ?_;refine St.oZ _ rfl rfl (fun hg=>Ev.move (.mk rfl)) rfl ?_;refine St.oZ _ rfl rfl (fun hg=>Ev.neq (aL.gv rfl hg) (.mk rfl)) rfl ?_;refine St.lR _ rfl rfl (fun hg=>Ev.and (aL.gv rfl hg) (fun hp=>aL.gv rfl (hN hg hp))) rfl ?_;refine St.lR _ rfl rfl (fun hg=>Ev.move (aL.gv rfl hg)) rfl ?_;refine St.oZ _ rfl rfl (fun hg=>Ev.move (.mk rfl)) rfl ?_;refine St.oZ _ rfl rfl (fun hg=>Ev.neq (aL.gv rfl hg) (.mk rfl)) rfl ?_;refine St.lR _ rfl rfl (fun hg=>Ev.and (aL.gv rfl hg) (fun hp=>aL.gv rfl (hN hg hp))) rfl ?_;refine St.gt _ rfl rfl (fun hg=>Ev.or (aL.gv rfl hg) (fun hp=>aL.gv rfl (hN hg hp))) rfl ?_;refine St.ee Ev.n0 ?_;refine St.nn ?_;refine St.cond _ rfl (fun Kv=> ?_) (fun Kv=> ?_)
   ·try simp only[aC]at Kv
    refine St.sr ?_;refine St.ak ?_;refine St.nn (St.aX (St.aM (St.aB (St.aB (St.aM (St.aB ?_))))));refine St.rU [_] [] Tryz.results27 ?_
    rcases Nat.eq_zero_or_pos k with rfl|h0
    ·exact be (gD (by omega)).symm
    ·exact be (kU (k:=k) (by omega) (by simp only[du,low,digit,Bool.and_eq_false_iff,Bool.or_eq_false_iff,decide_eq_false_iff_not];omega)).symm
   ·try simp only[aC]at Kv
    refine St.skip (St.aN (St.aA (St.rg ?_)));refine St.mv ?_;refine St.ee Ev.a0 ?_;refine St.ak ?_;refine St.nn ?_
    have hy:k+1≤s.length∧(s.take (k+1)).all du=true∧(0<k+1→low (s.getD 0 0)=true):=by
     refine⟨by omega,j7 (d:=0) eP (by simp only[du,low,digit,Bool.and_eq_true,Bool.or_eq_true,decide_eq_true_eq];omega),fun _=> ?_⟩
     rcases Nat.eq_zero_or_pos k with rfl|h0
     ·simp only[low,Bool.and_eq_true,decide_eq_true_eq];omega
     ·exact Ae h0
    refine St.aS (k+1) hy
  ·try simp only[aC]at m8
   refine St.exit (St.aF (St.aF (St.bH (St.aA (St.sr ?_)))));refine St.ak ?_;refine St.nn (St.aX ?_);refine St.rU [_] [] Tryz.results27 ?_;exact be (kV (by omega) (by omega) (Ae (by omega)) (kT eP (by omega))).symm
theorem oS.mono {l:List dc}{a i j:Nat}{M:List Bool}(h:oS l a i M)(Od:i≤j):oS l a j M:=⟨h.len,h.snd,h.top,fun y t hy=>h.cls y t (by omega)⟩
set_option maxHeartbeats 1000000 in
theorem xF (tv:Value)(ts:List jj)(hT:iJ (ts.map bf))(a b:Nat)(ha:a<ts.length)(hb:b<ts.length):ct Tryz.prog 79 #[tv,iv a,iv b] [sl e6 tv ts,aY ew ts] (.bool (e9 (ts.map bf) a b)):=by
 refine ct.mw (args:=[tv,iv a,iv b]) 45 Tryz.func79 rfl Tryz.ntmps79 rfl (fun c=> ?_);refine St.seq ?_
 have sO:(ts.map bf).length=ts.length:=List.length_map ..
 have vT:=hT.len
 refine St.wf tv (fun qY _=> ?_);refine St.rg ?_;refine St.ak ?_;refine St.nn (St.sr ?_);refine St.mv ?_;refine St.ee (Ev.ao (.mk rfl) eW) ?_;refine St.gB (m:=ts.length) (.mk rfl) (.mk rfl) ft qW Wr Ws rfl rfl (by omega) rfl rfl (fun NY=> ?_);refine St.bB (.slice (some ⟨NY,0,none⟩) ts.length ts.length) rfl (pz _) ?_;refine St.ak ?_;refine St.nn (St.sr ?_);refine St.mv ?_;refine St.mv ?_;refine St.ee (Ev.cK (k:=a) (.mk rfl) (.mk rfl) ft qW (by omega) (by omega)) ?_;refine St.dH (.mk rfl) (.mk rfl) qW rfl (by omega) (by decide) ?_;refine St.bB (.slice (some ⟨NY,0,none⟩) ts.length ts.length) rfl kG ?_;refine St.nn (St.seq (St.sr ?_));refine St.mv ?_;refine St.ak ?_;refine St.nn (St.block ?_);refine St.mf (ι:=Nat) (κ:=List Bool) (fun i M T=>(8,iv i)::T) (fun i M=>[row (.slice (some ⟨NY,0,none⟩) ts.length ts.length) 4 1 ts.length (rows eE (M)),aG (sl e6 tv ts),aG (aY ew ts)]) (fun i M=>oS (ts.map bf) a i M∧i≤a) (fun i M=>i) a ((List.replicate ts.length false).set a true) (aE.cons 0 rfl (aE.cons 2 rfl (aE.cons 6 rfl (aE.cons 7 rfl aE.nil)))) ⟨by have:=oS.start hT (a:=a) (by omega);rw[sO]at this;exact this,Nat.le_refl _⟩ ?_;rintro i M ⟨hM,Qm⟩
 have hML:=hM.len
 refine St.seq (St.sr ?_);refine St.mv ?_;refine St.mv ?_;refine St.ee Ev.qn ?_;refine St.nn ?_;refine St.cond _ rfl (fun oW=> ?_) (fun oW=> ?_)
 ·try simp only[aC]at oW
  obtain⟨j,rfl⟩:∃j,i=j+1:=⟨i-1,by omega⟩
  obtain⟨bm,hbm⟩:=aO (show j+1<M.length by omega);obtain⟨t,ht⟩:=aO (show j+1<ts.length by omega)
  have lU:=List.mem_of_getElem? ht
  have hte:(ts.map bf)[j+1]?=some (bf t):=by rw[List.getElem?_map,ht];rfl
  refine St.cD ew ts (x:=t) lU ?_;refine St.gQ (sl aK t.pv.1 t.parents) [ew t] (fun ρ h=>h _ (List.mem_cons_self ..)) ?_;refine St.wf t.pv.1 (fun Kz DL=> ?_);refine St.skip (St.aA (St.seq (St.block (St.sr ?_))));refine St.mv ?_;refine St.mv ?_;refine St.ee (Ev.cK (k:=(j+1)) (.mk rfl) (.mk rfl) ft qW (by omega) (by omega)) ?_;refine St.ee (Ev.hS (.mk rfl) sJ trivial (by omega) (py hbm)) ?_;refine St.nn ?_;refine St.cond _ rfl (fun BB=> ?_) (fun BB=> ?_)
  ·skip
   have hmt:M[j+1]?=some true:=by rw[hbm];cases bm;cases BB;rfl
   have acZ:zw (ts.map bf) a (j+1) (bf t) 0 M:=⟨hM,hmt,fun p hp=>by rw[List.take_zero]at hp;cases hp⟩
   refine St.sr ?_;refine St.mv ?_;refine St.mv ?_;refine St.ee (Ev.aR (k:=(j+1)) (.mk rfl) (.mk rfl) eW im (by omega) (by omega)) ?_;refine St.ee (Ev.e8 (.mk rfl) (by omega) kk) ?_;refine St.ee (Ev.ff (.mk rfl) ht bE trivial rfl) ?_;refine St.ee (Ev.ao (.mk rfl) bE) ?_;refine St.mv ?_;refine St.nn (St.block ?_);refine St.mf (ι:=Nat) (κ:=List Bool) (fun q W T=>(33,iv q)::T) (fun q W=>[row (.slice (some ⟨NY,0,none⟩) ts.length ts.length) 4 1 ts.length (rows eE (W)),aG (sl aK t.pv.1 t.parents),aG (sl e6 tv ts),aG (aY ew ts)]) (fun q W=>q≤t.parents.length∧zw (ts.map bf) a (j+1) (bf t) q W) (fun q W=>t.parents.length-q) 0 M (aE.cons 0 rfl (aE.cons 2 rfl (aE.cons 6 rfl (aE.cons 7 rfl (aE.cons 8 rfl (aE.cons 31 rfl (aE.cons 32 rfl aE.nil))))))) ⟨Nat.zero_le _,acZ⟩ ?_;rintro q W ⟨hq,oC⟩
   have hWL:=oC.ok.len
   refine St.sr ?_;refine St.ee Ev.dn ?_;refine St.nn (St.seq ?_);refine St.cond _ rfl (fun CR=> ?_) (fun CR=> ?_)
   ·try simp only[aC]at CR
    obtain⟨p,hp⟩:=aO (show q<t.parents.length by omega)
    have hpe:(bf t).2[q]?=some p:=hp
    have PS:=hT.par (j+1) (bf t) hte p (List.mem_of_getElem? hpe)
    refine St.skip (St.aA (St.seq (St.block (St.sr ?_))));refine St.ee (Ev.aR (k:=q) (.mk rfl) (.mk rfl) bE cr (by omega) (by omega)) ?_;refine St.ee (Ev.ff (.mk rfl) hp bP trivial rfl) ?_;refine St.ak ?_;refine St.nn (St.rg ?_);refine St.mv ?_;refine St.mv ?_;refine St.ee (Ev.cK (k:=p.toNat) (.mk rfl) (.mk rfl) ft qW (by omega) (by omega)) ?_;refine St.dH (.mk rfl) (.mk rfl) qW rfl (by omega) (by decide) ?_;refine St.bB (.slice (some ⟨NY,0,none⟩) ts.length ts.length) rfl kG ?_;refine St.nil (St.aN (St.aA (St.rg ?_)));refine St.ee Ev.a0 ?_;refine St.mv ?_;refine St.nn ?_;refine St.jb (q+1) (W.set p.toNat true) ⟨by omega,oC.step hT hte hpe⟩
   ·try simp only[aC]at CR
    obtain rfl:q=t.parents.length:=by omega
    have hdn:=zw.done (t:=bf t) oC hte
    refine St.exit (St.aF (St.aF (St.bH (St.aN (St.aA (St.rg ?_))))));refine St.mv ?_;refine St.ee Ev.s0 ?_;refine St.ak ?_;refine St.nn ?_;refine St.jb j W ⟨hdn,by omega⟩
  ·skip
   have ry:M[j+1]?≠some true:=by rw[hbm];cases bm;exact(by decide);cases BB
   have F2:=hM.skip ry
   refine St.skip (St.aN (St.aA (St.rg ?_)));refine St.mv ?_;refine St.ee Ev.s0 ?_;refine St.ak ?_;refine St.nn ?_;refine St.jb j M ⟨F2,by omega⟩
 ·try simp only[aC]at oW
  have nS:=(hM.mono (show i≤b by omega)).fin hT (show b<(ts.map bf).length by omega)
  refine St.exit (St.aF (St.aF (St.bH (St.aA (St.sr ?_)))));refine St.mv ?_;refine St.mv ?_;refine St.ee (Ev.cK (k:=b) (.mk rfl) (.mk rfl) ft qW (by omega) (by omega)) ?_;refine St.ee (Ev.hS (.mk rfl) sJ trivial (by omega) (py nS)) ?_;refine St.ak ?_;refine St.nn (St.aX ?_);refine St.rU [_] [] Tryz.results79 ?_;rfl
theorem J1 (g:iE)(M:List Bool)(q:Nat):((List.range q).foldl (jD g) M).length=M.length:=(kq.fold (fun M i=>kq.node g M i) _ M).1.symm
theorem J2 (i:Nat)(l:List (Int×Int))(M:List Bool):(l.foldl (ij i) M).length=M.length:=(kq.fold (fun M x=>kq.mark i M x) _ M).1.symm
theorem CY (g:iE)(M:List Bool)(q:Nat):(List.range (q+1)).foldl (jD g) M=jD g ((List.range q).foldl (jD g) M) q:=by rw[List.range_succ,List.foldl_append];rfl
theorem FM {i r:Nat}{l:List (Int×Int)}{x:Int×Int}(h:l[r]?=some x)(M:List Bool):(l.take (r+1)).foldl (ij i) M=ij i ((l.take r).foldl (ij i) M) x:=by rw[bI h,List.foldl_append];rfl
theorem MA {i:Nat}{M:List Bool}(h:M[i]?=some true)(x:Int×Int):ij i M x=M.set x.2.toNat true:=by unfold ij;rw[List.getD_eq_getElem?_getD,h];rfl
theorem MB {i:Nat}{M:List Bool}(h:M[i]?=some false)(x:Int×Int):ij i M x=M:=by unfold ij;rw[List.getD_eq_getElem?_getD,h];rfl
set_option maxHeartbeats 2000000 in
theorem sS (g:eM)(hg:A6 (dN g))(hn:g.nodes.length≤60):ct Tryz.prog 80 #[dQ g] [bU g] (iv (N3 (dN g))):=by
 refine ct.ic (args:=[dQ g]) 47 Tryz.func80 rfl Tryz.ntmps80 rfl (fun c=> ?_);refine St.seq ?_
 refine St.fI (bU g) (fun _:Unit=>lE g) (fun ρ h=>⟨(),h⟩) fun _=> ?_
 refine St.cast (H':=[aG (sl ep g.nv.1 g.nodes),aG (aY dW g.nodes),aG (bU g)]) rfl ?_
 have D0:=ku g
 have mD:0<g.nodes.length:=by have:=hg.1;omega
 refine St.rg ?_;refine St.cV (.mk rfl) rfl (fun b1=> ?_);refine St.ak ?_;refine St.nn (St.sr ?_);refine St.ee (Ev.aD (.mk rfl) eb) ?_;refine St.ee (Ev.l0 (.mk rfl) eQ) ?_;refine St.ee (Ev.ao (.mk rfl) eQ) ?_;refine St.gB (m:=g.nodes.length) (.mk rfl) (.mk rfl) ft qW Wr Ws rfl rfl (by omega) rfl rfl (fun kp=> ?_);refine St.bB (.slice (some ⟨kp,0,none⟩) g.nodes.length g.nodes.length) rfl (pz _) ?_;refine St.ak ?_;refine St.nn (St.sr ?_);refine St.mv ?_;refine St.ee (Ev.cK (k:=0) (.mk rfl) (.mk rfl) ft qW (by omega) (by omega)) ?_;refine St.dH (.mk rfl) (.mk rfl) qW rfl (by omega) (by decide) ?_;refine St.bB (.slice (some ⟨kp,0,none⟩) g.nodes.length g.nodes.length) rfl (show _=rows eE (cM (dN g) 0) by rw[kG];unfold cM;rw[D0]) ?_;refine St.nn (St.seq (St.sr ?_));refine St.ee (Ev.aD (.mk rfl) eb) ?_;refine St.ee (Ev.l0 (.mk rfl) eQ) ?_;refine St.ee (Ev.ao (.mk rfl) eQ) ?_;refine St.mv ?_;refine St.nn (St.block ?_);refine St.lH (ι:=Nat) (fun k T=>(17,iv k)::T) (fun k=>[row (.slice (some ⟨kp,0,none⟩) g.nodes.length g.nodes.length) 4 1 g.nodes.length (rows eE (cM (dN g) k)),ae b1 (.cells [g.nv.1].toArray 30 (0,0)),aG (sl ep g.nv.1 g.nodes),aG (aY dW g.nodes)]) (fun k=>k≤g.nodes.length) (fun k=>g.nodes.length-k) 0 (aE.cons 1 rfl (aE.cons 2 rfl (aE.cons 3 rfl (aE.cons 16 rfl aE.nil)))) (Nat.zero_le _) ?_;intro k dA
 have hPL:=j4 (dN g) k
 refine St.sr ?_;refine St.ee Ev.dn ?_;refine St.nn (St.seq ?_);refine St.cond _ rfl (fun fN=> ?_) (fun fN=> ?_)
 ·try simp only[aC]at fN
  refine St.skip (St.aA (St.seq (St.block (St.sr ?_))));refine St.ee (Ev.aD (.mk rfl) eb) ?_;refine St.ee (Ev.l0 (.mk rfl) eQ) ?_;refine St.ee (Ev.ao (.mk rfl) eQ) ?_;refine St.mv ?_;refine St.nn (St.block ?_);refine St.bB (.slice (some ⟨kp,0,none⟩) g.nodes.length g.nodes.length) rfl (show _=rows eE ((List.range 0).foldl (jD (dN g)) (cM (dN g) k))from rfl) ?_;refine St.lH (ι:=Nat) (fun q T=>(22,iv q)::T) (fun q=>[row (.slice (some ⟨kp,0,none⟩) g.nodes.length g.nodes.length) 4 1 g.nodes.length (rows eE ((List.range q).foldl (jD (dN g)) (cM (dN g) k))),ae b1 (.cells [g.nv.1].toArray 30 (0,0)),aG (sl ep g.nv.1 g.nodes),aG (aY dW g.nodes)]) (fun q=>q≤g.nodes.length) (fun q=>g.nodes.length-q) 0 (aE.cons 1 rfl (aE.cons 2 rfl (aE.cons 3 rfl (aE.cons 16 rfl (aE.cons 17 rfl (aE.cons 20 rfl (aE.cons 21 rfl aE.nil))))))) (Nat.zero_le _) ?_;intro q dA
  have hQL:=J1 (dN g) (cM (dN g) k) q
  refine St.sr ?_;refine St.ee Ev.dn ?_;refine St.nn (St.seq ?_);refine St.cond _ rfl (fun uX=> ?_) (fun uX=> ?_)
  ·try simp only[aC]at uX
   obtain⟨t,ht⟩:=aO (show q<g.nodes.length by omega)
   have lU:=List.mem_of_getElem? ht
   have A9:(dN g).getD q tS=kX t:=by rw[List.getD_eq_getElem?_getD,iT ht];rfl
   have ac0:(kX t).2.length=t.aZ.length:=List.length_map ..
   refine St.cD dW g.nodes (x:=t) lU ?_;refine St.gQ (sl fC t.lv.1 t.aZ) [dW t] (fun ρ h=>h _ (List.mem_cons_self ..)) ?_;refine St.skip (St.aA (St.seq (St.block (St.sr ?_))));refine St.mv ?_;refine St.ee (Ev.aR (k:=q) (.mk rfl) (.mk rfl) eQ fc (by omega) (by omega)) ?_;refine St.ee (Ev.fg (.mk rfl) ht wG trivial fc ei.eq) ?_;refine St.alloc tb rfl (fun b5=> ?_);refine St.ak ?_;refine St.sA (.mk rfl) (.mk rfl) fc ?_ (h1:=(by simp only[List.all_cons,List.all_nil,Bool.and_true,Bool.and_eq_true];exact⟨rfl,t.lv.2⟩));refine St.nn (St.sr ?_);refine St.ee (Ev.aD (.mk rfl) gR) ?_;refine St.ee (Ev.l0 (.mk rfl) eA) ?_;refine St.ee (Ev.ao (.mk rfl) eA) ?_;refine St.mv ?_;refine St.nn (St.block ?_);refine St.bB (.slice (some ⟨kp,0,none⟩) g.nodes.length g.nodes.length) rfl (show _=rows eE (((kX t).2.take 0).foldl (ij q) ((List.range q).foldl (jD (dN g)) (cM (dN g) k)))from rfl) ?_;refine St.wf t.lv.1 (fun NN qa=> ?_);refine St.lH (ι:=Nat) (fun r T=>(30,iv r)::T) (fun r=>[row (.slice (some ⟨kp,0,none⟩) g.nodes.length g.nodes.length) 4 1 g.nodes.length (rows eE (((kX t).2.take r).foldl (ij q) ((List.range q).foldl (jD (dN g)) (cM (dN g) k)))),aG (sl fC t.lv.1 t.aZ),ae b1 (.cells [g.nv.1].toArray 30 (0,0)),aG (sl ep g.nv.1 g.nodes),aG (aY dW g.nodes)]) (fun r=>r≤t.aZ.length) (fun r=>t.aZ.length-r) 0 (aE.cons 1 rfl (aE.cons 2 rfl (aE.cons 3 rfl (aE.cons 4 rfl (aE.cons 16 rfl (aE.cons 17 rfl (aE.cons 20 rfl (aE.cons 21 rfl (aE.cons 22 rfl (aE.cons 28 rfl (aE.cons 29 rfl aE.nil))))))))))) (Nat.zero_le _) ?_;intro r dA
   have hRL:=J2 q ((kX t).2.take r) ((List.range q).foldl (jD (dN g)) (cM (dN g) k))
   refine St.sr ?_;refine St.ee Ev.dn ?_;refine St.nn (St.seq ?_);refine St.cond _ rfl (fun kO=> ?_) (fun kO=> ?_)
   ·try simp only[aC]at kO
    obtain⟨p,hp⟩:=aO (show r<t.aZ.length by omega)
    have C6:(kX t).2[r]?=some (gS p):=by show(t.aZ.map gS)[r]?=_;rw[List.getElem?_map,hp];rfl
    obtain⟨_,Jo,Su⟩:=hg.at_ (i:=q) (by rw[A9];exact List.mem_of_getElem? C6)
    replace Jo:0≤p.to:=Jo
    replace Su:p.to.toNat<(dN g).length:=Su
    obtain⟨b,hb⟩:=aO (show q<(((kX t).2.take r).foldl (ij q) ((List.range q).foldl (jD (dN g)) (cM (dN g) k))).length by omega)
    have yf:=FM (i:=q) C6 ((List.range q).foldl (jD (dN g)) (cM (dN g) k))
    refine St.skip (St.aA (St.seq (St.block (St.sr ?_))));refine St.ee (Ev.aR (k:=r) (.mk rfl) (.mk rfl) eA eZ (by omega) (by omega)) ?_;refine St.ee (Ev.fg (.mk rfl) hp pf trivial eZ ei.eq) ?_;refine St.alloc rV rfl (fun b7=> ?_);refine St.sA (.mk rfl) (.mk rfl) eZ ?_ (h1:=(by simp only[List.all_cons,List.all_nil,Bool.and_true,Bool.and_eq_true];exact⟨rfl,rfl⟩));refine St.nn (St.sr ?_);refine St.mv ?_;refine St.mv ?_;refine St.ee (Ev.cK (k:=q) (.mk rfl) (.mk rfl) ft qW (by omega) (by omega)) ?_;refine St.ee (Ev.hS (.mk rfl) sJ trivial (by omega) (py hb)) ?_;refine St.nn ?_;refine St.cond _ rfl (fun tg=> ?_) (fun tg=> ?_)
    ·skip
     have Jn:(((kX t).2.take r).foldl (ij q) ((List.range q).foldl (jD (dN g)) (cM (dN g) k)))[q]?=some true:=by rw[hb];cases b;cases tg;rfl
     rw[MA Jn]at yf;refine St.rg ?_;refine St.mv ?_;refine St.ee (Ev.aD (.mk rfl) gp) ?_;refine St.ee (Ev.l0 (.mk rfl) bP) ?_;refine St.ee (Ev.cK (k:=p.to.toNat) (.mk rfl) (.mk rfl) ft qW (by omega) (by omega)) ?_;refine St.dH (.mk rfl) (.mk rfl) qW rfl (by omega) (by decide) ?_;refine St.bB (.slice (some ⟨kp,0,none⟩) g.nodes.length g.nodes.length) rfl (kG.trans (congrArg (rows eE) yf.symm)) ?_;refine St.nil (St.aN (St.aA (St.rg ?_)));refine St.ee Ev.a0 ?_;refine St.mv ?_;refine St.nn ?_;refine St.aH (r+1) (by omega)
    ·skip
     have PQ:(((kX t).2.take r).foldl (ij q) ((List.range q).foldl (jD (dN g)) (cM (dN g) k)))[q]?=some false:=by rw[hb];cases b;rfl;cases tg
     rw[MB PQ]at yf;refine St.skip (St.aN (St.aA (St.rg ?_)));refine St.ee Ev.a0 ?_;refine St.mv ?_;refine St.nn ?_;refine St.bB (.slice (some ⟨kp,0,none⟩) g.nodes.length g.nodes.length) rfl (congrArg (rows eE) yf.symm) ?_;refine St.aH (r+1) (by omega)
   ·try simp only[aC]at kO
    refine St.exit (St.aF (St.aF (St.bH (St.aN (St.aA (St.rg ?_))))));refine St.ee Ev.a0 ?_;refine St.mv ?_;refine St.nn ?_;refine St.bB (.slice (some ⟨kp,0,none⟩) g.nodes.length g.nodes.length) rfl (show _=rows eE ((List.range (q+1)).foldl (jD (dN g)) (cM (dN g) k)) by rw[CY,jD,A9,List.take_of_length_le (by rw[ac0];omega)]) ?_;refine St.aH (q+1) (by omega)
  ·try simp only[aC]at uX
   refine St.exit (St.aF (St.aF (St.bH (St.aN (St.aA (St.rg ?_))))));refine St.ee Ev.a0 ?_;refine St.mv ?_;refine St.nn ?_;refine St.bB (.slice (some ⟨kp,0,none⟩) g.nodes.length g.nodes.length) rfl (show _=rows eE (cM (dN g) (k+1)) by rw[cM,pass,D0,show g.nodes.length=q by omega]) ?_;refine St.aH (k+1) (by omega)
 ·try simp only[aC]at fN
  obtain rfl:k=g.nodes.length:=by omega
  refine St.aV (.slice (some ⟨kp,0,none⟩) g.nodes.length g.nodes.length) eE (cM (dN g) g.nodes.length) rfl (by omega) (fun _ _=>trivial) ?_;refine St.exit (St.aF (St.aF (St.bH (St.aA (St.sr ?_)))));refine St.mv ?_;refine St.ee (Ev.call (uB (.slice (some ⟨kp,0,none⟩) g.nodes.length g.nodes.length) (cM (dN g) g.nodes.length)) NI (.cons (.mk rfl) (.cons (.mk rfl) .nil))) ?_;refine St.ak ?_;refine St.nn (St.aX ?_);refine St.rU [_] [] Tryz.results80 ?_;exact congrArg iv (by unfold N3;rw[D0])
def QE (l:List (Int×Int))(k:Int):Int:=match l.find? fun x=>x.1==k with
 |some x=>x.2
 |none=> -1
theorem J3 {l:List (Int×Int)}{q:Nat}{x:Int×Int}(h:l[q]?=some x)(k:Int):QE (l.drop q) k=if x.1=k then x.2 else QE (l.drop (q+1)) k:=by
 rw[bz h];unfold QE
 by_cases e:x.1=k
 ·rw[if_pos e,List.find?_cons_of_pos (by simpa using e)]
 ·rw[if_neg e,List.find?_cons_of_neg (by simpa using e)]
theorem MC {l:List (Int×Int)}{q:Nat}(h:l.length≤q)(k:Int):QE (l.drop q) k= -1:=by rw[List.drop_of_length_le h];rfl
set_option maxHeartbeats 1000000 in
theorem yl (g:eM)(k:Int)(mD:0<g.nodes.length):ct Tryz.prog 75 #[dQ g,iv 0,iv k] [bU g] (iv (B9 (dN g) k)):=by
 refine ct.ic (args:=[dQ g,iv 0,iv k]) 27 Tryz.func75 rfl Tryz.ntmps75 rfl (fun c=> ?_);refine St.seq ?_
 refine St.fI (bU g) (fun _:Unit=>lE g) (fun ρ h=>⟨(),h⟩) fun _=> ?_
 refine St.cast (H':=[aG (sl ep g.nv.1 g.nodes),aG (aY dW g.nodes),aG (bU g)]) rfl ?_;obtain⟨t,ht⟩:=aO mD
 have lU:=List.mem_of_getElem? ht
 have A9:(dN g).getD 0 tS=kX t:=by rw[List.getD_eq_getElem?_getD,iT ht];rfl
 have Ze:B9 (dN g) k=QE ((t.aZ.map gS).drop 0) k:=by unfold B9 QE;rw[A9];rfl
 refine St.cD dW g.nodes (x:=t) lU ?_;refine St.gQ (sl fC t.lv.1 t.aZ) [dW t] (fun ρ h=>h _ (List.mem_cons_self ..)) ?_;refine St.wf t.lv.1 (fun NN qa=> ?_);refine St.rg ?_;refine St.cV (.mk rfl) rfl (fun b3=> ?_);refine St.ak ?_;refine St.nn (St.seq (St.sr ?_));refine St.ee (Ev.aD (.mk rfl) eb) ?_;refine St.ee (Ev.l0 (.mk rfl) eQ) ?_;refine St.mv ?_;refine St.ee (Ev.aR (k:=0) (.mk rfl) (.mk rfl) eQ fc (by omega) (by omega)) ?_;refine St.ee (Ev.e8 (.mk rfl) (by omega) gR) ?_;refine St.ee (Ev.ff (.mk rfl) ht eA trivial rfl) ?_;refine St.ee (Ev.ao (.mk rfl) eA) ?_;refine St.mv ?_;refine St.nn (St.block ?_);refine St.lS (ι:=Nat) (fun q T=>(16,iv q)::T) (fun q=>q≤t.aZ.length∧B9 (dN g) k=QE ((t.aZ.map gS).drop q) k) (fun q=>t.aZ.length-q) 0 (aE.cons 2 rfl (aE.cons 14 rfl (aE.cons 15 rfl aE.nil))) ⟨Nat.zero_le _,Ze⟩ ?_;intro q dA;obtain⟨hq,hv⟩:=dA;refine St.sr ?_;refine St.ee Ev.dn ?_;refine St.nn (St.seq ?_);refine St.cond _ rfl (fun m8=> ?_) (fun m8=> ?_)
 ·try simp only[aC]at m8
  obtain⟨p,hp⟩:=aO (show q<t.aZ.length by omega)
  have cE:=J3 (l:=t.aZ.map gS) (q:=q) (x:=gS p) (by rw[List.getElem?_map,hp];rfl) k
  rw[←hv]at cE;refine St.skip (St.aA (St.seq (St.block (St.sr ?_))));refine St.ee (Ev.aR (k:=q) (.mk rfl) (.mk rfl) eA eZ (by omega) (by omega)) ?_;refine St.ee (Ev.fg (.mk rfl) hp pf trivial eZ ei.eq) ?_;refine St.alloc rV rfl (fun b8=> ?_);refine St.sA (.mk rfl) (.mk rfl) eZ ?_ (h1:=(by simp only[List.all_cons,List.all_nil,Bool.and_true,Bool.and_eq_true];exact⟨rfl,rfl⟩));refine St.nn (St.sr ?_);refine St.ee (Ev.aD (.mk rfl) gn) ?_;refine St.ee (Ev.l0 (.mk rfl) bP) ?_;refine St.mv ?_;refine St.ee Ev.ey ?_;refine St.nn ?_;refine St.cond _ rfl (fun uX=> ?_) (fun uX=> ?_)
  ·try simp only[aC]at uX
   rw[if_pos (show(gS p).1=k from uX)]at cE;refine St.sr ?_;refine St.ee (Ev.aD (.mk rfl) gp) ?_;refine St.ee (Ev.l0 (.mk rfl) bP) ?_;refine St.ak ?_;refine St.nn (St.aX (St.aM (St.aB (St.aB (St.aM (St.aB ?_))))));refine St.rU [_] [] Tryz.results75 ?_;exact congrArg iv cE.symm
  ·try simp only[aC]at uX
   rw[if_neg (show ¬(gS p).1=k from uX)]at cE;refine St.skip (St.aN (St.aA (St.rg ?_)));refine St.ee Ev.a0 ?_;refine St.mv ?_;refine St.nn ?_;refine St.aS (q+1) ⟨by omega,cE⟩
 ·try simp only[aC]at m8
  rw[MC (by rw[List.length_map];omega)]at hv;refine St.exit (St.aF (St.aF (St.bH (St.aA (St.sr ?_)))));refine St.ak ?_;refine St.nn (St.aX ?_);refine St.rU [_] [] Tryz.results75 ?_;exact congrArg iv hv.symm
def WT:fY:=⟨0,0⟩
def s9 (l:List fY)(q:Nat):Int:=if q=0 then-1 else(l.getD (q-1) WT).dq
theorem CZ {l:List fY}{q:Nat}{p:fY}(h:l[q]?=some p):s9 l (q+1)=p.dq:=by unfold s9;rw[if_neg (by omega),Nat.add_sub_cancel,List.getD_eq_getElem?_getD,h];rfl
set_option maxHeartbeats 2000000 in
theorem Af (tv xv:ck)(ts:List jj)(fs:List eF)(g:eM):ct Tryz.prog 78 #[.agg #[tv.1,xv.1],dQ g] [sl e6 tv.1 ts,sl bu xv.1 fs,bU g] (fv (de ts.length fs.length (dN g))):=by
 refine ct.G1 (args:=[.agg #[tv.1,xv.1],dQ g]) 94 Tryz.func78 rfl Tryz.ntmps78 rfl (fun c=> ?_);refine St.seq ?_
 refine St.fI (bU g) (fun _:Unit=>lE g) (fun ρ h=>⟨(),h⟩) fun _=> ?_
 refine St.cast (H':=[aG (sl ep g.nv.1 g.nodes),aG (aY dW g.nodes),aG (sl e6 tv.1 ts),aG (sl bu xv.1 fs),aG (bU g)]) rfl ?_;refine St.wf tv.1 (fun qY ER=> ?_);refine St.wf xv.1 (fun Sp Yq=> ?_);refine St.wf g.nv.1 (fun Ss zr=> ?_)
 have D0:=ku g
 refine St.rg ?_;refine St.cV (.mk rfl) rfl (fun b2=> ?_);refine St.cV (.mk rfl) rfl (fun b3=> ?_);refine St.alloc dF rfl (fun b4=> ?_);refine St.nn (St.seq (St.sr ?_));refine St.ee (Ev.aD (.mk rfl) eb) ?_;refine St.ee (Ev.l0 (.mk rfl) eQ) ?_;refine St.ee (Ev.ao (.mk rfl) eQ) ?_;refine St.ee Ev.ey ?_;refine St.mv ?_;refine St.gf _ rfl rfl (fun hg=>Ev.aD (.mk rfl) eb) rfl ?_;refine St.gf _ rfl rfl (fun hg=>Ev.cN (aL.gv rfl hg) eQ trivial (by rfl)) rfl ?_;refine St.gf _ rfl rfl (fun hg=>Ev.ao (aL.gv rfl hg) eQ) rfl ?_;refine St.gf _ rfl rfl (fun hg=>Ev.gtr (aL.gv rfl hg) (.mk rfl)) rfl ?_;refine St.ee Ev.o0 ?_;refine St.nn ?_;refine St.cond _ rfl (fun fN=> ?_) (fun fN=> ?_)
 ·try simp only[aC]at fN
  have hf:de ts.length fs.length (dN g)=(2,-2):=by unfold de;rw[if_pos (by omega)]
  refine St.sr ?_;refine St.ee (Ev.build (ps:=[(0,(.const (.int .i64 2))),(1,(.const (.int .i64 (-2))))]) (aU.cons (aL.mk rfl) (aU.cons (aL.mk rfl) aU.nil)) (fun w=>bJ rfl rfl w)) ?_;refine St.sA (.mk rfl) (.mk rfl) ay ?_;refine St.nn (St.aX (St.aB ?_));refine St.rU [_] [] Tryz.results78 ?_;exact congrArg fv hf.symm
 ·try simp only[aC]at fN
  have hf:de ts.length fs.length (dN g)=dx ts.length fs.length g.nodes.length 0 (dN g):=by unfold de;rw[if_neg (by omega),D0]
  refine St.skip (St.aA (St.seq (St.sr ?_)));refine St.ee (Ev.aD (.mk rfl) eb) ?_;refine St.ee (Ev.l0 (.mk rfl) eQ) ?_;refine St.ee (Ev.ao (.mk rfl) eQ) ?_;refine St.mv ?_;refine St.nn (St.block ?_);refine St.lS (ι:=Nat) (fun k T=>(23,iv k)::T) (fun k=>k≤g.nodes.length∧de ts.length fs.length (dN g)=dx ts.length fs.length g.nodes.length k ((dN g).drop k)) (fun k=>g.nodes.length-k) 0 (aE.cons 2 rfl (aE.cons 3 rfl (aE.cons 4 rfl (aE.cons 21 rfl (aE.cons 22 rfl aE.nil))))) ⟨Nat.zero_le _,hf⟩ ?_;intro k dA;obtain⟨hk,hv⟩:=dA;refine St.sr ?_;refine St.ee Ev.dn ?_;refine St.nn (St.seq ?_);refine St.cond _ rfl (fun pE=> ?_) (fun pE=> ?_)
  ·try simp only[aC]at pE
   obtain⟨t,ht⟩:=aO (show k<g.nodes.length by omega)
   have lU:=List.mem_of_getElem? ht
   refine St.cD dW g.nodes (x:=t) lU ?_;refine St.gQ (sl fC t.lv.1 t.aZ) [dW t] (fun ρ h=>h _ (List.mem_cons_self ..)) ?_;refine St.wf t.lv.1 (fun NN qa=> ?_)
   have cE:=uA (nt:=ts.length) (nf:=fs.length) (nn:=g.nodes.length) (iT ht)
   rw[←hv]at cE;refine St.skip (St.aA (St.seq (St.block (St.sr ?_))));refine St.mv ?_;refine St.ee (Ev.aR (k:=k) (.mk rfl) (.mk rfl) eQ fc (by omega) (by omega)) ?_;refine St.ee (Ev.fg (.mk rfl) ht wG trivial fc ei.eq) ?_;refine St.alloc tb rfl (fun b6=> ?_);refine St.ak ?_;refine St.sA (.mk rfl) (.mk rfl) fc ?_ (h1:=(by simp only[List.all_cons,List.all_nil,Bool.and_true,Bool.and_eq_true];exact⟨rfl,t.lv.2⟩));refine St.nn (St.seq (St.sr ?_));refine St.ee (Ev.aD (.mk rfl) km) ?_;refine St.ee (Ev.l0 (.mk rfl) bP) ?_;refine St.ee Ev.dn ?_;refine St.mv ?_;refine St.gf _ rfl rfl (fun hg=>Ev.aD (.mk rfl) km) rfl ?_;refine St.gf _ rfl rfl (fun hg=>Ev.cN (aL.gv rfl hg) bP trivial (by rfl)) rfl ?_;refine St.gf _ rfl rfl (fun hg=>Ev.aD (.mk rfl) fm) rfl ?_;refine St.gf _ rfl rfl (fun hg=>Ev.cN (aL.gv rfl hg) eW trivial (by rfl)) rfl ?_;refine St.gf _ rfl rfl (fun hg=>Ev.ao (aL.gv rfl hg) eW) rfl ?_;refine St.gf _ rfl rfl (fun hg=>Ev.geq (aL.gv rfl hg) (aL.gv rfl hg)) rfl ?_;refine St.ee Ev.o0 ?_;refine St.nn ?_;refine St.cond _ rfl (fun sj=> ?_) (fun sj=> ?_)
   ·try simp only[aC]at sj
    rw[if_pos (show(kX t).1<0∨(ts.length:Int)≤(kX t).1 from(by omega:t.type<0∨(ts.length:Int)≤t.type))]at cE;refine St.sr ?_;refine St.mv ?_;refine St.ee (Ev.build (ps:=[(0,(.const (.int .i64 3))),(1,(.tmp 39))]) (aU.cons (aL.mk rfl) (aU.cons (aL.mk rfl) aU.nil)) (fun w=>bJ rfl rfl w)) ?_;refine St.sA (.mk rfl) (.mk rfl) ay ?_;refine St.nn (St.aX (St.aB (St.aM (St.aB (St.aB (St.aM (St.aB ?_)))))));refine St.rU [_] [] Tryz.results78 ?_;exact congrArg fv cE.symm
   ·try simp only[aC]at sj
    rw[if_neg (show ¬((kX t).1<0∨(ts.length:Int)≤(kX t).1)from(by omega:¬(t.type<0∨(ts.length:Int)≤t.type)))]at cE;refine St.skip (St.aA (St.sr ?_));refine St.ee (Ev.aD (.mk rfl) gR) ?_;refine St.ee (Ev.l0 (.mk rfl) eA) ?_;refine St.ee (Ev.ao (.mk rfl) eA) ?_;refine St.mv ?_;refine St.nn (St.block ?_);refine St.lH (ι:=Nat) (fun q T=>(44,iv q)::T) (fun q=>[ae b6 (.cells [iv t.type,t.lv.1].toArray 143 (0,0)),aG (sl fC t.lv.1 t.aZ),ae b4 (.cells [iv 0,iv 0].toArray 42 (0,0)),ae b2 (.cells [tv.1,xv.1].toArray 25 (0,0)),ae b3 (.cells [g.nv.1].toArray 30 (0,0)),aG (sl ep g.nv.1 g.nodes),aG (aY dW g.nodes),aG (sl e6 tv.1 ts),aG (sl bu xv.1 fs),aG (bU g)]) (fun q=>q≤t.aZ.length∧wC fs.length g.nodes.length k (-1) (kX t).2=wC fs.length g.nodes.length k (s9 t.aZ q) ((t.aZ.map gS).drop q)) (fun q=>t.aZ.length-q) 0 (aE.cons 2 rfl (aE.cons 3 rfl (aE.cons 4 rfl (aE.cons 5 rfl (aE.cons 6 rfl (aE.cons 21 rfl (aE.cons 22 rfl (aE.cons 23 rfl (aE.cons 42 rfl (aE.cons 43 rfl aE.nil)))))))))) ⟨Nat.zero_le _,rfl⟩ ?_;intro q dA;obtain⟨hq,tr⟩:=dA;refine St.sr ?_;refine St.ee Ev.dn ?_;refine St.nn (St.seq ?_);refine St.cond _ rfl (fun wP=> ?_) (fun wP=> ?_)
    ·try simp only[aC]at wP
     obtain⟨p,hp⟩:=aO (show q<t.aZ.length by omega)
     have pG:=A7 (nf:=fs.length) (nn:=g.nodes.length) (i:=k) (z:=s9 t.aZ q) (l:=t.aZ.map gS) (q:=q) (x:=gS p) (by rw[List.getElem?_map,hp];rfl)
     refine St.skip (St.aA (St.seq (St.block (St.sr ?_))));refine St.mv ?_;refine St.ee (Ev.aR (k:=q) (.mk rfl) (.mk rfl) eA eZ (by omega) (by omega)) ?_;refine St.ee (Ev.fg (.mk rfl) hp pf trivial eZ ei.eq) ?_;refine St.alloc rV rfl (fun b8=> ?_);refine St.ak ?_;refine St.sA (.mk rfl) (.mk rfl) eZ ?_ (h1:=(by simp only[List.all_cons,List.all_nil,Bool.and_true,Bool.and_eq_true];exact⟨rfl,rfl⟩));refine St.nn (St.seq (St.sr ?_));refine St.ee (Ev.aD (.mk rfl) gn) ?_;refine St.ee (Ev.l0 (.mk rfl) bP) ?_;refine St.ee Ev.dn ?_;refine St.mv ?_;refine St.gf _ rfl rfl (fun hg=>Ev.aD (.mk rfl) gn) rfl ?_;refine St.gf _ rfl rfl (fun hg=>Ev.cN (aL.gv rfl hg) bP trivial (by rfl)) rfl ?_;refine St.gf _ rfl rfl (fun hg=>Ev.aD (.mk rfl) jQ) rfl ?_;refine St.gf _ rfl rfl (fun hg=>Ev.cN (aL.gv rfl hg) iz trivial (by rfl)) rfl ?_;refine St.gf _ rfl rfl (fun hg=>Ev.ao (aL.gv rfl hg) iz) rfl ?_;refine St.gf _ rfl rfl (fun hg=>Ev.geq (aL.gv rfl hg) (aL.gv rfl hg)) rfl ?_;refine St.ee Ev.o0 ?_;refine St.mv ?_;refine St.gf _ rfl rfl (fun hg=>Ev.aD (.mk rfl) gp) rfl ?_;refine St.gf _ rfl rfl (fun hg=>Ev.cN (aL.gv rfl hg) bP trivial (by rfl)) rfl ?_;refine St.gf _ rfl rfl (fun hg=>Ev.lss (aL.gv rfl hg) (.mk rfl)) rfl ?_;refine St.ee Ev.o0 ?_;refine St.mv ?_;refine St.gf _ rfl rfl (fun hg=>Ev.aD (.mk rfl) gp) rfl ?_;refine St.gf _ rfl rfl (fun hg=>Ev.cN (aL.gv rfl hg) bP trivial (by rfl)) rfl ?_;refine St.gf _ rfl rfl (fun hg=>Ev.aD (.mk rfl) eb) rfl ?_;refine St.gf _ rfl rfl (fun hg=>Ev.cN (aL.gv rfl hg) eQ trivial (by rfl)) rfl ?_;refine St.gf _ rfl rfl (fun hg=>Ev.ao (aL.gv rfl hg) eQ) rfl ?_;refine St.gf _ rfl rfl (fun hg=>Ev.geq (aL.gv rfl hg) (aL.gv rfl hg)) rfl ?_;refine St.ee Ev.o0 ?_;refine St.nn ?_;refine St.cond _ rfl (fun BD=> ?_) (fun BD=> ?_)
     ·try simp only[aC]at BD
      rw[if_pos (show(gS p).1<0∨(fs.length:Int)≤(gS p).1∨(gS p).2<0∨(g.nodes.length:Int)≤(gS p).2 from(by omega:p.dq<0∨(fs.length:Int)≤p.dq∨p.to<0∨(g.nodes.length:Int)≤p.to))]at pG;rw[tr,pG,if_pos (by show(3:Int)≠0;decide)]at cE;refine St.sr ?_;refine St.mv ?_;refine St.ee (Ev.build (ps:=[(0,(.const (.int .i64 3))),(1,(.tmp 73))]) (aU.cons (aL.mk rfl) (aU.cons (aL.mk rfl) aU.nil)) (fun w=>bJ rfl rfl w)) ?_;refine St.sA (.mk rfl) (.mk rfl) ay ?_;refine St.nn (St.aX (St.aB (St.aM (St.aB (St.aB (St.aM (St.aM (St.aB (St.aB (St.aM (St.aB ?_)))))))))));refine St.rU [_] [] Tryz.results78 ?_;exact congrArg fv cE.symm
     ·try simp only[aC]at BD
      rw[if_neg (show ¬((gS p).1<0∨(fs.length:Int)≤(gS p).1∨(gS p).2<0∨(g.nodes.length:Int)≤(gS p).2)from(by omega:¬(p.dq<0∨(fs.length:Int)≤p.dq∨p.to<0∨(g.nodes.length:Int)≤p.to)))]at pG;refine St.skip (St.aA (St.seq ?_));refine St.rq mixed (by kernel_rfl) (Mm.drawn _ _) ?_;refine Sq.ee (Ev.move (.mk rfl)) ?_;refine Sq.ee Ev.qn ?_;refine Sq.ee (Ev.move (.mk rfl)) ?_;refine Sq.gt _ rfl rfl (fun hg=>Ev.aD (.mk rfl) gn) rfl ?_;refine Sq.gt _ rfl rfl (fun hg=>Ev.cN (aL.gv rfl hg) bP trivial (by rfl)) rfl ?_;refine Sq.gt _ rfl rfl (fun hg=>Ev.aD (.mk rfl) gR) rfl ?_;refine Sq.gt _ rfl rfl (fun hg=>Ev.cN (aL.gv rfl hg) eA trivial (by rfl)) rfl ?_;refine Sq.gt _ rfl rfl (fun hg=>Ev.move (.mk rfl)) rfl ?_;refine Sq.gt _ rfl rfl (fun hg=>Ev.sub (aL.gv rfl hg) (.mk rfl) (by first|omega|(simp only[aC]at hg;omega))) rfl ?_;refine Sq.gt _ rfl rfl (fun hg=>Ev.aR (k:=(q-1)) (aL.gv rfl hg) (aL.gv rfl hg) eA eZ (by first|omega|(simp only[aC]at hg;omega)) (by first|omega|(simp only[aC]at hg;omega))) rfl ?_;refine Sq.gt _ rfl rfl (fun hg=>Ev.e8 (aL.gv rfl hg) (by first|omega|(simp only[aC]at hg;omega)) gn) rfl ?_;refine Sq.gt _ rfl rfl (fun hg=>Ev.ff (aL.gv rfl hg) (jq WT (by first|omega|(simp only[aC]at hg;omega))) bP trivial rfl) rfl ?_;refine Sq.gt _ rfl rfl (fun hg=>Ev.leq (aL.gv rfl hg) (aL.gv rfl hg)) rfl ?_;refine Sq.ee Ev.n0 ?_;refine Sq.nil ?_;refine St.aA ?_;refine St.cond _ rfl (fun vb=> ?_) (fun vb=> ?_)
      ·try simp only[aC]at vb
       rw[if_pos (show(gS p).1≤s9 t.aZ q from(by unfold s9;rw[if_neg (by omega)];exact vb.2))]at pG;rw[tr,pG,if_pos (by show(13:Int)≠0;decide)]at cE;refine St.sr ?_;refine St.mv ?_;refine St.ee (Ev.build (ps:=[(0,(.const (.int .i64 13))),(1,(.tmp 89))]) (aU.cons (aL.mk rfl) (aU.cons (aL.mk rfl) aU.nil)) (fun w=>bJ rfl rfl w)) ?_;refine St.sA (.mk rfl) (.mk rfl) ay ?_;refine St.nn (St.aX (St.aM (St.aB (St.aB (St.aM (St.aM (St.aB (St.aB (St.aM (St.aB ?_))))))))));refine St.rU [_] [] Tryz.results78 ?_;exact congrArg fv cE.symm
      ·try simp only[aC]at vb
       rw[if_neg (show ¬(gS p).1≤s9 t.aZ q from(by show ¬p.dq≤_;unfold s9;split;omega;rcases vb with h|h;omega;omega))]at pG;refine St.skip (St.aN (St.aA (St.rg ?_)));refine St.ee Ev.a0 ?_;refine St.mv ?_;refine St.nn ?_;refine St.aH (q+1) ⟨by omega,by rw[tr,pG,CZ hp];rfl⟩
    ·try simp only[aC]at wP
     rw[DT (by rw[List.length_map];omega)]at tr;rw[if_neg (by rw[tr];decide)]at cE;refine St.exit (St.aF (St.aF (St.bH (St.aN (St.aA (St.rg ?_))))));refine St.ee Ev.a0 ?_;refine St.mv ?_;refine St.nn ?_;refine St.aS (k+1) ⟨by omega,by rw[cE]⟩
  ·try simp only[aC]at pE
   rw[wV (by omega)]at hv;refine St.exit (St.aF (St.aF (St.bH (St.aA (St.sr ?_)))));refine St.ee (Ev.build (ps:=[]) (aU.nil) (fun w=>fA w)) ?_;refine St.sA (.mk rfl) (.mk rfl) ay ?_;refine St.nn (St.aX ?_);refine St.rU [_] [] Tryz.results78 ?_;exact congrArg fv hv.symm
theorem uY (tv:Value)(ts:List jj)(hT:iJ (ts.map bf))(i j:Int)(hi:0≤i∧i.toNat<ts.length)(hj:0≤j∧j.toNat<ts.length):ct Tryz.prog 79 #[tv,iv i,iv j] [sl e6 tv ts,aY ew ts] (.bool (e9 (ts.map bf) i.toNat j.toNat)):=by
 have:=xF tv ts hT i.toNat j.toNat hi.2 hj.2
 rw[Int.toNat_of_nonneg hi.1,Int.toNat_of_nonneg hj.1]at this;exact this
set_option maxHeartbeats 2000000 in
theorem ng (tv xv:ck)(ts:List jj)(fs:List eF)(g:eM)(hT:iJ (ts.map bf))(hF:∀f∈fs,0≤f.nC∧f.nC<ts.length∧0≤f.value∧f.value<ts.length):ct Tryz.prog 39 #[.agg #[tv.1,xv.1],dQ g] [sl e6 tv.1 ts,aY ew ts,sl bu xv.1 fs,bU g] (fv (cU (ts.map bf) (fs.map dR) (dN g))):=by
 refine ct.Mq (args:=[.agg #[tv.1,xv.1],dQ g]) 74 Tryz.func39 rfl Tryz.ntmps39 rfl (fun c=> ?_);refine St.seq ?_
 refine St.fI (bU g) (fun _:Unit=>lE g) (fun ρ h=>⟨(),h⟩) fun _=> ?_
 refine St.cast (H':=[aG (sl ep g.nv.1 g.nodes),aG (aY dW g.nodes),aG (sl e6 tv.1 ts),aG (aY ew ts),aG (sl bu xv.1 fs),aG (bU g)]) rfl ?_
 have D0:=ku g
 have sO:(ts.map bf).length=ts.length:=List.length_map ..
 have Et:(fs.map dR).length=fs.length:=List.length_map ..
 refine St.wf g.nv.1 (fun Ss zr=> ?_);refine St.rg ?_;refine St.cV (.mk rfl) rfl (fun b2=> ?_);refine St.cV (.mk rfl) rfl (fun b3=> ?_);refine St.alloc dF rfl (fun b4=> ?_);refine St.nn (St.seq (St.sr ?_));refine St.ee (Ev.bF (.mk rfl) nI trivial (by exact ln)) ?_;refine St.ee (Ev.bF (.mk rfl) p9 trivial (by exact nK)) ?_;refine St.ee (Ev.call (Af tv xv ts fs g) acH (.cons (.mk rfl) (.cons (.mk rfl) .nil))) ?_;refine St.alloc dF rfl (fun b5=> ?_);refine St.sA (.mk rfl) (.mk rfl) ay ?_;refine St.nn (St.sr ?_);refine St.ee (Ev.aD (.mk rfl) cX) ?_;refine St.ee (Ev.l0 (.mk rfl) bP) ?_;refine St.ee Ev.k9 ?_;refine St.nn ?_;refine St.cond _ rfl (fun m8=> ?_) (fun m8=> ?_)
 ·skip
  have hb:(de (ts.map bf).length (fs.map dR).length (dN g)).1≠0:=by rw[sO,Et];simpa using m8
  have p5:=qz hb
  rw[sO,Et]at p5;refine St.sr ?_;refine St.ee (Ev.bF (.mk rfl) fl trivial (by exact ay)) ?_;refine St.sA (.mk rfl) (.mk rfl) ay ?_;refine St.nn (St.aX (St.aB ?_));refine St.rU [_] [] Tryz.results39 ?_;exact congrArg fv p5.symm
 ·skip
  have hb:¬(de (ts.map bf).length (fs.map dR).length (dN g)).1≠0:=by rw[sO,Et];simpa using m8
  have C6:=AA (Decidable.not_not.1 hb)
  obtain⟨RO,Yu,pP⟩:=nT (Decidable.not_not.1 hb);refine St.skip (St.aA (St.seq (St.sr ?_)));refine St.ee (Ev.aD (.mk rfl) eb) ?_;refine St.ee (Ev.l0 (.mk rfl) eQ) ?_;refine St.ee (Ev.ao (.mk rfl) eQ) ?_;refine St.mv ?_;refine St.nn (St.block ?_);refine St.lS (ι:=Nat) (fun k T=>(22,iv k)::T) (fun k=>k≤g.nodes.length∧∀i,i<k→ke (ts.map bf) (fs.map dR) (dN g) i=false) (fun k=>g.nodes.length-k) 0 (aE.cons 2 rfl (aE.cons 3 rfl (aE.cons 4 rfl (aE.cons 20 rfl (aE.cons 21 rfl aE.nil))))) ⟨Nat.zero_le _,fun i hi=>absurd hi (by omega)⟩ ?_;intro k dA;obtain⟨hk,Ej⟩:=dA;refine St.sr ?_;refine St.ee Ev.dn ?_;refine St.nn (St.seq ?_);refine St.cond _ rfl (fun uX=> ?_) (fun uX=> ?_)
  ·try simp only[aC]at uX
   obtain⟨t,ht⟩:=aO (show k<g.nodes.length by omega)
   have lU:=List.mem_of_getElem? ht
   refine St.cD dW g.nodes (x:=t) lU ?_;refine St.gQ (sl fC t.lv.1 t.aZ) [dW t] (fun ρ h=>h _ (List.mem_cons_self ..)) ?_;refine St.wf t.lv.1 (fun NN qa=> ?_)
   have A9:(dN g).getD k tS=kX t:=by rw[List.getD_eq_getElem?_getD,iT ht];rfl
   obtain⟨vM,PR⟩:=pP (kX t) (List.mem_of_getElem? (iT ht))
   replace vM:0≤t.type∧t.type<((ts.map bf).length:Int):=vM
   refine St.skip (St.aA (St.seq (St.block (St.sr ?_))));refine St.mv ?_;refine St.ee (Ev.aR (k:=k) (.mk rfl) (.mk rfl) eQ fc (by omega) (by omega)) ?_;refine St.ee (Ev.fg (.mk rfl) ht wG trivial fc ei.eq) ?_;refine St.alloc tb rfl (fun b7=> ?_);refine St.ak ?_;refine St.sA (.mk rfl) (.mk rfl) fc ?_ (h1:=(by simp only[List.all_cons,List.all_nil,Bool.and_true,Bool.and_eq_true];exact⟨rfl,t.lv.2⟩));refine St.nn (St.sr ?_);refine St.ee (Ev.aD (.mk rfl) gR) ?_;refine St.ee (Ev.l0 (.mk rfl) eA) ?_;refine St.ee (Ev.ao (.mk rfl) eA) ?_;refine St.mv ?_;refine St.nn (St.block ?_);refine St.lS (ι:=Nat) (fun q T=>(30,iv q)::T) (fun q=>q≤t.aZ.length∧∀j,j<q→∀x,(kX t).2[j]?=some x→tT (ts.map bf) (fs.map dR) (dN g) t.type x=false) (fun q=>t.aZ.length-q) 0 (aE.cons 2 rfl (aE.cons 3 rfl (aE.cons 4 rfl (aE.cons 6 rfl (aE.cons 7 rfl (aE.cons 20 rfl (aE.cons 21 rfl (aE.cons 22 rfl (aE.cons 28 rfl (aE.cons 29 rfl aE.nil)))))))))) ⟨Nat.zero_le _,fun j hj=>absurd hj (by omega)⟩ ?_;intro q dA;obtain⟨hq,oC⟩:=dA;refine St.sr ?_;refine St.ee Ev.dn ?_;refine St.nn (St.seq ?_);refine St.cond _ rfl (fun kO=> ?_) (fun kO=> ?_)
   ·try simp only[aC]at kO
    obtain⟨p,hp⟩:=aO (show q<t.aZ.length by omega)
    have C7:(kX t).2[q]?=some (gS p):=by show(t.aZ.map gS)[q]?=_;rw[List.getElem?_map,hp];rfl
    have PS:=PR (gS p) (List.mem_of_getElem? C7)
    replace PS:0≤p.dq∧p.dq<((fs.map dR).length:Int)∧0≤p.to∧p.to<((dN g).length:Int):=PS
    obtain⟨fe,PT⟩:=aO (show p.dq.toNat<fs.length by omega);obtain⟨u,hu⟩:=aO (show p.to.toNat<g.nodes.length by omega)
    have hfo:=hF fe (List.mem_of_getElem? PT)
    have Sv:=(pP (kX u) (List.mem_of_getElem? (iT hu))).1
    replace Sv:0≤u.type∧u.type<((ts.map bf).length:Int):=Sv
    have xx:(!e9 (ts.map bf) t.type.toNat fe.nC.toNat|| !e9 (ts.map bf) u.type.toNat fe.value.toNat)=tT (ts.map bf) (fs.map dR) (dN g) t.type (gS p):=by
     unfold tT
     rw[show(gS p).1=p.dq from rfl,show(gS p).2=p.to from rfl,List.getD_eq_getElem?_getD,List.getElem?_map,PT,List.getD_eq_getElem?_getD,iT hu];rfl
    refine St.skip (St.aA (St.seq (St.block (St.sr ?_))));refine St.ee (Ev.aR (k:=q) (.mk rfl) (.mk rfl) eA eZ (by omega) (by omega)) ?_;refine St.ee (Ev.fg (.mk rfl) hp pf trivial eZ ei.eq) ?_;refine St.alloc rV rfl (fun b9=> ?_);refine St.sA (.mk rfl) (.mk rfl) eZ ?_ (h1:=(by simp only[List.all_cons,List.all_nil,Bool.and_true,Bool.and_eq_true];exact⟨rfl,rfl⟩));refine St.nn (St.sr ?_);refine St.ee (Ev.aD (.mk rfl) jQ) ?_;refine St.ee (Ev.l0 (.mk rfl) iz) ?_;refine St.ee (Ev.aD (.mk rfl) gn) ?_;refine St.ee (Ev.l0 (.mk rfl) bP) ?_;refine St.ee (Ev.aR (k:=p.dq.toNat) (.mk rfl) (.mk rfl) iz jH (by omega) (by omega)) ?_;refine St.ee (Ev.fg (.mk rfl) PT zZ trivial jH ei.eq) ?_;refine St.alloc wJ rfl (fun jc=> ?_);refine St.sA (.mk rfl) (.mk rfl) jH ?_ (h1:=(by simp only[List.all_cons,List.all_nil,Bool.and_true,Bool.and_eq_true];exact⟨rfl,rfl,rfl⟩));refine St.nn (St.seq ?_);refine St.rq mixed (by kernel_rfl) (Mm.drawn _ _) ?_;refine Sq.ee (Ev.aD (.mk rfl) fm) ?_;refine Sq.ee (Ev.l0 (.mk rfl) eW) ?_;refine Sq.ee (Ev.aD (.mk rfl) km) ?_;refine Sq.ee (Ev.l0 (.mk rfl) bP) ?_;refine Sq.ee (Ev.aD (.mk rfl) o5) ?_;refine Sq.ee (Ev.l0 (.mk rfl) bP) ?_;refine Sq.ee (Ev.call (uY tv.1 ts hT t.type fe.nC ⟨by omega,by omega⟩ ⟨by omega,by omega⟩) Q9 (.cons (.mk rfl) (.cons (.mk rfl) (.cons (.mk rfl) .nil)))) ?_;refine Sq.ee (Ev.not (.mk rfl)) ?_;refine Sq.ee (Ev.move (.mk rfl)) ?_;refine Sq.gf _ rfl rfl (fun hg=>Ev.aD (.mk rfl) fm) rfl ?_;refine Sq.gf _ rfl rfl (fun hg=>Ev.cN (aL.gv rfl hg) eW trivial (by rfl)) rfl ?_;refine Sq.gf _ rfl rfl (fun hg=>Ev.aD (.mk rfl) eb) rfl ?_;refine Sq.gf _ rfl rfl (fun hg=>Ev.cN (aL.gv rfl hg) eQ trivial (by rfl)) rfl ?_;refine Sq.gf _ rfl rfl (fun hg=>Ev.aD (.mk rfl) gp) rfl ?_;refine Sq.gf _ rfl rfl (fun hg=>Ev.cN (aL.gv rfl hg) bP trivial (by rfl)) rfl ?_;refine Sq.gf _ rfl rfl (fun hg=>Ev.aR (k:=p.to.toNat) (aL.gv rfl hg) (aL.gv rfl hg) eQ fc (by first|omega|(simp only[aC]at hg;omega)) (by first|omega|(simp only[aC]at hg;omega))) rfl ?_;refine Sq.gf _ rfl rfl (fun hg=>Ev.e8 (aL.gv rfl hg) (by first|omega|(simp only[aC]at hg;omega)) km) rfl ?_;refine Sq.gf _ rfl rfl (fun hg=>Ev.ff (aL.gv rfl hg) hu bP trivial rfl) rfl ?_;refine Sq.gf _ rfl rfl (fun hg=>Ev.aD (.mk rfl) o6) rfl ?_;refine Sq.gf _ rfl rfl (fun hg=>Ev.cN (aL.gv rfl hg) bP trivial (by rfl)) rfl ?_;refine Sq.gf _ rfl rfl (fun hg=>Ev.call (uY tv.1 ts hT u.type fe.value ⟨by omega,by omega⟩ ⟨by omega,by omega⟩) Q9 (.cons (aL.gv rfl hg) (.cons (aL.gv rfl hg) (.cons (aL.gv rfl hg) .nil)))) rfl ?_;refine Sq.gf _ rfl rfl (fun hg=>Ev.not (aL.gv rfl hg)) rfl ?_;refine Sq.ee Ev.o0 ?_;refine Sq.nil ?_;refine St.aA ?_;refine St.cond _ rfl (fun oB=> ?_) (fun oB=> ?_)
    ·skip
     rw[xx]at oB
     have NO:ke (ts.map bf) (fs.map dR) (dN g) k=true:=by unfold ke;rw[A9,List.any_eq_true];exact⟨gS p,List.mem_of_getElem? C7,oB⟩
     have p5:=wY hb (AB (by omega) NO Ej)
     refine St.sr ?_;refine St.mv ?_;refine St.ee (Ev.build (ps:=[(0,(.const (.int .i64 12))),(1,(.tmp 63))]) (aU.cons (aL.mk rfl) (aU.cons (aL.mk rfl) aU.nil)) (fun w=>bJ rfl rfl w)) ?_;refine St.sA (.mk rfl) (.mk rfl) ay ?_;refine St.nn (St.aX (St.aM (St.aB (St.aB (St.aM (St.aM (St.aB (St.aB (St.aM (St.aB ?_))))))))));refine St.rU [_] [] Tryz.results39 ?_;exact congrArg fv p5.symm
    ·skip
     rw[xx]at oB;refine St.skip (St.aN (St.aA (St.rg ?_)));refine St.ee Ev.a0 ?_;refine St.mv ?_;refine St.nn ?_;refine St.aS (q+1) ⟨by omega,fun j hj x hx=>by rcases Nat.lt_or_ge j q with h|h;exact oC j h x hx;rw[show j=q by omega,C7]at hx;cases hx;exact oB⟩
   ·try simp only[aC]at kO
    refine St.exit (St.aF (St.aF (St.bH (St.aN (St.aA (St.rg ?_))))));refine St.ee Ev.a0 ?_;refine St.mv ?_;refine St.nn ?_
    have NO:ke (ts.map bf) (fs.map dR) (dN g) k=false:=by
     unfold ke;rw[A9,List.any_eq_false]
     intro x hx;obtain⟨j,hj⟩:=List.getElem?_of_mem hx
     rw[show(kX t).1=t.type from rfl,oC j (by have:=cL hj;rw[show(kX t).2.length=t.aZ.length from List.length_map _]at this;omega) x hj];decide
    refine St.aS (k+1) ⟨by omega,fun i hi=>by rcases Nat.lt_or_ge i k with h|h;exact Ej i h;rw[show i=k by omega];exact NO⟩
  ·try simp only[aC]at uX
   have p5:=wZ hb (AD (by rw[D0];intro i hi;exact Ej i (by omega)))
   refine St.exit (St.aF (St.aF (St.bH (St.aA (St.seq (St.sr ?_))))));refine St.ee (Ev.bF (.mk rfl) p9 trivial (by exact nK)) ?_;refine St.ee (Ev.call (sS g C6 (by omega)) acI (.cons (.mk rfl) .nil)) ?_;refine St.ak ?_;refine St.nn (St.sr ?_);refine St.mv ?_;refine St.ee Ev.qV ?_;refine St.nn ?_;refine St.cond _ rfl (fun sN=> ?_) (fun sN=> ?_)
   ·try simp only[aC]at sN
    rw[if_pos (by omega)]at p5;refine St.sr ?_;refine St.mv ?_;refine St.ee (Ev.build (ps:=[(0,(.const (.int .i64 5))),(1,(.tmp 71))]) (aU.cons (aL.mk rfl) (aU.cons (aL.mk rfl) aU.nil)) (fun w=>bJ rfl rfl w)) ?_;refine St.sA (.mk rfl) (.mk rfl) ay ?_;refine St.nn (St.aX (St.aB ?_));refine St.rU [_] [] Tryz.results39 ?_;exact congrArg fv p5.symm
   ·try simp only[aC]at sN
    rw[if_neg (by omega)]at p5;refine St.skip (St.aA (St.sr ?_));refine St.ee (Ev.build (ps:=[]) (aU.nil) (fun w=>fA w)) ?_;refine St.sA (.mk rfl) (.mk rfl) ay ?_;refine St.nn (St.aX ?_);refine St.rU [_] [] Tryz.results39 ?_;exact congrArg fv p5.symm
def sB (l:List Int)(q:Nat):Int:=if q=0 then-1 else l.getD (q-1) 0
theorem Ca {l:List Int}{q:Nat}{p:Int}(h:l[q]?=some p):sB l (q+1)=p:=by unfold sB;rw[if_neg (by omega),Nat.add_sub_cancel,List.getD_eq_getElem?_getD,h];rfl
theorem qL {α:Type}{l:List α}{k q:Nat}{y:α}(h:l[q]?=some y)(hq:q<k):(l.take k)[q]?=some y:=by rw[List.getElem?_take,if_pos hq];exact h
theorem uZ {l:List cQ}{n m:cQ}(h:n∉l)(h2:¬m=n):n∉l++ [m]:=fun hm=>by
 rcases List.mem_append.1 hm with hm|hm
 ·exact h hm
 ·exact h2 (List.mem_singleton.1 hm).symm
theorem mV {α:Type}(f:α→cQ){l:List α}{k q:Nat}{y:α}(h:l[q]?=some y)(hq:q<k):f y∈(l.take k).map f:=List.mem_map_of_mem (List.mem_of_getElem? (qL h hq))
set_option maxHeartbeats 2000000 in
theorem Ag (u:Value)(ts:List jj):ct Tryz.prog 73 #[u] [sl e6 u ts,aY ew ts] (fv (qU (ts.map bf))):=by
 refine ct.mw (args:=[u]) 90 Tryz.func73 rfl Tryz.ntmps73 rfl (fun c=> ?_);refine St.seq ?_;refine St.wf u (fun qY ER=> ?_);refine St.rg ?_;refine St.alloc dF rfl (fun b2=> ?_);refine St.nn (St.seq (St.sr ?_));refine St.mv ?_;refine St.ee (Ev.ao (.mk rfl) eW) ?_;refine St.ee Ev.ey ?_;refine St.mv ?_;refine St.gf _ rfl rfl (fun hg=>Ev.move (.mk rfl)) rfl ?_;refine St.gf _ rfl rfl (fun hg=>Ev.ao (aL.gv rfl hg) eW) rfl ?_;refine St.gf _ rfl rfl (fun hg=>Ev.gtr (aL.gv rfl hg) (.mk rfl)) rfl ?_;refine St.ee Ev.o0 ?_;refine St.nn ?_;refine St.cond _ rfl (fun q7=> ?_) (fun q7=> ?_)
 ·try simp only[aC]at q7
  have hf:qU (ts.map bf)=(2,-1):=by unfold qU;rw[if_pos (by rw[List.length_map];omega)]
  refine St.sr ?_;refine St.ee (Ev.build (ps:=[(0,(.const (.int .i64 2))),(1,(.const (.int .i64 (-1))))]) (aU.cons (aL.mk rfl) (aU.cons (aL.mk rfl) aU.nil)) (fun w=>bJ rfl rfl w)) ?_;refine St.sA (.mk rfl) (.mk rfl) ay ?_;refine St.nn (St.aX (St.aB ?_));refine St.rU [_] [] Tryz.results73 ?_;exact congrArg fv hf.symm
 ·try simp only[aC]at q7
  have hf:qU (ts.map bf)=iM [] 0 (ts.map bf):=by unfold qU;rw[if_neg (by rw[List.length_map];omega)]
  refine St.skip (St.aA (St.seq (St.sr ?_)));refine St.mv ?_;refine St.ee (Ev.ao (.mk rfl) eW) ?_;refine St.mv ?_;refine St.nn (St.block ?_);refine St.lH (ι:=Nat) (fun k T=>(20,iv k)::T) (fun k=>[ae b2 (.cells [iv 0,iv 0].toArray 42 (0,0)),aG (sl e6 u ts),aG (aY ew ts)]) (fun k=>k≤ts.length∧qU (ts.map bf)=iM ((ts.take k).map jj.name) k ((ts.map bf).drop k)) (fun k=>ts.length-k) 0 (aE.cons 0 rfl (aE.cons 2 rfl (aE.cons 18 rfl (aE.cons 19 rfl aE.nil)))) ⟨Nat.zero_le _,hf⟩ ?_;intro k dA;obtain⟨hk,hv⟩:=dA;refine St.sr ?_;refine St.ee Ev.dn ?_;refine St.nn (St.seq ?_);refine St.cond _ rfl (fun qs=> ?_) (fun qs=> ?_)
  ·try simp only[aC]at qs
   obtain⟨t,ht⟩:=aO (show k<ts.length by omega)
   have lU:=List.mem_of_getElem? ht
   have cE:=rb (l:=ts.map bf) (k:=k) (t:=bf t) (by rw[List.getElem?_map,ht];rfl) ((ts.take k).map jj.name)
   rw[←hv]at cE
   have zr:t.name.length≤9223372036854775807:=by have:=qY t lU;simp only[e6,iL]at this;omega
   refine St.cD ew ts (x:=t) lU ?_;refine St.gQ (sl aK t.pv.1 t.parents) [ew t] (fun ρ h=>h _ (List.mem_cons_self ..)) ?_;refine St.wf t.pv.1 (fun Kz DL=> ?_);refine St.skip (St.aA (St.seq (St.block (St.sr ?_))));refine St.mv ?_;refine St.ee (Ev.aR (k:=k) (.mk rfl) (.mk rfl) eW im (by omega) (by omega)) ?_;refine St.ee (Ev.fg (.mk rfl) ht za trivial im ei.eq) ?_;refine St.alloc wI rfl (fun b4=> ?_);refine St.ak ?_;refine St.sA (.mk rfl) (.mk rfl) im ?_ (h1:=(by simp only[List.all_cons,List.all_nil,Bool.and_true,Bool.and_eq_true];exact⟨rfl,t.pv.2⟩));refine St.nn (St.seq (St.sr ?_));refine St.ee (Ev.aD (.mk rfl) o3) ?_;refine St.ee (Ev.l0 (.mk rfl) df) ?_;refine St.ee (Ev.call (pN t.name zr) QA (.cons (.mk rfl) .nil)) ?_;refine St.ee (Ev.not (.mk rfl)) ?_;refine St.nn ?_;refine St.cond _ rfl (fun qX=> ?_) (fun qX=> ?_)
   ·try simp only[aC]at qX
    rw[if_pos (show isName (bf t).1=false from(by simpa using qX:isName t.name=false))]at cE;refine St.sr ?_;refine St.mv ?_;refine St.ee (Ev.build (ps:=[(0,(.const (.int .i64 10))),(1,(.tmp 29))]) (aU.cons (aL.mk rfl) (aU.cons (aL.mk rfl) aU.nil)) (fun w=>bJ rfl rfl w)) ?_;refine St.sA (.mk rfl) (.mk rfl) ay ?_;refine St.nn (St.aX (St.aB (St.aM (St.aB (St.aB (St.aM (St.aB ?_)))))));refine St.rU [_] [] Tryz.results73 ?_;exact congrArg fv cE.symm
   ·try simp only[aC]at qX
    rw[if_neg (show ¬isName (bf t).1=false from(by simpa using qX:¬isName t.name=false))]at cE;refine St.skip (St.aA (St.seq (St.sr ?_)));refine St.mv ?_;refine St.mv ?_;refine St.ee (Ev.nk (h:=k) (.mk rfl) (.mk rfl) eW im (by omega) (by omega)) ?_;refine St.part (Rr:=e6) (xs:=ts) u 0 k (Nat.zero_le _) (by omega) ?_;refine St.gQ (sl e6 (pO u e6.size 0 k) (ts.take k)) [sl e6 (pO u e6.size 0 k) ((ts.drop 0).take (k-0))] (fun ρ h=>by simpa using h _ (List.mem_cons_self ..)) ?_
    have v7:(ts.take k).length=k:=by rw[List.length_take];omega
    refine St.ee (Ev.ao (.mk rfl) eW) ?_;refine St.mv ?_;refine St.nn (St.block ?_);refine St.lH (ι:=Nat) (fun q T=>(35,iv q)::T) (fun q=>[aG (sl e6 (pO u e6.size 0 k) (ts.take k)),aG (sl aK t.pv.1 t.parents),ae b4 (.cells [sv t.name,t.pv.1].toArray 165 (0,0)),ae b2 (.cells [iv 0,iv 0].toArray 42 (0,0)),aG (sl e6 u ts),aG (aY ew ts)]) (fun q=>q≤k∧t.name∉(ts.take q).map jj.name) (fun q=>k-q) 0 (aE.cons 0 rfl (aE.cons 2 rfl (aE.cons 3 rfl (aE.cons 4 rfl (aE.cons 18 rfl (aE.cons 19 rfl (aE.cons 20 rfl (aE.cons 33 rfl (aE.cons 34 rfl aE.nil))))))))) ⟨Nat.zero_le _,by simp⟩ ?_;intro q dA;obtain⟨hq,ma⟩:=dA;refine St.sr ?_;refine St.ee Ev.dn ?_;refine St.nn (St.seq ?_);refine St.cond _ rfl (fun Tg=> ?_) (fun Tg=> ?_)
    ·try simp only[aC]at Tg
     obtain⟨y,hy⟩:=aO (show q<ts.length by omega);refine St.skip (St.aA (St.seq (St.block (St.sr ?_))));refine St.ee (Ev.aR (k:=q) (.mk rfl) (.mk rfl) eW im (by omega) (by omega)) ?_;refine St.ee (Ev.fg (.mk rfl) (qL hy (show q<k by omega)) za trivial im ei.eq) ?_;refine St.alloc wI rfl (fun b6=> ?_);refine St.sA (.mk rfl) (.mk rfl) im ?_ (h1:=(by simp only[List.all_cons,List.all_nil,Bool.and_true,Bool.and_eq_true];exact⟨rfl,y.pv.2⟩));refine St.nn (St.sr ?_);refine St.ee (Ev.aD (.mk rfl) o3) ?_;refine St.ee (Ev.l0 (.mk rfl) df) ?_;refine St.ee (Ev.aD (.mk rfl) o3) ?_;refine St.ee (Ev.l0 (.mk rfl) df) ?_;refine St.ee (Ev.hP (.mk rfl) (.mk rfl)) ?_;refine St.nn ?_;refine St.cond _ rfl (fun ye=> ?_) (fun ye=> ?_)
     ·try simp only[aC]at ye
      have vh:=mV jj.name hy (show q<k by omega)
      rw[ye]at vh;rw[if_pos (show(bf t).1∈(ts.take k).map jj.name from vh)]at cE;refine St.sr ?_;refine St.mv ?_;refine St.ee (Ev.build (ps:=[(0,(.const (.int .i64 7))),(1,(.tmp 44))]) (aU.cons (aL.mk rfl) (aU.cons (aL.mk rfl) aU.nil)) (fun w=>bJ rfl rfl w)) ?_;refine St.sA (.mk rfl) (.mk rfl) ay ?_;refine St.nn (St.aX (St.aM (St.aB (St.aB (St.aM (St.aB (St.aM (St.aB (St.aB (St.aM (St.aB ?_)))))))))));refine St.rU [_] [] Tryz.results73 ?_;exact congrArg fv cE.symm
     ·try simp only[aC]at ye
      refine St.skip (St.aN (St.aA (St.rg ?_)));refine St.ee Ev.a0 ?_;refine St.mv ?_;refine St.nn ?_;refine St.aH (q+1) ⟨by omega,by rw[bx jj.name hy];exact uZ ma ye⟩
    ·try simp only[aC]at Tg
     rw[show q=k by omega]at ma;rw[if_neg (show ¬(bf t).1∈(ts.take k).map jj.name from ma)]at cE;refine St.exit (St.aF (St.aF (St.bH (St.aA (St.seq (St.sr ?_))))));refine St.mv ?_;refine St.ee Ev.ey ?_;refine St.ee (Ev.aD (.mk rfl) kk) ?_;refine St.ee (Ev.l0 (.mk rfl) bE) ?_;refine St.ee (Ev.ao (.mk rfl) bE) ?_;refine St.ee Ev.ey ?_;refine St.ee (Ev.sY (.mk rfl) (.mk rfl) sJ) ?_;refine St.nn ?_;refine St.cond _ rfl (fun DK=> ?_) (fun DK=> ?_)
     ·skip
      have QF:decide (k=0)≠decide (t.parents.length=0):=by simpa using DK
      rw[if_pos (show decide (k=0)≠decide ((bf t).2.length=0)from QF)]at cE;refine St.sr ?_;refine St.mv ?_;refine St.ee (Ev.build (ps:=[(0,(.const (.int .i64 5))),(1,(.tmp 54))]) (aU.cons (aL.mk rfl) (aU.cons (aL.mk rfl) aU.nil)) (fun w=>bJ rfl rfl w)) ?_;refine St.sA (.mk rfl) (.mk rfl) ay ?_;refine St.nn (St.aX (St.aB (St.aM (St.aB (St.aB (St.aM (St.aB ?_)))))));refine St.rU [_] [] Tryz.results73 ?_;exact congrArg fv cE.symm
     ·skip
      have QF:¬decide (k=0)≠decide (t.parents.length=0):=by simpa using DK
      rw[if_neg (show ¬decide (k=0)≠decide ((bf t).2.length=0)from QF)]at cE;refine St.skip (St.aA (St.sr ?_));refine St.ee (Ev.aD (.mk rfl) kk) ?_;refine St.ee (Ev.l0 (.mk rfl) bE) ?_;refine St.ee (Ev.ao (.mk rfl) bE) ?_;refine St.mv ?_;refine St.nn (St.block ?_);refine St.lH (ι:=Nat) (fun q T=>(59,iv q)::T) (fun q=>[ae b4 (.cells [sv t.name,t.pv.1].toArray 165 (0,0)),ae b2 (.cells [iv 0,iv 0].toArray 42 (0,0)),aG (sl aK t.pv.1 t.parents),aG (sl e6 u ts),aG (aY ew ts)]) (fun q=>q≤t.parents.length∧mn k (-1) (bf t).2=mn k (sB t.parents q) (t.parents.drop q)) (fun q=>t.parents.length-q) 0 (aE.cons 0 rfl (aE.cons 2 rfl (aE.cons 3 rfl (aE.cons 4 rfl (aE.cons 18 rfl (aE.cons 19 rfl (aE.cons 20 rfl (aE.cons 57 rfl (aE.cons 58 rfl aE.nil))))))))) ⟨Nat.zero_le _,rfl⟩ ?_;intro q dA;obtain⟨hq,tr⟩:=dA;refine St.sr ?_;refine St.ee Ev.dn ?_;refine St.nn (St.seq ?_);refine St.cond _ rfl (fun PM=> ?_) (fun PM=> ?_)
      ·try simp only[aC]at PM
       obtain⟨p,hp⟩:=aO (show q<t.parents.length by omega)
       have pG:=wS (i:=k) (z:=sB t.parents q) hp
       refine St.skip (St.aA (St.seq (St.block (St.sr ?_))));refine St.mv ?_;refine St.ee (Ev.aR (k:=q) (.mk rfl) (.mk rfl) bE cr (by omega) (by omega)) ?_;refine St.ee (Ev.ff (.mk rfl) hp bP trivial rfl) ?_;refine St.ak ?_;refine St.ak ?_;refine St.nn (St.seq (St.sr ?_));refine St.mv ?_;refine St.ee Ev.dn ?_;refine St.mv ?_;refine St.gf _ rfl rfl (fun hg=>Ev.move (.mk rfl)) rfl ?_;refine St.gf _ rfl rfl (fun hg=>Ev.move (.mk rfl)) rfl ?_;refine St.gf _ rfl rfl (fun hg=>Ev.geq (aL.gv rfl hg) (aL.gv rfl hg)) rfl ?_;refine St.ee Ev.o0 ?_;refine St.nn ?_;refine St.cond _ rfl (fun sN=> ?_) (fun sN=> ?_)
       ·try simp only[aC]at sN
        rw[if_pos (by omega)]at pG;rw[tr,pG,if_pos (by show(3:Int)≠0;decide)]at cE;refine St.sr ?_;refine St.mv ?_;refine St.ee (Ev.build (ps:=[(0,(.const (.int .i64 3))),(1,(.tmp 71))]) (aU.cons (aL.mk rfl) (aU.cons (aL.mk rfl) aU.nil)) (fun w=>bJ rfl rfl w)) ?_;refine St.sA (.mk rfl) (.mk rfl) ay ?_;refine St.nn (St.aX (St.aB (St.aM (St.aB (St.aB (St.aM (St.aM (St.aB (St.aB (St.aM (St.aB ?_)))))))))));refine St.rU [_] [] Tryz.results73 ?_;exact congrArg fv cE.symm
       ·try simp only[aC]at sN
        rw[if_neg (by omega)]at pG;refine St.skip (St.aA (St.sr ?_));refine St.mv ?_;refine St.ee Ev.qn ?_;refine St.mv ?_;refine St.gt _ rfl rfl (fun hg=>Ev.move (.mk rfl)) rfl ?_;refine St.gt _ rfl rfl (fun hg=>Ev.aD (.mk rfl) kk) rfl ?_;refine St.gt _ rfl rfl (fun hg=>Ev.cN (aL.gv rfl hg) bE trivial (by rfl)) rfl ?_;refine St.gt _ rfl rfl (fun hg=>Ev.move (.mk rfl)) rfl ?_;refine St.gt _ rfl rfl (fun hg=>Ev.sub (aL.gv rfl hg) (.mk rfl) (by first|omega|(simp only[aC]at hg;omega))) rfl ?_;refine St.gt _ rfl rfl (fun hg=>Ev.aR (k:=(q-1)) (aL.gv rfl hg) (aL.gv rfl hg) bE cr (by first|omega|(simp only[aC]at hg;omega)) (by first|omega|(simp only[aC]at hg;omega))) rfl ?_;refine St.gt _ rfl rfl (fun hg=>Ev.ff (aL.gv rfl hg) (jq 0 (by first|omega|(simp only[aC]at hg;omega))) bP trivial rfl) rfl ?_;refine St.gt _ rfl rfl (fun hg=>Ev.leq (aL.gv rfl hg) (aL.gv rfl hg)) rfl ?_;refine St.ee Ev.n0 ?_;refine St.nn ?_;refine St.cond _ rfl (fun vD=> ?_) (fun vD=> ?_)
        ·try simp only[aC]at vD
         rw[if_pos (show p≤sB t.parents q from(by unfold sB;rw[if_neg (by omega)];exact vD.2))]at pG;rw[tr,pG,if_pos (by show(13:Int)≠0;decide)]at cE;refine St.sr ?_;refine St.mv ?_;refine St.ee (Ev.build (ps:=[(0,(.const (.int .i64 13))),(1,(.tmp 85))]) (aU.cons (aL.mk rfl) (aU.cons (aL.mk rfl) aU.nil)) (fun w=>bJ rfl rfl w)) ?_;refine St.sA (.mk rfl) (.mk rfl) ay ?_;refine St.nn (St.aX (St.aM (St.aB (St.aB (St.aM (St.aM (St.aB (St.aB (St.aM (St.aB ?_))))))))));refine St.rU [_] [] Tryz.results73 ?_;exact congrArg fv cE.symm
        ·try simp only[aC]at vD
         rw[if_neg (show ¬p≤sB t.parents q from(by unfold sB;split;omega;rcases vD with h|h;omega;omega))]at pG;refine St.skip (St.aN (St.aA (St.rg ?_)));refine St.ee Ev.a0 ?_;refine St.mv ?_;refine St.nn ?_;refine St.aH (q+1) ⟨by omega,by rw[tr,pG,Ca hp]⟩
      ·try simp only[aC]at PM
       rw[zx (by omega)]at tr;rw[if_neg (by rw[tr];decide)]at cE;refine St.exit (St.aF (St.aF (St.bH (St.aN (St.aA (St.rg ?_))))));refine St.ee Ev.a0 ?_;refine St.mv ?_;refine St.nn ?_;refine St.aH (k+1) ⟨by omega,by rw[cE,bx jj.name ht];rfl⟩
  ·try simp only[aC]at qs
   rw[tq (by rw[List.length_map];omega)]at hv;refine St.exit (St.aF (St.aF (St.bH (St.aA (St.sr ?_)))));refine St.ee (Ev.build (ps:=[]) (aU.nil) (fun w=>fA w)) ?_;refine St.sA (.mk rfl) (.mk rfl) ay ?_;refine St.nn (St.aX ?_);refine St.rU [_] [] Tryz.results73 ?_;exact congrArg fv hv.symm
def J4 (T:List dc)(a b i:Nat):Bool:=e9 T i a&&e9 T i b
def vG (T:List dc)(a b i:Nat):List Nat:=(List.range i).filter (J4 T a b)
def nh (T:List dc)(a b i:Nat):Int:=match vG T a b i with
 | []=> -1
 |m::_=>m
def okL (T:List dc)(l:List Nat):Prop:=match l with
 | []=>True
 |m::r=>∀x∈r,e9 T x m=true
theorem Cb {T:List dc}{a b i:Nat}(h:J4 T a b i=false):vG T a b (i+1)=vG T a b i:=by unfold vG;rw[List.range_succ,List.filter_append];simp[h]
theorem oK {T:List dc}{a b i:Nat}(h:J4 T a b i=true):vG T a b (i+1)=vG T a b i++ [i]:=by unfold vG;rw[List.range_succ,List.filter_append];simp[h]
theorem QG {T:List dc}{a b i m:Nat}(h:m∈vG T a b i):m<i:=List.mem_range.1 (List.mem_filter.1 h).1
theorem Dt {T:List dc}{a b:Nat}:∀d i,∃r,vG T a b (i+d)=vG T a b i++r
 |0,i=>⟨[],by simp⟩
 |d+1,i=>by
  obtain⟨r,hr⟩:=Dt d i
  cases h:J4 T a b (i+d)with
  |false=>exact⟨r,by rw[show i+(d+1)=(i+d)+1 by omega,Cb h,hr]⟩
  |true=>exact⟨r++ [i+d],by rw[show i+(d+1)=(i+d)+1 by omega,oK h,hr,List.append_assoc]⟩
theorem J5 {T:List dc}{a b i:Nat}(h:nh T a b i<0):vG T a b i=[]:=by
 unfold nh at h
 cases e:vG T a b i with
 |nil=>rfl
 |cons m r=>rw[e]at h;dsimp only at h;omega
theorem J6 {T:List dc}{a b i:Nat}(h:¬nh T a b i<0):∃m r,vG T a b i=m::r∧nh T a b i=m∧m<i:=by
 unfold nh at h⊢
 cases e:vG T a b i with
 |nil=>rw[e]at h;exact absurd (by decide) h
 |cons m r=>exact⟨m,r,rfl,rfl,QG (by rw[e];exact List.mem_cons_self ..)⟩
theorem FN {T:List dc}{a b i m:Nat}{r:List Nat}(hc:J4 T a b i=true)(hi:i<T.length)(he:vG T a b i=m::r)(hs:e9 T i m=false):gE T a b=true:=by
 obtain⟨q,hq⟩:=Dt (T:=T) (a:=a) (b:=b) (T.length-(i+1)) (i+1);rw[show i+1+(T.length-(i+1))=T.length by omega,oK hc,he]at hq
 have e:comm T a b=m::(r++ [i]++q):=by rw[show comm T a b=vG T a b T.length from rfl,hq];simp
 unfold gE;rw[e]
 show(r++ [i]++q).any _=true
 rw[List.any_eq_true];exact⟨i,by simp,by rw[hs];rfl⟩
theorem Cc {T:List dc}{a b:Nat}(h:okL T (vG T a b T.length)):gE T a b=false:=by
 unfold gE;rw[show comm T a b=vG T a b T.length from rfl]
 cases e:vG T a b T.length with
 |nil=>rfl
 |cons m r=>
  rw[e]at h
  show r.any _=false
  rw[List.any_eq_false];intro x hx;rw[h x hx];decide
theorem MD {T:List dc}{a b i:Nat}(hc:J4 T a b i=true)(he:vG T a b i=[]):nh T a b (i+1)=i:=by unfold nh;rw[oK hc,he];rfl
theorem ME {T:List dc}{a b i m:Nat}{r:List Nat}(hc:J4 T a b i=true)(he:vG T a b i=m::r):nh T a b (i+1)=m:=by unfold nh;rw[oK hc,he];rfl
theorem J7 {T:List dc}{a b i:Nat}(hc:J4 T a b i=false):nh T a b (i+1)=nh T a b i:=by unfold nh;rw[Cb hc]
def MF (T:List dc):Int:=match kZ T with
 |some b=>b
 |none=> -1
def ga (T:List dc)(i:Nat):List Bool:=(List.range T.length).map (e9 T i)
theorem mW (T:List dc)(i:Nat):(ga T i).length=T.length:=by simp[ga]
theorem oL {T:List dc}{i j:Nat}(h:j<T.length):(ga T i)[j]?=some (e9 T i j):=by unfold ga;rw[List.getElem?_map,List.getElem?_range h];rfl
theorem FO {T:List dc}{i:Nat}{R:List Bool}(hl:R.length=T.length)(h:∀j,j<T.length→R[j]?=some (e9 T i j)):R=ga T i:=by
 refine List.ext_getElem? fun j=> ?_
 by_cases hj:j<T.length
 ·rw[h j hj,oL hj]
 ·rw[List.getElem?_eq_none (by omega),List.getElem?_eq_none (by rw[mW];omega)]
theorem J8 {us:List ck}{u:ck}{m:Nat}:(rows cC (us++List.replicate (m+1) fa)).set (us.length*1+0) u.1=rows cC ((us++ [u])++List.replicate m fa):=by
 have e:us.length*1+0=us.length:=by omega
 rw[e,nu,nu,List.map_append,List.map_append,List.map_append,List.replicate_succ,List.map_cons,List.set_append_right _ _ (by rw[List.length_map];exact Nat.le_refl _),List.length_map,Nat.sub_self,List.set_cons_zero,List.append_assoc];rfl
theorem MG {us L:List ck}{u:ck}{k:Nat}(h:us.length=k):(rows cC ((us++ [u])++L))[k*1+0]?=some u.1:=by
 have e:k*1+0=us.length:=by omega
 rw[e,nu,List.append_assoc,List.map_append,List.getElem?_append_right (by rw[List.length_map];exact Nat.le_refl _),List.length_map,Nat.sub_self];rfl
theorem J9 (n:Nat):List.replicate n (Value.slice none 0 0)=rows cC (List.replicate n fa):=by rw[nu,List.map_replicate]
set_option maxHeartbeats 2000000 in
theorem Ah (u:Value)(ts:List jj)(hT:iJ (ts.map bf)):ct Tryz.prog 74 #[u] [sl e6 u ts,aY ew ts] (iv (MF (ts.map bf))):=by
 refine ct.mw (args:=[u]) 83 Tryz.func74 rfl Tryz.ntmps74 rfl (fun c=> ?_);refine St.seq ?_
 have sO:(ts.map bf).length=ts.length:=List.length_map ..
 have vT:=hT.len
 refine St.rg ?_;refine St.ak ?_;refine St.nn (St.sr ?_);refine St.mv ?_;refine St.ee (Ev.ao (.mk rfl) eW) ?_;refine St.ak ?_;refine St.nn (St.sr ?_);refine St.mv ?_;refine St.gB (m:=ts.length) (.mk rfl) (.mk rfl) wH uU Vw Vx rfl rfl (by omega) rfl rfl (fun oU=> ?_);refine St.bB (.slice (some ⟨oU,0,none⟩) ts.length ts.length) rfl ((J9 _).trans (show _=rows cC (([]:List ck)++List.replicate (ts.length-0) fa)from rfl)) ?_;refine St.n8 eE ?_;refine St.gQ (jx eE [] ((List.range 0).map (ga (ts.map bf)))) [jx eE [] []] (fun ρ h=>h _ (List.mem_cons_self ..)) ?_;refine St.ak ?_;refine St.nn (St.seq (St.sr ?_));refine St.mv ?_;refine St.mv ?_;refine St.nn (St.block ?_);refine St.mf (ι:=Nat) (κ:=List ck) (fun k us T=>(16,iv k)::T) (fun k us=>[row (.slice (some ⟨oU,0,none⟩) ts.length ts.length) 179 1 ts.length (rows cC (us++List.replicate (ts.length-k) fa)),aG (jx eE us ((List.range k).map (ga (ts.map bf)))),aG (sl e6 u ts),aG (aY ew ts)]) (fun k us=>k≤ts.length∧us.length=k) (fun k us=>ts.length-k) 0 [] (aE.cons 0 rfl (aE.cons 2 rfl (aE.cons 3 rfl (aE.cons 4 rfl (aE.cons 15 rfl aE.nil))))) ⟨Nat.zero_le _,rfl⟩ ?_;rintro k us ⟨hk,QH⟩;refine St.sr ?_;refine St.ee Ev.dn ?_;refine St.nn (St.seq ?_);refine St.cond _ rfl (fun m8=> ?_) (fun m8=> ?_)
 ·try simp only[aC]at m8
  obtain⟨m,hm⟩:∃m,ts.length-k=m+1:=⟨ts.length-k-1,by omega⟩
  refine St.skip (St.aA (St.seq (St.block (St.sr ?_))));refine St.mv ?_;refine St.ak ?_;refine St.nn (St.sr ?_);refine St.mv ?_;refine St.mv ?_;refine St.mv ?_;refine St.gB (m:=ts.length) (.mk rfl) (.mk rfl) ft qW Wr Ws rfl rfl (by omega) rfl rfl (fun JA=> ?_);refine St.bB (.slice (some ⟨JA,0,none⟩) ts.length ts.length) rfl (pz _) ?_;refine St.ee (Ev.cK (k:=k) (.mk rfl) (.mk rfl) wH uU (by omega) (by omega)) ?_;refine St.dH (.mk rfl) (.mk rfl) uU rfl (by omega) (by decide) ?_;refine St.bB (.slice (some ⟨oU,0,none⟩) ts.length ts.length) rfl (show _=rows cC ((us++ [⟨(.slice (some ⟨JA,0,none⟩) ts.length ts.length),rfl⟩])++List.replicate (ts.length-(k+1)) fa) by rw[hm,show ts.length-(k+1)=m by omega,←QH];exact J8 (u:=⟨(.slice (some ⟨JA,0,none⟩) ts.length ts.length),rfl⟩)) ?_;refine St.nn (St.sr ?_);refine St.mv ?_;refine St.mv ?_;refine St.nn (St.block ?_);refine St.mf (ι:=Nat) (κ:=List Bool) (fun j R T=>(25,iv j)::T) (fun j R=>[row (.slice (some ⟨JA,0,none⟩) ts.length ts.length) 4 1 ts.length (rows eE (R)),row (.slice (some ⟨oU,0,none⟩) ts.length ts.length) 179 1 ts.length (rows cC ((us++ [⟨(.slice (some ⟨JA,0,none⟩) ts.length ts.length),rfl⟩])++List.replicate (ts.length-(k+1)) fa)),aG (jx eE us ((List.range k).map (ga (ts.map bf)))),aG (sl e6 u ts),aG (aY ew ts)]) (fun j R=>j≤ts.length∧R.length=ts.length∧∀i,i<j→R[i]?=some (e9 (ts.map bf) k i)) (fun j R=>ts.length-j) 0 (List.replicate ts.length false) (aE.cons 0 rfl (aE.cons 2 rfl (aE.cons 3 rfl (aE.cons 4 rfl (aE.cons 5 rfl (aE.cons 15 rfl (aE.cons 16 rfl (aE.cons 24 rfl aE.nil)))))))) ⟨Nat.zero_le _,List.length_replicate,fun i hi=>absurd hi (by omega)⟩ ?_;rintro j R ⟨hj,TY,hR⟩;refine St.sr ?_;refine St.ee Ev.dn ?_;refine St.nn (St.seq ?_);refine St.cond _ rfl (fun BB=> ?_) (fun BB=> ?_)
  ·try simp only[aC]at BB
   refine St.skip (St.aA (St.seq (St.block (St.sr ?_))));refine St.mv ?_;refine St.ak ?_;refine St.nn ?_;refine St.eV [row (.slice (some ⟨JA,0,none⟩) ts.length ts.length) 4 1 ts.length (rows eE (R))] mixed (fun np ns=> ?_);refine SW.dd 0 rfl (fun _=>Ev.move (.mk rfl)) ?_;refine SW.dd 1 rfl (fun _=>Ev.move (.mk rfl)) ?_;refine SW.dd 2 rfl (fun _=>Ev.cK (k:=k) (.mk rfl) (.mk rfl) wH uU (by omega) (by omega)) ?_;refine SW.dd 3 rfl (fun _=>Ev.hS (.mk rfl) ft trivial (by omega) (MG QH)) ?_;refine SW.dd 4 rfl (fun _=>Ev.move (.mk rfl)) ?_;refine SW.dd 5 rfl (fun _=>Ev.move (.mk rfl)) ?_;refine SW.dd 6 rfl (fun _=>Ev.move (.mk rfl)) ?_;refine SW.dd 7 rfl (fun _=>Ev.move (.mk rfl)) ?_;refine SW.dd 8 rfl (fun _=>Ev.call (xF u ts hT k j (by omega) (by omega)) Q9 (.cons (.mk rfl) (.cons (.mk rfl) (.cons (.mk rfl) .nil)))) ?_;refine SW.dd 9 rfl (fun _=>Ev.jL (k:=j) rfl (.mk rfl) (.mk rfl) ft qW (by omega) (by omega)) ?_;refine SW.bG (i:=10) (by kernel_rfl) rfl ?_;refine St.dH (.mk rfl) (.mk rfl) qW rfl (by omega) (by decide) ?_;refine St.bB (.slice (some ⟨JA,0,none⟩) ts.length ts.length) rfl kG ?_;refine St.nn ?_;refine SW.go ?_;refine SW.done (by kernel_rfl) ?_;refine St.aN (St.aA (St.rg ?_));refine St.ee Ev.a0 ?_;refine St.mv ?_;refine St.nn ?_;refine St.jb (j+1) (R.set j (e9 (ts.map bf) k j)) ⟨by omega,by rw[List.length_set];exact TY,fun i hi=>by rcases Nat.lt_or_ge i j with h|h;rw[List.getElem?_set_ne (by omega)];exact hR i h;rw[show i=j by omega,List.getElem?_set_self (by omega)]⟩
  ·try simp only[aC]at BB
   obtain rfl:j=ts.length:=by omega
   refine St.exit (St.aF (St.aF (St.bH (St.aN (St.aA (St.rg ?_))))));refine St.ee Ev.a0 ?_;refine St.mv ?_;refine St.nn ?_;refine St.aV (.slice (some ⟨JA,0,none⟩) ts.length ts.length) eE R rfl (by omega) (fun _ _=>trivial) ?_;rw[FO (T:=(ts.map bf)) (i:=k) (R:=R) (by omega) (fun j hj=>hR j (by omega))];refine St.nw us ⟨(.slice (some ⟨JA,0,none⟩) ts.length ts.length),rfl⟩ (x:=ga (ts.map bf) k) (by rw[List.length_map,List.length_range];exact QH) ?_;rw[show(List.range k).map (ga (ts.map bf))++ [ga (ts.map bf) k]=(List.range (k+1)).map (ga (ts.map bf)) by rw[List.range_succ,List.map_append];rfl];refine St.jb (k+1) (us++ [⟨(.slice (some ⟨JA,0,none⟩) ts.length ts.length),rfl⟩]) ⟨by omega,by rw[List.length_append];simp only[List.length_cons,List.length_nil];omega⟩
 ·try simp only[aC]at m8
  obtain rfl:k=ts.length:=by omega
  rw[Nat.sub_self,List.replicate_zero,List.append_nil];refine St.aV (.slice (some ⟨oU,0,none⟩) ts.length ts.length) cC us rfl (by omega) (fun _ _=>trivial) ?_;refine St.exit (St.aF (St.aF (St.bH (St.aA (St.seq (St.sr ?_))))));refine St.mv ?_;refine St.mv ?_;refine St.nn (St.block ?_);refine St.lH (ι:=Nat) (fun b T=>(41,iv b)::T) (fun b=>[aG (sl cC (.slice (some ⟨oU,0,none⟩) ts.length ts.length) us),aG (jx eE us ((List.range ts.length).map (ga (ts.map bf)))),aG (sl e6 u ts),aG (aY ew ts)]) (fun b=>b≤ts.length∧∀c,c<b→(List.range c).any (fun a=>gE (ts.map bf) a c)=false) (fun b=>ts.length-b) 0 (aE.cons 3 rfl (aE.cons 4 rfl (aE.cons 40 rfl aE.nil))) ⟨Nat.zero_le _,fun c hc=>absurd hc (by omega)⟩ ?_;intro b dA;obtain⟨hb,BX⟩:=dA;refine St.sr ?_;refine St.ee Ev.dn ?_;refine St.nn (St.seq ?_);refine St.cond _ rfl (fun LW=> ?_) (fun LW=> ?_)
  ·try simp only[aC]at LW
   refine St.skip (St.aA (St.seq (St.block (St.sr ?_))));refine St.mv ?_;refine St.ak ?_;refine St.nn (St.sr ?_);refine St.mv ?_;refine St.mv ?_;refine St.nn (St.block ?_);refine St.lH (ι:=Nat) (fun a T=>(45,iv a)::T) (fun a=>[aG (sl cC (.slice (some ⟨oU,0,none⟩) ts.length ts.length) us),aG (jx eE us ((List.range ts.length).map (ga (ts.map bf)))),aG (sl e6 u ts),aG (aY ew ts)]) (fun a=>a≤b∧∀c,c<a→gE (ts.map bf) c b=false) (fun a=>b-a) 0 (aE.cons 3 rfl (aE.cons 4 rfl (aE.cons 7 rfl (aE.cons 40 rfl (aE.cons 41 rfl (aE.cons 44 rfl aE.nil)))))) ⟨Nat.zero_le _,fun c hc=>absurd hc (by omega)⟩ ?_;intro a dA;obtain⟨ha,oC⟩:=dA;refine St.sr ?_;refine St.ee Ev.dn ?_;refine St.nn (St.seq ?_);refine St.cond _ rfl (fun pw=> ?_) (fun pw=> ?_)
   ·try simp only[aC]at pw
    refine St.skip (St.aA (St.seq (St.block (St.sr ?_))));refine St.mv ?_;refine St.ak ?_;refine St.nn (St.sr ?_);refine St.ak ?_;refine St.nn (St.sr ?_);refine St.mv ?_;refine St.mv ?_;refine St.nn (St.block ?_);refine St.lH (ι:=Nat) (fun i T=>(49,iv i)::(9,iv (nh (ts.map bf) a b i))::T) (fun i=>[aG (sl cC (.slice (some ⟨oU,0,none⟩) ts.length ts.length) us),aG (jx eE us ((List.range ts.length).map (ga (ts.map bf)))),aG (sl e6 u ts),aG (aY ew ts)]) (fun i=>i≤ts.length∧okL (ts.map bf) (vG (ts.map bf) a b i)) (fun i=>ts.length-i) 0 (aE.cons 3 rfl (aE.cons 4 rfl (aE.cons 7 rfl (aE.cons 8 rfl (aE.cons 40 rfl (aE.cons 41 rfl (aE.cons 44 rfl (aE.cons 45 rfl (aE.cons 48 rfl aE.nil))))))))) ⟨Nat.zero_le _,trivial⟩ ?_;intro i dA;obtain⟨hi,pP⟩:=dA;refine St.sr ?_;refine St.ee Ev.dn ?_;refine St.nn (St.seq ?_);refine St.cond _ rfl (fun Bm=> ?_) (fun Bm=> ?_)
    ·try simp only[aC]at Bm
     obtain⟨ui,Xb⟩:=aO (show i<us.length by omega);refine St.jx (vs:=us) (l:=ga (ts.map bf) i) i Xb (by rw[List.getElem?_map,List.getElem?_range (show i<ts.length by omega)];rfl) ?_;refine St.skip (St.aA (St.seq (St.block (St.sr ?_))));refine St.mv ?_;refine St.ak ?_;refine St.nn (St.sr ?_);refine St.mv ?_;refine St.mv ?_;refine St.ee (Ev.aR (k:=i) (.mk rfl) (.mk rfl) wH uU (by omega) (by omega)) ?_;refine St.ee (Ev.ff (.mk rfl) Xb ft trivial rfl) ?_;refine St.mv ?_;refine St.ee (Ev.aR (k:=a) (.mk rfl) (.mk rfl) ft qW (by omega) (by rw[mW];omega)) ?_;refine St.ee (Ev.ff (.mk rfl) (oL (show a<(ts.map bf).length by omega)) sJ trivial rfl) ?_;refine St.mv ?_;refine St.gt _ rfl rfl (fun hg=>Ev.move (.mk rfl)) rfl ?_;refine St.gt _ rfl rfl (fun hg=>Ev.move (.mk rfl)) rfl ?_;refine St.gt _ rfl rfl (fun hg=>Ev.aR (k:=i) (aL.gv rfl hg) (aL.gv rfl hg) wH uU (by first|omega|(simp only[aC]at hg;omega)) (by omega)) rfl ?_;refine St.gt _ rfl rfl (fun hg=>Ev.ff (aL.gv rfl hg) Xb ft trivial rfl) rfl ?_;refine St.gt _ rfl rfl (fun hg=>Ev.move (.mk rfl)) rfl ?_;refine St.gt _ rfl rfl (fun hg=>Ev.aR (k:=b) (aL.gv rfl hg) (aL.gv rfl hg) ft qW (by first|omega|(simp only[aC]at hg;omega)) (by rw[mW];omega)) rfl ?_;refine St.gt _ rfl rfl (fun hg=>Ev.ff (aL.gv rfl hg) (oL (show b<(ts.map bf).length by omega)) sJ trivial rfl) rfl ?_;refine St.ee Ev.n0 ?_;refine St.nn ?_;refine St.cond _ rfl (fun h67=> ?_) (fun h67=> ?_)
     ·skip
      have hc:J4 (ts.map bf) a b i=true:=h67
      refine St.sr ?_;refine St.mv ?_;refine St.ee Ev.dn ?_;refine St.nn ?_;refine St.cond _ rfl (fun R5=> ?_) (fun R5=> ?_)
      ·try simp only[aC]at R5
       have he:=J5 R5
       refine St.rg ?_;refine St.mv ?_;refine St.ak ?_;refine St.nil (St.aN (St.aA (St.rg ?_)));refine St.ee Ev.a0 ?_;refine St.mv ?_;refine St.nn ?_;refine St.slot 9 (iv (nh (ts.map bf) a b (i+1))) rfl (congrArg iv (MD hc he).symm) ?_;refine St.aH (i+1) ⟨by omega,by rw[oK hc,he];exact fun x hx=>by cases hx⟩
      ·try simp only[aC]at R5
       obtain⟨m,r,he,hlm,hmi⟩:=J6 (show ¬nh (ts.map bf) a b i<0 by omega);refine St.sr ?_;refine St.mv ?_;refine St.mv ?_;refine St.ee (Ev.aR (k:=i) (.mk rfl) (.mk rfl) wH uU (by omega) (by omega)) ?_;refine St.ee (Ev.ff (.mk rfl) Xb ft trivial rfl) ?_;refine St.mv ?_;refine St.ee (Ev.aR (k:=m) (.mk rfl) (.mk rfl) ft qW (by omega) (by rw[mW];omega)) ?_;refine St.ee (Ev.ff (.mk rfl) (oL (show m<(ts.map bf).length by omega)) sJ trivial rfl) ?_;refine St.ee (Ev.not (.mk rfl)) ?_;refine St.nn ?_;refine St.cond _ rfl (fun vW=> ?_) (fun vW=> ?_)
       ·skip
        have hs:e9 (ts.map bf) i m=false:=by simpa using vW
        have hw:=FN hc (show i<(ts.map bf).length by omega) he hs
        have nS:=A0 (T:=(ts.map bf)) (show b<(ts.map bf).length by omega) (show a<b by omega) hw BX
        refine St.sr ?_;refine St.mv ?_;refine St.ak ?_;refine St.nn (St.aX (St.aM (St.aB (St.aB (St.aM (St.aM (St.aB (St.aB (St.aM (St.aM (St.aB (St.aB (St.aM (St.aB ?_))))))))))))));refine St.rU [_] [] Tryz.results74 ?_;exact congrArg iv (by unfold MF;rw[nS])
       ·skip
        have hs:e9 (ts.map bf) i m=true:=by simpa using vW
        refine St.skip (St.aN (St.aA (St.rg ?_)));refine St.ee Ev.a0 ?_;refine St.mv ?_;refine St.nn ?_;refine St.slot 9 (iv (nh (ts.map bf) a b (i+1))) rfl (congrArg iv ((ME hc he).trans hlm.symm).symm) ?_;refine St.aH (i+1) ⟨by omega,by rw[oK hc,he];rw[he]at pP;exact fun x hx=>by rcases List.mem_append.1 hx with hx|hx;exact pP x hx;rw[List.mem_singleton.1 hx];exact hs⟩
     ·skip
      have hc:J4 (ts.map bf) a b i=false:=by simpa[J4]using h67
      refine St.skip (St.aN (St.aA (St.rg ?_)));refine St.ee Ev.a0 ?_;refine St.mv ?_;refine St.nn ?_;refine St.slot 9 (iv (nh (ts.map bf) a b (i+1))) rfl (congrArg iv (J7 hc).symm) ?_;refine St.aH (i+1) ⟨by omega,by rw[Cb hc];exact pP⟩
    ·try simp only[aC]at Bm
     rw[show i=ts.length by omega]at pP;refine St.exit (St.aF (St.aF (St.bH (St.aN (St.aA (St.rg ?_))))));refine St.ee Ev.a0 ?_;refine St.mv ?_;refine St.nn ?_;refine St.aH (a+1) ⟨by omega,fun c hc=>by rcases Nat.lt_or_ge c a with h|h;exact oC c h;rw[show c=a by omega];exact Cc (by rw[sO];exact pP)⟩
   ·try simp only[aC]at pw
    rw[show a=b by omega]at oC;refine St.exit (St.aF (St.aF (St.bH (St.aN (St.aA (St.rg ?_))))));refine St.ee Ev.a0 ?_;refine St.mv ?_;refine St.nn ?_;refine St.aH (b+1) ⟨by omega,fun c hc=>by rcases Nat.lt_or_ge c b with h|h;exact BX c h;rw[show c=b by omega];exact pt oC⟩
  ·try simp only[aC]at LW
   have nS:kZ (ts.map bf)=none:=A1 (fun c hc=>BX c (by omega))
   refine St.exit (St.aF (St.aF (St.bH (St.aA (St.sr ?_)))));refine St.ak ?_;refine St.nn (St.aX ?_);refine St.rU [_] [] Tryz.results74 ?_;exact congrArg iv (by unfold MF;rw[nS])
theorem MH {T:List dc}(h:0≤MF T):∃b:Nat,kZ T=some b∧MF T=b:=by
 unfold MF at h⊢
 cases e:kZ T with
 |none=>rw[e]at h;exact absurd h (by decide)
 |some b=>exact⟨b,rfl,rfl⟩
theorem MI {T:List dc}(h:¬0≤MF T):kZ T=none:=by
 unfold MF at h
 cases e:kZ T with
 |none=>rfl
 |some b=>rw[e]at h;exact absurd (show(0:Int)≤b by omega) h
set_option maxHeartbeats 2000000 in
theorem Cd (tv xv:ck)(ts:List jj)(fs:List eF):ct Tryz.prog 35 #[.agg #[tv.1,xv.1]] [sl e6 tv.1 ts,aY ew ts,sl bu xv.1 fs] (fv (fZ (ts.map bf) (fs.map dR))):=by
 refine ct.G1 (args:=[.agg #[tv.1,xv.1]]) 87 Tryz.func35 rfl Tryz.ntmps35 rfl (fun c=> ?_);refine St.seq ?_
 have sO:(ts.map bf).length=ts.length:=List.length_map ..
 have Et:(fs.map dR).length=fs.length:=List.length_map ..
 refine St.wf tv.1 (fun qY ER=> ?_);refine St.wf xv.1 (fun Sp Yq=> ?_);refine St.rg ?_;refine St.cV (.mk rfl) rfl (fun b1=> ?_);refine St.alloc dF rfl (fun b2=> ?_);refine St.nn (St.seq (St.sr ?_));refine St.ee (Ev.aD (.mk rfl) jQ) ?_;refine St.ee (Ev.l0 (.mk rfl) iz) ?_;refine St.ee (Ev.ao (.mk rfl) iz) ?_;refine St.ee Ev.qn ?_;refine St.nn ?_;refine St.cond _ rfl (fun QI=> ?_) (fun QI=> ?_)
 ·try simp only[aC]at QI
  have hf:fZ (ts.map bf) (fs.map dR)=(2,-1):=wT (by omega)
  refine St.sr ?_;refine St.ee (Ev.build (ps:=[(0,(.const (.int .i64 2))),(1,(.const (.int .i64 (-1))))]) (aU.cons (aL.mk rfl) (aU.cons (aL.mk rfl) aU.nil)) (fun w=>bJ rfl rfl w)) ?_;refine St.sA (.mk rfl) (.mk rfl) ay ?_;refine St.nn (St.aX (St.aB ?_));refine St.rU [_] [] Tryz.results35 ?_;exact congrArg fv hf.symm
 ·try simp only[aC]at QI
  have wU:¬40<(fs.map dR).length:=by omega
  refine St.skip (St.aA (St.seq (St.sr ?_)));refine St.ee (Ev.aD (.mk rfl) fm) ?_;refine St.ee (Ev.l0 (.mk rfl) eW) ?_;refine St.ee (Ev.call (Ag tv.1 ts) acJ (.cons (.mk rfl) .nil)) ?_;refine St.alloc dF rfl (fun b3=> ?_);refine St.sA (.mk rfl) (.mk rfl) ay ?_;refine St.nn (St.sr ?_);refine St.ee (Ev.aD (.mk rfl) cX) ?_;refine St.ee (Ev.l0 (.mk rfl) bP) ?_;refine St.ee Ev.k9 ?_;refine St.nn ?_;refine St.cond _ rfl (fun gY=> ?_) (fun gY=> ?_)
  ·skip
   have hb:(qU (ts.map bf)).1≠0:=by simpa using gY
   refine St.sr ?_;refine St.ee (Ev.bF (.mk rfl) fl trivial (by exact ay)) ?_;refine St.sA (.mk rfl) (.mk rfl) ay ?_;refine St.nn (St.aX (St.aB ?_));refine St.rU [_] [] Tryz.results35 ?_;exact congrArg fv (A3 wU hb).symm
  ·skip
   have hb:¬(qU (ts.map bf)).1≠0:=by simpa using gY
   have hT:=(Bt (Decidable.not_not.1 hb)).2.2
   have vT:=hT.len
   refine St.skip (St.aA (St.seq (St.sr ?_)));refine St.ee (Ev.aD (.mk rfl) fm) ?_;refine St.ee (Ev.l0 (.mk rfl) eW) ?_;refine St.ee (Ev.call (Ah tv.1 ts hT) acK (.cons (.mk rfl) .nil)) ?_;refine St.ak ?_;refine St.nn (St.sr ?_);refine St.mv ?_;refine St.ee Ev.qV ?_;refine St.nn ?_;refine St.cond _ rfl (fun ov=> ?_) (fun ov=> ?_)
   ·try simp only[aC]at ov
    obtain⟨ub,hub,hue⟩:=MH ov
    have hf:=A4 (Fs:=fs.map dR) wU hb hub
    refine St.sr ?_;refine St.mv ?_;refine St.ee (Ev.build (ps:=[(0,(.const (.int .i64 16))),(1,(.tmp 26))]) (aU.cons (aL.mk rfl) (aU.cons (aL.mk rfl) aU.nil)) (fun w=>bJ rfl rfl w)) ?_;refine St.sA (.mk rfl) (.mk rfl) ay ?_;refine St.nn (St.aX (St.aB ?_));refine St.rU [_] [] Tryz.results35 ?_
    rw[hf,hue];rfl
   ·try simp only[aC]at ov
    have BX:=MI (show ¬0≤MF (ts.map bf) by omega)
    have PN:=A5 (Fs:=fs.map dR) wU hb BX
    rw[sO]at PN;refine St.skip (St.aA (St.seq (St.sr ?_)));refine St.ee (Ev.aD (.mk rfl) jQ) ?_;refine St.ee (Ev.l0 (.mk rfl) iz) ?_;refine St.ee (Ev.ao (.mk rfl) iz) ?_;refine St.mv ?_;refine St.nn (St.block ?_);refine St.lH (ι:=Nat) (fun k T=>(31,iv k)::T) (fun k=>[ae b2 (.cells [iv 0,iv 0].toArray 42 (0,0)),ae b1 (.cells [tv.1,xv.1].toArray 25 (0,0)),aG (sl e6 tv.1 ts),aG (aY ew ts),aG (sl bu xv.1 fs)]) (fun k=>k≤fs.length∧fZ (ts.map bf) (fs.map dR)=jM ts.length ((fs.take k).map eF.name) k ((fs.map dR).drop k)) (fun k=>fs.length-k) 0 (aE.cons 1 rfl (aE.cons 2 rfl (aE.cons 29 rfl (aE.cons 30 rfl aE.nil)))) ⟨Nat.zero_le _,PN⟩ ?_;intro k dA;obtain⟨hk,hv⟩:=dA;refine St.sr ?_;refine St.ee Ev.dn ?_;refine St.nn (St.seq ?_);refine St.cond _ rfl (fun oE=> ?_) (fun oE=> ?_)
    ·try simp only[aC]at oE
     obtain⟨t,ht⟩:=aO (show k<fs.length by omega)
     have lU:=List.mem_of_getElem? ht
     have cE:=rh (n:=ts.length) (l:=fs.map dR) (k:=k) (t:=dR t) (by rw[List.getElem?_map,ht];rfl) ((fs.take k).map eF.name)
     rw[←hv]at cE
     have zr:t.name.length≤9223372036854775807:=by have:=(Sp t lU).1;simp only[iL]at this;omega
     refine St.skip (St.aA (St.seq (St.block (St.sr ?_))));refine St.mv ?_;refine St.ee (Ev.aR (k:=k) (.mk rfl) (.mk rfl) iz jH (by omega) (by omega)) ?_;refine St.ee (Ev.fg (.mk rfl) ht zZ trivial jH ei.eq) ?_;refine St.alloc wJ rfl (fun b6=> ?_);refine St.ak ?_;refine St.sA (.mk rfl) (.mk rfl) jH ?_ (h1:=(by simp only[List.all_cons,List.all_nil,Bool.and_true,Bool.and_eq_true];exact⟨rfl,rfl,rfl⟩));refine St.nn (St.seq (St.sr ?_));refine St.ee (Ev.aD (.mk rfl) o4) ?_;refine St.ee (Ev.l0 (.mk rfl) df) ?_;refine St.ee (Ev.call (pN t.name zr) QA (.cons (.mk rfl) .nil)) ?_;refine St.ee (Ev.not (.mk rfl)) ?_;refine St.nn ?_;refine St.cond _ rfl (fun A8=> ?_) (fun A8=> ?_)
     ·try simp only[aC]at A8
      rw[if_pos (show isName (dR t).1=false from(by simpa using A8:isName t.name=false))]at cE;refine St.sr ?_;refine St.mv ?_;refine St.ee (Ev.build (ps:=[(0,(.const (.int .i64 10))),(1,(.tmp 40))]) (aU.cons (aL.mk rfl) (aU.cons (aL.mk rfl) aU.nil)) (fun w=>bJ rfl rfl w)) ?_;refine St.sA (.mk rfl) (.mk rfl) ay ?_;refine St.nn (St.aX (St.aB (St.aM (St.aB (St.aB (St.aM (St.aB ?_)))))));refine St.rU [_] [] Tryz.results35 ?_;exact congrArg fv cE.symm
     ·try simp only[aC]at A8
      rw[if_neg (show ¬isName (dR t).1=false from(by simpa using A8:¬isName t.name=false))]at cE;refine St.skip (St.aA (St.seq (St.sr ?_)));refine St.ee (Ev.aD (.mk rfl) jQ) ?_;refine St.ee (Ev.l0 (.mk rfl) iz) ?_;refine St.mv ?_;refine St.ee (Ev.nk (h:=k) (.mk rfl) (.mk rfl) iz jH (by omega) (by omega)) ?_;refine St.part (Rr:=bu) (xs:=fs) xv.1 0 k (Nat.zero_le _) (by omega) ?_;refine St.gQ (sl bu (pO xv.1 bu.size 0 k) (fs.take k)) [sl bu (pO xv.1 bu.size 0 k) ((fs.drop 0).take (k-0))] (fun ρ h=>by simpa using h _ (List.mem_cons_self ..)) ?_
      have v7:(fs.take k).length=k:=by rw[List.length_take];omega
      refine St.ee (Ev.ao (.mk rfl) iz) ?_;refine St.mv ?_;refine St.nn (St.block ?_);refine St.lH (ι:=Nat) (fun q T=>(47,iv q)::T) (fun q=>[aG (sl bu (pO xv.1 bu.size 0 k) (fs.take k)),ae b6 (.cells [sv t.name,iv t.nC,iv t.value].toArray 116 (0,0)),ae b2 (.cells [iv 0,iv 0].toArray 42 (0,0)),ae b1 (.cells [tv.1,xv.1].toArray 25 (0,0)),aG (sl e6 tv.1 ts),aG (aY ew ts),aG (sl bu xv.1 fs)]) (fun q=>q≤k∧t.name∉(fs.take q).map eF.name) (fun q=>k-q) 0 (aE.cons 1 rfl (aE.cons 2 rfl (aE.cons 5 rfl (aE.cons 6 rfl (aE.cons 29 rfl (aE.cons 30 rfl (aE.cons 31 rfl (aE.cons 45 rfl (aE.cons 46 rfl aE.nil))))))))) ⟨Nat.zero_le _,by simp⟩ ?_;intro q dA;obtain⟨hq,ma⟩:=dA;refine St.sr ?_;refine St.ee Ev.dn ?_;refine St.nn (St.seq ?_);refine St.cond _ rfl (fun qD=> ?_) (fun qD=> ?_)
      ·try simp only[aC]at qD
       obtain⟨y,hy⟩:=aO (show q<fs.length by omega);refine St.skip (St.aA (St.seq (St.block (St.sr ?_))));refine St.ee (Ev.aR (k:=q) (.mk rfl) (.mk rfl) iz jH (by omega) (by omega)) ?_;refine St.ee (Ev.fg (.mk rfl) (qL hy (show q<k by omega)) zZ trivial jH ei.eq) ?_;refine St.alloc wJ rfl (fun b8=> ?_);refine St.sA (.mk rfl) (.mk rfl) jH ?_ (h1:=(by simp only[List.all_cons,List.all_nil,Bool.and_true,Bool.and_eq_true];exact⟨rfl,rfl,rfl⟩));refine St.nn (St.sr ?_);refine St.ee (Ev.aD (.mk rfl) o4) ?_;refine St.ee (Ev.l0 (.mk rfl) df) ?_;refine St.ee (Ev.aD (.mk rfl) o4) ?_;refine St.ee (Ev.l0 (.mk rfl) df) ?_;refine St.ee (Ev.hP (.mk rfl) (.mk rfl)) ?_;refine St.nn ?_;refine St.cond _ rfl (fun Ab=> ?_) (fun Ab=> ?_)
       ·try simp only[aC]at Ab
        have vh:=mV eF.name hy (show q<k by omega)
        rw[Ab]at vh;rw[if_pos (show(dR t).1∈(fs.take k).map eF.name from vh)]at cE;refine St.sr ?_;refine St.mv ?_;refine St.ee (Ev.build (ps:=[(0,(.const (.int .i64 7))),(1,(.tmp 56))]) (aU.cons (aL.mk rfl) (aU.cons (aL.mk rfl) aU.nil)) (fun w=>bJ rfl rfl w)) ?_;refine St.sA (.mk rfl) (.mk rfl) ay ?_;refine St.nn (St.aX (St.aM (St.aB (St.aB (St.aM (St.aB (St.aM (St.aB (St.aB (St.aM (St.aB ?_)))))))))));refine St.rU [_] [] Tryz.results35 ?_;exact congrArg fv cE.symm
       ·try simp only[aC]at Ab
        refine St.skip (St.aN (St.aA (St.rg ?_)));refine St.ee Ev.a0 ?_;refine St.mv ?_;refine St.nn ?_;refine St.aH (q+1) ⟨by omega,by rw[bx eF.name hy];exact uZ ma Ab⟩
      ·try simp only[aC]at qD
       rw[show q=k by omega]at ma;rw[if_neg (show ¬(dR t).1∈(fs.take k).map eF.name from ma)]at cE;refine St.exit (St.aF (St.aF (St.bH (St.aA (St.sr ?_)))));refine St.ee (Ev.aD (.mk rfl) o5) ?_;refine St.ee (Ev.l0 (.mk rfl) bP) ?_;refine St.ee Ev.dn ?_;refine St.mv ?_;refine St.gf _ rfl rfl (fun hg=>Ev.aD (.mk rfl) o5) rfl ?_;refine St.gf _ rfl rfl (fun hg=>Ev.cN (aL.gv rfl hg) bP trivial (by rfl)) rfl ?_;refine St.gf _ rfl rfl (fun hg=>Ev.aD (.mk rfl) fm) rfl ?_;refine St.gf _ rfl rfl (fun hg=>Ev.cN (aL.gv rfl hg) eW trivial (by rfl)) rfl ?_;refine St.gf _ rfl rfl (fun hg=>Ev.ao (aL.gv rfl hg) eW) rfl ?_;refine St.gf _ rfl rfl (fun hg=>Ev.geq (aL.gv rfl hg) (aL.gv rfl hg)) rfl ?_;refine St.ee Ev.o0 ?_;refine St.mv ?_;refine St.gf _ rfl rfl (fun hg=>Ev.aD (.mk rfl) o6) rfl ?_;refine St.gf _ rfl rfl (fun hg=>Ev.cN (aL.gv rfl hg) bP trivial (by rfl)) rfl ?_;refine St.gf _ rfl rfl (fun hg=>Ev.lss (aL.gv rfl hg) (.mk rfl)) rfl ?_;refine St.ee Ev.o0 ?_;refine St.mv ?_;refine St.gf _ rfl rfl (fun hg=>Ev.aD (.mk rfl) o6) rfl ?_;refine St.gf _ rfl rfl (fun hg=>Ev.cN (aL.gv rfl hg) bP trivial (by rfl)) rfl ?_;refine St.gf _ rfl rfl (fun hg=>Ev.aD (.mk rfl) fm) rfl ?_;refine St.gf _ rfl rfl (fun hg=>Ev.cN (aL.gv rfl hg) eW trivial (by rfl)) rfl ?_;refine St.gf _ rfl rfl (fun hg=>Ev.ao (aL.gv rfl hg) eW) rfl ?_;refine St.gf _ rfl rfl (fun hg=>Ev.geq (aL.gv rfl hg) (aL.gv rfl hg)) rfl ?_;refine St.ee Ev.o0 ?_;refine St.nn ?_;refine St.cond _ rfl (fun QJ=> ?_) (fun QJ=> ?_)
       ·try simp only[aC]at QJ
        rw[if_pos (show(dR t).2.1<0∨(ts.length:Int)≤(dR t).2.1∨(dR t).2.2<0∨(ts.length:Int)≤(dR t).2.2 from(by omega:t.nC<0∨(ts.length:Int)≤t.nC∨t.value<0∨(ts.length:Int)≤t.value))]at cE;refine St.sr ?_;refine St.mv ?_;refine St.ee (Ev.build (ps:=[(0,(.const (.int .i64 3))),(1,(.tmp 83))]) (aU.cons (aL.mk rfl) (aU.cons (aL.mk rfl) aU.nil)) (fun w=>bJ rfl rfl w)) ?_;refine St.sA (.mk rfl) (.mk rfl) ay ?_;refine St.nn (St.aX (St.aM (St.aB (St.aB (St.aM (St.aB ?_))))));refine St.rU [_] [] Tryz.results35 ?_;exact congrArg fv cE.symm
       ·try simp only[aC]at QJ
        rw[if_neg (show ¬((dR t).2.1<0∨(ts.length:Int)≤(dR t).2.1∨(dR t).2.2<0∨(ts.length:Int)≤(dR t).2.2)from(by omega:¬(t.nC<0∨(ts.length:Int)≤t.nC∨t.value<0∨(ts.length:Int)≤t.value)))]at cE;refine St.skip (St.aN (St.aA (St.rg ?_)));refine St.ee Ev.a0 ?_;refine St.mv ?_;refine St.nn ?_;refine St.aH (k+1) ⟨by omega,by rw[cE,bx eF.name ht];rfl⟩
    ·try simp only[aC]at oE
     rw[u6 (by rw[List.length_map];omega)]at hv;refine St.exit (St.aF (St.aF (St.bH (St.aA (St.sr ?_)))));refine St.ee (Ev.build (ps:=[]) (aU.nil) (fun w=>fA w)) ?_;refine St.sA (.mk rfl) (.mk rfl) ay ?_;refine St.nn (St.aX ?_);refine St.rU [_] [] Tryz.results35 ?_;exact congrArg fv hv.symm
end Go.Proofs.YtolmidffiegkaaaGreatDoor
namespace Go.J
open Go
section
variable {P:Program}{n:Nat}{F:Fr}{c:Ctx}{H:List bQ}{ty t e:TypeId}{x:Operand}{v:Value}{m k:Nat}{α:Type}
theorem Ev.rB {R:Rp α}{l:List α}{g:α}{dd:TypeDesc}[hr:vm v H e R.size m (rows R l)](hx:aL F x (eC v R.size k 0))(hg:l[k]?=some g)(ht:P.underlying t=some dd)(lz:(match dd with| .struct _| .array _ _=>True|_=>False))
 (hs:(P.info? t).map (·.size)=some R.size) (hk:k<m):Ev P n F (Mm c H) (.load t x) ty (.agg (R.cells g).toArray):= .of_run fun a w ha hw=>by
 obtain⟨ρ,hm⟩:=hw.out
 have h0:(rows R l)[k*R.size+0]?=(R.cells g)[0]?:=jv R l k 0 g hg R.pos
 have TW:0<(R.cells g).length:=by rw[R.len];exact R.pos
 rw[List.getElem?_eq_getElem TW]at h0;obtain⟨b,e1,c1,o1,_⟩:=mz (hm.row hr) (off:=0) hk h0;rw[e1]at hx
 have h4:=eh (P:=P) (w:=w) (b:=b) (off:=k*R.size+0) (L:=R.cells g) ht lz (by rw[hs,R.len]) (fun j u hj=>by
  have EE:j<R.size:=by rw[←R.len g];exact(List.getElem?_eq_some_iff.1 hj).1
  have hj':(rows R l)[k*R.size+j]?=some u:=by rw[jv R l k j g hg EE,hj]
  obtain⟨b',e2,c2,o2,_⟩:=mz (hm.row hr) (off:=j) hk hj'
  rw[o1]at o2;cases o2
  simpa using c2)
 simp at hx h4
 simp[execOp,hx.eval ha,Instr.loadAt,Instr.sureAddr,h4]
theorem xG (R:Rp α):∀(l:List α) (k:Nat),(rows R l).take (k*R.size)=rows R (l.take k)
 | [],k=>by simp[rows]
 |a::l,0=>by simp[rows]
 |a::l,k+1=>by
  have e:(k+1)*R.size=(R.cells a).length+k*R.size:=by rw[R.len,Nat.add_mul];omega
  show(R.cells a++rows R l).take _=R.cells a++rows R (l.take k)
  rw[e,List.take_length_add_append,xG R l k]
theorem qM (R:Rp α)(l:List α)(a:α):(rows R (l++ [a])).take (l.length*R.size)=rows R l:=by rw[xG,List.take_left' rfl]
theorem JB (R:Rp α)(l:List α)(a b:α):rows R (l++ [a,b])=rows R l++(R.cells a++R.cells b):=by simp[rows]
end
end Go.J
namespace Go.Proofs.YtolmidffiegkaaaGreatDoor
open Go Go.J
abbrev RA:Rp (cT×Nat):=⟨3,by decide,fun p=>[sv p.1.base,p.1.av.1,iv (p.2:Nat)],fun _=>True,fun _=>rfl,fun p u h=>by
 simp only[List.mem_cons,List.not_mem_nil,or_false]at h
 rcases h with rfl|rfl|rfl
 ·rfl
 ·exact p.1.av.2
 ·rfl⟩
def OE (st:List (cT×Nat)):List (dY×Nat):=st.reverse.map fun p=>(bK p.1,p.2)
theorem JC (s0:List (cT×Nat))(p:cT×Nat):OE (s0++ [p])=(bK p.1,p.2)::OE s0:=by unfold OE;rw[List.reverse_append];rfl
theorem MJ (s0:List (cT×Nat))(a b:cT)(d:Nat):OE (s0++ [(b,d),(a,d)])=[bK a,bK b].map (fun y=>(y,d))++OE s0:=by unfold OE;rw[List.reverse_append];rfl
theorem xH (m:Nat):dS [] m=decide (m=2):=by unfold dS;simp[sE,sT]
theorem Ce {b:cQ}(hb:¬b=[])(m:Nat):dS b m=((decide (b=sE)||decide (b=sT))&&decide (m=0)):=by unfold dS;simp[hb]
theorem JD {y a b:cT}(h:y.args=[a,b]):(bK y).args=[bK a,bK b]:=by rw[dG,h];rfl
theorem Aj (x:cT):ct Tryz.prog 122 #[aQ x] [bW x] (.bool (iB (bK x))):=by
 refine ct.ic (args:=[aQ x]) 12 Tryz.func122 rfl Tryz.ntmps122 rfl (fun c=> ?_);refine St.sr ?_;refine St.cV (.mk rfl) rfl (fun b1=> ?_);refine St.ak ?_;refine St.nn (St.seq ?_);refine St.jk x ?_;refine St.rg ?_;refine St.ee (Ev.aD (.mk rfl) j2) ?_;refine St.ee (Ev.l0 (.mk rfl) df) ?_;refine St.ee (Ev.hP (.mk rfl) (.mk rfl)) ?_;refine St.mv ?_;refine St.gt _ rfl rfl (fun hg=>Ev.aD (.mk rfl) ef) rfl ?_;refine St.gt _ rfl rfl (fun hg=>Ev.cN (aL.gv rfl hg) dM trivial (by rfl)) rfl ?_;refine St.gt _ rfl rfl (fun hg=>Ev.ao (aL.gv rfl hg) dM) rfl ?_;refine St.gt _ rfl rfl (fun hg=>Ev.eql (aL.gv rfl hg) (.mk rfl)) rfl ?_;refine St.ee Ev.n0 ?_;refine St.ak ?_;refine St.nn (St.aX ?_);refine St.rU [_] [] Tryz.results122 ?_;exact be (by rw[iB,fh,dG,List.length_map,Bool.eq_iff_iff];simp only[Bool.and_eq_true,beq_iff_eq,decide_eq_true_eq];exact⟨fun h=>⟨h.1,by have:=h.2;omega⟩,fun h=>⟨h.1,by have:=h.2;omega⟩⟩)
set_option maxHeartbeats 2000000 in
theorem ym (x:cT):ct Tryz.prog 124 #[aQ x] [bW x] (iv (jl (bK x))):=by
 refine ct.ic (args:=[aQ x]) 79 Tryz.func124 rfl Tryz.ntmps124 rfl (fun c=> ?_);refine St.seq ?_;refine St.da bW ?_;refine St.eo bW (xs:=[]) (x:=x) ?_;refine St.gQ (aY bW (([(x,1)]:List (cT×Nat)).map Prod.fst)) [aY bW [x]] (fun ρ h=>h _ (List.mem_cons_self ..)) ?_;refine St.rg ?_;refine St.cV (.mk rfl) rfl (fun b1=> ?_);refine St.ak ?_;refine St.nn (St.sr ?_);refine St.ee (Ev.bF (.mk rfl) bX trivial (by exact bC)) ?_;refine St.ee (Ev.build (ps:=[(0,(.tmp 6)),(1,(.const (.int .i64 1)))]) (aU.cons (aL.mk rfl) (aU.cons (aL.mk rfl) aU.nil)) (fun w=>pM rfl w)) ?_;refine St.cn rfl (.cons (.mk rfl) .nil) rS uV Iw rfl rfl (by simp[Value.cells]) rfl rfl (fun b8=> ?_);refine St.bB (.slice (some ⟨b8,0,none⟩) 1 1) (show _=([(x,1)]:List (cT×Nat)).length from rfl) (show _=rows RA [(x,1)]from rfl) ?_;refine St.ak ?_;refine St.nn (St.sr ?_);refine St.ak ?_;refine St.nn (St.seq (St.block ?_));refine St.mf (ι:=Unit) (κ:=Value×List (cT×Nat)×Nat) (fun u z T=>(3,z.1)::(4,iv (z.2.2:Nat))::T) (fun u z=>[row z.1 214 3 (z.2.1).length (rows RA (z.2.1)),aG (aY bW ((z.2.1).map Prod.fst)),ae b1 (.cells [sv x.base,x.av.1].toArray 88 (0,0)),aG (bW x)]) (fun u z=>z.2.2≤200∧ko (OE z.2.1) z.2.2=jl (bK x)∧(∀p∈z.2.1,p.2≤41)∧z.2.1.length≤z.2.2+1) (fun u z=>201-z.2.2) () ((.slice (some ⟨b8,0,none⟩) 1 1),[(x,1)],0) (aE.nil) ⟨Nat.zero_le _,Ee (bK x),by simp,Nat.le_refl _⟩ ?_;rintro u ⟨vz,st,n⟩ ⟨hn,cE,OG,sc⟩
 dsimp only at hn cE OG sc⊢
 refine St.seq (St.sr ?_);refine St.mv ?_;refine St.ee (Ev.fS (.mk rfl) rS) ?_;refine St.ee Ev.qn ?_;refine St.nn ?_;refine St.cond _ rfl (fun vE=> ?_) (fun vE=> ?_)
 ·try simp only[aC]at vE
  obtain⟨s0,p,rfl⟩:=yM (show 0<st.length by omega);obtain⟨y,d⟩:=p
  have WU:=OG (y,d) (by simp)
  replace WU:d≤41:=WU
  have Oj:(s0++ [(y,d)]).length=s0.length+1:=by rw[List.length_append];rfl
  rw[JC]at cE
  replace cE:ko ((bK y,d)::OE s0) n=jl (bK x):=cE
  refine St.cD bW ((s0++ [(y,d)]).map Prod.fst) (x:=y) (by simp) ?_;refine St.gQ (aY bW (s0.map Prod.fst)) [aY bW ((s0++ [(y,d)]).map Prod.fst)] (fun ρ h z hz=>h _ (List.mem_cons_self ..) z (by rw[List.map_append];exact List.mem_append_left _ hz)) ?_;refine St.jk y ?_;refine St.skip (St.aA (St.block (St.sr ?_)));refine St.mv ?_;refine St.mv ?_;refine St.ee (Ev.fS (.mk rfl) rS) ?_;refine St.ee Ev.s0 ?_;refine St.ee (Ev.cK (k:=s0.length) (.mk rfl) (.mk rfl) rS uV (by omega) (by omega)) ?_;refine St.ee (Ev.rB (R:=RA) (l:=s0++ [(y,d)]) (g:=(y,d)) (.mk rfl) (by simp) Tryz.underlying214 trivial uV (by omega)) ?_;refine St.alloc O9 rfl (fun b5=> ?_);refine St.sA (.mk rfl) (.mk rfl) uV ?_ (h1:=(by simp only[List.all_cons,List.all_nil,Bool.and_true,Bool.and_eq_true];exact⟨rfl,y.av.2,rfl⟩));refine St.nn (St.sr ?_);refine St.mv ?_;refine St.mv ?_;refine St.ee (Ev.fS (.mk rfl) rS) ?_;refine St.ee Ev.s0 ?_;refine St.ee (Ev.p6 (h:=s0.length) (.mk rfl) (.mk rfl) rS uV (by omega) (by omega)) ?_;refine St.BU vz s0.length (by omega) ?_;refine St.bB (pO vz 3 0 s0.length) rfl (qM RA s0 (y,d)) ?_;refine St.ak ?_;refine St.nn (St.sr ?_);refine St.mv ?_;refine St.ee Ev.a0 ?_;refine St.slot 24 (iv ((n+1:Nat):Int)) rfl rfl ?_;refine St.ak ?_;refine St.nn (St.seq (St.sr ?_));refine St.mv ?_;refine St.ee Ev.qn ?_;refine St.mv ?_;refine St.gf _ rfl rfl (fun hg=>Ev.aD (.mk rfl) yg) rfl ?_;refine St.gf _ rfl rfl (fun hg=>Ev.cN (aL.gv rfl hg) bP trivial (by rfl)) rfl ?_;refine St.gf _ rfl rfl (fun hg=>Ev.gtr (aL.gv rfl hg) (.mk rfl)) rfl ?_;refine St.ee Ev.o0 ?_;refine St.nn ?_;refine St.cond _ rfl (fun kO=> ?_) (fun kO=> ?_)
  ·try simp only[aC]at kO
   rw[Ef (by omega)]at cE;refine St.sr ?_;refine St.ak ?_;refine St.nn (St.aX (St.aB (St.aM (St.aB (St.aM (St.aB ?_))))));refine St.rU [_] [] Tryz.results124 ?_;exact congrArg iv cE
  ·try simp only[aC]at kO
   have Du:¬(200<n+1∨40<d):=by omega
   refine St.skip (St.aA (St.sr ?_));refine St.ee (Ev.aD (.mk rfl) mU) ?_;refine St.ee (Ev.xT (.mk rfl) j2) ?_;refine St.ee (Ev.l0 (.mk rfl) df) ?_;refine St.ee (Ev.hP (.mk rfl) (.mk rfl)) ?_;refine St.nn ?_;refine St.cond _ rfl (fun z7=> ?_) (fun z7=> ?_)
   ·try simp only[aC]at z7
    have WV:(bK y).base=[]:=by rw[fh];exact z7
    refine St.seq (St.sr ?_);refine St.ee (Ev.aD (.mk rfl) mU) ?_;refine St.ee (Ev.xT (.mk rfl) ef) ?_;refine St.ee (Ev.l0 (.mk rfl) dM) ?_;refine St.ee (Ev.ao (.mk rfl) dM) ?_;refine St.ee Ev.k9 ?_;refine St.nn ?_;refine St.cond _ rfl (fun wU=> ?_) (fun wU=> ?_)
    ·try simp only[aC]at wU
     have sk:dS (bK y).base (bK y).args.length=false:=by rw[WV,xH,dG,List.length_map];exact decide_eq_false (by omega)
     rw[wL Du sk]at cE;refine St.sr ?_;refine St.ak ?_;refine St.nn (St.aX (St.aB (St.aM (St.aB (St.aM (St.aB ?_))))));refine St.rU [_] [] Tryz.results124 ?_;exact congrArg iv cE
    ·try simp only[aC]at wU
     obtain⟨a,b,sU⟩:=nM (show y.args.length=2 by omega)
     have sk:dS (bK y).base (bK y).args.length=true:=by rw[WV,xH,dG,sU];rfl
     rw[zh Du sk,JD sU,←MJ]at cE;refine St.cD bW y.args (x:=a) (by rw[sU];simp) ?_;refine St.cD bW y.args (x:=b) (by rw[sU];simp) ?_;refine St.gQ (aY bW ((s0++ [(b,d+1),(a,d+1)]).map Prod.fst)) [aY bW (s0.map Prod.fst),bW a,bW b] (fun ρ h z hz=>by rw[List.map_append]at hz;rcases List.mem_append.1 hz with hz|hz;exact h _ (List.mem_cons_self ..) z hz;simp only[List.map_cons,List.map_nil,List.mem_cons,List.not_mem_nil,or_false]at hz;rcases hz with rfl|rfl;exact h _ (by simp);exact h _ (by simp)) ?_;refine St.skip (St.aA ?_);refine St.eV [row (pO vz 3 0 s0.length) 214 3 (s0).length (rows RA (s0))] mixed (fun np ns=> ?_);refine SW.dd 0 rfl (fun _=>Ev.move (.mk rfl)) ?_;refine SW.dd 1 rfl (fun _=>Ev.aD (.mk rfl) mU) ?_;refine SW.dd 2 rfl (fun _=>Ev.xT (.mk rfl) ef) ?_;refine SW.dd 3 rfl (fun _=>Ev.cN (.mk rfl) dM trivial (by rfl)) ?_;refine SW.dd 4 rfl (fun _=>Ev.aR (k:=1) (.mk rfl) (.mk rfl) dM bC (by omega) (by rw[sU];simp)) ?_;refine SW.dd 5 rfl (fun _=>Ev.fg (.mk rfl) (show y.args[1]?=some b by rw[sU];rfl) bX trivial bC ei.eq) ?_;refine SW.dd 6 rfl (fun _=>Ev.aD (.mk rfl) yg) ?_;refine SW.dd 7 rfl (fun _=>Ev.cN (.mk rfl) bP trivial (by rfl)) ?_;refine SW.dd 8 rfl (fun _=>Ev.a0) ?_;refine SW.slot 49 (iv ((d+1:Nat):Int)) rfl rfl ?_;refine SW.dd 9 rfl (fun _=>Ev.build (ps:=[(0,(.tmp 46)),(1,(.tmp 49))]) (aU.cons (aL.mk rfl) (aU.cons (aL.mk rfl) aU.nil)) (fun w=>pM rfl w)) ?_;refine SW.dd 10 rfl (fun _=>Ev.aD (.mk rfl) mU) ?_;refine SW.dd 11 rfl (fun _=>Ev.xT (.mk rfl) ef) ?_;refine SW.dd 12 rfl (fun _=>Ev.cN (.mk rfl) dM trivial (by rfl)) ?_;refine SW.dd 13 rfl (fun _=>Ev.aR (k:=0) (.mk rfl) (.mk rfl) dM bC (by omega) (by rw[sU];simp)) ?_;refine SW.dd 14 rfl (fun _=>Ev.fg (.mk rfl) (show y.args[0]?=some a by rw[sU];rfl) bX trivial bC ei.eq) ?_;refine SW.dd 15 rfl (fun _=>Ev.aD (.mk rfl) yg) ?_;refine SW.dd 16 rfl (fun _=>Ev.cN (.mk rfl) bP trivial (by rfl)) ?_;refine SW.dd 17 rfl (fun _=>Ev.a0) ?_;refine SW.slot 58 (iv ((d+1:Nat):Int)) rfl rfl ?_;refine SW.dd 18 rfl (fun _=>Ev.build (ps:=[(0,(.tmp 55)),(1,(.tmp 58))]) (aU.cons (aL.mk rfl) (aU.cons (aL.mk rfl) aU.nil)) (fun w=>pM rfl w)) ?_;refine SW.bG (i:=19) (by kernel_rfl) rfl ?_;refine St.cn rfl (.cons (.mk rfl) (.cons (.mk rfl) .nil)) rS uV Iw rfl rfl (by simp[Value.cells]) rfl rfl (fun b60=> ?_);refine St.nn ?_;refine SW.go ?_;refine SW.bG (i:=20) (by kernel_rfl) rfl ?_;refine St.cS (.mk rfl) (.mk rfl) rS uV Iw Vz (fun u hu=>by simp only[List.flatMap_cons,List.flatMap_nil,Value.cells,List.mem_append,List.mem_cons,List.not_mem_nil,or_false]at hu;rcases hu with(rfl|rfl|rfl)|(rfl|rfl|rfl);rfl;exact b.av.2;rfl;rfl;exact a.av.2;rfl) (by omega) (by omega) rfl rfl rfl rfl (fun Zw ae3=> ?_);refine St.bB Zw (show _=(s0++ [(b,d+1),(a,d+1)]).length by rw[List.length_append];rfl) (show _=rows RA (s0++ [(b,d+1),(a,d+1)]) by rw[JB];rfl) ?_;refine St.nn ?_;refine SW.go ?_;refine SW.dd 21 rfl (fun _=>Ev.assign (.mk rfl)) ?_;refine SW.done (by kernel_rfl) ?_;refine St.aN (St.aA ?_);refine St.jb () (Zw,s0++ [(b,d+1),(a,d+1)],n+1) ⟨by dsimp only;omega,cE,fun p hp=>by rcases List.mem_append.1 hp with hp|hp;exact OG p (List.mem_append_left _ hp);simp only[List.mem_cons,List.not_mem_nil,or_false]at hp;rcases hp with rfl|rfl;show d+1≤41;omega;show d+1≤41;omega,by dsimp only;rw[List.length_append];simp only[List.length_cons,List.length_nil];omega⟩
   ·try simp only[aC]at z7
    have WV:¬(bK y).base=[]:=by rw[fh];exact z7
    have QK:=Ce WV (bK y).args.length
    rw[fh,dG,List.length_map]at QK;refine St.sr ?_;refine St.ee (Ev.aD (.mk rfl) mU) ?_;refine St.ee (Ev.xT (.mk rfl) j2) ?_;refine St.ee (Ev.l0 (.mk rfl) df) ?_;refine St.ee (Ev.oa (.mk rfl) (.mk rfl)) ?_;refine St.mv ?_;refine St.gt _ rfl rfl (fun hg=>Ev.aD (.mk rfl) mU) rfl ?_;refine St.gt _ rfl rfl (fun hg=>Ev.xT (aL.gv rfl hg) j2) rfl ?_;refine St.gt _ rfl rfl (fun hg=>Ev.cN (aL.gv rfl hg) df trivial (by rfl)) rfl ?_;refine St.gt _ rfl rfl (fun hg=>Ev.oa (aL.gv rfl hg) (.mk rfl)) rfl ?_;refine St.ee Ev.n0 ?_;refine St.mv ?_;refine St.gf _ rfl rfl (fun hg=>Ev.aD (.mk rfl) mU) rfl ?_;refine St.gf _ rfl rfl (fun hg=>Ev.xT (aL.gv rfl hg) ef) rfl ?_;refine St.gf _ rfl rfl (fun hg=>Ev.cN (aL.gv rfl hg) dM trivial (by rfl)) rfl ?_;refine St.gf _ rfl rfl (fun hg=>Ev.ao (aL.gv rfl hg) dM) rfl ?_;refine St.gf _ rfl rfl (fun hg=>Ev.neq (aL.gv rfl hg) (.mk rfl)) rfl ?_;refine St.ee Ev.o0 ?_;refine St.nn ?_;refine St.cond _ rfl (fun vW=> ?_) (fun vW=> ?_)
    ·try simp only[aC]at vW
     have sk:dS (bK y).base (bK y).args.length=false:=by rw[fh,dG,List.length_map,QK,Bool.and_eq_false_iff,Bool.or_eq_false_iff,decide_eq_false_iff_not,decide_eq_false_iff_not,decide_eq_false_iff_not];rcases vW with h|h;left;exact h;right;omega
     rw[wL Du sk]at cE;refine St.sr ?_;refine St.ak ?_;refine St.nn (St.aX (St.aM (St.aB (St.aM (St.aB ?_)))));refine St.rU [_] [] Tryz.results124 ?_;exact congrArg iv cE
    ·try simp only[aC]at vW
     have Sm:y.args.length=0:=by omega
     have sk:dS (bK y).base (bK y).args.length=true:=by rw[fh,dG,List.length_map,QK,Bool.and_eq_true,Bool.or_eq_true,decide_eq_true_eq,decide_eq_true_eq,decide_eq_true_eq];refine⟨?_,Sm⟩;rcases vW.1 with h|h;left;exact h;right;exact h
     rw[zh Du sk,dG,List.eq_nil_of_length_eq_zero Sm]at cE;refine St.skip (St.aN (St.aA ?_));refine St.jb () (pO vz 3 0 s0.length,s0,n+1) ⟨by dsimp only;omega,cE,fun p hp=>OG p (List.mem_append_left _ hp),by dsimp only;omega⟩
 ·try simp only[aC]at vE
  obtain rfl:st=[]:=List.eq_nil_of_length_eq_zero (by omega);refine St.exit (St.aF (St.aF (St.bH (St.aA (St.sr ?_)))));refine St.ak ?_;refine St.nn (St.aX ?_);refine St.rU [_] [] Tryz.results124 ?_;exact congrArg iv cE
theorem gX.cases {x:cT}(h:gX (bK x)):((x.base=sE∨x.base=sT)∧yx (bK x)=x.base)∨(x.base=[]∧∃a b,x.args=[a,b]∧gX (bK a)∧gX (bK b)∧yx (bK x)=[40]++yx (bK a)++ [32]++yx (bK b)++ [41]∧rY (bK x)=rY (bK a)+rY (bK b)+1):=by
 obtain⟨bs,av,args⟩:=x;rw[j8]at h⊢
 cases args with
 |nil=>
  cases h with
  |leaf hb=>left;exact⟨hb,by rcases hb with rfl|rfl<;>rfl⟩
 |cons a l=>
  cases l with
  |nil=>cases h
  |cons b l=>
   cases l with
   |nil=>
    cases h with
    |fn h1 h2=>right;exact⟨rfl,a,b,rfl,h1,h2,rfl,by simp only[List.map_cons,List.map_nil,rY,yA];omega⟩
   |cons c l=>cases h
set_option maxHeartbeats 1000000 in
theorem qN:∀(x:cT),gX (bK x)→rY (bK x)≤1000000000→ct Tryz.prog 147 #[aQ x] [bW x] (sv (yx (bK x))):=by
 intro x
 induction x using cT.ind
 rename_i x ih
 intro pP fR;refine ct.ic (args:=[aQ x]) 22 Tryz.func147 rfl Tryz.ntmps147 rfl (fun c=> ?_);refine St.seq ?_;refine St.jk x ?_
 have ER:=yE pP
 refine St.rg ?_;refine St.cV (.mk rfl) rfl (fun b1=> ?_);refine St.ak ?_;refine St.nn (St.seq (St.sr ?_));refine St.ee (Ev.aD (.mk rfl) j2) ?_;refine St.ee (Ev.l0 (.mk rfl) df) ?_;refine St.ee (Ev.oa (.mk rfl) (.mk rfl)) ?_;refine St.nn ?_;refine St.cond _ rfl (fun h5=> ?_) (fun h5=> ?_)
 ·try simp only[aC]at h5
  rcases pP.cases with⟨hb,ht⟩|⟨hb,_⟩
  rotate_left
  exact absurd hb h5;refine St.sr ?_;refine St.ee (Ev.aD (.mk rfl) j2) ?_;refine St.ee (Ev.l0 (.mk rfl) df) ?_;refine St.ak ?_;refine St.nn (St.aX (St.aB ?_));refine St.rU [_] [] Tryz.results147 ?_;exact congrArg sv ht.symm
 ·try simp only[aC]at h5
  rcases pP.cases with⟨hb,_⟩|⟨hb,a,b,sU,ha,Fo,ht,ae4⟩
  exact absurd h5 (by rcases hb with h|h<;>rw[h]<;>decide)
  have PW:=yE ha
  have htb:=yE Fo
  refine St.cD bW x.args (x:=a) (by rw[sU];simp) ?_;refine St.cD bW x.args (x:=b) (by rw[sU];simp) ?_
  have iha:=ih a (by rw[sU];simp) ha (by omega)
  have ihb:=ih b (by rw[sU];simp) Fo (by omega)
  refine St.skip (St.aA (St.seq ?_));refine St.rq mixed (by kernel_rfl) (Mm.drawn _ _) ?_;refine Sq.ee (Ev.aD (.mk rfl) ef) ?_;refine Sq.ee (Ev.l0 (.mk rfl) dM) ?_;refine Sq.ee (Ev.aR (k:=0) (.mk rfl) (.mk rfl) dM bC (by omega) (by rw[sU];simp)) ?_;refine Sq.ee (Ev.fg (.mk rfl) (show x.args[0]?=some a by rw[sU];rfl) bX trivial bC ei.eq) ?_;refine Sq.ee (Ev.call iha Dp (.cons (.mk rfl) .nil)) ?_;refine Sq.ee (Ev.mC (.mk rfl) (.mk rfl) (by simp;omega)) ?_;refine Sq.ee (Ev.mC (.mk rfl) (.mk rfl) (by simp;omega)) ?_;refine Sq.ee (Ev.aD (.mk rfl) ef) ?_;refine Sq.ee (Ev.l0 (.mk rfl) dM) ?_;refine Sq.ee (Ev.aR (k:=1) (.mk rfl) (.mk rfl) dM bC (by omega) (by rw[sU];simp)) ?_;refine Sq.ee (Ev.fg (.mk rfl) (show x.args[1]?=some b by rw[sU];rfl) bX trivial bC ei.eq) ?_;refine Sq.ee (Ev.call ihb Dp (.cons (.mk rfl) .nil)) ?_;refine Sq.ee (Ev.mC (.mk rfl) (.mk rfl) (by simp;omega)) ?_;refine Sq.ee (Ev.mC (.mk rfl) (.mk rfl) (by simp;omega)) ?_;refine Sq.ee (Ev.assign (.mk rfl)) ?_;refine Sq.nil ?_;refine St.aA (St.aX ?_);refine St.rU [_] [] Tryz.results147 ?_;exact congrArg sv (by rw[ht])
theorem Cf (x y:cT)(hx:gX (bK x))(hy:gX (bK y))(h1:rY (bK x)≤1000000000)(h2:rY (bK y)≤1000000000):ct Tryz.prog 143 #[aQ x,aQ y] [bW x,bW y] (.bool (fp (bK x) (bK y))):=by
 refine ct.mw (args:=[aQ x,aQ y]) 10 Tryz.func143 rfl Tryz.ntmps143 rfl (fun c=> ?_);refine St.sr ?_;refine St.cV (.mk rfl) rfl (fun b2=> ?_);refine St.cV (.mk rfl) rfl (fun b3=> ?_);refine St.ak ?_;refine St.nn (St.seq ?_);refine St.rq mixed (by kernel_rfl) (Mm.drawn _ _) ?_;refine Sq.ee (Ev.bF (.mk rfl) bX trivial (by exact bC)) ?_;refine Sq.ee (Ev.call (qN x hx h1) Dp (.cons (.mk rfl) .nil)) ?_;refine Sq.ee (Ev.bF (.mk rfl) bX trivial (by exact bC)) ?_;refine Sq.ee (Ev.call (qN y hy h2) Dp (.cons (.mk rfl) .nil)) ?_;refine Sq.ee (Ev.hP (.mk rfl) (.mk rfl)) ?_;refine Sq.ee (Ev.assign (.mk rfl)) ?_;refine Sq.nil ?_;refine St.aA (St.aX ?_);refine St.rU [_] [] Tryz.results143 ?_;exact be (Gx hx hy)
theorem ML (u1 u2:Value)(s1 s2:dY):fF Tryz.prog 142 #[u1,u2] ([au s1 u1,au s2 u2].map aG) (fun v H'=>H'=[aG (au (.mk [] [s1,s2]) v)]):=by
 refine fF.body (args:=[u1,u2]) 9 Tryz.func142 rfl Tryz.ntmps142 rfl (fun c=> ?_);refine St.cast (H':=[aG (au s1 u1),aG (au s2 u2)]) rfl ?_;refine St.seq ?_;refine St.au s1 u1 (fun x hx=> ?_);obtain⟨rfl,rfl,lq⟩:=hx;refine St.au s2 u2 (fun y hy=> ?_);obtain⟨rfl,rfl,Kq⟩:=hy;refine St.rg ?_;refine St.cV (.mk rfl) rfl (fun b2=> ?_);refine St.cV (.mk rfl) rfl (fun b3=> ?_);refine St.alloc iP rfl (fun b4=> ?_);refine St.nn (St.sr ?_);refine St.ee (Ev.bF (.mk rfl) bX trivial (by exact bC)) ?_;refine St.ee (Ev.bF (.mk rfl) bX trivial (by exact bC)) ?_;refine St.cn rfl (.cons (.mk rfl) (.cons (.mk rfl) .nil)) dM bC EW rfl rfl (by simp[Value.cells]) rfl rfl (fun b7=> ?_);refine St.aV (.slice (some ⟨b7,0,none⟩) 2 2) gh [x,y] rfl rfl (td lq Kq) ?_;refine St.da bW ?_;refine St.eo bW (xs:=[]) (x:=y) ?_;refine St.eo bW (xs:=[y]) (x:=x) ?_;refine St.mb [] (.slice (some ⟨b7,0,none⟩) 2 2) rfl [x,y] ?_;refine St.ee (Ev.build (ps:=[(1,(.tmp 7))]) (aU.cons (aL.mk rfl) aU.nil) (fun w=>y9 rfl w)) ?_;refine St.sA (.mk rfl) (.mk rfl) bC ?_;refine St.nn (St.aX ?_);refine St.zW (.mk [] ⟨(.slice (some ⟨b7,0,none⟩) 2 2),rfl⟩ [x,y]) (s:= .mk [] [bK x,bK y]) (aQ (.mk [] ⟨(.slice (some ⟨b7,0,none⟩) 2 2),rfl⟩ [x,y])) rfl (j8 _ _ _) (Nat.zero_le _) ?_;refine St.rT [_] [aG (au (.mk [] [bK x,bK y]) (aQ (.mk [] ⟨(.slice (some ⟨b7,0,none⟩) 2 2),rfl⟩ [x,y])))] Tryz.results142 ⟨⟨_,_,_,_,rfl,ju.mem,.inl ⟨⟨_,bX⟩,bC,rfl⟩⟩,trivial⟩ ?_;rfl
end Go.Proofs.YtolmidffiegkaaaGreatDoor
namespace Go.J
open Go
section
variable {P:Program}{n:Nat}{F:Fr}{c:Ctx}{A:World→Prop}{H R:List bQ}{ty t:TypeId}{x lo hi:Operand}{s:cQ}{Q:Exit→Act→World→Prop}{ops:Array Oper}{rest:List Oper}{d:Nat}{pos:String}{after:Array Edge}
theorem Ak (s:cQ)(l h:Nat):Value.string ((⟨s.toArray⟩:ByteArray).extract l h)=sv ((s.take h).drop l):=by
 unfold sv
 congr 1
 apply ByteArray.ext
 simp[ByteArray.data_extract,List.drop_take]
theorem qO (s:cQ):(⟨s.toArray⟩:ByteArray).size=s.length:=by simp[ByteArray.size]
theorem Ev.MM {i:Int}{k:IntKind}{l:Nat}(hx:aL F x (sv s))(Fm:aL F lo (.int k i))(ht:P.underlying t=some .string)(hi:i=l)(hl:l≤s.length):Ev P n F A (.slice t x (some lo) none none) ty (sv (s.drop l)):= .of_run fun a w ha _=>by
 subst hi
 have:=run_slice_string_l (P:=P) w t ⟨s.toArray⟩ ht k l (by omega) (by rw[qO];omega)
 rw[Int.toNat_natCast,Ak,qO,List.take_length]at this
 simp only[sv]at this⊢
 simp[execOp,hx.eval ha,Fm.eval ha,Instr.sliceAt,run_underlying ht,this,sv]
theorem St.JE (hx:aL F x (sv s))(ht:P.underlying t=some .string)(hd:Nat.ble (d+1) n=true)
 (h:∀b,St n ((d,.pointer (some ⟨b,0,none⟩))::F) (Mm c (ae b (.stringIter ⟨s.toArray⟩ 0)::H)) (wpList P ops Q rest)):
 St n F (Mm c H) (wpList P ops Q ({dst:=some d,op:= .range t x,type:=ty,pos:=pos,after:=after,guard:=none}::rest)):=by
 refine St.Fj (K:=fun u H'=>∃b,u= .pointer (some ⟨b,0,none⟩)∧H'=ae b (.stringIter ⟨s.toArray⟩ 0)::H) ?_ hd ?_
 ·intro a w ρ ha hm
  have hr:=run_range_string (P:=P) w t ⟨s.toArray⟩ ht
  exact⟨.value (.pointer (some ⟨w.heap.size,0,none⟩)),w.alloc (.stringIter ⟨s.toArray⟩ 0),ρ,_,by simp[execOp,hx.eval ha,sv,hr,World.iter],⟨_,.inl rfl,_,rfl,rfl⟩,hm.alloc _⟩
 ·rintro _ _ ⟨b,rfl,rfl⟩
  exact h b
theorem St.MN {b p:Nat}[tk:lX b H (.stringIter ⟨s.toArray⟩ p) R](hx:aL F x (.pointer (some ⟨b,0,none⟩)))(hd:Nat.ble (d+1) n=true)
 (h:∀u,(p<s.length→u= .tuple #[.bool true,iv (p:Nat),.int .i32 ((Utf8.decode ⟨s.toArray⟩ p).1:Nat)])→(¬p<s.length→u= .tuple #[.bool false])→
  St n ((d,u)::F) (Mm c (ae b (.stringIter ⟨s.toArray⟩ (p+if p<s.length then(Utf8.decode ⟨s.toArray⟩ p).2 else 0))::R)) (wpList P ops Q rest)):
 St n F (Mm c H) (wpList P ops Q ({dst:=some d,op:= .next x true,type:=ty,pos:=pos,after:=after,guard:=none}::rest)):=by
 refine St.Fj (K:=fun u H'=>(p<s.length→u= .tuple #[.bool true,iv (p:Nat),.int .i32 ((Utf8.decode ⟨s.toArray⟩ p).1:Nat)])∧(¬p<s.length→u= .tuple #[.bool false])∧H'=ae b (.stringIter ⟨s.toArray⟩ (p+if p<s.length then(Utf8.decode ⟨s.toArray⟩ p).2 else 0))::R) ?_ hd ?_
 ·intro a w ρ ha KC
  have hm:=KC.perm tk.perm
  have hg:=eS.1 (hm.dK _ (List.mem_cons_self ..))
  have hb:=(Array.getElem?_eq_some_iff.1 hg).1
  by_cases hp:p<s.length
  ·have Xc:p<(⟨s.toArray⟩:ByteArray).size:=by rw[qO];exact hp
   refine⟨.value (.tuple #[.bool true,iv (p:Nat),.int .i32 ((Utf8.decode ⟨s.toArray⟩ p).1:Nat)]),{w with heap:=w.heap.setIfInBounds b (.stringIter ⟨s.toArray⟩ (p+(Utf8.decode ⟨s.toArray⟩ p).2))},ρ,_,?_,⟨_,.inl rfl,fun _=>rfl,fun h=>absurd hp h,rfl⟩,?_⟩
   ·simp only[execOp,hx.eval ha,Instr.next,getObj,setObj,Sem.run_bind,Sem.run,hg,Result.andThen,Xc,if_true]
    simp[goInt,iv,Sem.run,hg,hb]
   ·rw[if_pos hp]
    refine hm.alter rfl ⟨rfl,Nat.le_refl _⟩ rfl (by simp) (fun k hk fz=> ?_) (eS.2 ?_) (fun b' j6=>by rw[fQ]at j6⊢;exact .inl j6)
    ·rw[fQ]at fz
     have:b≠k:=fun e=>fz (by rw[e])
     simp[Array.getElem?_setIfInBounds,this]
    ·simp[Array.getElem?_setIfInBounds,hb]
  ·have Xc:¬p<(⟨s.toArray⟩:ByteArray).size:=by rw[qO];exact hp
   refine⟨.value (.tuple #[.bool false]),w,ρ,_,?_,⟨_,.inl rfl,fun h=>absurd h hp,fun _=>rfl,rfl⟩,?_⟩
   ·simp[execOp,hx.eval ha,Instr.next,getObj,Sem.run,hg,Xc]
   ·rw[if_neg hp,Nat.add_zero];exact hm
 ·rintro u _ ⟨h1,h2,rfl⟩
  exact h u h1 h2
theorem Ev.JF {p:Nat}{u:Value}{tp:Value}{cs:Value}(hx:aL F x u)(h1:p<s.length→u= .tuple #[.bool true,tp,cs])(h2:¬p<s.length→u= .tuple #[.bool false]):Ev P n F A (.extract x 0) ty (.bool (decide (p<s.length))):=by
 by_cases hp:p<s.length
 ·rw[h1 hp]at hx;rw[decide_eq_true hp];exact Ev.extract hx rfl
 ·rw[h2 hp]at hx;rw[decide_eq_false hp];exact Ev.extract hx rfl
end
end Go.J
