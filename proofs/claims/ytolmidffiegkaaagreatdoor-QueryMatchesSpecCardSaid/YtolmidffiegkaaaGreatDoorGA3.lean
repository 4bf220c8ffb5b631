/-
  Laws of walks through programs, and facts on grammars, trees and queries.
  Conditions: none.
-/
import Derived.Test.YtolmidffiegkaaaGreatDoorGA2
import Derived.Test.YtolmidffiegkaaaGreatDoorGA1
import Derived.Lib.SliceRun
import Derived.Shelf.Spec.TrailingZeros
import Derived.Test.YtolmidffiegkaaaGreatDoorChecked
set_option maxRecDepth 20000
set_option linter.unusedSimpArgs false
set_option linter.unusedVariables false
namespace Go.Proofs.YtolmidffiegkaaaGreatDoor
open Go Go.J
theorem Ku:∀(x:dY) (d n:Nat),n≤200→(gF x d n).1≤201:=by
 intro x;refine dY.rec (motive_1:=fun x=>∀d n,n≤200→(gF x d n).1≤201) (motive_2:=fun l=>∀d n,n≤200→(gT l d n).1≤201) ?_ ?_ ?_ x
 ·intro b l ih d n hn
  rw[gF]
  split
  ·show n+1≤201;omega
  ·split
   ·show n+1≤201;omega
   ·exact ih _ _ (by omega)
 ·intro d n h;show n≤201;omega
 ·intro x l BA yC d n h
  rw[gT]
  split
  ·exact BA d n h
  ·rename_i h1
   exact yC _ _ (yD x d n (Decidable.not_not.1 h1)).2.2
theorem Bl {l:List dY}{k:Nat}{y:dY}(h:l[k]?=some y)(d n:Nat):gT (l.drop k) d n=if(gF y d n).2≠0 then gF y d n else gT (l.drop (k+1)) d (gF y d n).1:=by rw[bz h,gT]
theorem Eh {l:List dY}{k:Nat}(h:l.length≤k)(d n:Nat):gT (l.drop k) d n=(n,0):=by rw[List.drop_of_length_le h,gT]
theorem zm {b:cQ}{m:Nat}(h:dS b m=true):m≤2:=by
 unfold dS at h
 simp only[Bool.or_eq_true,Bool.and_eq_true,decide_eq_true_eq]at h
 rcases h with⟨_,h⟩|⟨_,h⟩<;>omega
theorem zo (b:cQ)(m:Nat):(((b==([101]:cQ))||(b==([116]:cQ)))&&decide ((m:Int)=0)||((b==([]:cQ))&&decide ((m:Int)=2)))=dS b m:=by
 unfold dS;rw[Bool.eq_iff_iff]
 simp only[Bool.or_eq_true,Bool.and_eq_true,beq_iff_eq,decide_eq_true_eq]
 constructor
 ·rintro (⟨h,k⟩|⟨h,k⟩)
  ·exact .inl ⟨h,by omega⟩
  ·exact .inr ⟨h,by omega⟩
 ·rintro (⟨h,k⟩|⟨h,k⟩)
  ·exact .inl ⟨h,by omega⟩
  ·exact .inr ⟨h,by omega⟩
theorem jt (s:cQ)(hs:s.length≤9223372036854775807):ct Tryz.prog 25 #[sv s] [] (.bool (isName s)):=by
 refine ct.jA (args:=[sv s]) 55 Tryz.func25 rfl Tryz.ntmps25 rfl (fun c=> ?_);refine St.sr ?_;refine St.ak ?_;refine St.nn (St.seq (St.sr ?_));refine St.mv ?_;refine St.ee (Ev.gx (.mk rfl) df) ?_;refine St.ee Ev.ey ?_;refine St.mv ?_;refine St.gf _ rfl rfl (fun hg=>Ev.move (.mk rfl)) rfl ?_;refine St.gf _ rfl rfl (fun hg=>Ev.gx (aL.gv rfl hg) df) rfl ?_;refine St.gf _ rfl rfl (fun hg=>Ev.gtr (aL.gv rfl hg) (.mk rfl)) rfl ?_;refine St.ee Ev.o0 ?_;refine St.mv ?_;refine St.gf _ rfl rfl (fun hg=>Ev.move (.mk rfl)) rfl ?_;refine St.gf _ rfl rfl (fun hg=>Ev.en (k:=0) (aL.gv rfl hg) (.mk rfl) df rfl (by first|omega|(simp only[aC]at hg;omega))) rfl ?_;refine St.gf _ rfl rfl (fun hg=>Ev.lss (aL.gv rfl hg) (.mk rfl)) rfl ?_;refine St.ee Ev.o0 ?_;refine St.mv ?_;refine St.gf _ rfl rfl (fun hg=>Ev.move (.mk rfl)) rfl ?_;refine St.gf _ rfl rfl (fun hg=>Ev.en (k:=0) (aL.gv rfl hg) (.mk rfl) df rfl (by first|omega|(simp only[aC]at hg;omega))) rfl ?_;refine St.gf _ rfl rfl (fun hg=>Ev.gtr (aL.gv rfl hg) (.mk rfl)) rfl ?_;refine St.ee Ev.o0 ?_;refine St.nn ?_;refine St.cond _ rfl (fun vR=> ?_) (fun vR=> ?_)
 ·try simp only[aC]at vR
  refine St.sr ?_;refine St.ak ?_;refine St.nn (St.aX (St.aB ?_));refine St.rU [_] [] Tryz.results25 ?_;exact be (gD (by omega)).symm
 ·try simp only[aC]at vR
  refine St.skip (St.aA (St.seq (St.sr ?_)));refine St.mv ?_;refine St.ee (Ev.gx (.mk rfl) df) ?_;refine St.mv ?_;refine St.nn (St.block ?_);refine St.lS (ι:=Nat) (fun k T=>(25,iv k)::T) (fun k=>k≤s.length∧(s.take k).all du=true) (fun k=>s.length-k) 0 (aE.cons 0 rfl (aE.cons 24 rfl aE.nil)) ⟨Nat.zero_le _,rfl⟩ ?_;intro k dA;obtain⟨hk,eP⟩:=dA;refine St.sr ?_;refine St.ee Ev.dn ?_;refine St.nn (St.seq ?_);refine St.cond _ rfl (fun BB=> ?_) (fun BB=> ?_)
  ·try simp only[aC]at BB
   refine St.skip (St.aA (St.seq (St.block (St.sr ?_))));refine St.mv ?_;refine St.ak ?_;refine St.nn (St.sr ?_);refine St.mv ?_;refine St.mv ?_;refine St.ee (Ev.en (.mk rfl) (.mk rfl) df rfl (by omega)) ?_;refine St.ak ?_;refine St.nn (St.sr ?_);refine St.mv ?_;refine St.ee Ev.qV ?_;refine St.mv ?_;refine St.gt _ rfl rfl (fun hg=>Ev.move (.mk rfl)) rfl ?_;refine St.gt _ rfl rfl (fun hg=>Ev.leq (aL.gv rfl hg) (.mk rfl)) rfl ?_;refine St.ee Ev.n0 ?_;refine St.mv ?_;refine St.gf _ rfl rfl (fun hg=>Ev.move (.mk rfl)) rfl ?_;refine St.gf _ rfl rfl (fun hg=>Ev.geq (aL.gv rfl hg) (.mk rfl)) rfl ?_;refine St.gf _ rfl rfl (fun hg=>Ev.move (aL.gv rfl hg)) rfl ?_;refine St.oZ _ rfl rfl (fun hg=>Ev.move (.mk rfl)) rfl ?_;refine St.oZ _ rfl rfl (fun hg=>Ev.leq (aL.gv rfl hg) (.mk rfl)) rfl ?_;refine St.gf _ rfl rfl (fun hg=>Ev.and (aL.gv rfl hg) (fun hp=>aL.gv rfl (hN hg hp))) rfl ?_;refine St.ee Ev.o0 ?_;refine St.mv ?_;refine St.gf _ rfl rfl (fun hg=>Ev.move (.mk rfl)) rfl ?_;refine St.gf _ rfl rfl (fun hg=>Ev.eql (aL.gv rfl hg) (.mk rfl)) rfl ?_;refine St.ee Ev.o0 ?_;refine St.mv ?_;refine St.gf _ rfl rfl (fun hg=>Ev.move (.mk rfl)) rfl ?_;refine St.gf _ rfl rfl (fun hg=>Ev.eql (aL.gv rfl hg) (.mk rfl)) rfl ?_;refine St.ee Ev.o0 ?_;refine St.ee (Ev.not (.mk rfl)) ?_;refine St.nn ?_;refine St.cond _ rfl (fun DK=> ?_) (fun DK=> ?_)
   ·try simp only[aC]at DK
    refine St.sr ?_;refine St.ak ?_;refine St.nn (St.aX (St.aM (St.aB (St.aB (St.aM (St.aB ?_))))));refine St.rU [_] [] Tryz.results25 ?_;exact be (kU (k:=k) (by omega) (by simp only[du,low,digit,Bool.and_eq_false_iff,Bool.or_eq_false_iff,decide_eq_false_iff_not];omega)).symm
   ·try simp only[aC]at DK
    refine St.skip (St.aN (St.aA (St.rg ?_)));refine St.ee Ev.a0 ?_;refine St.mv ?_;refine St.nn ?_;refine St.aS (k+1) ⟨by omega,j7 (d:=0) eP (by simp only[du,low,digit,Bool.and_eq_true,Bool.or_eq_true,decide_eq_true_eq];exact DK)⟩
  ·try simp only[aC]at BB
   refine St.exit (St.aF (St.aF (St.bH (St.aA (St.sr ?_)))));refine St.ak ?_;refine St.nn (St.aX ?_);refine St.rU [_] [] Tryz.results25 ?_;exact be (kV (by omega) (by omega) (by simp only[low,Bool.and_eq_true,decide_eq_true_eq];omega) (kT eP (by omega))).symm
theorem cy (a b:Int):ct Tryz.prog 24 #[iv a,iv b] [] (fv (a,b)):=by
 refine ct.jA (args:=[iv a,iv b]) 8 Tryz.func24 rfl Tryz.ntmps24 rfl (fun c=> ?_);refine St.sr ?_;refine St.alloc dF rfl (fun b4=> ?_);refine St.nn (St.sr ?_);refine St.mv ?_;refine St.mv ?_;refine St.ee (Ev.build (ps:=[(0,(.tmp 5)),(1,(.tmp 6))]) (aU.cons (aL.mk rfl) (aU.cons (aL.mk rfl) aU.nil)) (fun w=>bJ rfl rfl w)) ?_;refine St.sA (.mk rfl) (.mk rfl) ay ?_;refine St.nn (St.aX ?_);refine St.rU [_] [] Tryz.results24 ?_;rfl
theorem dh (a b:Int):ct Tryz.prog 65 #[iv a,iv b] [] (fv (a,b)):=by
 refine ct.jA (args:=[iv a,iv b]) 8 Tryz.func65 rfl Tryz.ntmps65 rfl (fun c=> ?_);refine St.sr ?_;refine St.alloc dF rfl (fun b4=> ?_);refine St.nn (St.sr ?_);refine St.mv ?_;refine St.mv ?_;refine St.ee (Ev.build (ps:=[(0,(.tmp 5)),(1,(.tmp 6))]) (aU.cons (aL.mk rfl) (aU.cons (aL.mk rfl) aU.nil)) (fun w=>bJ rfl rfl w)) ?_;refine St.sA (.mk rfl) (.mk rfl) ay ?_;refine St.nn (St.aX ?_);refine St.rU [_] [] Tryz.results65 ?_;rfl
theorem eR (a b:Int):ct Tryz.prog 71 #[iv a,iv b] [] (fv (a,b)):=by
 refine ct.jA (args:=[iv a,iv b]) 8 Tryz.func71 rfl Tryz.ntmps71 rfl (fun c=> ?_);refine St.sr ?_;refine St.alloc dF rfl (fun b4=> ?_);refine St.nn (St.sr ?_);refine St.mv ?_;refine St.mv ?_;refine St.ee (Ev.build (ps:=[(0,(.tmp 5)),(1,(.tmp 6))]) (aU.cons (aL.mk rfl) (aU.cons (aL.mk rfl) aU.nil)) (fun w=>bJ rfl rfl w)) ?_;refine St.sA (.mk rfl) (.mk rfl) ay ?_;refine St.nn (St.aX ?_);refine St.rU [_] [] Tryz.results71 ?_;rfl
theorem cH (a b:Int):ct Tryz.prog 92 #[iv a,iv b] [] (fv (a,b)):=by
 refine ct.jA (args:=[iv a,iv b]) 8 Tryz.func92 rfl Tryz.ntmps92 rfl (fun c=> ?_);refine St.sr ?_;refine St.alloc dF rfl (fun b4=> ?_);refine St.nn (St.sr ?_);refine St.mv ?_;refine St.mv ?_;refine St.ee (Ev.build (ps:=[(0,(.tmp 5)),(1,(.tmp 6))]) (aU.cons (aL.mk rfl) (aU.cons (aL.mk rfl) aU.nil)) (fun w=>bJ rfl rfl w)) ?_;refine St.sA (.mk rfl) (.mk rfl) ay ?_;refine St.nn (St.aX ?_);refine St.rU [_] [] Tryz.results92 ?_;rfl
theorem ej (a b:Int):ct Tryz.prog 99 #[iv a,iv b] [] (fv (a,b)):=by
 refine ct.jA (args:=[iv a,iv b]) 8 Tryz.func99 rfl Tryz.ntmps99 rfl (fun c=> ?_);refine St.sr ?_;refine St.alloc dF rfl (fun b4=> ?_);refine St.nn (St.sr ?_);refine St.mv ?_;refine St.mv ?_;refine St.ee (Ev.build (ps:=[(0,(.tmp 5)),(1,(.tmp 6))]) (aU.cons (aL.mk rfl) (aU.cons (aL.mk rfl) aU.nil)) (fun w=>bJ rfl rfl w)) ?_;refine St.sA (.mk rfl) (.mk rfl) ay ?_;refine St.nn (St.aX ?_);refine St.rU [_] [] Tryz.results99 ?_;rfl
theorem wO (x:cT):ct Tryz.prog 120 #[aQ x] [bW x] (.bool (iB (bK x))):=by
 refine ct.ic (args:=[aQ x]) 12 Tryz.func120 rfl Tryz.ntmps120 rfl (fun c=> ?_);refine St.sr ?_;refine St.cV (.mk rfl) rfl (fun b1=> ?_);refine St.ak ?_;refine St.nn (St.seq ?_);refine St.jk x ?_;refine St.rg ?_;refine St.ee (Ev.aD (.mk rfl) j2) ?_;refine St.ee (Ev.l0 (.mk rfl) df) ?_;refine St.ee (Ev.hP (.mk rfl) (.mk rfl)) ?_;refine St.mv ?_;refine St.gt _ rfl rfl (fun hg=>Ev.aD (.mk rfl) ef) rfl ?_;refine St.gt _ rfl rfl (fun hg=>Ev.cN (aL.gv rfl hg) dM trivial (by rfl)) rfl ?_;refine St.gt _ rfl rfl (fun hg=>Ev.ao (aL.gv rfl hg) dM) rfl ?_;refine St.gt _ rfl rfl (fun hg=>Ev.eql (aL.gv rfl hg) (.mk rfl)) rfl ?_;refine St.ee Ev.n0 ?_;refine St.ak ?_;refine St.nn (St.aX ?_);refine St.rU [_] [] Tryz.results120 ?_;exact be (by rw[iB,fh,dG,List.length_map,Bool.eq_iff_iff];simp only[Bool.and_eq_true,beq_iff_eq,decide_eq_true_eq];exact⟨fun h=>⟨h.1,by have:=h.2;omega⟩,fun h=>⟨h.1,by have:=h.2;omega⟩⟩)
set_option maxHeartbeats 1000000 in
theorem yF (bn bw tw:Nat):∀(x:cT) (d n:Nat),d≤100→n≤200→fF Tryz.prog 138 ([aQ x,iv (d:Nat)]++ [Value.pointer (some ⟨bn,0,none⟩),Value.pointer (some ⟨bw,0,none⟩)]).toArray [aG (bW x),ae bn (.cells [iv (n:Nat)].toArray 3 (0,0)),ae bw (.cells [(.func (.func 138) #[] [Value.pointer (some ⟨bn,0,none⟩),Value.pointer (some ⟨bw,0,none⟩)].toArray)].toArray tw (0,0))] (fun v H'=>v=iv (gF (bK x) d n).2∧H'=[ae bn (.cells [iv ((gF (bK x) d n).1:Nat)].toArray 3 (0,0)),ae bw (.cells [(.func (.func 138) #[] [Value.pointer (some ⟨bn,0,none⟩),Value.pointer (some ⟨bw,0,none⟩)].toArray)].toArray tw (0,0))]):=by
 intro x
 induction x using cT.ind
 rename_i x ih
 intro d n hd hn;refine fF.body (args:=[aQ x,iv (d:Nat)]++ [Value.pointer (some ⟨bn,0,none⟩),Value.pointer (some ⟨bw,0,none⟩)]) 62 Tryz.func138 rfl Tryz.ntmps138 rfl (fun c=> ?_);refine St.seq ?_
 have cu:=si (bK x) d n
 rw[fh,dG,List.length_map]at cu;refine St.jk x ?_;refine St.rg ?_;refine St.cV (.mk rfl) rfl (fun b4=> ?_);refine St.ak ?_;refine St.nn (St.sr ?_);refine St.ee (Ev.l0 (.mk rfl) bP) ?_;refine St.ee Ev.a0 ?_;refine St.cW (.mk rfl) (.mk rfl) cr rfl (by rfl) ?_;refine St.gg bn (L':=[iv ((n+1:Nat):Int)]) rfl ?_;refine St.nn (St.seq (St.sr ?_));refine St.ee (Ev.l0 (.mk rfl) bP) ?_;refine St.ee Ev.qn ?_;refine St.mv ?_;refine St.gf _ rfl rfl (fun hg=>Ev.move (.mk rfl)) rfl ?_;refine St.gf _ rfl rfl (fun hg=>Ev.gtr (aL.gv rfl hg) (.mk rfl)) rfl ?_;refine St.ee Ev.o0 ?_;refine St.nn ?_;refine St.cond _ rfl (fun fN=> ?_) (fun fN=> ?_)
 ·try simp only[aC]at fN
  rw[if_pos (by omega)]at cu;refine St.sr ?_;refine St.ak ?_;refine St.nn (St.aX (St.aB ?_));refine St.rU [_] [ae bn (.cells [iv ((n+1):Nat)].toArray 3 (0,0)),ae bw (.cells [(.func (.func 138) #[] [Value.pointer (some ⟨bn,0,none⟩),Value.pointer (some ⟨bw,0,none⟩)].toArray)].toArray tw (0,0))] Tryz.results138 ?_
  rw[cu];exact⟨rfl,rfl⟩
 ·try simp only[aC]at fN
  rw[if_neg (by omega)]at cu;refine St.skip (St.aA (St.sr ?_));refine St.ee (Ev.aD (.mk rfl) j2) ?_;refine St.ee (Ev.l0 (.mk rfl) df) ?_;refine St.ee (Ev.hP (.mk rfl) (.mk rfl)) ?_;refine St.mv ?_;refine St.gf _ rfl rfl (fun hg=>Ev.aD (.mk rfl) j2) rfl ?_;refine St.gf _ rfl rfl (fun hg=>Ev.cN (aL.gv rfl hg) df trivial (by rfl)) rfl ?_;refine St.gf _ rfl rfl (fun hg=>Ev.hP (aL.gv rfl hg) (.mk rfl)) rfl ?_;refine St.ee Ev.o0 ?_;refine St.ak ?_;refine St.nn (St.seq (St.sr ?_));refine St.mv ?_;refine St.mv ?_;refine St.gt _ rfl rfl (fun hg=>Ev.aD (.mk rfl) ef) rfl ?_;refine St.gt _ rfl rfl (fun hg=>Ev.cN (aL.gv rfl hg) dM trivial (by rfl)) rfl ?_;refine St.gt _ rfl rfl (fun hg=>Ev.ao (aL.gv rfl hg) dM) rfl ?_;refine St.gt _ rfl rfl (fun hg=>Ev.eql (aL.gv rfl hg) (.mk rfl)) rfl ?_;refine St.ee Ev.n0 ?_;refine St.mv ?_;refine St.gf _ rfl rfl (fun hg=>Ev.aD (.mk rfl) j2) rfl ?_;refine St.gf _ rfl rfl (fun hg=>Ev.cN (aL.gv rfl hg) df trivial (by rfl)) rfl ?_;refine St.gf _ rfl rfl (fun hg=>Ev.hP (aL.gv rfl hg) (.mk rfl)) rfl ?_;refine St.gf _ rfl rfl (fun hg=>Ev.move (aL.gv rfl hg)) rfl ?_;refine St.oZ _ rfl rfl (fun hg=>Ev.aD (.mk rfl) ef) rfl ?_;refine St.oZ _ rfl rfl (fun hg=>Ev.cN (aL.gv rfl hg) dM trivial (by rfl)) rfl ?_;refine St.oZ _ rfl rfl (fun hg=>Ev.ao (aL.gv rfl hg) dM) rfl ?_;refine St.oZ _ rfl rfl (fun hg=>Ev.eql (aL.gv rfl hg) (.mk rfl)) rfl ?_;refine St.gf _ rfl rfl (fun hg=>Ev.and (aL.gv rfl hg) (fun hp=>aL.gv rfl (hN hg hp))) rfl ?_;refine St.ee Ev.o0 ?_;refine St.ee (Ev.not (.mk rfl)) ?_;refine St.nn ?_;refine St.cond _ rfl (fun wP=> ?_) (fun wP=> ?_)
  ·rw[zo]at wP
   rw[if_pos (by simpa using wP)]at cu;refine St.sr ?_;refine St.ak ?_;refine St.nn (St.aX (St.aB ?_));refine St.rU [_] [ae bn (.cells [iv ((n+1):Nat)].toArray 3 (0,0)),ae bw (.cells [(.func (.func 138) #[] [Value.pointer (some ⟨bn,0,none⟩),Value.pointer (some ⟨bw,0,none⟩)].toArray)].toArray tw (0,0))] Tryz.results138 ?_
   rw[cu];exact⟨rfl,rfl⟩
  ·rw[zo]at wP
   have Sh:=zm (show dS x.base x.args.length=true by simpa using wP)
   rw[if_neg (by simpa using wP)]at cu;refine St.skip (St.aA (St.seq (St.sr ?_)));refine St.ee (Ev.aD (.mk rfl) ef) ?_;refine St.ee (Ev.l0 (.mk rfl) dM) ?_;refine St.ee (Ev.ao (.mk rfl) dM) ?_;refine St.mv ?_;refine St.nn (St.block ?_);refine St.mf (ι:=Nat) (κ:=Nat) (fun k z T=>(49,iv k)::T) (fun k z=>[ae bn (.cells [iv (z:Nat)].toArray 3 (0,0)),ae bw (.cells [(.func (.func 138) #[] [Value.pointer (some ⟨bn,0,none⟩),Value.pointer (some ⟨bw,0,none⟩)].toArray)].toArray tw (0,0)),aG (sl gh x.av.1 x.args),aG (aY bW x.args)]) (fun k z=>k≤x.args.length∧z≤200∧gT (x.args.map bK) (d+1) (n+1)=gT ((x.args.map bK).drop k) (d+1) z) (fun k z=>x.args.length-k) 0 (n+1) (aE.cons 1 rfl (aE.cons 3 rfl (aE.cons 47 rfl (aE.cons 48 rfl aE.nil)))) ⟨Nat.zero_le _,by omega,rfl⟩ ?_;rintro k z ⟨hk,hz,sc⟩;refine St.sr ?_;refine St.ee Ev.dn ?_;refine St.nn (St.seq ?_);refine St.cond _ rfl (fun Bm=> ?_) (fun Bm=> ?_)
   ·try simp only[aC]at Bm
    obtain⟨y,hy⟩:=aO (show k<x.args.length by omega)
    have lr:=List.mem_of_getElem? hy
    have il:=Bl (l:=x.args.map bK) (k:=k) (y:=bK y) (by rw[List.getElem?_map,hy];rfl) (d+1) z
    refine St.cD bW x.args (x:=y) lr ?_
    have hle:=Ku (bK y) (d+1) z hz
    refine St.skip (St.aA (St.seq (St.block (St.sr ?_))));refine St.ee (Ev.aR (k:=k) (.mk rfl) (.mk rfl) dM bC (by omega) (by omega)) ?_;refine St.ee (Ev.fg (.mk rfl) hy bX trivial bC ei.eq) ?_;refine St.alloc iP rfl (fun b9=> ?_);refine St.sA (.mk rfl) (.mk rfl) bC ?_ (h1:=(by simp only[List.all_cons,List.all_nil,Bool.and_true,Bool.and_eq_true];exact⟨rfl,y.av.2⟩));refine St.nn (St.sr ?_);refine St.ee (Ev.l0 (.mk rfl) Tryz.underlying211) ?_;refine St.ee (Ev.bF (.mk rfl) bX trivial (by exact bC)) ?_;refine St.mv ?_;refine St.ee Ev.a0 ?_;refine St.slot 56 (iv ((d+1:Nat):Int)) rfl rfl ?_;refine St.dU (ih y lr (d+1) z (by omega) hz) NC (.mk rfl) (.cons (.mk rfl) (.cons (.mk rfl) .nil)) rfl ?_;rintro v57 _ ⟨rfl,rfl⟩;refine St.cb ?_;refine St.ak ?_;refine St.nn (St.sr ?_);refine St.mv ?_;refine St.ee Ev.k9 ?_;refine St.nn ?_;refine St.cond _ rfl (fun Si=> ?_) (fun Si=> ?_)
    ·try simp only[aC]at Si
     refine St.sr ?_;refine St.mv ?_;refine St.ak ?_;refine St.nn (St.aX (St.aM (St.aB (St.aB (St.aM (St.aB ?_))))));refine St.rU [_] [ae bn (.cells [iv ((gF (bK y) (d+1) z).1:Nat)].toArray 3 (0,0)),ae bw (.cells [(.func (.func 138) #[] [Value.pointer (some ⟨bn,0,none⟩),Value.pointer (some ⟨bw,0,none⟩)].toArray)].toArray tw (0,0))] Tryz.results138 ?_
     rw[cu,sc,il,if_pos (by omega)];exact⟨rfl,rfl⟩
    ·try simp only[aC]at Si
     refine St.skip (St.aN (St.aA (St.rg ?_)));refine St.ee Ev.a0 ?_;refine St.mv ?_;refine St.nn ?_
     have yy:=(yD (bK y) (d+1) z (by omega)).2.2
     refine St.jb (k+1) (gF (bK y) (d+1) z).1 ⟨by omega,yy,by rw[sc,il,if_neg (by omega)]⟩
   ·try simp only[aC]at Bm
    rw[Eh (by rw[List.length_map];omega)]at sc;refine St.exit (St.aF (St.aF (St.bH (St.aA (St.sr ?_)))));refine St.ak ?_;refine St.nn (St.aX ?_);refine St.rU [_] [ae bn (.cells [iv (z:Nat)].toArray 3 (0,0)),ae bw (.cells [(.func (.func 138) #[] [Value.pointer (some ⟨bn,0,none⟩),Value.pointer (some ⟨bw,0,none⟩)].toArray)].toArray tw (0,0))] Tryz.results138 ?_
    rw[cu,sc];exact⟨rfl,rfl⟩
theorem ra (x:cT):ct Tryz.prog 119 #[aQ x] [bW x] (fv (jl (bK x),0)):=by
 refine ct.ic (args:=[aQ x]) 10 Tryz.func119 rfl Tryz.ntmps119 rfl (fun c=> ?_);refine St.sr ?_;refine St.cV (.mk rfl) rfl (fun b1=> ?_);refine St.alloc dF rfl (fun b2=> ?_);refine St.nn (St.sr ?_);refine St.alloc ND rfl (fun b3=> ?_);refine St.cW (.mk rfl) (.mk rfl) cr rfl (by rfl) ?_;refine St.gg b3 (L':=[iv ((0:Nat):Int)]) rfl ?_;refine St.nn (St.sr ?_);refine St.alloc SK rfl (fun b4=> ?_);refine St.nn (St.sr ?_);refine St.ee (Ev.func (.cons (.mk rfl) (.cons (.mk rfl) .nil))) ?_;refine St.cW (.mk rfl) (.mk rfl) SL rfl (by rfl) ?_;refine St.nn (St.sr ?_);refine St.ee (Ev.l0 (.mk rfl) Tryz.underlying211) ?_;refine St.ee (Ev.bF (.mk rfl) bX trivial (by exact bC)) ?_;refine St.dU (yF b3 b4 211 x 1 0 (by omega) (by omega)) NC (.mk rfl) (.cons (.mk rfl) (.cons (.mk rfl) .nil)) rfl ?_;rintro v8 _ ⟨rfl,rfl⟩;refine St.cb ?_;refine St.ee (Ev.build (ps:=[(0,(.tmp 8))]) (aU.cons (aL.mk rfl) aU.nil) (fun w=>DJ rfl w)) ?_;refine St.sA (.mk rfl) (.mk rfl) ay ?_;refine St.nn (St.aX ?_);refine St.rU [_] [] Tryz.results119 ?_;rfl
theorem Gy (x y:dY):fp x y=(decide (x.base=y.base)&&decide (x.args.length=y.args.length)&&jN x.args y.args):=by cases x;cases y;rw[fp];rfl
theorem zp {l m:List dY}{k:Nat}{x y:dY}(hx:l[k]?=some x)(hy:m[k]?=some y):jN (l.drop k) (m.drop k)=(fp x y&&jN (l.drop (k+1)) (m.drop (k+1))):=by rw[bz hx,bz hy,jN]
theorem Bn {l m:List dY}{k:Nat}(h:l.length≤k):jN (l.drop k) (m.drop k)=true:=by rw[List.drop_of_length_le h,jN];intro _ _ _ _ h;cases h
theorem Ei:∀(x y:cT),ct Tryz.prog 139 #[aQ x,aQ y] [bW x,bW y] (.bool (fp (bK x) (bK y))):=by
 intro x
 induction x using cT.ind
 rename_i x ih
 intro y;refine ct.mw (args:=[aQ x,aQ y]) 39 Tryz.func139 rfl Tryz.ntmps139 rfl (fun c=> ?_);refine St.seq ?_
 have hs:=Gy (bK x) (bK y)
 rw[fh,fh,dG,dG,List.length_map,List.length_map]at hs;refine St.jk x ?_;refine St.jk y ?_;refine St.wf x.av.1 (fun lq tB=> ?_);refine St.rg ?_;refine St.cV (.mk rfl) rfl (fun b2=> ?_);refine St.cV (.mk rfl) rfl (fun b3=> ?_);refine St.ak ?_;refine St.nn (St.seq (St.sr ?_));refine St.ee (Ev.aD (.mk rfl) j2) ?_;refine St.ee (Ev.l0 (.mk rfl) df) ?_;refine St.ee (Ev.aD (.mk rfl) j2) ?_;refine St.ee (Ev.l0 (.mk rfl) df) ?_;refine St.ee (Ev.oa (.mk rfl) (.mk rfl)) ?_;refine St.mv ?_;refine St.gf _ rfl rfl (fun hg=>Ev.aD (.mk rfl) ef) rfl ?_;refine St.gf _ rfl rfl (fun hg=>Ev.cN (aL.gv rfl hg) dM trivial (by rfl)) rfl ?_;refine St.gf _ rfl rfl (fun hg=>Ev.ao (aL.gv rfl hg) dM) rfl ?_;refine St.gf _ rfl rfl (fun hg=>Ev.aD (.mk rfl) ef) rfl ?_;refine St.gf _ rfl rfl (fun hg=>Ev.cN (aL.gv rfl hg) dM trivial (by rfl)) rfl ?_;refine St.gf _ rfl rfl (fun hg=>Ev.ao (aL.gv rfl hg) dM) rfl ?_;refine St.gf _ rfl rfl (fun hg=>Ev.neq (aL.gv rfl hg) (aL.gv rfl hg)) rfl ?_;refine St.ee Ev.o0 ?_;refine St.nn ?_;refine St.cond _ rfl (fun gY=> ?_) (fun gY=> ?_)
 ·try simp only[aC]at gY
  refine St.sr ?_;refine St.ak ?_;refine St.nn (St.aX (St.aB ?_));refine St.rU [_] [] Tryz.results139 ?_;exact be (by rw[hs];rcases gY with h|h<;>simp[h]<;>omega)
 ·try simp only[aC]at gY
  obtain⟨hb,hl⟩:x.base=y.base∧x.args.length=y.args.length:=⟨by simpa using gY.1,by have:=gY.2;omega⟩
  rw[hb,hl,decide_eq_true rfl,decide_eq_true rfl,Bool.true_and,Bool.true_and]at hs;refine St.skip (St.aA (St.seq (St.sr ?_)));refine St.ee (Ev.aD (.mk rfl) ef) ?_;refine St.ee (Ev.l0 (.mk rfl) dM) ?_;refine St.ee (Ev.ao (.mk rfl) dM) ?_;refine St.mv ?_;refine St.nn (St.block ?_);refine St.lS (ι:=Nat) (fun k T=>(23,iv k)::T) (fun k=>k≤x.args.length∧jN (x.args.map bK) (y.args.map bK)=jN ((x.args.map bK).drop k) ((y.args.map bK).drop k)) (fun k=>x.args.length-k) 0 (aE.cons 2 rfl (aE.cons 3 rfl (aE.cons 22 rfl aE.nil))) ⟨Nat.zero_le _,rfl⟩ ?_;intro k dA;obtain⟨hk,hv⟩:=dA;refine St.sr ?_;refine St.ee Ev.dn ?_;refine St.nn (St.seq ?_);refine St.cond _ rfl (fun pE=> ?_) (fun pE=> ?_)
  ·try simp only[aC]at pE
   obtain⟨u,hu⟩:=aO (show k<x.args.length by omega);obtain⟨w,hw⟩:=aO (show k<y.args.length by omega);refine St.cD bW x.args (x:=u) (List.mem_of_getElem? hu) ?_;refine St.cD bW y.args (x:=w) (List.mem_of_getElem? hw) ?_
   have il:=zp (l:=x.args.map bK) (m:=y.args.map bK) (k:=k) (x:=bK u) (y:=bK w) (by rw[List.getElem?_map,hu];rfl) (by rw[List.getElem?_map,hw];rfl)
   refine St.skip (St.aA (St.seq (St.block (St.sr ?_))));refine St.mv ?_;refine St.ak ?_;refine St.nn (St.seq ?_);refine St.rq mixed (by kernel_rfl) (Mm.drawn _ _) ?_;refine Sq.ee (Ev.aD (.mk rfl) ef) ?_;refine Sq.ee (Ev.l0 (.mk rfl) dM) ?_;refine Sq.ee (Ev.move (.mk rfl)) ?_;refine Sq.ee (Ev.aR (k:=k) (.mk rfl) (.mk rfl) dM bC (by omega) (by omega)) ?_;refine Sq.ee (Ev.fg (.mk rfl) hu bX trivial bC ei.eq) ?_;refine Sq.ee (Ev.aD (.mk rfl) ef) ?_;refine Sq.ee (Ev.l0 (.mk rfl) dM) ?_;refine Sq.ee (Ev.move (.mk rfl)) ?_;refine Sq.ee (Ev.aR (k:=k) (.mk rfl) (.mk rfl) dM bC (by omega) (by omega)) ?_;refine Sq.ee (Ev.fg (.mk rfl) hw bX trivial bC ei.eq) ?_;refine Sq.ee (Ev.call (ih u (List.mem_of_getElem? hu) w) NF (.cons (.mk rfl) (.cons (.mk rfl) .nil))) ?_;refine Sq.ee (Ev.not (.mk rfl)) ?_;refine Sq.nil ?_;refine St.aA ?_;refine St.cond _ rfl (fun tg=> ?_) (fun tg=> ?_)
   ·skip
    refine St.sr ?_;refine St.ak ?_;refine St.nn (St.aX (St.aM (St.aB (St.aB (St.aM (St.aB ?_))))));refine St.rU [_] [] Tryz.results139 ?_;exact be (by rw[hs,hv,il,show fp (bK u) (bK w)=false by simpa using tg];rfl)
   ·skip
    refine St.skip (St.aN (St.aA (St.rg ?_)));refine St.ee Ev.a0 ?_;refine St.mv ?_;refine St.nn ?_;refine St.aS (k+1) ⟨by omega,by rw[hv,il,show fp (bK u) (bK w)=true by simpa using tg,Bool.true_and]⟩
  ·try simp only[aC]at pE
   rw[Bn (by rw[List.length_map];omega)]at hv;refine St.exit (St.aF (St.aF (St.bH (St.aA (St.sr ?_)))));refine St.ak ?_;refine St.nn (St.aX ?_);refine St.rU [_] [] Tryz.results139 ?_;exact be (by rw[hs,hv])
theorem yG (x:cF)(b:Nat):jT (ax x) b=gU x.kind x.name x.index (bK x.type) x.args.length b:=by
 cases x with
 |mk k s i t v l=>rw[lp];show gU k s i (bK t) (l.map ax).length b=_;rw[List.length_map];rfl
theorem mO (x:cF):(ax x).kind=x.kind:=by cases x;rfl
theorem Yd (nm:cQ)(ix:Int)(tp:dY)(m b:Nat):gU 1 nm ix tp m b=if ix≠0∨m≠0 then 5 else if isName nm=false then 10 else if jl tp≠0 then 12 else 0:=by unfold gU;rw[if_pos rfl]
theorem Ye (nm:cQ)(ix:Int)(tp:dY)(m b:Nat):gU 2 nm ix tp m b=if nm≠ []∨iB tp=false∨m≠0 then 5 else if ix<0∨(b:Int)≤ix then 15 else 0:=by unfold gU;rw[if_neg (by decide),if_pos rfl]
theorem Yf (nm:cQ)(ix:Int)(tp:dY)(m b:Nat):gU 3 nm ix tp m b=if nm≠ []∨ix≠0∨m≠1 then 5 else if jl tp≠0 then 12 else 0:=by unfold gU;rw[if_neg (by decide),if_neg (by decide),if_pos rfl]
theorem Yg (nm:cQ)(ix:Int)(tp:dY)(m b:Nat):gU 4 nm ix tp m b=if nm≠ []∨ix≠0∨iB tp=false∨m≠2 then 5 else 0:=by unfold gU;rw[if_neg (by decide),if_neg (by decide),if_neg (by decide),if_pos rfl]
theorem tm5 {k:Int}(h1:k≠1)(h2:k≠2)(h3:k≠3)(h4:k≠4)(nm:cQ)(ix:Int)(tp:dY)(m b:Nat):gU k nm ix tp m b=4:=by unfold gU;rw[if_neg h1,if_neg h2,if_neg h3,if_neg h4]
theorem zq {α:Type}{l:List α}(h:l.length=1):∃y,l=[y]:=by
 match l,h with
 | [y],_=>exact⟨y,rfl⟩
theorem nM {α:Type}{l:List α}(h:l.length=2):∃y z,l=[y,z]:=by
 match l,h with
 | [y,z],_=>exact⟨y,z,rfl⟩
theorem gj (b:Nat)(cd at_:Int):ct Tryz.prog 118 ([iv cd]++ [Value.pointer (some ⟨b,0,none⟩)]).toArray [ED b (iv at_)] (fv (cd,at_)):=by
 refine ct.ic (args:=[iv cd]++ [Value.pointer (some ⟨b,0,none⟩)]) 7 Tryz.func118 rfl Tryz.ntmps118 rfl (fun c=> ?_);refine St.sr ?_;refine St.alloc dF rfl (fun b3=> ?_);refine St.nn (St.sr ?_);refine St.mv ?_;refine St.ee (Ev.Mv (.mk rfl) bP trivial) ?_;refine St.ee (Ev.build (ps:=[(0,(.tmp 4)),(1,(.tmp 5))]) (aU.cons (aL.mk rfl) (aU.cons (aL.mk rfl) aU.nil)) (fun w=>bJ rfl rfl w)) ?_;refine St.sA (.mk rfl) (.mk rfl) ay ?_;refine St.nn (St.aX ?_);refine St.rU [_] [] Tryz.results118 ?_;rfl
set_option maxHeartbeats 2000000 in
theorem vS (bn bw tw:Nat):∀(x:cF) (d b n:Nat),cG.wf x→d≤100→b≤d→n≤200→fF Tryz.prog 117 ([bb x,iv (d:Nat),iv (b:Nat)]++ [Value.pointer (some ⟨bn,0,none⟩),Value.pointer (some ⟨bw,0,none⟩)]).toArray [aG (bO x),ae bn (.cells [iv (n:Nat)].toArray 3 (0,0)),ae bw (.cells [(.func (.func 117) #[] [Value.pointer (some ⟨bn,0,none⟩),Value.pointer (some ⟨bw,0,none⟩)].toArray)].toArray tw (0,0))] (fun v H'=>v=fv (fi (ax x) d b n).2∧H'=[ae bn (.cells [iv ((fi (ax x) d b n).1:Nat)].toArray 3 (0,0)),ae bw (.cells [(.func (.func 117) #[] [Value.pointer (some ⟨bn,0,none⟩),Value.pointer (some ⟨bw,0,none⟩)].toArray)].toArray tw (0,0))]):=by
 intro x
 induction x using cF.ind
 rename_i x ih
 intro d b n Wq hd Ej hn
 have zr:x.name.length≤9223372036854775807:=by have:=Wq.2.1;omega
 refine fF.body (args:=[bb x,iv (d:Nat),iv (b:Nat)]++ [Value.pointer (some ⟨bn,0,none⟩),Value.pointer (some ⟨bw,0,none⟩)]) 166 Tryz.func117 rfl Tryz.ntmps117 rfl (fun c=> ?_);refine St.seq ?_
 have cu:=yB (ax x) d b n
 rw[yG,iw,mO]at cu;refine St.pY x ?_;refine St.wf x.av.1 (fun lq tB=> ?_);refine St.rg ?_;refine St.cV (.mk rfl) rfl (fun b5=> ?_);refine St.alloc dF rfl (fun b8=> ?_);refine St.nn (St.sr ?_);refine St.ee (Ev.l0 (.mk rfl) bP) ?_;refine St.alloc ND rfl (fun b9=> ?_);refine St.cW (.mk rfl) (.mk rfl) cr rfl (by rfl) ?_;refine St.nn (St.sr ?_);refine St.ee (Ev.l0 (.mk rfl) bP) ?_;refine St.ee Ev.a0 ?_;refine St.cW (.mk rfl) (.mk rfl) cr rfl (by rfl) ?_;refine St.gg bn (L':=[iv ((n+1:Nat):Int)]) rfl ?_;refine St.nn (St.sr ?_);refine St.ee (Ev.func (.cons (.mk rfl) .nil)) ?_;refine St.ak ?_;refine St.nn (St.seq (St.sr ?_));refine St.ee (Ev.l0 (.mk rfl) bP) ?_;refine St.ee Ev.qn ?_;refine St.mv ?_;refine St.gf _ rfl rfl (fun hg=>Ev.move (.mk rfl)) rfl ?_;refine St.gf _ rfl rfl (fun hg=>Ev.gtr (aL.gv rfl hg) (.mk rfl)) rfl ?_;refine St.ee Ev.o0 ?_;refine St.nn ?_;refine St.cond _ rfl (fun qs=> ?_) (fun qs=> ?_)
 ·try simp only[aC]at qs
  rw[if_pos (by omega)]at cu;refine St.sr ?_;refine St.mv ?_;refine St.ee (Ev.lB (gj b9 1 n) oh (.mk rfl) (.cons (.mk rfl) .nil) (fj.ae fj.nil)) ?_;refine St.sA (.mk rfl) (.mk rfl) ay ?_;refine St.nn (St.aX (St.aB ?_));refine St.rU [_] [ae bn (.cells [iv ((n+1):Nat)].toArray 3 (0,0)),ae bw (.cells [(.func (.func 117) #[] [Value.pointer (some ⟨bn,0,none⟩),Value.pointer (some ⟨bw,0,none⟩)].toArray)].toArray tw (0,0))] Tryz.results117 ?_;rw[cu];exact⟨rfl,rfl⟩
 ·try simp only[aC]at qs
  rw[if_neg (by omega)]at cu;refine St.skip (St.aA (St.seq (St.sr ?_)));refine St.ee (Ev.aD (.mk rfl) hJ) ?_;refine St.ee (Ev.l0 (.mk rfl) bP) ?_;refine St.nn (St.block (St.sr ?_));refine St.ee Ev.ey ?_;refine St.ak ?_;refine St.nn ?_;refine St.cond _ rfl (fun qX=> ?_) (fun qX=> ?_)
  ·try simp only[aC]at qX
   rw[qX,Yd]at cu;refine St.seq (St.sr ?_);refine St.ee (Ev.aD (.mk rfl) lJ) ?_;refine St.ee (Ev.l0 (.mk rfl) bP) ?_;refine St.ee Ev.k9 ?_;refine St.mv ?_;refine St.gf _ rfl rfl (fun hg=>Ev.aD (.mk rfl) gN) rfl ?_;refine St.gf _ rfl rfl (fun hg=>Ev.cN (aL.gv rfl hg) ez trivial (by rfl)) rfl ?_;refine St.gf _ rfl rfl (fun hg=>Ev.ao (aL.gv rfl hg) ez) rfl ?_;refine St.gf _ rfl rfl (fun hg=>Ev.neq (aL.gv rfl hg) (.mk rfl)) rfl ?_;refine St.ee Ev.o0 ?_;refine St.nn ?_;refine St.cond _ rfl (fun sj=> ?_) (fun sj=> ?_)
   ·try simp only[aC]at sj
    rw[if_pos (show x.index≠0∨x.args.length≠0 by omega)]at cu;refine St.sr ?_;refine St.mv ?_;refine St.ee (Ev.lB (gj b9 5 n) oh (.mk rfl) (.cons (.mk rfl) .nil) (fj.ae fj.nil)) ?_;refine St.sA (.mk rfl) (.mk rfl) ay ?_;refine St.nn (St.aX (St.aB (St.aM (St.aB ?_))));refine St.rU [_] [ae bn (.cells [iv ((n+1):Nat)].toArray 3 (0,0)),ae bw (.cells [(.func (.func 117) #[] [Value.pointer (some ⟨bn,0,none⟩),Value.pointer (some ⟨bw,0,none⟩)].toArray)].toArray tw (0,0))] Tryz.results117 ?_;rw[cu,if_pos (by decide)];exact⟨rfl,rfl⟩
   ·try simp only[aC]at sj
    obtain⟨hi,hl⟩:x.index=0∧x.args.length=0:=by omega
    rw[if_neg (show ¬(x.index≠0∨x.args.length≠0) by omega)]at cu;refine St.skip (St.aA (St.seq (St.sr ?_)));refine St.ee (Ev.aD (.mk rfl) pB) ?_;refine St.ee (Ev.l0 (.mk rfl) df) ?_;refine St.ee (Ev.call (jt x.name zr) Ea (.cons (.mk rfl) .nil)) ?_;refine St.ee (Ev.not (.mk rfl)) ?_;refine St.nn ?_;refine St.cond _ rfl (fun vC=> ?_) (fun vC=> ?_)
    ·try simp only[aC]at vC
     rw[if_pos (show isName x.name=false by simpa using vC)]at cu;refine St.sr ?_;refine St.mv ?_;refine St.ee (Ev.lB (gj b9 10 n) oh (.mk rfl) (.cons (.mk rfl) .nil) (fj.ae fj.nil)) ?_;refine St.sA (.mk rfl) (.mk rfl) ay ?_;refine St.nn (St.aX (St.aB (St.aM (St.aB ?_))));refine St.rU [_] [ae bn (.cells [iv ((n+1):Nat)].toArray 3 (0,0)),ae bw (.cells [(.func (.func 117) #[] [Value.pointer (some ⟨bn,0,none⟩),Value.pointer (some ⟨bw,0,none⟩)].toArray)].toArray tw (0,0))] Tryz.results117 ?_;rw[cu,if_pos (by decide)];exact⟨rfl,rfl⟩
    ·try simp only[aC]at vC
     rw[if_neg (show ¬isName x.name=false by simpa using vC)]at cu;refine St.skip (St.aA (St.sr ?_));refine St.ee (Ev.aD (.mk rfl) lK) ?_;refine St.ee (Ev.iI 2 (.mk rfl) bX trivial bC rfl rfl) ?_;refine St.ee (Ev.call (ra x.type) NG (.cons (.mk rfl) .nil)) ?_;refine St.ee (Ev.qh (.mk rfl) fl rfl (by first|rw[bP]|(dsimp only;rw[bP])|kernel_rfl) rfl) ?_;refine St.ee Ev.k9 ?_;refine St.nn ?_;refine St.cond _ rfl (fun Kv=> ?_) (fun Kv=> ?_)
     ·try simp only[aC]at Kv
      rw[if_pos (show jl (bK x.type)≠0 by simpa using Kv)]at cu;refine St.sr ?_;refine St.mv ?_;refine St.ee (Ev.lB (gj b9 12 n) oh (.mk rfl) (.cons (.mk rfl) .nil) (fj.ae fj.nil)) ?_;refine St.sA (.mk rfl) (.mk rfl) ay ?_;refine St.nn (St.aX (St.aM (St.aB ?_)));refine St.rU [_] [ae bn (.cells [iv ((n+1):Nat)].toArray 3 (0,0)),ae bw (.cells [(.func (.func 117) #[] [Value.pointer (some ⟨bn,0,none⟩),Value.pointer (some ⟨bw,0,none⟩)].toArray)].toArray tw (0,0))] Tryz.results117 ?_;rw[cu,if_pos (by decide)];exact⟨rfl,rfl⟩
     ·try simp only[aC]at Kv
      rw[if_neg (show ¬jl (bK x.type)≠0 by simpa using Kv),if_neg (by decide),List.eq_nil_of_length_eq_zero hl,List.map_nil,jE]at cu;refine St.skip (St.aN (St.aA (St.sr ?_)));refine St.ee (Ev.build (ps:=[]) (aU.nil) (fun w=>fA w)) ?_;refine St.sA (.mk rfl) (.mk rfl) ay ?_;refine St.nn (St.aX ?_);refine St.rU [_] [ae bn (.cells [iv ((n+1):Nat)].toArray 3 (0,0)),ae bw (.cells [(.func (.func 117) #[] [Value.pointer (some ⟨bn,0,none⟩),Value.pointer (some ⟨bw,0,none⟩)].toArray)].toArray tw (0,0))] Tryz.results117 ?_;rw[cu];exact⟨rfl,rfl⟩
  ·try simp only[aC]at qX
   refine St.sr ?_;refine St.ee Ev.ey ?_;refine St.ak ?_;refine St.nn ?_;refine St.cond _ rfl (fun th=> ?_) (fun th=> ?_)
   ·try simp only[aC]at th
    rw[th,Ye]at cu;refine St.seq (St.sr ?_);refine St.ee (Ev.aD (.mk rfl) pB) ?_;refine St.ee (Ev.l0 (.mk rfl) df) ?_;refine St.ee (Ev.oa (.mk rfl) (.mk rfl)) ?_;refine St.mv ?_;refine St.gf _ rfl rfl (fun hg=>Ev.aD (.mk rfl) lK) rfl ?_;refine St.gf _ rfl rfl (fun hg=>Ev.iI 2 (aL.gv rfl hg) bX trivial bC rfl rfl) rfl ?_;refine St.gf _ rfl rfl (fun hg=>Ev.call (wO x.type) NH (.cons (aL.gv rfl hg) .nil)) rfl ?_;refine St.gf _ rfl rfl (fun hg=>Ev.not (aL.gv rfl hg)) rfl ?_;refine St.ee Ev.o0 ?_;refine St.mv ?_;refine St.gf _ rfl rfl (fun hg=>Ev.aD (.mk rfl) gN) rfl ?_;refine St.gf _ rfl rfl (fun hg=>Ev.cN (aL.gv rfl hg) ez trivial (by rfl)) rfl ?_;refine St.gf _ rfl rfl (fun hg=>Ev.ao (aL.gv rfl hg) ez) rfl ?_;refine St.gf _ rfl rfl (fun hg=>Ev.neq (aL.gv rfl hg) (.mk rfl)) rfl ?_;refine St.ee Ev.o0 ?_;refine St.nn ?_;refine St.cond _ rfl (fun sN=> ?_) (fun sN=> ?_)
    ·simp only[Bool.or_eq_true,Bool.or_eq_false_iff,Bool.not_eq_true',Bool.not_eq_false',decide_eq_true_eq,decide_eq_false_iff_not,beq_iff_eq,beq_eq_false_iff_ne]at sN
     rw[if_pos (show x.name≠ []∨iB (bK x.type)=false∨x.args.length≠0 by rcases sN with(h|h)|h;exact .inl h;exact .inr (.inl h);exact .inr (.inr (by omega)))]at cu;refine St.sr ?_;refine St.mv ?_;refine St.ee (Ev.lB (gj b9 5 n) oh (.mk rfl) (.cons (.mk rfl) .nil) (fj.ae fj.nil)) ?_;refine St.sA (.mk rfl) (.mk rfl) ay ?_;refine St.nn (St.aX (St.aB (St.aM (St.aB ?_))));refine St.rU [_] [ae bn (.cells [iv ((n+1):Nat)].toArray 3 (0,0)),ae bw (.cells [(.func (.func 117) #[] [Value.pointer (some ⟨bn,0,none⟩),Value.pointer (some ⟨bw,0,none⟩)].toArray)].toArray tw (0,0))] Tryz.results117 ?_;rw[cu,if_pos (by decide)];exact⟨rfl,rfl⟩
    ·simp only[Bool.or_eq_true,Bool.or_eq_false_iff,Bool.not_eq_true',Bool.not_eq_false',decide_eq_true_eq,decide_eq_false_iff_not,beq_iff_eq,beq_eq_false_iff_ne]at sN
     obtain⟨⟨PE,Sj⟩,Yh⟩:=sN
     have hl:x.args.length=0:=by omega
     rw[if_neg (show ¬(x.name≠ []∨iB (bK x.type)=false∨x.args.length≠0) by rintro (h|h|h);exact h (by simpa using PE);rw[Sj]at h;cases h;omega)]at cu;refine St.skip (St.aA (St.sr ?_));refine St.ee (Ev.aD (.mk rfl) lJ) ?_;refine St.ee (Ev.l0 (.mk rfl) bP) ?_;refine St.ee Ev.dn ?_;refine St.mv ?_;refine St.gf _ rfl rfl (fun hg=>Ev.aD (.mk rfl) lJ) rfl ?_;refine St.gf _ rfl rfl (fun hg=>Ev.cN (aL.gv rfl hg) bP trivial (by rfl)) rfl ?_;refine St.gf _ rfl rfl (fun hg=>Ev.move (.mk rfl)) rfl ?_;refine St.gf _ rfl rfl (fun hg=>Ev.geq (aL.gv rfl hg) (aL.gv rfl hg)) rfl ?_;refine St.ee Ev.o0 ?_;refine St.nn ?_;refine St.cond _ rfl (fun Yi=> ?_) (fun Yi=> ?_)
     ·try simp only[aC]at Yi
      rw[if_pos (show x.index<0∨(b:Int)≤x.index by omega)]at cu;refine St.sr ?_;refine St.mv ?_;refine St.ee (Ev.lB (gj b9 15 n) oh (.mk rfl) (.cons (.mk rfl) .nil) (fj.ae fj.nil)) ?_;refine St.sA (.mk rfl) (.mk rfl) ay ?_;refine St.nn (St.aX (St.aM (St.aB ?_)));refine St.rU [_] [ae bn (.cells [iv ((n+1):Nat)].toArray 3 (0,0)),ae bw (.cells [(.func (.func 117) #[] [Value.pointer (some ⟨bn,0,none⟩),Value.pointer (some ⟨bw,0,none⟩)].toArray)].toArray tw (0,0))] Tryz.results117 ?_;rw[cu,if_pos (by decide)];exact⟨rfl,rfl⟩
     ·try simp only[aC]at Yi
      rw[if_neg (show ¬(x.index<0∨(b:Int)≤x.index) by omega),if_neg (by decide),List.eq_nil_of_length_eq_zero hl,List.map_nil,jE]at cu;refine St.skip (St.aN (St.aA (St.sr ?_)));refine St.ee (Ev.build (ps:=[]) (aU.nil) (fun w=>fA w)) ?_;refine St.sA (.mk rfl) (.mk rfl) ay ?_;refine St.nn (St.aX ?_);refine St.rU [_] [ae bn (.cells [iv ((n+1):Nat)].toArray 3 (0,0)),ae bw (.cells [(.func (.func 117) #[] [Value.pointer (some ⟨bn,0,none⟩),Value.pointer (some ⟨bw,0,none⟩)].toArray)].toArray tw (0,0))] Tryz.results117 ?_;rw[cu];exact⟨rfl,rfl⟩
   ·try simp only[aC]at th
    refine St.sr ?_;refine St.ee Ev.ey ?_;refine St.ak ?_;refine St.nn ?_;refine St.cond _ rfl (fun vD=> ?_) (fun vD=> ?_)
    ·try simp only[aC]at vD
     rw[vD,Yf]at cu;refine St.seq (St.sr ?_);refine St.ee (Ev.aD (.mk rfl) pB) ?_;refine St.ee (Ev.l0 (.mk rfl) df) ?_;refine St.ee (Ev.oa (.mk rfl) (.mk rfl)) ?_;refine St.mv ?_;refine St.gf _ rfl rfl (fun hg=>Ev.aD (.mk rfl) lJ) rfl ?_;refine St.gf _ rfl rfl (fun hg=>Ev.cN (aL.gv rfl hg) bP trivial (by rfl)) rfl ?_;refine St.gf _ rfl rfl (fun hg=>Ev.neq (aL.gv rfl hg) (.mk rfl)) rfl ?_;refine St.ee Ev.o0 ?_;refine St.mv ?_;refine St.gf _ rfl rfl (fun hg=>Ev.aD (.mk rfl) gN) rfl ?_;refine St.gf _ rfl rfl (fun hg=>Ev.cN (aL.gv rfl hg) ez trivial (by rfl)) rfl ?_;refine St.gf _ rfl rfl (fun hg=>Ev.ao (aL.gv rfl hg) ez) rfl ?_;refine St.gf _ rfl rfl (fun hg=>Ev.neq (aL.gv rfl hg) (.mk rfl)) rfl ?_;refine St.ee Ev.o0 ?_;refine St.nn ?_;refine St.cond _ rfl (fun Sk=> ?_) (fun Sk=> ?_)
     ·simp only[Bool.or_eq_true,Bool.or_eq_false_iff,Bool.not_eq_true',Bool.not_eq_false',decide_eq_true_eq,decide_eq_false_iff_not,beq_iff_eq,beq_eq_false_iff_ne]at Sk
      rw[if_pos (show x.name≠ []∨x.index≠0∨x.args.length≠1 by rcases Sk with(h|h)|h;exact .inl h;exact .inr (.inl h);exact .inr (.inr (by omega)))]at cu;refine St.sr ?_;refine St.mv ?_;refine St.ee (Ev.lB (gj b9 5 n) oh (.mk rfl) (.cons (.mk rfl) .nil) (fj.ae fj.nil)) ?_;refine St.sA (.mk rfl) (.mk rfl) ay ?_;refine St.nn (St.aX (St.aB (St.aM (St.aB ?_))));refine St.rU [_] [ae bn (.cells [iv ((n+1):Nat)].toArray 3 (0,0)),ae bw (.cells [(.func (.func 117) #[] [Value.pointer (some ⟨bn,0,none⟩),Value.pointer (some ⟨bw,0,none⟩)].toArray)].toArray tw (0,0))] Tryz.results117 ?_;rw[cu,if_pos (by decide)];exact⟨rfl,rfl⟩
     ·simp only[Bool.or_eq_true,Bool.or_eq_false_iff,Bool.not_eq_true',Bool.not_eq_false',decide_eq_true_eq,decide_eq_false_iff_not,beq_iff_eq,beq_eq_false_iff_ne]at Sk
      obtain⟨⟨PE,Sj⟩,Yh⟩:=Sk
      have hl:x.args.length=1:=by omega
      rw[if_neg (show ¬(x.name≠ []∨x.index≠0∨x.args.length≠1) by rintro (h|h|h);exact h (by simpa using PE);omega;omega)]at cu;refine St.skip (St.aA (St.seq (St.sr ?_)));refine St.ee (Ev.aD (.mk rfl) lK) ?_;refine St.ee (Ev.iI 2 (.mk rfl) bX trivial bC rfl rfl) ?_;refine St.ee (Ev.call (ra x.type) NG (.cons (.mk rfl) .nil)) ?_;refine St.ee (Ev.qh (.mk rfl) fl rfl (by first|rw[bP]|(dsimp only;rw[bP])|kernel_rfl) rfl) ?_;refine St.ee Ev.k9 ?_;refine St.nn ?_;refine St.cond _ rfl (fun Gz=> ?_) (fun Gz=> ?_)
      ·try simp only[aC]at Gz
       rw[if_pos (show jl (bK x.type)≠0 by simpa using Gz)]at cu;refine St.sr ?_;refine St.mv ?_;refine St.ee (Ev.lB (gj b9 12 n) oh (.mk rfl) (.cons (.mk rfl) .nil) (fj.ae fj.nil)) ?_;refine St.sA (.mk rfl) (.mk rfl) ay ?_;refine St.nn (St.aX (St.aB (St.aM (St.aB ?_))));refine St.rU [_] [ae bn (.cells [iv ((n+1):Nat)].toArray 3 (0,0)),ae bw (.cells [(.func (.func 117) #[] [Value.pointer (some ⟨bn,0,none⟩),Value.pointer (some ⟨bw,0,none⟩)].toArray)].toArray tw (0,0))] Tryz.results117 ?_;rw[cu,if_pos (by decide)];exact⟨rfl,rfl⟩
      ·try simp only[aC]at Gz
       obtain⟨y,hy⟩:=zq hl;rw[if_neg (show ¬jl (bK x.type)≠0 by simpa using Gz),if_neg (by decide),if_pos rfl,hy,List.map_cons,List.map_nil,zk]at cu;refine St.cD bO x.args (x:=y) (by rw[hy];simp) ?_;refine St.skip (St.aA (St.seq ?_));refine St.eV [ae bn (.cells [iv ((n+1):Nat)].toArray 3 (0,0)),ae bw (.cells [(.func (.func 117) #[] [Value.pointer (some ⟨bn,0,none⟩),Value.pointer (some ⟨bw,0,none⟩)].toArray)].toArray tw (0,0)),aG (bO y),ae b8 (.cells [iv 0,iv 0].toArray 42 (0,0))] mixed (fun np ns=> ?_);refine SW.dd 1 rfl (fun _=>Ev.aD (.mk rfl) gN) ?_;refine SW.dd 2 rfl (fun _=>Ev.cN (.mk rfl) ez trivial (by rfl)) ?_;refine SW.dd 3 rfl (fun _=>Ev.aR (k:=0) (.mk rfl) (.mk rfl) ez dC rfl (by omega)) ?_;refine SW.dd 4 rfl (fun _=>Ev.fg (.mk rfl) (show x.args[0]?=some y by rw[hy];rfl) fO trivial dC ei.eq) ?_;refine SW.dd 5 rfl (fun _=>Ev.move (.mk rfl)) ?_;refine SW.dd 6 rfl (fun _=>Ev.a0) ?_;refine SW.slot 115 (iv ((d+1:Nat):Int)) rfl rfl ?_;refine SW.dd 7 rfl (fun _=>Ev.move (.mk rfl)) ?_;refine SW.dd 8 rfl (fun _=>Ev.a0) ?_;refine SW.slot 117 (iv ((b+1:Nat):Int)) rfl rfl ?_;refine SW.bG (i:=0) (by kernel_rfl) rfl ?_;refine St.ee (Ev.l0 (.mk rfl) tZ) ?_;refine St.nn ?_;refine SW.go ?_;refine SW.bG (i:=9) (by kernel_rfl) rfl ?_;refine St.dU (ih y (by rw[hy];simp) (d+1) (b+1) (n+1) (lq y (by rw[hy];simp)) (by omega) (by omega) (by omega)) rX (.mk rfl) (.cons (.mk rfl) (.cons (.mk rfl) (.cons (.mk rfl) .nil))) rfl ?_;rintro adU _ ⟨rfl,rfl⟩;refine St.cb ?_;refine St.nn ?_;refine SW.go ?_;refine SW.bG (i:=10) (by kernel_rfl) rfl ?_;refine St.sA (.mk rfl) (.mk rfl) ay ?_;refine St.nn ?_;refine SW.go ?_;refine SW.done (by kernel_rfl) ?_;refine St.aA (St.aX (St.aM (St.aB ?_)));refine St.rU [_] [ae bn (.cells [iv ((fi (ax y) (d+1) (b+1) (n+1)).1:Nat)].toArray 3 (0,0)),ae bw (.cells [(.func (.func 117) #[] [Value.pointer (some ⟨bn,0,none⟩),Value.pointer (some ⟨bw,0,none⟩)].toArray)].toArray tw (0,0))] Tryz.results117 ?_
       rw[cu];exact⟨rfl,rfl⟩
    ·try simp only[aC]at vD
     refine St.sr ?_;refine St.ee Ev.ey ?_;refine St.ak ?_;refine St.nn ?_;refine St.cond _ rfl (fun tm=> ?_) (fun tm=> ?_)
     ·try simp only[aC]at tm
      rw[tm,Yg]at cu;refine St.seq (St.sr ?_);refine St.ee (Ev.aD (.mk rfl) pB) ?_;refine St.ee (Ev.l0 (.mk rfl) df) ?_;refine St.ee (Ev.oa (.mk rfl) (.mk rfl)) ?_;refine St.mv ?_;refine St.gf _ rfl rfl (fun hg=>Ev.aD (.mk rfl) lJ) rfl ?_;refine St.gf _ rfl rfl (fun hg=>Ev.cN (aL.gv rfl hg) bP trivial (by rfl)) rfl ?_;refine St.gf _ rfl rfl (fun hg=>Ev.neq (aL.gv rfl hg) (.mk rfl)) rfl ?_;refine St.ee Ev.o0 ?_;refine St.mv ?_;refine St.gf _ rfl rfl (fun hg=>Ev.aD (.mk rfl) lK) rfl ?_;refine St.gf _ rfl rfl (fun hg=>Ev.iI 2 (aL.gv rfl hg) bX trivial bC rfl rfl) rfl ?_;refine St.gf _ rfl rfl (fun hg=>Ev.call (wO x.type) NH (.cons (aL.gv rfl hg) .nil)) rfl ?_;refine St.gf _ rfl rfl (fun hg=>Ev.not (aL.gv rfl hg)) rfl ?_;refine St.ee Ev.o0 ?_;refine St.mv ?_;refine St.gf _ rfl rfl (fun hg=>Ev.aD (.mk rfl) gN) rfl ?_;refine St.gf _ rfl rfl (fun hg=>Ev.cN (aL.gv rfl hg) ez trivial (by rfl)) rfl ?_;refine St.gf _ rfl rfl (fun hg=>Ev.ao (aL.gv rfl hg) ez) rfl ?_;refine St.gf _ rfl rfl (fun hg=>Ev.neq (aL.gv rfl hg) (.mk rfl)) rfl ?_;refine St.ee Ev.o0 ?_;refine St.nn ?_;refine St.cond _ rfl (fun H0=> ?_) (fun H0=> ?_)
      ·simp only[Bool.or_eq_true,Bool.or_eq_false_iff,Bool.not_eq_true',Bool.not_eq_false',decide_eq_true_eq,decide_eq_false_iff_not,beq_iff_eq,beq_eq_false_iff_ne]at H0
       rw[if_pos (show x.name≠ []∨x.index≠0∨iB (bK x.type)=false∨x.args.length≠2 by rcases H0 with((h|h)|h)|h;exact .inl h;exact .inr (.inl h);exact .inr (.inr (.inl h));exact .inr (.inr (.inr (by omega))))]at cu;refine St.sr ?_;refine St.mv ?_;refine St.ee (Ev.lB (gj b9 5 n) oh (.mk rfl) (.cons (.mk rfl) .nil) (fj.ae fj.nil)) ?_;refine St.sA (.mk rfl) (.mk rfl) ay ?_;refine St.nn (St.aX (St.aB (St.aM (St.aB ?_))));refine St.rU [_] [ae bn (.cells [iv ((n+1):Nat)].toArray 3 (0,0)),ae bw (.cells [(.func (.func 117) #[] [Value.pointer (some ⟨bn,0,none⟩),Value.pointer (some ⟨bw,0,none⟩)].toArray)].toArray tw (0,0))] Tryz.results117 ?_;rw[cu,if_pos (by decide)];exact⟨rfl,rfl⟩
      ·simp only[Bool.or_eq_true,Bool.or_eq_false_iff,Bool.not_eq_true',Bool.not_eq_false',decide_eq_true_eq,decide_eq_false_iff_not,beq_iff_eq,beq_eq_false_iff_ne]at H0
       obtain⟨⟨⟨PE,Sj⟩,Yh⟩,hq4⟩:=H0;obtain⟨y,z,hy⟩:=nM (show x.args.length=2 by omega);rw[if_neg (show ¬(x.name≠ []∨x.index≠0∨iB (bK x.type)=false∨x.args.length≠2) by rintro (h|h|h|h);exact h (by simpa using PE);omega;rw[Yh]at h;cases h;omega),if_neg (by decide),if_neg (by decide),hy,List.map_cons,List.map_cons,List.map_nil,Gw]at cu;refine St.cD bO x.args (x:=y) (by rw[hy];simp) ?_;refine St.cD bO x.args (x:=z) (by rw[hy];simp) ?_
       have hle:=PD (ax y) (d+1) b (n+1) (by omega)
       have h2l:x.args.length=2:=by rw[hy];rfl
       refine St.skip (St.aA (St.seq (St.seq ?_)));refine St.eV [ae bn (.cells [iv ((n+1):Nat)].toArray 3 (0,0)),ae bw (.cells [(.func (.func 117) #[] [Value.pointer (some ⟨bn,0,none⟩),Value.pointer (some ⟨bw,0,none⟩)].toArray)].toArray tw (0,0)),aG (bO y)] mixed (fun np ns=> ?_);refine SW.dd 1 rfl (fun _=>Ev.aD (.mk rfl) gN) ?_;refine SW.dd 2 rfl (fun _=>Ev.cN (.mk rfl) ez trivial (by rfl)) ?_;refine SW.dd 3 rfl (fun _=>Ev.aR (k:=0) (.mk rfl) (.mk rfl) ez dC rfl (by omega)) ?_;refine SW.dd 4 rfl (fun _=>Ev.fg (.mk rfl) (show x.args[0]?=some y by rw[hy];rfl) fO trivial dC ei.eq) ?_;refine SW.dd 5 rfl (fun _=>Ev.move (.mk rfl)) ?_;refine SW.dd 6 rfl (fun _=>Ev.a0) ?_;refine SW.slot 149 (iv ((d+1:Nat):Int)) rfl rfl ?_;refine SW.dd 7 rfl (fun _=>Ev.move (.mk rfl)) ?_;refine SW.jC (i:=0) (j:=9) (by kernel_rfl) rfl rfl ?_ ?_
       ·refine St.ee (Ev.l0 (.mk rfl) tZ) ?_
        refine St.nn ?_;refine SW.go ?_;refine SW.jC (i:=8) (j:=9) (by kernel_rfl) rfl rfl ?_ ?_
        ·refine St.dU (ih y (by rw[hy];simp) (d+1) b (n+1) (lq y (by rw[hy];simp)) (by omega) (by omega) (by omega)) rX (.mk rfl) (.cons (.mk rfl) (.cons (.mk rfl) (.cons (.mk rfl) .nil))) rfl ?_
         rintro Sl _ ⟨rfl,rfl⟩;refine St.cb ?_;refine St.nn ?_;refine SW.go ?_;refine SW.bG (i:=9) (by kernel_rfl) rfl ?_;refine St.alloc dF rfl (fun kp=> ?_);refine St.nn ?_;refine SW.go ?_;refine SW.bG (i:=10) (by kernel_rfl) rfl ?_;refine St.sA (.mk rfl) (.mk rfl) ay ?_;refine St.nn ?_;refine SW.go ?_;refine SW.done (by kernel_rfl) ?_;refine St.aA (St.sr ?_);refine St.ee (Ev.aD (.mk rfl) cX) ?_;refine St.ee (Ev.l0 (.mk rfl) bP) ?_;refine St.ee Ev.k9 ?_;refine St.nn ?_;refine St.cond _ rfl (fun nN=> ?_) (fun nN=> ?_)
         ·try simp only[aC]at nN
          rw[if_pos (show(fi (ax y) (d+1) b (n+1)).2.1≠0 by simpa using nN)]at cu;refine St.sr ?_;refine St.ee (Ev.bF (.mk rfl) fl trivial (by exact ay)) ?_;refine St.sA (.mk rfl) (.mk rfl) ay ?_;refine St.nn (St.aX (St.aB (St.aM (St.aB ?_))));refine St.rU [_] [ae bn (.cells [iv ((fi (ax y) (d+1) b (n+1)).1:Nat)].toArray 3 (0,0)),ae bw (.cells [(.func (.func 117) #[] [Value.pointer (some ⟨bn,0,none⟩),Value.pointer (some ⟨bw,0,none⟩)].toArray)].toArray tw (0,0))] Tryz.results117 ?_
          rw[cu];exact⟨rfl,rfl⟩
         ·try simp only[aC]at nN
          have GP:(fi (ax y) (d+1) b (n+1)).2.1=0:=by simpa using nN
          have pP:=(te (ax y) (d+1) b (n+1) GP).1
          rw[if_neg (by rw[GP];decide)]at cu;refine St.skip (St.aA (St.seq ?_));refine St.eV [ae bn (.cells [iv ((fi (ax y) (d+1) b (n+1)).1:Nat)].toArray 3 (0,0)),ae bw (.cells [(.func (.func 117) #[] [Value.pointer (some ⟨bn,0,none⟩),Value.pointer (some ⟨bw,0,none⟩)].toArray)].toArray tw (0,0)),aG (bO z),ae b8 (.cells [iv 0,iv 0].toArray 42 (0,0))] mixed (fun np ns=> ?_);refine SW.dd 1 rfl (fun _=>Ev.aD (.mk rfl) gN) ?_;refine SW.dd 2 rfl (fun _=>Ev.cN (.mk rfl) ez trivial (by rfl)) ?_;refine SW.dd 3 rfl (fun _=>Ev.aR (k:=1) (.mk rfl) (.mk rfl) ez dC rfl (by omega)) ?_;refine SW.dd 4 rfl (fun _=>Ev.fg (.mk rfl) (show x.args[1]?=some z by rw[hy];rfl) fO trivial dC ei.eq) ?_;refine SW.dd 5 rfl (fun _=>Ev.move (.mk rfl)) ?_;refine SW.dd 6 rfl (fun _=>Ev.a0) ?_;refine SW.slot 162 (iv ((d+1:Nat):Int)) rfl rfl ?_;refine SW.dd 7 rfl (fun _=>Ev.move (.mk rfl)) ?_;refine SW.bG (i:=0) (by kernel_rfl) rfl ?_;refine St.ee (Ev.l0 (.mk rfl) tZ) ?_;refine St.nn ?_;refine SW.go ?_;refine SW.bG (i:=8) (by kernel_rfl) rfl ?_;refine St.dU (ih z (by rw[hy];simp) (d+1) b (fi (ax y) (d+1) b (n+1)).1 (lq z (by rw[hy];simp)) (by omega) (by omega) (by omega)) rX (.mk rfl) (.cons (.mk rfl) (.cons (.mk rfl) (.cons (.mk rfl) .nil))) rfl ?_;rintro v164 _ ⟨rfl,rfl⟩;refine St.cb ?_;refine St.nn ?_;refine SW.go ?_;refine SW.bG (i:=9) (by kernel_rfl) rfl ?_;refine St.sA (.mk rfl) (.mk rfl) ay ?_;refine St.nn ?_;refine SW.go ?_;refine SW.done (by kernel_rfl) ?_;refine St.aA (St.aX (St.aM (St.aB ?_)));refine St.rU [_] [ae bn (.cells [iv ((fi (ax z) (d+1) b (fi (ax y) (d+1) b (n+1)).1).1:Nat)].toArray 3 (0,0)),ae bw (.cells [(.func (.func 117) #[] [Value.pointer (some ⟨bn,0,none⟩),Value.pointer (some ⟨bw,0,none⟩)].toArray)].toArray tw (0,0))] Tryz.results117 ?_
          rw[cu];exact⟨rfl,rfl⟩
        ·refine St.alloc dF rfl (fun kp=> ?_)
         refine St.nn ?_;refine SW.go ?_;refine SW.bG (i:=8) (by kernel_rfl) rfl ?_;refine St.dU (ih y (by rw[hy];simp) (d+1) b (n+1) (lq y (by rw[hy];simp)) (by omega) (by omega) (by omega)) rX (.mk rfl) (.cons (.mk rfl) (.cons (.mk rfl) (.cons (.mk rfl) .nil))) rfl ?_;rintro Sl _ ⟨rfl,rfl⟩;refine St.cb ?_;refine St.nn ?_;refine SW.go ?_;refine SW.bG (i:=10) (by kernel_rfl) rfl ?_;refine St.sA (.mk rfl) (.mk rfl) ay ?_;refine St.nn ?_;refine SW.go ?_;refine SW.done (by kernel_rfl) ?_;refine St.aA (St.sr ?_);refine St.ee (Ev.aD (.mk rfl) cX) ?_;refine St.ee (Ev.l0 (.mk rfl) bP) ?_;refine St.ee Ev.k9 ?_;refine St.nn ?_;refine St.cond _ rfl (fun nN=> ?_) (fun nN=> ?_)
         ·try simp only[aC]at nN
          rw[if_pos (show(fi (ax y) (d+1) b (n+1)).2.1≠0 by simpa using nN)]at cu;refine St.sr ?_;refine St.ee (Ev.bF (.mk rfl) fl trivial (by exact ay)) ?_;refine St.sA (.mk rfl) (.mk rfl) ay ?_;refine St.nn (St.aX (St.aB (St.aM (St.aB ?_))));refine St.rU [_] [ae bn (.cells [iv ((fi (ax y) (d+1) b (n+1)).1:Nat)].toArray 3 (0,0)),ae bw (.cells [(.func (.func 117) #[] [Value.pointer (some ⟨bn,0,none⟩),Value.pointer (some ⟨bw,0,none⟩)].toArray)].toArray tw (0,0))] Tryz.results117 ?_
          rw[cu];exact⟨rfl,rfl⟩
         ·try simp only[aC]at nN
          have GP:(fi (ax y) (d+1) b (n+1)).2.1=0:=by simpa using nN
          have pP:=(te (ax y) (d+1) b (n+1) GP).1
          rw[if_neg (by rw[GP];decide)]at cu;refine St.skip (St.aA (St.seq ?_));refine St.eV [ae bn (.cells [iv ((fi (ax y) (d+1) b (n+1)).1:Nat)].toArray 3 (0,0)),ae bw (.cells [(.func (.func 117) #[] [Value.pointer (some ⟨bn,0,none⟩),Value.pointer (some ⟨bw,0,none⟩)].toArray)].toArray tw (0,0)),aG (bO z),ae b8 (.cells [iv 0,iv 0].toArray 42 (0,0))] mixed (fun np ns=> ?_);refine SW.dd 1 rfl (fun _=>Ev.aD (.mk rfl) gN) ?_;refine SW.dd 2 rfl (fun _=>Ev.cN (.mk rfl) ez trivial (by rfl)) ?_;refine SW.dd 3 rfl (fun _=>Ev.aR (k:=1) (.mk rfl) (.mk rfl) ez dC rfl (by omega)) ?_;refine SW.dd 4 rfl (fun _=>Ev.fg (.mk rfl) (show x.args[1]?=some z by rw[hy];rfl) fO trivial dC ei.eq) ?_;refine SW.dd 5 rfl (fun _=>Ev.move (.mk rfl)) ?_;refine SW.dd 6 rfl (fun _=>Ev.a0) ?_;refine SW.slot 162 (iv ((d+1:Nat):Int)) rfl rfl ?_;refine SW.dd 7 rfl (fun _=>Ev.move (.mk rfl)) ?_;refine SW.bG (i:=0) (by kernel_rfl) rfl ?_;refine St.ee (Ev.l0 (.mk rfl) tZ) ?_;refine St.nn ?_;refine SW.go ?_;refine SW.bG (i:=8) (by kernel_rfl) rfl ?_;refine St.dU (ih z (by rw[hy];simp) (d+1) b (fi (ax y) (d+1) b (n+1)).1 (lq z (by rw[hy];simp)) (by omega) (by omega) (by omega)) rX (.mk rfl) (.cons (.mk rfl) (.cons (.mk rfl) (.cons (.mk rfl) .nil))) rfl ?_;rintro v164 _ ⟨rfl,rfl⟩;refine St.cb ?_;refine St.nn ?_;refine SW.go ?_;refine SW.bG (i:=9) (by kernel_rfl) rfl ?_;refine St.sA (.mk rfl) (.mk rfl) ay ?_;refine St.nn ?_;refine SW.go ?_;refine SW.done (by kernel_rfl) ?_;refine St.aA (St.aX (St.aM (St.aB ?_)));refine St.rU [_] [ae bn (.cells [iv ((fi (ax z) (d+1) b (fi (ax y) (d+1) b (n+1)).1).1:Nat)].toArray 3 (0,0)),ae bw (.cells [(.func (.func 117) #[] [Value.pointer (some ⟨bn,0,none⟩),Value.pointer (some ⟨bw,0,none⟩)].toArray)].toArray tw (0,0))] Tryz.results117 ?_
          rw[cu];exact⟨rfl,rfl⟩
       ·refine St.alloc dF rfl (fun kp=> ?_)
        refine St.nn ?_;refine SW.go ?_;refine SW.bG (i:=0) (by kernel_rfl) rfl ?_;refine St.ee (Ev.l0 (.mk rfl) tZ) ?_;refine St.nn ?_;refine SW.go ?_;refine SW.bG (i:=8) (by kernel_rfl) rfl ?_;refine St.dU (ih y (by rw[hy];simp) (d+1) b (n+1) (lq y (by rw[hy];simp)) (by omega) (by omega) (by omega)) rX (.mk rfl) (.cons (.mk rfl) (.cons (.mk rfl) (.cons (.mk rfl) .nil))) rfl ?_;rintro Sl _ ⟨rfl,rfl⟩;refine St.cb ?_;refine St.nn ?_;refine SW.go ?_;refine SW.bG (i:=10) (by kernel_rfl) rfl ?_;refine St.sA (.mk rfl) (.mk rfl) ay ?_;refine St.nn ?_;refine SW.go ?_;refine SW.done (by kernel_rfl) ?_;refine St.aA (St.sr ?_);refine St.ee (Ev.aD (.mk rfl) cX) ?_;refine St.ee (Ev.l0 (.mk rfl) bP) ?_;refine St.ee Ev.k9 ?_;refine St.nn ?_;refine St.cond _ rfl (fun nN=> ?_) (fun nN=> ?_)
        ·try simp only[aC]at nN
         rw[if_pos (show(fi (ax y) (d+1) b (n+1)).2.1≠0 by simpa using nN)]at cu;refine St.sr ?_;refine St.ee (Ev.bF (.mk rfl) fl trivial (by exact ay)) ?_;refine St.sA (.mk rfl) (.mk rfl) ay ?_;refine St.nn (St.aX (St.aB (St.aM (St.aB ?_))));refine St.rU [_] [ae bn (.cells [iv ((fi (ax y) (d+1) b (n+1)).1:Nat)].toArray 3 (0,0)),ae bw (.cells [(.func (.func 117) #[] [Value.pointer (some ⟨bn,0,none⟩),Value.pointer (some ⟨bw,0,none⟩)].toArray)].toArray tw (0,0))] Tryz.results117 ?_
         rw[cu];exact⟨rfl,rfl⟩
        ·try simp only[aC]at nN
         have GP:(fi (ax y) (d+1) b (n+1)).2.1=0:=by simpa using nN
         have pP:=(te (ax y) (d+1) b (n+1) GP).1
         rw[if_neg (by rw[GP];decide)]at cu;refine St.skip (St.aA (St.seq ?_));refine St.eV [ae bn (.cells [iv ((fi (ax y) (d+1) b (n+1)).1:Nat)].toArray 3 (0,0)),ae bw (.cells [(.func (.func 117) #[] [Value.pointer (some ⟨bn,0,none⟩),Value.pointer (some ⟨bw,0,none⟩)].toArray)].toArray tw (0,0)),aG (bO z),ae b8 (.cells [iv 0,iv 0].toArray 42 (0,0))] mixed (fun np ns=> ?_);refine SW.dd 1 rfl (fun _=>Ev.aD (.mk rfl) gN) ?_;refine SW.dd 2 rfl (fun _=>Ev.cN (.mk rfl) ez trivial (by rfl)) ?_;refine SW.dd 3 rfl (fun _=>Ev.aR (k:=1) (.mk rfl) (.mk rfl) ez dC rfl (by omega)) ?_;refine SW.dd 4 rfl (fun _=>Ev.fg (.mk rfl) (show x.args[1]?=some z by rw[hy];rfl) fO trivial dC ei.eq) ?_;refine SW.dd 5 rfl (fun _=>Ev.move (.mk rfl)) ?_;refine SW.dd 6 rfl (fun _=>Ev.a0) ?_;refine SW.slot 162 (iv ((d+1:Nat):Int)) rfl rfl ?_;refine SW.dd 7 rfl (fun _=>Ev.move (.mk rfl)) ?_;refine SW.bG (i:=0) (by kernel_rfl) rfl ?_;refine St.ee (Ev.l0 (.mk rfl) tZ) ?_;refine St.nn ?_;refine SW.go ?_;refine SW.bG (i:=8) (by kernel_rfl) rfl ?_;refine St.dU (ih z (by rw[hy];simp) (d+1) b (fi (ax y) (d+1) b (n+1)).1 (lq z (by rw[hy];simp)) (by omega) (by omega) (by omega)) rX (.mk rfl) (.cons (.mk rfl) (.cons (.mk rfl) (.cons (.mk rfl) .nil))) rfl ?_;rintro v164 _ ⟨rfl,rfl⟩;refine St.cb ?_;refine St.nn ?_;refine SW.go ?_;refine SW.bG (i:=9) (by kernel_rfl) rfl ?_;refine St.sA (.mk rfl) (.mk rfl) ay ?_;refine St.nn ?_;refine SW.go ?_;refine SW.done (by kernel_rfl) ?_;refine St.aA (St.aX (St.aM (St.aB ?_)));refine St.rU [_] [ae bn (.cells [iv ((fi (ax z) (d+1) b (fi (ax y) (d+1) b (n+1)).1).1:Nat)].toArray 3 (0,0)),ae bw (.cells [(.func (.func 117) #[] [Value.pointer (some ⟨bn,0,none⟩),Value.pointer (some ⟨bw,0,none⟩)].toArray)].toArray tw (0,0))] Tryz.results117 ?_
         rw[cu];exact⟨rfl,rfl⟩
     ·try simp only[aC]at tm
      rw[tm5 qX th vD tm]at cu;refine St.sr ?_;refine St.mv ?_;refine St.ee (Ev.lB (gj b9 4 n) oh (.mk rfl) (.cons (.mk rfl) .nil) (fj.ae fj.nil)) ?_;refine St.sA (.mk rfl) (.mk rfl) ay ?_;refine St.nn (St.aX (St.aM (St.aB ?_)));refine St.rU [_] [ae bn (.cells [iv ((n+1):Nat)].toArray 3 (0,0)),ae bw (.cells [(.func (.func 117) #[] [Value.pointer (some ⟨bn,0,none⟩),Value.pointer (some ⟨bw,0,none⟩)].toArray)].toArray tw (0,0))] Tryz.results117 ?_;rw[cu,if_pos (by decide)];exact⟨rfl,rfl⟩
end Go.Proofs.YtolmidffiegkaaaGreatDoor
namespace Go.J
open Go
section
variable {P:Program}{n:Nat}{F:Fr}{A:World→Prop}{c:Ctx}{H R:List bQ}{ty:TypeId}{x y z:Operand}{v:Value}{Q:Exit→Act→World→Prop}{ops:Array Oper}{rest:List Oper}
 {d:Nat} {pos:String} {after:Array Edge} {t e:TypeId} {size m:Nat} {cs:List Value}
end
section
variable {P:Program}{n:Nat}{F:Fr}{A:World→Prop}{c:Ctx}{H R:List bQ}{ty:TypeId}{x y z:Operand}{v:Value}{Q:Exit→Act→World→Prop}{ops:Array Oper}{rest:List Oper}
 {d:Nat} {pos:String} {after:Array Edge} {t e:TypeId} {size m:Nat} {cs:List Value}
def zt:Value→Value
 | .slice a m _=> .slice a m m
 |v=>v
theorem Ev.clip {α:Type}{Rr:Rp α}{xs:List α}{i j:Int}{ki kj:IntKind}{hi mx:Operand}[hd:tA v H α Rr xs](hx:aL F x v)(hh:aL F hi (.int ki i))(hm:aL F mx (.int kj j))(ht:P.underlying t=some (.slice e))(hs:(P.info? e).map (·.size)=some Rr.size)
 (h1:i=xs.length) (h2:j=xs.length):Ev P n F (Mm c H) (.slice t x none (some hi) (some mx)) ty (zt v):= .of_run fun a w ha hw=>by
 obtain⟨ρ,sX⟩:=hw.out;obtain⟨inf,pS,fR⟩:=Option.map_eq_some_iff.1 hs;obtain⟨ad,cap,rfl,hc,_⟩:=sX.sl hd;subst h1 h2
 have b1:(0:Int)≤(xs.length:Int)∧(xs.length:Int)≤(cap:Int):=by omega
 have b2:(0:Int)≤(xs.length:Int)∧(xs.length:Int)≤(xs.length:Int):=by omega
 simp only[execOp,hx.eval ha,hh.eval ha,hm.eval ha,Option.map_some,Option.map_none,Instr.sliceAt,Instr.slice,Instr.sliceBounds,Instr.sliceBound,asIntOf,Sem.run_bind,run_underlying ht,Result.andThen_ok,Sem.run_pure,b1,b2,and_self,if_true,Int.toNat_natCast,sizeOf,typeInfo,run_program,pS,fR,zt,Nat.sub_zero,Nat.zero_mul]
 cases ad with
 |none=>simp
 |some a=>simp[Addr.add_zero']
theorem St.Bo {α:Type}{Rr:Rp α}{xs:List α}{v2:Value}{m2:Nat}{news:List Value}{zv:Value}{vn:Nat}[t2:jX v2 H e Rr.size m2 news R][t1:tA v H α Rr xs]
 (hx:aL F x (zt v)) (hy:aL F y v2) (ht:P.underlying t=some (.slice e)) (hs:(P.info? e).map (·.size)=some Rr.size) (hz:(P.info? e).bind (·.zero)=some zv) (hb:(P.info? e).map (·.bytes)=some vn)
 (K2:∀u∈news,u.oneCell'=true) (hlen:xs.length+m2≤9223372036854775807) (mZ:(xs.length+m2)*vn≤140737488355328) (Mu:zv.cells.size=Rr.size) (mD:Nat.ble 1 Rr.size=true) (fz:Nat.ble 1 m2=true) (hd:Nat.ble (d+1) n=true)
 (h:∀v',v'.oneCell'=true→St n ((d,v')::F) (Mm c (row v' e Rr.size (xs.length+m2) (rows Rr xs++news)::R)) (wpList P ops Q rest)):
 St n F (Mm c H) (wpList P ops Q ({dst:=some d,op:= .call {callee:= .builtin .append,args:= #[x,y],argTypes:= #[t,t]},type:=ty,pos:=pos,after:=after,guard:=none}::rest)):=by
 refine St.Fj (K:=fun v' H'=>v'.oneCell'=true∧H'=row v' e Rr.size (xs.length+m2) (rows Rr xs++news)::R) ?_ hd ?_
 ·intro a w ρ ha hm
  have B8:=hm.perm t2.perm
  have Fl:=eT.1 (B8.dK _ (List.mem_cons_self ..))
  obtain⟨ad,cap,rfl,_,_,_,h5⟩:=hm.sl t1
  have Y1:=Nat.le_of_ble_eq_true fz
  obtain⟨i,hi,fR⟩:=Option.map_eq_some_iff.1 hs;obtain⟨q1,q2,q3⟩:=n1 hs hz hb hi
  rcases Fl.2 with⟨_,rfl⟩|⟨g2,BT,RR,rfl,_,RS,zI,vJ,RT,G6⟩
  ·omega
  ·have rM:∀j u,news[j]?=some u→w.cell? ((⟨g2,0,none⟩:Addr).add j)=some u:=fun j u hj=>by
    rw[Addr.add_lit,Nat.zero_add,cY RS];rw[←G6,List.getElem?_take]at hj
    split at hj
    ·simpa using hj
    ·simp at hj
   have PF:xs.length+m2≤9223372036854775807:=hlen
   have qg:(xs.length+m2)*i.bytes≤140737488355328:=by rw[q3];exact mZ
   have jU:(rows Rr xs).length=xs.length*i.size:=by rw[e7,q1]
   have Sm:news.length=m2*i.size:=by rw[Fl.1,q1]
   have eP:∃(xi:Nat),(Builtin.append_ #[t,t] ty #[zt (.slice ad xs.length cap),.slice (some ⟨g2,0,none⟩) m2 BT]).run P w= .ok (.slice (some ⟨w.heap.size,0,none⟩) (xs.length+m2) xi) (w.drew.alloc (.cells ((rows Rr xs).toArray++news.toArray++Builtin.zeroCells zv.cells (xi-(xs.length+m2))) e))∧xs.length+m2≤xi∧xi≤maxLen:=by
    cases ad with
    |none=>
     rcases h5 with h5|⟨b,off,C,e',fr,h5,_⟩
     ·subst h5
      refine⟨grownCap w (([]:List α).length+m2) 0 e,?_,grownCap_ge ..,grownCap_le_maxLen _ _ _ _ (by unfold maxLen;omega)⟩
      have hr:=run_append_nil (P:=P) w t ty e i zv ht hi q2 ⟨g2,0,none⟩ m2 BT news Sm rM (by omega) (by simp at PF;omega) (by simp at qg;omega)
      simpa[zt,rows]using hr
     ·cases h5
    |some ad=>
     refine⟨grownCap w (xs.length+m2) xs.length e,?_,grownCap_ge ..,grownCap_le_maxLen _ _ _ _ (by unfold maxLen;omega)⟩;refine run_append_grow (P:=P) w t ty e i zv ht hi q2 ad xs.length xs.length (rows Rr xs) jU (fun j u hj=> ?_) ⟨g2,0,none⟩ m2 BT news Sm rM (by omega) (by omega) (growslice_fits (by omega) qg)
     rcases h5 with h5|⟨b,off,C,e',fr,h5,h6,h7⟩
     ·subst h5;simp[rows]at hj
     ·cases h5
      rw[Addr.add_lit,cY (hm.fits _ _ h6)];exact h7 j u hj
   obtain⟨xi,tE,hc3,hc4⟩:=eP;refine⟨.value (.slice (some ⟨w.heap.size,0,none⟩) (xs.length+m2) xi),w.drew.alloc (.cells ((rows Rr xs).toArray++news.toArray++Builtin.zeroCells zv.cells (xi-(xs.length+m2))) e),ρ,_,?_,⟨_,.inl rfl,rfl,rfl⟩,?_⟩
   ·simp[execOp,resolve,invoke,builtin,hx.eval ha,hy.eval ha,tE]
   ·have NL:(rows Rr xs++news).length=(xs.length+m2)*Rr.size:=by rw[List.length_append,Fl.1,e7,Nat.add_mul]
    refine B8.drop.BO rfl ⟨rfl,Nat.le_succ _⟩ rfl (by simp) (fun k hk=>heap_alloc_old w.drew _ hk) (eT.2 ⟨NL,.inr ⟨w.heap.size,xi,_,rfl,Nat.zero_le _,heap_alloc_new w.drew _,hc3,hc4,?_,?_⟩⟩) ?_
    ·simp only[Array.size_append,List.size_toArray,size_zeroCells,Mu,e7,Fl.1,←Nat.add_mul]
     congr 1
     omega
    ·simp only[Array.toList_append,List.append_assoc]
     rw[←List.append_assoc,←NL];exact List.take_left
    ·intro b hb;rw[ek]at hb;simp[Value.ownBlock]at hb;omega
 ·rintro _ _ ⟨h1,rfl⟩
  exact h _ h1
end
end Go.J
namespace Go.Proofs.YtolmidffiegkaaaGreatDoor
open Go Go.J
theorem Bp (x:cF):(ax x).type=bK x.type:=by cases x;rfl
theorem zu (x:cF):(ax x).index=x.index:=by cases x;rfl
theorem o8 {a b:Option dY}{s1 s2:dY}{b1 b2:Bool}(h1:b1=true→a=some s1)(h1f:b1=false→a=none)(h2:b2=true→b=some s2)(h2f:b2=false→b=none)
 (hn:b1=true→b2=true→∀p q,s1.args=[p,q]→fp p s2=true→False):xo a b=none:=by
 cases b1 with
 |false=>rw[h1f rfl];rfl
 |true=>
  cases b2 with
  |false=>
   rw[h2f rfl];unfold xo
   split
   ·contradiction
   ·rfl
  |true=>
   rw[h1 rfl,h2 rfl]
   refine wM _ _ fun s l x e1 e2 e3=> ?_
   cases e1;cases e3
   rintro ⟨p,q,rfl,hs⟩;exact hn rfl rfl p q e2 hs
theorem Ek {l:List cT}{p q:cT}(h:l=[p,q]):l[0]?=some (l.headD gW):=by rw[h];rfl
section
variable {n:Nat}{F:Fr}{c:Ctx}{H:List bQ}{T:Act→World→Prop}
theorem St.Kw (l:List cT)[hd:jf (aY bW l) H](k:St n F (Mm c (aG (bW (l.headD gW))::H)) T):St n F (Mm c H) T:=
 St.gQ (bW (l.headD gW)) [aY bW l] (fun ρ h=>by
  cases l with
  |nil=>exact .mk (x:=gW) (BV gh ρ) (fun y hy=>by cases hy)
  |cons p l=>exact h _ (List.mem_cons_self ..) p (List.mem_cons_self ..)) k
end
set_option maxHeartbeats 2000000 in
theorem Bq:∀(x:cF) (ctx:List cT) (v:Value) (d:Nat),vQ (ax x) d ctx.length→cG.wf x→ctx.length≤d→fF Tryz.prog 121 #[bb x,v] ([bO x,sl gh v ctx,aY bW ctx].map aG) (fun r H'=>∃(s:cT) (b:Bool),r= .tuple #[aQ s,.bool b]∧gh.wf s∧(b=true→iY (ax x) (ctx.map bK)=some (bK s))∧(b=false→iY (ax x) (ctx.map bK)=none)∧H'=[aG (bW s)]):=by
 intro x
 induction x using cF.ind
 rename_i x ih
 intro ctx v d hg hw K5;refine fF.body (args:=[bb x,v]) 101 Tryz.func121 rfl Tryz.ntmps121 rfl (fun c=> ?_);refine St.cast (H':=[aG (bO x),aG (sl gh v ctx),aG (aY bW ctx)]) rfl ?_;refine St.seq ?_;obtain⟨adV,hh,hk⟩:=hg.inv;rw[yG]at hh
 have hinv:=qq hh
 rw[iw,mO]at hk
 have cu:=pk (ax x) (ctx.map bK)
 rw[mO,iw,Bp,zu,List.length_map]at cu;refine St.pY x ?_;refine St.wf x.av.1 (fun lq tB=> ?_);refine St.wf v (fun hcw hcx=> ?_);refine St.rg ?_;refine St.cV (.mk rfl) rfl (fun b2=> ?_);refine St.alloc iP rfl (fun b4=> ?_);refine St.ak ?_;refine St.nn (St.seq (St.sr ?_));refine St.ee (Ev.aD (.mk rfl) hJ) ?_;refine St.ee (Ev.l0 (.mk rfl) bP) ?_;refine St.nn (St.block (St.sr ?_));refine St.ee Ev.ey ?_;refine St.ak ?_;refine St.nn ?_;refine St.cond _ rfl (fun Kx=> ?_) (fun Kx=> ?_)
 ·try simp only[aC]at Kx
  rw[if_pos Kx]at cu;refine St.sr ?_;refine St.ee (Ev.aD (.mk rfl) lK) ?_;refine St.ee (Ev.iI 2 (.mk rfl) bX trivial bC rfl rfl) ?_;refine St.slot 18 (aQ x.type) rfl rfl ?_;refine St.sA (.mk rfl) (.mk rfl) bC ?_ (h1:=(by simp only[List.all_cons,List.all_nil,Bool.and_true,Bool.and_eq_true];exact⟨rfl,x.type.av.2⟩));refine St.ak ?_;refine St.nn (St.aX (St.aM (St.aB ?_)));refine St.rT [_,_] [aG (bW x.type)] Tryz.results121 ⟨⟨_,_,_,_,rfl,ju.mem,.inl ⟨⟨_,bX⟩,bC,rfl⟩⟩,⟨rfl,trivial⟩⟩ ?_;exact⟨x.type,true,rfl,hw.2.2.2,(fun _=>cu),((fun hb=>by cases hb)),rfl⟩
 ·try simp only[aC]at Kx
  rw[if_neg Kx]at cu;refine St.sr ?_;refine St.ee Ev.ey ?_;refine St.ak ?_;refine St.nn ?_;refine St.cond _ rfl (fun gY=> ?_) (fun gY=> ?_)
  ·try simp only[aC]at gY
   rw[if_pos gY]at cu;obtain⟨s,hs⟩:=aO (show ctx.length-1-x.index.toNat<ctx.length by omega);refine St.cD bW ctx (x:=s) (List.mem_of_getElem? hs) ?_;refine St.sr ?_;refine St.mv ?_;refine St.mv ?_;refine St.ee (Ev.ao (.mk rfl) dM) ?_;refine St.ee Ev.s0 ?_;refine St.ee (Ev.aD (.mk rfl) lJ) ?_;refine St.ee (Ev.l0 (.mk rfl) bP) ?_;refine St.ee Ev.s0 ?_;refine St.ee (Ev.aR (k:=(ctx.length-1-x.index.toNat)) (.mk rfl) (.mk rfl) dM bC (by omega) (by omega)) ?_;refine St.ee (Ev.fg (.mk rfl) hs bX trivial bC ei.eq) ?_;refine St.sA (.mk rfl) (.mk rfl) bC ?_ (h1:=(by simp only[List.all_cons,List.all_nil,Bool.and_true,Bool.and_eq_true];exact⟨rfl,s.av.2⟩));refine St.ak ?_;refine St.nn (St.aX (St.aM (St.aB ?_)));refine St.rT [_,_] [aG (bW s)] Tryz.results121 ⟨⟨_,_,_,_,rfl,ju.mem,.inl ⟨⟨_,bX⟩,bC,rfl⟩⟩,⟨rfl,trivial⟩⟩ ?_;exact⟨s,true,rfl,hcw s (List.mem_of_getElem? hs),(fun _=>by rw[cu,List.getElem?_map,hs];rfl),((fun hb=>by cases hb)),rfl⟩
  ·try simp only[aC]at gY
   rw[if_neg gY]at cu;refine St.sr ?_;refine St.ee Ev.ey ?_;refine St.ak ?_;refine St.nn ?_;refine St.cond _ rfl (fun qt=> ?_) (fun qt=> ?_)
   ·try simp only[aC]at qt
    rw[if_pos qt]at cu;obtain⟨y,hy⟩:=zq (show x.args.length=1 by omega)
    have h1l:x.args.length=1:=by omega
    have lr:y∈x.args:=by rw[hy];simp
    have Qt:=hk (ax y) (List.mem_map_of_mem lr)
    rw[if_pos qt]at Qt;refine St.cD bO x.args (x:=y) lr ?_;rw[hy,List.map_cons,List.map_nil,jo]at cu;refine St.seq ?_;refine St.zM [] mixed (fun np ns=> ?_);refine SW.dd 0 rfl (fun _=>Ev.move (.mk rfl)) ?_;refine SW.dd 1 rfl (fun _=>Ev.move (.mk rfl)) ?_;refine SW.dd 2 rfl (fun _=>Ev.ao (.mk rfl) dM) ?_;refine SW.dd 3 rfl (fun _=>Ev.move (.mk rfl)) ?_;refine SW.dd 4 rfl (fun _=>Ev.ao (.mk rfl) dM) ?_;refine SW.dd 5 rfl (fun _=>Ev.clip (.mk rfl) (.mk rfl) (.mk rfl) dM bC rfl rfl) ?_;refine SW.dd 6 rfl (fun _=>Ev.aD (.mk rfl) lK) ?_;refine SW.dd 7 rfl (fun _=>Ev.iI 2 (.mk rfl) bX trivial bC rfl rfl) ?_;refine SW.slot 39 (aQ x.type) rfl rfl ?_;refine SW.bG (i:=8) (by kernel_rfl) rfl ?_;refine St.cn rfl (.cons (.mk rfl) .nil) dM bC EW rfl rfl (by simp[Value.cells]) rfl rfl (fun Yj=> ?_);refine St.nn ?_;refine SW.go ?_;refine SW.bG (i:=9) (by kernel_rfl) rfl ?_;refine St.Bo (.mk rfl) (.mk rfl) dM bC EW SM (td (p:=fun u:Value=>u.oneCell'=true) rfl x.type.av.2) (by omega) (by omega) rfl rfl rfl rfl (fun Yk adW=> ?_);refine St.aV Yk gh (ctx++ [x.type]) (by simp[rows];rfl) (by simp) (fun u hu=>(List.mem_append.1 hu).elim (hcw u) (fun h=>by rw[List.mem_singleton.1 h];exact hw.2.2.2)) ?_;refine St.lb bW (xs:=ctx) (x:=x.type) ?_;refine St.nn ?_;refine SW.go ?_;refine SW.dd 10 rfl (fun _=>Ev.assign (.mk rfl)) ?_;refine SW.done (by kernel_rfl) ?_;refine St.aA (St.sr ?_);refine St.ee (Ev.aD (.mk rfl) gN) ?_;refine St.ee (Ev.l0 (.mk rfl) ez) ?_;refine St.ee (Ev.aR (k:=0) (.mk rfl) (.mk rfl) ez dC rfl (by omega)) ?_;refine St.ee (Ev.fg (.mk rfl) (show x.args[0]?=some y by rw[hy];rfl) fO trivial dC ei.eq) ?_;refine St.mv ?_;refine St.aw (ih y lr (ctx++ [x.type]) Yk (d+1) (by rw[←fX];exact Qt) (lq y lr) (by rw[←fX];omega)) DI (.cons (.mk rfl) (.cons (.mk rfl) .nil)) rfl ?_;rintro v48 _ ⟨s,b1,rfl,Sn,Br,El,rfl⟩;refine St.bL ?_;refine St.mv ?_;refine St.ee (Ev.extract (.mk rfl) rfl) ?_;refine St.ee (Ev.extract (.mk rfl) rfl) ?_;refine St.alloc iP rfl (fun b7=> ?_);refine St.sA (.mk rfl) (.mk rfl) bC ?_ (h1:=(by simp only[List.all_cons,List.all_nil,Bool.and_true,Bool.and_eq_true];exact⟨rfl,s.av.2⟩));refine St.ak ?_;refine St.nn (St.sr ?_);refine St.ee (Ev.aD (.mk rfl) lK) ?_;refine St.ee (Ev.iI 2 (.mk rfl) bX trivial bC rfl rfl) ?_;refine St.slot 52 (aQ x.type) rfl rfl ?_;refine St.ee (Ev.bF (.mk rfl) bX trivial (by exact bC)) ?_;refine St.cn rfl (.cons (.mk rfl) (.cons (.mk rfl) .nil)) dM bC EW rfl rfl (by simp[Value.cells]) rfl rfl (fun PG=> ?_);refine St.aV (.slice (some ⟨PG,0,none⟩) 2 2) gh [x.type,s] rfl rfl (td hw.2.2.2 Sn) ?_;refine St.da bW ?_;refine St.eo bW (xs:=[]) (x:=s) ?_;refine St.eo bW (xs:=[s]) (x:=x.type) ?_;refine St.mb [] (.slice (some ⟨PG,0,none⟩) 2 2) rfl [x.type,s] ?_;refine St.ee (Ev.build (ps:=[(1,(.tmp 54))]) (aU.cons (aL.mk rfl) aU.nil) (fun w=>y9 rfl w)) ?_;refine St.mv ?_;refine St.sA (.mk rfl) (.mk rfl) bC ?_ (h1:=(by simp only[List.all_cons,List.all_nil,Bool.and_true,Bool.and_eq_true];exact⟨rfl,rfl⟩));refine St.ak ?_;refine St.nn (St.aX (St.aM (St.aB ?_)));refine St.rT [_,_] [aG (bW (.mk [] ⟨(.slice (some ⟨PG,0,none⟩) 2 2),rfl⟩ [x.type,s]))] Tryz.results121 ⟨⟨_,_,_,_,rfl,ju.mem,.inl ⟨⟨_,bX⟩,bC,rfl⟩⟩,⟨rfl,trivial⟩⟩ ?_;exact⟨(.mk [] ⟨(.slice (some ⟨PG,0,none⟩) 2 2),rfl⟩ [x.type,s]),b1,rfl,Nat.zero_le _,(fun hb=>by rw[cu,show iY (ax y) (ctx.map bK++ [bK x.type])=some (bK s) by rw[←Br hb,List.map_append];rfl,j8];rfl),(fun hb=>by rw[cu,show iY (ax y) (ctx.map bK++ [bK x.type])=none by rw[←El hb,List.map_append];rfl];rfl),rfl⟩
   ·try simp only[aC]at qt
    rw[if_neg qt]at cu;obtain⟨y,z,hy⟩:=nM (show x.args.length=2 by omega)
    have h2l:x.args.length=2:=by omega
    have lr:y∈x.args:=by rw[hy];simp
    have Wu:z∈x.args:=by rw[hy];simp
    have Qt:=hk (ax y) (List.mem_map_of_mem lr)
    have hzg:=hk (ax z) (List.mem_map_of_mem Wu)
    rw[if_neg qt]at Qt hzg;refine St.cD bO x.args (x:=y) lr ?_;refine St.cD bO x.args (x:=z) Wu ?_;rw[hy,List.map_cons,List.map_cons,List.map_nil,jo,rZ]at cu;refine St.skip (St.aN (St.aA (St.sr ?_)));refine St.ee (Ev.aD (.mk rfl) gN) ?_;refine St.ee (Ev.l0 (.mk rfl) ez) ?_;refine St.ee (Ev.aR (k:=0) (.mk rfl) (.mk rfl) ez dC rfl (by omega)) ?_;refine St.ee (Ev.fg (.mk rfl) (show x.args[0]?=some y by rw[hy];rfl) fO trivial dC ei.eq) ?_;refine St.mv ?_;refine St.aw (ih y lr ctx v (d+1) Qt (lq y lr) (by omega)) DI (.cons (.mk rfl) (.cons (.mk rfl) .nil)) rfl ?_;rintro v63 _ ⟨s1,b1,rfl,Sn,Br,El,rfl⟩;refine St.bL ?_;refine St.mv ?_;refine St.ee (Ev.extract (.mk rfl) rfl) ?_;refine St.ee (Ev.extract (.mk rfl) rfl) ?_;refine St.alloc iP rfl (fun b9=> ?_);refine St.sA (.mk rfl) (.mk rfl) bC ?_ (h1:=(by simp only[List.all_cons,List.all_nil,Bool.and_true,Bool.and_eq_true];exact⟨rfl,s1.av.2⟩));refine St.ak ?_;refine St.nn (St.sr ?_);refine St.ee (Ev.aD (.mk rfl) gN) ?_;refine St.ee (Ev.l0 (.mk rfl) ez) ?_;refine St.ee (Ev.aR (k:=1) (.mk rfl) (.mk rfl) ez dC rfl (by omega)) ?_;refine St.ee (Ev.fg (.mk rfl) (show x.args[1]?=some z by rw[hy];rfl) fO trivial dC ei.eq) ?_;refine St.mv ?_;refine St.aw (ih z Wu ctx v (d+1) hzg (lq z Wu) (by omega)) DI (.cons (.mk rfl) (.cons (.mk rfl) .nil)) rfl ?_;rintro v72 _ ⟨s2,b2,rfl,adX,H3,Ky,rfl⟩;refine St.bL ?_;refine St.mv ?_;refine St.ee (Ev.extract (.mk rfl) rfl) ?_;refine St.ee (Ev.extract (.mk rfl) rfl) ?_;refine St.alloc iP rfl (fun kp=> ?_);refine St.sA (.mk rfl) (.mk rfl) bC ?_ (h1:=(by simp only[List.all_cons,List.all_nil,Bool.and_true,Bool.and_eq_true];exact⟨rfl,s2.av.2⟩));refine St.ak ?_;refine St.nn (St.seq (St.seq ?_));refine St.jk s1 ?_;refine St.wf s1.av.1 (fun Kz DL=> ?_);refine St.Kw s1.args ?_;refine St.eV [] mixed (fun np ns=> ?_);refine SW.dd 0 rfl (fun _=>Ev.move (.mk rfl)) ?_;refine SW.dd 1 rfl (fun _=>Ev.not (.mk rfl)) ?_;refine SW.dd 2 rfl (fun _=>Ev.move (.mk rfl)) ?_;refine SW.split 77 _ rfl (fun H4=> ?_) (fun H4=> ?_)
    ·refine SW.gf 3 undef np ns rfl rfl rfl (fun R hg=>by cases hg) (by kernel_rfl) rfl ?_
     refine SW.slot 78 undef rfl (ag rfl _) ?_;refine SW.gf 4 undef np ns rfl rfl rfl (fun R hg=>by cases hg) (by kernel_rfl) rfl ?_;refine SW.slot 79 undef rfl (ag rfl _) ?_;refine SW.dd 5 rfl (fun _=>Ev.fB (.mk rfl) rfl (.mk rfl)) ?_;refine SW.dd 6 rfl (fun _=>Ev.move (.mk rfl)) ?_;refine SW.slot 81 (.bool true) rfl (congrArg Value.bool rfl) ?_;refine SW.gf 7 undef np ns rfl rfl rfl (fun R hg=>by cases hg) (by kernel_rfl) rfl ?_;refine SW.slot 82 undef rfl (ag rfl _) ?_;refine SW.gf 8 undef np ns rfl rfl rfl (fun R hg=>by cases hg) (by kernel_rfl) rfl ?_;refine SW.slot 83 undef rfl (ag rfl _) ?_;refine SW.gf 9 undef np ns rfl rfl rfl (fun R hg=>by cases hg) (by kernel_rfl) rfl ?_;refine SW.slot 84 undef rfl (ag rfl _) ?_;refine SW.gf 10 undef np ns rfl rfl rfl (fun R hg=>by cases hg) (by kernel_rfl) rfl ?_;refine SW.slot 85 undef rfl (ag rfl _) ?_;refine SW.dd 11 rfl (fun _=>Ev.fB (.mk rfl) rfl (.mk rfl)) ?_;refine SW.dd 12 rfl (fun _=>Ev.move (.mk rfl)) ?_;refine SW.slot 87 (.bool true) rfl (congrArg Value.bool rfl) ?_;refine SW.gf 13 undef np ns rfl rfl rfl (fun R hg=>by cases hg) (by kernel_rfl) rfl ?_;refine SW.slot 88 undef rfl (ag rfl _) ?_;refine SW.gf 14 undef np ns rfl rfl rfl (fun R hg=>by cases hg) (by kernel_rfl) rfl ?_;refine SW.slot 89 undef rfl (ag rfl _) ?_;refine SW.gf 15 undef np ns rfl rfl rfl (fun R hg=>by cases hg) (by kernel_rfl) rfl ?_;refine SW.slot 90 undef rfl (ag rfl _) ?_;refine SW.gf 16 undef np ns rfl rfl rfl (fun R hg=>by cases hg) (by kernel_rfl) rfl ?_;refine SW.slot 91 undef rfl (ag rfl _) ?_;refine SW.gf 17 undef np ns rfl rfl rfl (fun R hg=>by cases hg) (by kernel_rfl) rfl ?_;refine SW.slot 92 undef rfl (ag rfl _) ?_;refine SW.gf 18 undef np ns rfl rfl rfl (fun R hg=>by cases hg) (by kernel_rfl) rfl ?_;refine SW.slot 93 undef rfl (ag rfl _) ?_;refine SW.gf 19 undef np ns rfl rfl rfl (fun R hg=>by cases hg) (by kernel_rfl) rfl ?_;refine SW.slot 94 undef rfl (ag rfl _) ?_;refine SW.dd 20 rfl (fun _=>Ev.fB (.mk rfl) rfl (.mk rfl)) ?_;refine SW.done (by kernel_rfl) ?_;refine St.aA ?_;refine St.cond _ rfl (fun qu=> ?_) (fun qu=> ?_)
     ·skip
      have ma:b1=true→b2=true→∀p q,(bK s1).args=[p,q]→fp p (bK s2)=true→False:=fun e1 _ _ _ _ _=>by rw[e1]at H4;cases H4
      refine St.sr ?_;refine St.ee (Ev.build (ps:=[]) (aU.nil) (fun w=>qp w)) ?_;refine St.sA (.mk rfl) (.mk rfl) bC ?_ (h1:=(by simp only[List.all_cons,List.all_nil,Bool.and_true,Bool.and_eq_true];exact⟨rfl,rfl⟩));refine St.ak ?_;refine St.nn (St.aX (St.aB ?_));refine St.hY gh ?_;refine St.da bW ?_;refine St.mb [] (.slice none 0 0) rfl [] ?_;refine St.rT [_,_] [aG (bW gW)] Tryz.results121 ⟨⟨_,_,_,_,rfl,ju.mem,.inl ⟨⟨_,bX⟩,bC,rfl⟩⟩,⟨rfl,trivial⟩⟩ ?_;exact⟨gW,false,rfl,Nat.zero_le _,((fun hb=>by cases hb)),(fun _=>by rw[cu];exact o8 Br El H3 Ky ma),rfl⟩
     ·skip
      cases qu
    ·refine SW.gf 3 _ np ns rfl rfl rfl (fun R _=>Ev.move (.mk rfl)) (by kernel_rfl) rfl ?_
     refine SW.slot 78 _ rfl (bM rfl _) ?_;refine SW.gf 4 _ np ns rfl rfl rfl (fun R _=>Ev.not (.mk rfl)) (by kernel_rfl) rfl ?_;refine SW.slot 79 _ rfl (bM rfl _) ?_;refine SW.dd 5 rfl (fun _=>Ev.oc (.mk rfl) rfl (.mk rfl)) ?_;refine SW.dd 6 rfl (fun _=>Ev.move (.mk rfl)) ?_;refine SW.split 81 _ rfl (fun H5=> ?_) (fun H5=> ?_)
     ·refine SW.gf 7 undef np ns rfl rfl rfl (fun R hg=>by cases hg) (by kernel_rfl) rfl ?_
      refine SW.slot 82 undef rfl (ag rfl _) ?_;refine SW.gf 8 undef np ns rfl rfl rfl (fun R hg=>by cases hg) (by kernel_rfl) rfl ?_;refine SW.slot 83 undef rfl (ag rfl _) ?_;refine SW.gf 9 undef np ns rfl rfl rfl (fun R hg=>by cases hg) (by kernel_rfl) rfl ?_;refine SW.slot 84 undef rfl (ag rfl _) ?_;refine SW.gf 10 undef np ns rfl rfl rfl (fun R hg=>by cases hg) (by kernel_rfl) rfl ?_;refine SW.slot 85 undef rfl (ag rfl _) ?_;refine SW.dd 11 rfl (fun _=>Ev.fB (.mk rfl) rfl (.mk rfl)) ?_;refine SW.dd 12 rfl (fun _=>Ev.move (.mk rfl)) ?_;refine SW.slot 87 (.bool true) rfl (congrArg Value.bool rfl) ?_;refine SW.gf 13 undef np ns rfl rfl rfl (fun R hg=>by cases hg) (by kernel_rfl) rfl ?_;refine SW.slot 88 undef rfl (ag rfl _) ?_;refine SW.gf 14 undef np ns rfl rfl rfl (fun R hg=>by cases hg) (by kernel_rfl) rfl ?_;refine SW.slot 89 undef rfl (ag rfl _) ?_;refine SW.gf 15 undef np ns rfl rfl rfl (fun R hg=>by cases hg) (by kernel_rfl) rfl ?_;refine SW.slot 90 undef rfl (ag rfl _) ?_;refine SW.gf 16 undef np ns rfl rfl rfl (fun R hg=>by cases hg) (by kernel_rfl) rfl ?_;refine SW.slot 91 undef rfl (ag rfl _) ?_;refine SW.gf 17 undef np ns rfl rfl rfl (fun R hg=>by cases hg) (by kernel_rfl) rfl ?_;refine SW.slot 92 undef rfl (ag rfl _) ?_;refine SW.gf 18 undef np ns rfl rfl rfl (fun R hg=>by cases hg) (by kernel_rfl) rfl ?_;refine SW.slot 93 undef rfl (ag rfl _) ?_;refine SW.gf 19 undef np ns rfl rfl rfl (fun R hg=>by cases hg) (by kernel_rfl) rfl ?_;refine SW.slot 94 undef rfl (ag rfl _) ?_;refine SW.dd 20 rfl (fun _=>Ev.fB (.mk rfl) rfl (.mk rfl)) ?_;refine SW.done (by kernel_rfl) ?_;refine St.aA ?_;refine St.cond _ rfl (fun qu=> ?_) (fun qu=> ?_)
      ·skip
       have ma:b1=true→b2=true→∀p q,(bK s1).args=[p,q]→fp p (bK s2)=true→False:=fun _ e2 _ _ _ _=>by rw[e2]at H5;cases H5
       refine St.sr ?_;refine St.ee (Ev.build (ps:=[]) (aU.nil) (fun w=>qp w)) ?_;refine St.sA (.mk rfl) (.mk rfl) bC ?_ (h1:=(by simp only[List.all_cons,List.all_nil,Bool.and_true,Bool.and_eq_true];exact⟨rfl,rfl⟩));refine St.ak ?_;refine St.nn (St.aX (St.aB ?_));refine St.hY gh ?_;refine St.da bW ?_;refine St.mb [] (.slice none 0 0) rfl [] ?_;refine St.rT [_,_] [aG (bW gW)] Tryz.results121 ⟨⟨_,_,_,_,rfl,ju.mem,.inl ⟨⟨_,bX⟩,bC,rfl⟩⟩,⟨rfl,trivial⟩⟩ ?_;exact⟨gW,false,rfl,Nat.zero_le _,((fun hb=>by cases hb)),(fun _=>by rw[cu];exact o8 Br El H3 Ky ma),rfl⟩
      ·skip
       cases qu
     ·refine SW.gf 7 _ np ns rfl rfl rfl (fun R _=>Ev.aD (.mk rfl) ef) (by kernel_rfl) rfl ?_
      refine SW.slot 82 _ rfl (bM rfl _) ?_;refine SW.gf 8 _ np ns rfl rfl rfl (fun R _=>Ev.cN (.mk rfl) dM trivial (by rfl)) (by kernel_rfl) rfl ?_;refine SW.slot 83 _ rfl (bM rfl _) ?_;refine SW.gf 9 _ np ns rfl rfl rfl (fun R _=>Ev.ao (.mk rfl) dM) (by kernel_rfl) rfl ?_;refine SW.slot 84 _ rfl (bM rfl _) ?_;refine SW.gf 10 _ np ns rfl rfl rfl (fun R _=>Ev.k9) (by kernel_rfl) rfl ?_;refine SW.slot 85 _ rfl (bM rfl _) ?_;refine SW.dd 11 rfl (fun _=>Ev.oc (.mk rfl) rfl (.mk rfl)) ?_;refine SW.dd 12 rfl (fun _=>Ev.move (.mk rfl)) ?_;refine SW.split 87 _ rfl (fun yH=> ?_) (fun yH=> ?_)
      ·refine SW.gf 13 undef np ns rfl rfl rfl (fun R hg=>by cases hg) (by kernel_rfl) rfl ?_
       refine SW.slot 88 undef rfl (ag rfl _) ?_;refine SW.gf 14 undef np ns rfl rfl rfl (fun R hg=>by cases hg) (by kernel_rfl) rfl ?_;refine SW.slot 89 undef rfl (ag rfl _) ?_;refine SW.gf 15 undef np ns rfl rfl rfl (fun R hg=>by cases hg) (by kernel_rfl) rfl ?_;refine SW.slot 90 undef rfl (ag rfl _) ?_;refine SW.gf 16 undef np ns rfl rfl rfl (fun R hg=>by cases hg) (by kernel_rfl) rfl ?_;refine SW.slot 91 undef rfl (ag rfl _) ?_;refine SW.gf 17 undef np ns rfl rfl rfl (fun R hg=>by cases hg) (by kernel_rfl) rfl ?_;refine SW.slot 92 undef rfl (ag rfl _) ?_;refine SW.gf 18 undef np ns rfl rfl rfl (fun R hg=>by cases hg) (by kernel_rfl) rfl ?_;refine SW.slot 93 undef rfl (ag rfl _) ?_;refine SW.gf 19 undef np ns rfl rfl rfl (fun R hg=>by cases hg) (by kernel_rfl) rfl ?_;refine SW.slot 94 undef rfl (ag rfl _) ?_;refine SW.dd 20 rfl (fun _=>Ev.fB (.mk rfl) rfl (.mk rfl)) ?_;refine SW.done (by kernel_rfl) ?_;refine St.aA ?_;refine St.cond _ rfl (fun qu=> ?_) (fun qu=> ?_)
       ·skip
        simp only[aC]at yH
        have ma:b1=true→b2=true→∀p q,(bK s1).args=[p,q]→fp p (bK s2)=true→False:=fun _ _ p q e _=>by rw[dG]at e;have e3:=congrArg List.length e;rw[List.length_map]at e3;exact yH (by rw[e3];rfl)
        refine St.sr ?_;refine St.ee (Ev.build (ps:=[]) (aU.nil) (fun w=>qp w)) ?_;refine St.sA (.mk rfl) (.mk rfl) bC ?_ (h1:=(by simp only[List.all_cons,List.all_nil,Bool.and_true,Bool.and_eq_true];exact⟨rfl,rfl⟩));refine St.ak ?_;refine St.nn (St.aX (St.aB ?_));refine St.hY gh ?_;refine St.da bW ?_;refine St.mb [] (.slice none 0 0) rfl [] ?_;refine St.rT [_,_] [aG (bW gW)] Tryz.results121 ⟨⟨_,_,_,_,rfl,ju.mem,.inl ⟨⟨_,bX⟩,bC,rfl⟩⟩,⟨rfl,trivial⟩⟩ ?_;exact⟨gW,false,rfl,Nat.zero_le _,((fun hb=>by cases hb)),(fun _=>by rw[cu];exact o8 Br El H3 Ky ma),rfl⟩
       ·skip
        cases qu
      ·have Yl:=yH
       simp only[aC]at Yl
       have Sh:s1.args.length=2:=by omega
       obtain⟨p,q,yI⟩:=nM Sh;refine SW.gf 13 _ np ns rfl rfl rfl (fun R _=>Ev.aD (.mk rfl) ef) (by kernel_rfl) rfl ?_;refine SW.slot 88 _ rfl (bM rfl _) ?_;refine SW.gf 14 _ np ns rfl rfl rfl (fun R _=>Ev.cN (.mk rfl) dM trivial (by rfl)) (by kernel_rfl) rfl ?_;refine SW.slot 89 _ rfl (bM rfl _) ?_;refine SW.gf 15 _ np ns rfl rfl rfl (fun R _=>Ev.aR (k:=0) (.mk rfl) (.mk rfl) dM bC rfl (by omega)) (by kernel_rfl) rfl ?_;refine SW.slot 90 _ rfl (bM rfl _) ?_;refine SW.gf 16 _ np ns rfl rfl rfl (fun R _=>Ev.fg (.mk rfl) (Ek yI) bX trivial bC ei.eq) (by kernel_rfl) rfl ?_;refine SW.slot 91 _ rfl (bM rfl _) ?_;refine SW.gf 17 _ np ns rfl rfl rfl (fun R _=>Ev.bF (.mk rfl) bX trivial (by exact bC)) (by kernel_rfl) rfl ?_;refine SW.slot 92 _ rfl (bM rfl _) ?_;refine SW.gf 18 _ np ns rfl rfl rfl (fun R _=>Ev.call (Ei (s1.args.headD gW) s2) NF (.cons (.mk rfl) (.cons (.mk rfl) .nil))) (by kernel_rfl) rfl ?_;refine SW.slot 93 _ rfl (bM rfl _) ?_;refine SW.gf 19 _ np ns rfl rfl rfl (fun R _=>Ev.not (.mk rfl)) (by kernel_rfl) rfl ?_;refine SW.slot 94 _ rfl (bM rfl _) ?_;refine SW.dd 20 rfl (fun _=>Ev.oc (.mk rfl) rfl (.mk rfl)) ?_;refine SW.done (by kernel_rfl) ?_;refine St.aA ?_;refine St.cond _ rfl (fun qu=> ?_) (fun qu=> ?_)
       ·skip
        simp only[aC]at qu
        have ma:b1=true→b2=true→∀p q,(bK s1).args=[p,q]→fp p (bK s2)=true→False:=fun _ _ p1 q1 e hs=>by rw[dG,yI]at e;cases e;rw[yI]at qu;exact absurd (qu.symm.trans hs) (by decide)
        refine St.sr ?_;refine St.ee (Ev.build (ps:=[]) (aU.nil) (fun w=>qp w)) ?_;refine St.sA (.mk rfl) (.mk rfl) bC ?_ (h1:=(by simp only[List.all_cons,List.all_nil,Bool.and_true,Bool.and_eq_true];exact⟨rfl,rfl⟩));refine St.ak ?_;refine St.nn (St.aX (St.aB ?_));refine St.hY gh ?_;refine St.da bW ?_;refine St.mb [] (.slice none 0 0) rfl [] ?_;refine St.rT [_,_] [aG (bW gW)] Tryz.results121 ⟨⟨_,_,_,_,rfl,ju.mem,.inl ⟨⟨_,bX⟩,bC,rfl⟩⟩,⟨rfl,trivial⟩⟩ ?_;exact⟨gW,false,rfl,Nat.zero_le _,((fun hb=>by cases hb)),(fun _=>by rw[cu];exact o8 Br El H3 Ky ma),rfl⟩
       ·skip
        simp only[aC]at qu H4 H5
        rw[yI]at qu;refine St.cD bW s1.args (x:=q) (by rw[yI];simp) ?_;refine St.skip (St.aA (St.sr ?_));refine St.ee (Ev.aD (.mk rfl) ef) ?_;refine St.ee (Ev.l0 (.mk rfl) dM) ?_;refine St.ee (Ev.aR (k:=1) (.mk rfl) (.mk rfl) dM bC rfl (by omega)) ?_;refine St.ee (Ev.fg (.mk rfl) (show s1.args[1]?=some q by rw[yI];rfl) bX trivial bC ei.eq) ?_;refine St.sA (.mk rfl) (.mk rfl) bC ?_ (h1:=(by simp only[List.all_cons,List.all_nil,Bool.and_true,Bool.and_eq_true];exact⟨rfl,q.av.2⟩));refine St.ak ?_;refine St.nn (St.aX ?_);refine St.rT [_,_] [aG (bW q)] Tryz.results121 ⟨⟨_,_,_,_,rfl,ju.mem,.inl ⟨⟨_,bX⟩,bC,rfl⟩⟩,⟨rfl,trivial⟩⟩ ?_;exact⟨q,true,rfl,Kz q (by rw[yI];simp),(fun _=>by rw[cu,Br H4,H3 H5];exact wN (by rw[dG,yI];rfl) qu),((fun hb=>by cases hb)),rfl⟩
theorem Em {t:dB}(h:(fi t 1 0 0).2.1≠0):iC t=(fi t 1 0 0).2:=by unfold iC;rw[if_pos h]
theorem Bs {t:dB}(h:¬(fi t 1 0 0).2.1≠0)(h2:iY t []=none):iC t=(12,-1):=by unfold iC;rw[if_neg h,h2];rfl
theorem H6 {t:dB}{s:dY}(h:¬(fi t 1 0 0).2.1≠0)(h2:iY t []=some s):iC t=(0,0):=by unfold iC;rw[if_neg h,h2,if_neg (by simp)]
theorem pn (x:cF)(hw:cG.wf x):ct Tryz.prog 96 #[bb x] [bO x] (fv (iC (ax x))):=by
 refine ct.ic (args:=[bb x]) 25 Tryz.func96 rfl Tryz.ntmps96 rfl (fun c=> ?_);refine St.sr ?_;refine St.cV (.mk rfl) rfl (fun b1=> ?_);refine St.alloc dF rfl (fun b2=> ?_);refine St.nn (St.sr ?_);refine St.alloc ND rfl (fun b3=> ?_);refine St.cW (.mk rfl) (.mk rfl) cr rfl (by rfl) ?_;refine St.gg b3 (L':=[iv ((0:Nat):Int)]) rfl ?_;refine St.nn (St.sr ?_);refine St.alloc SN rfl (fun b4=> ?_);refine St.nn (St.sr ?_);refine St.ee (Ev.func (.cons (.mk rfl) (.cons (.mk rfl) .nil))) ?_;refine St.cW (.mk rfl) (.mk rfl) SO rfl (by rfl) ?_;refine St.nn (St.seq (St.seq ?_));refine St.dup (bO x) ?_;refine St.rg ?_;refine St.ee (Ev.l0 (.mk rfl) tZ) ?_;refine St.ee (Ev.bF (.mk rfl) fO trivial (by exact dC)) ?_;refine St.dU (vS b3 b4 190 x 1 0 0 hw (by omega) (by omega) (by omega)) rX (.mk rfl) (.cons (.mk rfl) (.cons (.mk rfl) (.cons (.mk rfl) .nil))) rfl ?_;rintro v11 _ ⟨rfl,rfl⟩;refine St.cb ?_;refine St.alloc dF rfl (fun b5=> ?_);refine St.sA (.mk rfl) (.mk rfl) ay ?_;refine St.nn (St.sr ?_);refine St.ee (Ev.aD (.mk rfl) cX) ?_;refine St.ee (Ev.l0 (.mk rfl) bP) ?_;refine St.ee Ev.k9 ?_;refine St.nn ?_;refine St.cond _ rfl (fun pF=> ?_) (fun pF=> ?_)
 ·skip
  have hb:(fi (ax x) 1 0 0).2.1≠0:=by simpa using pF
  refine St.sr ?_;refine St.ee (Ev.bF (.mk rfl) fl trivial (by exact ay)) ?_;refine St.sA (.mk rfl) (.mk rfl) ay ?_;refine St.nn (St.aX (St.aB ?_));refine St.rU [_] [] Tryz.results96 ?_;exact congrArg fv (Em hb).symm
 ·skip
  have hb:¬(fi (ax x) 1 0 0).2.1≠0:=by simpa using pF
  refine St.hY gh ?_;refine St.da bW ?_;refine St.skip (St.aA (St.seq (St.sr ?_)));refine St.ee (Ev.bF (.mk rfl) fO trivial (by exact dC)) ?_;refine St.aw (Bq x [] (.slice none 0 0) 1 (zj _ _ _ _ (Decidable.not_not.1 hb)) hw (Nat.zero_le _)) DI (.cons (.mk rfl) (.cons (.mk rfl) .nil)) rfl ?_;rintro iD _ ⟨s,b,rfl,cu,cE,Ym,rfl⟩;refine St.bL ?_;refine St.mv ?_;refine St.ee (Ev.extract (.mk rfl) rfl) ?_;refine St.ee (Ev.extract (.mk rfl) rfl) ?_;refine St.alloc iP rfl (fun b6=> ?_);refine St.sA (.mk rfl) (.mk rfl) bC ?_ (h1:=(by simp only[List.all_cons,List.all_nil,Bool.and_true,Bool.and_eq_true];exact⟨rfl,s.av.2⟩));refine St.ak ?_;refine St.nn (St.sr ?_);refine St.mv ?_;refine St.ee (Ev.not (.mk rfl)) ?_;refine St.nn ?_;refine St.cond _ rfl (fun vR=> ?_) (fun vR=> ?_)
  ·try simp only[aC]at vR
   refine St.sr ?_;refine St.ee (Ev.build (ps:=[(0,(.const (.int .i64 12))),(1,(.const (.int .i64 (-1))))]) (aU.cons (aL.mk rfl) (aU.cons (aL.mk rfl) aU.nil)) (fun w=>bJ rfl rfl w)) ?_;refine St.sA (.mk rfl) (.mk rfl) ay ?_;refine St.nn (St.aX (St.aB ?_));refine St.rU [_] [] Tryz.results96 ?_;exact congrArg fv (Bs hb (Ym (by simpa using vR))).symm
  ·try simp only[aC]at vR
   refine St.skip (St.aA (St.sr ?_));refine St.ee (Ev.build (ps:=[]) (aU.nil) (fun w=>fA w)) ?_;refine St.sA (.mk rfl) (.mk rfl) ay ?_;refine St.nn (St.aX ?_);refine St.rU [_] [] Tryz.results96 ?_;exact congrArg fv (H6 hb (cE (by simpa using vR))).symm
theorem qv:∀(l:List dc) (U:List Nat),(kY U l).length=U.length+l.length
 | [],U=>rfl
 |t::l,U=>by rw[kY,qv l];simp;omega
theorem po (l:List dc):(vN l).length=l.length:=by unfold vN;rw[qv];simp
theorem mP:∀(l m:List dc) (U:List Nat),kY U (l++m)=kY (kY U l) m
 | [],_,_=>rfl
 |t::l,m,U=>by rw[List.cons_append,kY,kY,mP l m]
theorem wQ:∀(l:List dc) (U:List Nat) (i:Nat),i<U.length→(kY U l)[i]?=U[i]?
 | [],_,_,_=>rfl
 |t::l,U,i,h=>by rw[kY,wQ l _ i (by simp;omega),List.getElem?_append_left h]
theorem H7 (l:List dc)(t:dc):vN (l++ [t])=vN l++ [GL (vN l) l.length t.2]:=by
 unfold vN;rw[mP,kY,kY,qv];simp
theorem tn (l:List dc)(k i:Nat)(h:i<k)(hk:k≤l.length):(vN (l.take k)).getD i 0=(vN l).getD i 0:=by
 have e:vN l=kY (vN (l.take k)) (l.drop k):=by unfold vN;rw[←mP,List.take_append_drop]
 rw[e,List.getD_eq_getElem?_getD,List.getD_eq_getElem?_getD,wQ _ _ _ (by rw[po,List.length_take];omega)]
theorem H8 {l:List dc}{k:Nat}{t:dc}(h:l[k]?=some t):(vN l).getD k 0=GL (vN (l.take k)) k t.2:=by
 have hk:=cL h
 rw[←tn l (k+1) k (Nat.lt_succ_self _) hk,bI h,H7]
 have e:(l.take k).length=k:=by rw[List.length_take];omega
 rw[List.getD_eq_getElem?_getD,List.getElem?_append_right (by rw[po,e];exact Nat.le_refl _),po,e,Nat.sub_self];rfl
theorem DM (g:Int→Nat)(j:Nat):∀(ps:List Int) (u:Nat),(ps.foldl (fun u p=>u|||g p) u).testBit j=(u.testBit j||ps.any fun p=>(g p).testBit j)
 | [],u=>by simp
 |p::ps,u=>by rw[List.foldl_cons,DM g j ps,Nat.testBit_or,List.any_cons,Bool.or_assoc]
theorem H9 (U:List Nat)(i:Nat)(ps:List Int)(j:Nat):(GL U i ps).testBit j=(decide (i=j)||ps.any fun p=>(U.getD p.toNat 0).testBit j):=by
 unfold GL;rw[DM,Nat.testBit_two_pow]
structure iJ (l:List dc):Prop where
 len:l.length≤60
 par:∀(i:Nat) (t:dc),l[i]?=some t→∀p∈t.2,0≤p∧p<i
theorem DN {i:Int}:∀{ps:List Int} {last:Int},(mn i last ps).1=0→mn i last ps=(0,0)∧∀p∈ps,0≤p∧p<i
 | [],_,_=>⟨rfl,fun p h=>by cases h⟩
 |p::ps,last,h=>by
  rw[mn]at h⊢
  by_cases h1:p<0∨i≤p
  ·rw[if_pos h1]at h;exact absurd h (by simp)
  ·rw[if_neg h1]at h⊢
   by_cases h2:p≤last
   ·rw[if_pos h2]at h;exact absurd h (by simp)
   ·rw[if_neg h2]at h⊢
    obtain⟨e,k⟩:=DN h;refine⟨e,fun q hq=> ?_⟩
    rcases List.mem_cons.1 hq with rfl|hq
    ·omega
    ·exact k q hq
theorem wR:∀{l:List dc} {known:List cQ} {i:Nat},(iM known i l).1=0→iM known i l=(0,0)∧∀(k:Nat) (t:dc),l[k]?=some t→∀p∈t.2,0≤p∧p<(i+k:Nat)
 | [],_,_,_=>⟨rfl,fun k t h=>by simp at h⟩
 |t::l,known,i,h=>by
  rw[iM]at h⊢
  by_cases h1:isName t.1=false
  ·rw[if_pos h1]at h;exact absurd h (by simp)
  rw[if_neg h1]at h⊢
  by_cases h2:t.1∈known
  ·rw[if_pos h2]at h;exact absurd h (by simp)
  rw[if_neg h2]at h⊢
  by_cases h3:decide (i=0)≠decide (t.2.length=0)
  ·rw[if_pos h3]at h;exact absurd h (by simp)
  rw[if_neg h3]at h⊢
  by_cases h4:(mn i (-1) t.2).1≠0
  ·rw[if_pos h4]at h;exact absurd h h4
  rw[if_neg h4]at h⊢;obtain⟨e,k⟩:=wR h;refine⟨e,fun j u hj=> ?_⟩
  cases j with
  |zero=>
   simp only[List.getElem?_cons_zero,Option.some.injEq]at hj
   subst hj;intro p hp
   have:=(DN (Decidable.not_not.1 h4)).2 p hp
   omega
  |succ j=>
   rw[List.getElem?_cons_succ]at hj;intro p hp
   have:=k j u hj p hp
   omega
theorem Bt {l:List dc}(h:(qU l).1=0):qU l=(0,0)∧0<l.length∧iJ l:=by
 unfold qU at h⊢
 by_cases h1:l.length=0∨60<l.length
 ·rw[if_pos h1]at h;exact absurd h (by simp)
 ·rw[if_neg h1]at h⊢
  obtain⟨e,k⟩:=wR h;refine⟨e,by omega,by omega,fun i t hi p hp=> ?_⟩
  have:=k i t hi p hp
  omega
section
variable {l:List dc}
theorem L0 {i:Nat}(hi:l.length≤i)(j:Nat):e9 l i j=false:=by
 unfold e9;rw[List.getD_eq_getElem?_getD,List.getElem?_eq_none (by rw[po];exact hi)];exact Nat.zero_testBit _
theorem sub_lt {i j:Nat}(h:e9 l i j=true):i<l.length:=by
 rcases Nat.lt_or_ge i l.length with k|k
 ·exact k
 ·rw[L0 k]at h;cases h
theorem nO (hl:iJ l){i:Nat}{t:dc}(hi:l[i]?=some t)(j:Nat):e9 l i j=(decide (i=j)||t.2.any fun p=>e9 l p.toNat j):=by
 show((vN l).getD i 0).testBit j=_
 rw[H8 hi,H9]
 congr 1
 rw[Bool.eq_iff_iff,List.any_eq_true,List.any_eq_true]
 have e:∀p∈t.2,(vN (l.take i)).getD p.toNat 0=(vN l).getD p.toNat 0:=fun p hp=>by
  have:=hl.par i t hi p hp
  exact tn l i _ (by omega) (Nat.le_of_lt (cL hi))
 constructor
 ·rintro ⟨p,hp,h⟩;rw[e p hp]at h;exact⟨p,hp,h⟩
 ·rintro ⟨p,hp,h⟩;exact⟨p,hp,by rw[e p hp];exact h⟩
theorem sub_self (hl:iJ l){i:Nat}(hi:i<l.length):e9 l i i=true:=by
 rw[nO hl (List.getElem?_eq_getElem hi)];simp
theorem qw (hl:iJ l){i j:Nat}(h:e9 l i j=true):i=j∨∃t p,l[i]?=some t∧p∈t.2∧0≤p∧p<i∧e9 l p.toNat j=true:=by
 have hi:=sub_lt h
 rw[nO hl (List.getElem?_eq_getElem hi)]at h
 simp only[Bool.or_eq_true,decide_eq_true_eq,List.any_eq_true]at h
 rcases h with h|⟨p,hp,h⟩
 ·exact .inl h
 ·have:=hl.par i _ (List.getElem?_eq_getElem hi) p hp
  exact .inr ⟨_,p,List.getElem?_eq_getElem hi,hp,this.1,this.2,h⟩
theorem sub_le (hl:iJ l):∀{i j:Nat},e9 l i j=true→j≤i:=by
 intro i
 induction i using Nat.strongRecOn with
 |ind i ih=>
  intro j h
  rcases qw hl h with rfl|⟨t,p,_,_,h0,h1,h2⟩
  ·exact Nat.le_refl _
  ·have:=ih p.toNat (by omega) h2
   omega
theorem qx (hl:iJ l):∀{i j k:Nat},e9 l i j=true→e9 l j k=true→e9 l i k=true:=by
 intro i
 induction i using Nat.strongRecOn with
 |ind i ih=>
  intro j k h1 h2
  rcases qw hl h1 with rfl|⟨t,p,ht,hp,h0,iW,h3⟩
  ·exact h2
  ·have:=ih p.toNat (by omega) h3 h2
   rw[nO hl ht]
   simp only[Bool.or_eq_true,List.any_eq_true]
   exact .inr ⟨p,hp,this⟩
theorem HD (hl:iJ l):∀{i j:Nat},e9 l i j=true→i≠j→∃z t,e9 l i z=true∧l[z]?=some t∧(j:Int)∈t.2∧j<z:=by
 intro i
 induction i using Nat.strongRecOn with
 |ind i ih=>
  intro j h fz
  rcases qw hl h with e|⟨t,p,ht,hp,h0,iW,h3⟩
  ·exact absurd e fz
  ·by_cases e:p.toNat=j
   ·have e':p=(j:Int):=by omega
    subst e';exact⟨i,t,sub_self hl (cL ht),ht,hp,by omega⟩
   ·obtain⟨z,u,h4,h5,h6,h7⟩:=ih p.toNat (by omega) h3 e
    refine⟨z,u,?_,h5,h6,h7⟩;rw[nO hl ht]
    simp only[Bool.or_eq_true,List.any_eq_true]
    exact .inr ⟨p,hp,h4⟩
structure oS (l:List dc)(a i:Nat)(M:List Bool):Prop where
 len:M.length=l.length
 snd:∀x,M[x]?=some true→e9 l a x=true
 top:M[a]?=some true
 cls:∀(y:Nat) (t:dc),i<y→M[y]?=some true→l[y]?=some t→∀p∈t.2,M[p.toNat]?=some true
theorem oS.start (hl:iJ l){a:Nat}(ha:a<l.length):oS l a a ((List.replicate l.length false).set a true):=by
 refine⟨by simp,fun x hx=> ?_,by rw[List.getElem?_set_self (by simp;exact ha)],fun y t hy hm _=> ?_⟩
 ·by_cases e:a=x
  ·subst e;exact sub_self hl ha
  ·rw[List.getElem?_set_ne e,List.getElem?_replicate]at hx
   split at hx<;>simp at hx
 ·rw[List.getElem?_set_ne (by omega),List.getElem?_replicate]at hm
  split at hm<;>simp at hm
theorem oS.done (hl:iJ l){a b:Nat}{M:List Bool}(h:oS l a b M):∀(n y:Nat),a-y=n→b≤y→e9 l a y=true→M[y]?=some true:=by
 intro n
 induction n using Nat.strongRecOn with
 |ind n ih=>
  intro y hn hy hs
  by_cases e:a=y
  ·subst e;exact h.top
  ·obtain⟨z,t,h1,h2,h3,h4⟩:=HD hl hs e
   have hz:=sub_le hl h1
   have:=ih (a-z) (by omega) z rfl (by omega) h1
   have:=h.cls z t (by omega) this h2 _ h3
   simpa using this
theorem oS.fin (hl:iJ l){a b:Nat}{M:List Bool}(h:oS l a b M)(hb:b<l.length):M[b]?=some (e9 l a b):=by
 cases e:e9 l a b with
 |true=>exact h.done hl _ b rfl (Nat.le_refl _) e
 |false=>
  have iW:b<M.length:=by rw[h.len];exact hb
  rw[List.getElem?_eq_getElem iW]
  cases e2:M[b]with
  |false=>rfl
  |true=>
   have:=h.snd b (by rw[List.getElem?_eq_getElem iW,e2])
   rw[e]at this;cases this
theorem oS.skip {a i:Nat}{M:List Bool}(h:oS l a (i+1) M)(hm:M[i+1]?≠some true):oS l a i M:=
 ⟨h.len,h.snd,h.top,fun y t hy hmy=>by
  by_cases e:y=i+1
  ·subst e;exact absurd hmy hm
  ·exact h.cls y t (by omega) hmy⟩
structure zw (l:List dc)(a i:Nat)(t:dc)(k:Nat)(M:List Bool):Prop where
 ok:oS l a i M
 at_:M[i]?=some true
 upto:∀p∈t.2.take k,M[p.toNat]?=some true
theorem zw.step (hl:iJ l){a i k:Nat}{t:dc}{M:List Bool}{p:Int}(h:zw l a i t k M)(hi:l[i]?=some t)(hp:t.2[k]?=some p):zw l a i t (k+1) (M.set p.toNat true):=by
 have hpm:=hl.par i t hi p (List.mem_of_getElem? hp)
 have KH:=cL hi
 have mono:∀x,M[x]?=some true→(M.set p.toNat true)[x]?=some true:=fun x hx=>by
  by_cases e:p.toNat=x
  ·subst e;rw[List.getElem?_set_self (cL hx)]
  ·rw[List.getElem?_set_ne e];exact hx
 refine⟨⟨by rw[List.length_set];exact h.ok.len,fun x hx=> ?_,mono _ h.ok.top,fun y u hy hm hu q hq=> ?_⟩,mono _ h.at_,fun q hq=> ?_⟩
 ·by_cases e:p.toNat=x
  ·subst e
   refine qx hl (h.ok.snd i h.at_) ?_;rw[nO hl hi]
   simp only[Bool.or_eq_true,List.any_eq_true]
   exact .inr ⟨p,List.mem_of_getElem? hp,sub_self hl (by omega)⟩
  ·rw[List.getElem?_set_ne e]at hx;exact h.ok.snd x hx
 ·rw[List.getElem?_set_ne (by omega)]at hm
  exact mono _ (h.ok.cls y u hy hm hu q hq)
 ·rw[bI hp]at hq
  rcases List.mem_append.1 hq with hq|hq
  ·exact mono _ (h.upto q hq)
  ·rw[List.mem_singleton.1 hq,List.getElem?_set_self (by rw[h.ok.len];omega)]
theorem zw.done {a i:Nat}{t:dc}{M:List Bool}(h:zw l a (i+1) t t.2.length M)(hi:l[i+1]?=some t):oS l a i M:=
 ⟨h.ok.len,h.ok.snd,h.ok.top,fun y u hy hm hu q hq=>by
  by_cases e:y=i+1
  ·subst e
   rw[hi]at hu;cases hu
   exact h.upto q (by rw[List.take_length];exact hq)
  ·exact h.ok.cls y u (by omega) hm hu q hq⟩
end
theorem rb {l:List dc}{k:Nat}{t:dc}(ht:l[k]?=some t)(known:List cQ):iM known k (l.drop k)=if isName t.1=false then(10,(k:Int))else if t.1∈known then(7,(k:Int))else if decide (k=0)≠decide (t.2.length=0)then(5,(k:Int))
 else if(mn k (-1) t.2).1≠0 then mn k (-1) t.2 else iM (known++ [t.1]) (k+1) (l.drop (k+1)):=by rw[bz ht,iM]
theorem tq {l:List dc}{k:Nat}(h:l.length≤k)(known:List cQ):iM known k (l.drop k)=(0,0):=by rw[List.drop_of_length_le h,iM]
theorem wS {i z p:Int}{ps:List Int}{q:Nat}(hp:ps[q]?=some p):mn i z (ps.drop q)=if p<0∨i≤p then(3,i)else if p≤z then(13,i)else mn i p (ps.drop (q+1)):=by rw[bz hp,mn]
theorem zx {i z:Int}{ps:List Int}{q:Nat}(h:ps.length≤q):mn i z (ps.drop q)=(0,0):=by rw[List.drop_of_length_le h,mn]
def En (m:List (cQ×Value))(known:List cQ):Prop:=∀s,(oM m s).isSome=decide (s∈known)
theorem En.nil:En [] []:=fun s=>by simp[oM]
theorem En.snoc {m:List (cQ×Value)}{known:List cQ}(h:En m known)(s:cQ)(v:Value):En (ji m s v) (known++ [s]):=fun s'=>by
 rw[GB]
 by_cases e:s'=s
 ·subst e;simp
 ·rw[if_neg e,h s',decide_eq_decide];simp[e]
theorem bx {α β:Type}(f:α→β){l:List α}{k:Nat}{x:α}(h:l[k]?=some x):(l.take (k+1)).map f=(l.take k).map f++ [f x]:=by rw[bI h,List.map_append];rfl
set_option maxHeartbeats 1000000 in
theorem Bu (u:Value)(ts:List jj):ct Tryz.prog 93 #[u] [sl e6 u ts,aY ew ts] (fv (qU (ts.map bf))):=by
 refine ct.mw (args:=[u]) 82 Tryz.func93 rfl Tryz.ntmps93 rfl (fun c=> ?_);refine St.seq ?_;refine St.wf u (fun qY ER=> ?_);refine St.rg ?_;refine St.alloc dF rfl (fun b2=> ?_);refine St.nn (St.seq (St.sr ?_));refine St.mv ?_;refine St.ee (Ev.ao (.mk rfl) eW) ?_;refine St.ee Ev.ey ?_;refine St.mv ?_;refine St.gf _ rfl rfl (fun hg=>Ev.move (.mk rfl)) rfl ?_;refine St.gf _ rfl rfl (fun hg=>Ev.ao (aL.gv rfl hg) eW) rfl ?_;refine St.gf _ rfl rfl (fun hg=>Ev.gtr (aL.gv rfl hg) (.mk rfl)) rfl ?_;refine St.ee Ev.o0 ?_;refine St.nn ?_;refine St.cond _ rfl (fun fN=> ?_) (fun fN=> ?_)
 ·try simp only[aC]at fN
  have hf:qU (ts.map bf)=(2,-1):=by unfold qU;rw[if_pos (by rw[List.length_map];omega)]
  refine St.sr ?_;refine St.ee (Ev.call (cH 2 (-1)) tc (.cons (.mk rfl) (.cons (.mk rfl) .nil))) ?_;refine St.sA (.mk rfl) (.mk rfl) ay ?_;refine St.nn (St.aX (St.aB ?_));refine St.rU [_] [] Tryz.results93 ?_;exact congrArg fv hf.symm
 ·try simp only[aC]at fN
  have hf:qU (ts.map bf)=iM [] 0 (ts.map bf):=by unfold qU;rw[if_neg (by rw[List.length_map];omega)]
  refine St.skip (St.aA (St.sr ?_));refine St.makeMap mkStr rfl (fun b20=> ?_);refine St.ak ?_;refine St.nn (St.seq (St.sr ?_));refine St.mv ?_;refine St.ee (Ev.ao (.mk rfl) eW) ?_;refine St.mv ?_;refine St.nn (St.block ?_);refine St.mf (ι:=Nat) (κ:=List (cQ×Value)) (fun k m T=>(23,iv k)::T) (fun k m=>[ae b20 (jy mkStr m),ae b2 (.cells [iv 0,iv 0].toArray 42 (0,0)),aG (sl e6 u ts),aG (aY ew ts)]) (fun k m=>k≤ts.length∧qU (ts.map bf)=iM ((ts.take k).map jj.name) k ((ts.map bf).drop k)∧En m ((ts.take k).map jj.name)) (fun k m=>ts.length-k) 0 [] (aE.cons 2 rfl (aE.cons 3 rfl (aE.cons 21 rfl (aE.cons 22 rfl aE.nil)))) ⟨Nat.zero_le _,hf,En.nil⟩ ?_;rintro k m ⟨hk,hv,zy⟩;refine St.sr ?_;refine St.ee Ev.dn ?_;refine St.nn (St.seq ?_);refine St.cond _ rfl (fun pE=> ?_) (fun pE=> ?_)
  ·try simp only[aC]at pE
   obtain⟨t,ht⟩:=aO (show k<ts.length by omega)
   have lU:=List.mem_of_getElem? ht
   have cE:=rb (l:=ts.map bf) (k:=k) (t:=bf t) (by rw[List.getElem?_map,ht];rfl) ((ts.take k).map jj.name)
   rw[←hv]at cE
   have zr:t.name.length≤9223372036854775807:=by have:=qY t lU;simp only[e6,iL]at this;omega
   refine St.cD ew ts (x:=t) lU ?_;refine St.gQ (sl aK t.pv.1 t.parents) [ew t] (fun ρ h=>h _ (List.mem_cons_self ..)) ?_;refine St.wf t.pv.1 (fun Kz DL=> ?_);refine St.skip (St.aA (St.seq (St.block (St.sr ?_))));refine St.mv ?_;refine St.ee (Ev.aR (k:=k) (.mk rfl) (.mk rfl) eW im (by omega) (by omega)) ?_;refine St.ee (Ev.fg (.mk rfl) ht za trivial im ei.eq) ?_;refine St.alloc wI rfl (fun b5=> ?_);refine St.ak ?_;refine St.sA (.mk rfl) (.mk rfl) im ?_ (h1:=(by simp only[List.all_cons,List.all_nil,Bool.and_true,Bool.and_eq_true];exact⟨rfl,t.pv.2⟩));refine St.nn (St.seq (St.sr ?_));refine St.ee (Ev.aD (.mk rfl) o3) ?_;refine St.ee (Ev.l0 (.mk rfl) df) ?_;refine St.ee (Ev.call (jt t.name zr) Ea (.cons (.mk rfl) .nil)) ?_;refine St.ee (Ev.not (.mk rfl)) ?_;refine St.nn ?_;refine St.cond _ rfl (fun kO=> ?_) (fun kO=> ?_)
   ·try simp only[aC]at kO
    rw[if_pos (show isName (bf t).1=false from(by simpa using kO:isName t.name=false))]at cE;refine St.sr ?_;refine St.mv ?_;refine St.ee (Ev.call (cH 10 k) tc (.cons (.mk rfl) (.cons (.mk rfl) .nil))) ?_;refine St.sA (.mk rfl) (.mk rfl) ay ?_;refine St.nn (St.aX (St.aB (St.aM (St.aB (St.aB (St.aM (St.aB ?_)))))));refine St.rU [_] [] Tryz.results93 ?_;exact congrArg fv cE.symm
   ·try simp only[aC]at kO
    rw[if_neg (show ¬isName (bf t).1=false from(by simpa using kO:¬isName t.name=false))]at cE;refine St.skip (St.aA (St.seq (St.sr ?_)));refine St.mv ?_;refine St.ee (Ev.aD (.mk rfl) o3) ?_;refine St.ee (Ev.l0 (.mk rfl) df) ?_;refine St.ee (Ev.sZ mkStr (k:=t.name) (.mk rfl) (.mk rfl) zY (by exact df) eJ) ?_;refine St.mv ?_;refine St.ee (Ev.extract (.mk rfl) rfl) ?_;refine St.ee (Ev.extract (.mk rfl) rfl) ?_;refine St.slot 40 (.bool (decide (t.name∈(ts.take k).map jj.name))) rfl (congrArg Value.bool (zy t.name)) ?_;refine St.ak ?_;refine St.ak ?_;refine St.nn (St.sr ?_);refine St.mv ?_;refine St.nn ?_;refine St.cond _ rfl (fun oT=> ?_) (fun oT=> ?_)
    ·try simp only[aC]at oT
     rw[if_pos (show(bf t).1∈(ts.take k).map jj.name from oT)]at cE;refine St.sr ?_;refine St.mv ?_;refine St.ee (Ev.call (cH 7 k) tc (.cons (.mk rfl) (.cons (.mk rfl) .nil))) ?_;refine St.sA (.mk rfl) (.mk rfl) ay ?_;refine St.nn (St.aX (St.aB (St.aM (St.aB (St.aB (St.aM (St.aB ?_)))))));refine St.rU [_] [] Tryz.results93 ?_;exact congrArg fv cE.symm
    ·try simp only[aC]at oT
     rw[if_neg (show ¬(bf t).1∈(ts.take k).map jj.name from oT)]at cE;refine St.skip (St.aA (St.sr ?_));refine St.mv ?_;refine St.ee (Ev.aD (.mk rfl) o3) ?_;refine St.ee (Ev.l0 (.mk rfl) df) ?_;refine St.mv ?_;refine St.mapUpdate mkStr (k:=t.name) (.mk rfl) (.mk rfl) (.mk rfl) zY (by exact df) ?_;refine St.nn (St.seq (St.sr ?_));refine St.mv ?_;refine St.ee Ev.ey ?_;refine St.ee (Ev.aD (.mk rfl) kk) ?_;refine St.ee (Ev.l0 (.mk rfl) bE) ?_;refine St.ee (Ev.ao (.mk rfl) bE) ?_;refine St.ee Ev.ey ?_;refine St.ee (Ev.sY (.mk rfl) (.mk rfl) sJ) ?_;refine St.nn ?_;refine St.cond _ rfl (fun th=> ?_) (fun th=> ?_)
     ·skip
      have PH:decide (k=0)≠decide (t.parents.length=0):=by simpa using th
      rw[if_pos (show decide (k=0)≠decide ((bf t).2.length=0)from PH)]at cE;refine St.sr ?_;refine St.mv ?_;refine St.ee (Ev.call (cH 5 k) tc (.cons (.mk rfl) (.cons (.mk rfl) .nil))) ?_;refine St.sA (.mk rfl) (.mk rfl) ay ?_;refine St.nn (St.aX (St.aB (St.aM (St.aB (St.aB (St.aM (St.aB ?_)))))));refine St.rU [_] [] Tryz.results93 ?_;exact congrArg fv cE.symm
     ·skip
      have PH:¬decide (k=0)≠decide (t.parents.length=0):=by simpa using th
      rw[if_neg (show ¬decide (k=0)≠decide ((bf t).2.length=0)from PH)]at cE;refine St.skip (St.aA (St.sr ?_));refine St.ak ?_;refine St.nn (St.sr ?_);refine St.ee (Ev.aD (.mk rfl) kk) ?_;refine St.ee (Ev.l0 (.mk rfl) bE) ?_;refine St.ee (Ev.ao (.mk rfl) bE) ?_;refine St.mv ?_;refine St.nn (St.block ?_);refine St.mf (ι:=Nat) (κ:=Int) (fun q z T=>(60,iv q)::(8,iv z)::T) (fun q z=>[ae b20 (jy mkStr (ji m t.name (iv k))),ae b2 (.cells [iv 0,iv 0].toArray 42 (0,0)),aG (sl aK t.pv.1 t.parents),aG (sl e6 u ts),aG (aY ew ts)]) (fun q z=>q≤t.parents.length∧mn k (-1) (bf t).2=mn k z (t.parents.drop q)) (fun q z=>t.parents.length-q) 0 (-1) (aE.cons 2 rfl (aE.cons 3 rfl (aE.cons 4 rfl (aE.cons 21 rfl (aE.cons 22 rfl (aE.cons 23 rfl (aE.cons 58 rfl (aE.cons 59 rfl aE.nil)))))))) ⟨Nat.zero_le _,rfl⟩ ?_;rintro q z ⟨hq,tr⟩;refine St.sr ?_;refine St.ee Ev.dn ?_;refine St.nn (St.seq ?_);refine St.cond _ rfl (fun BC=> ?_) (fun BC=> ?_)
      ·try simp only[aC]at BC
       obtain⟨p,hp⟩:=aO (show q<t.parents.length by omega)
       have pG:=wS (i:=k) (z:=z) hp
       refine St.skip (St.aA (St.seq (St.block (St.sr ?_))));refine St.ee (Ev.aR (k:=q) (.mk rfl) (.mk rfl) bE cr (by omega) (by omega)) ?_;refine St.ee (Ev.ff (.mk rfl) hp bP trivial rfl) ?_;refine St.ak ?_;refine St.nn (St.seq (St.sr ?_));refine St.mv ?_;refine St.ee Ev.dn ?_;refine St.mv ?_;refine St.gf _ rfl rfl (fun hg=>Ev.move (.mk rfl)) rfl ?_;refine St.gf _ rfl rfl (fun hg=>Ev.move (.mk rfl)) rfl ?_;refine St.gf _ rfl rfl (fun hg=>Ev.geq (aL.gv rfl hg) (aL.gv rfl hg)) rfl ?_;refine St.ee Ev.o0 ?_;refine St.nn ?_;refine St.cond _ rfl (fun sN=> ?_) (fun sN=> ?_)
       ·try simp only[aC]at sN
        rw[if_pos (by omega)]at pG;rw[tr,pG,if_pos (by show(3:Int)≠0;decide)]at cE;refine St.sr ?_;refine St.mv ?_;refine St.ee (Ev.call (cH 3 k) tc (.cons (.mk rfl) (.cons (.mk rfl) .nil))) ?_;refine St.sA (.mk rfl) (.mk rfl) ay ?_;refine St.nn (St.aX (St.aB (St.aM (St.aB (St.aB (St.aM (St.aM (St.aB (St.aB (St.aM (St.aB ?_)))))))))));refine St.rU [_] [] Tryz.results93 ?_;exact congrArg fv cE.symm
       ·try simp only[aC]at sN
        rw[if_neg (by omega)]at pG;refine St.skip (St.aA (St.seq (St.sr ?_)));refine St.mv ?_;refine St.mv ?_;refine St.ee Ev.Jm ?_;refine St.nn ?_;refine St.cond _ rfl (fun L1=> ?_) (fun L1=> ?_)
        ·try simp only[aC]at L1
         rw[if_pos (by omega)]at pG;rw[tr,pG,if_pos (by show(13:Int)≠0;decide)]at cE;refine St.sr ?_;refine St.mv ?_;refine St.ee (Ev.call (cH 13 k) tc (.cons (.mk rfl) (.cons (.mk rfl) .nil))) ?_;refine St.sA (.mk rfl) (.mk rfl) ay ?_;refine St.nn (St.aX (St.aB (St.aM (St.aB (St.aB (St.aM (St.aM (St.aB (St.aB (St.aM (St.aB ?_)))))))))));refine St.rU [_] [] Tryz.results93 ?_;exact congrArg fv cE.symm
        ·try simp only[aC]at L1
         rw[if_neg (by omega)]at pG;refine St.skip (St.aA (St.rg ?_));refine St.mv ?_;refine St.ak ?_;refine St.nil (St.aN (St.aA (St.rg ?_)));refine St.ee Ev.a0 ?_;refine St.mv ?_;refine St.nn ?_;refine St.jb (q+1) p ⟨by omega,by rw[tr,pG]⟩
      ·try simp only[aC]at BC
       rw[zx (by omega)]at tr;rw[if_neg (by rw[tr];decide)]at cE;refine St.exit (St.aF (St.aF (St.bH (St.aN (St.aA (St.rg ?_))))));refine St.ee Ev.a0 ?_;refine St.mv ?_;refine St.nn ?_;refine St.jb (k+1) (ji m t.name (iv k)) ⟨by omega,by rw[cE,bx jj.name ht];rfl,by rw[bx jj.name ht];exact zy.snoc _ _⟩
  ·try simp only[aC]at pE
   rw[tq (by rw[List.length_map];omega)]at hv;refine St.exit (St.aF (St.aF (St.bH (St.aA (St.sr ?_)))));refine St.ee (Ev.build (ps:=[]) (aU.nil) (fun w=>fA w)) ?_;refine St.sA (.mk rfl) (.mk rfl) ay ?_;refine St.nn (St.aX ?_);refine St.rU [_] [] Tryz.results93 ?_;exact congrArg fv hv.symm
def Bv (T:List dc)(i:Nat):Nat:=(vN T).getD i 0
def NM (T:List dc)(k:Nat)(ps:List Int):Nat:=ps.foldl (fun u p=>u|||Bv T p.toNat) (2^k)
theorem zz (T:List dc)(k:Nat)(ps:List Int)(p:Int):NM T k (ps++ [p])=NM T k ps|||Bv T p.toNat:=by unfold NM;rw[List.foldl_append];rfl
theorem HE {T:List dc}(hT:iJ T){k:Nat}{t:dc}(h:T[k]?=some t):Bv T k=NM T k t.2:=by
 have e:∀(ps:List Int) (u:Nat),(∀p∈ps,0≤p∧p<k)→ps.foldl (fun u p=>u|||(vN (T.take k)).getD p.toNat 0) u=ps.foldl (fun u p=>u|||Bv T p.toNat) u:=by
  intro ps
  induction ps with
  |nil=>intro u _;rfl
  |cons p ps ih=>
   intro u hp
   have Qu:=hp p (List.mem_cons_self ..)
   rw[List.foldl_cons,List.foldl_cons,tn T k p.toNat (by omega) (Nat.le_of_lt (cL h))]
   exact ih _ fun q hq=>hp q (List.mem_cons_of_mem _ hq)
 show(vN T).getD k 0=_
 rw[H8 h];exact e t.2 _ (hT.par k t h)
theorem PI {T:List dc}(hT:iJ T):∀k:Nat,Bv T k<2^(k+1):=by
 intro k
 induction k using Nat.strongRecOn with
 |ind k ih=>
  rcases Nat.lt_or_ge k T.length with h|h
  ·rw[HE hT (List.getElem?_eq_getElem h)]
   have hp:=hT.par k _ (List.getElem?_eq_getElem h)
   generalize (T[k]).2=ps at hp
   have e:∀(ps:List Int) (u:Nat),(∀p∈ps,0≤p∧p<k)→u<2^(k+1)→ps.foldl (fun u p=>u|||Bv T p.toNat) u<2^(k+1):=by
    intro ps
    induction ps with
    |nil=>intro u _ h;exact h
    |cons p ps Wt=>
     intro u hp hu
     have Qu:=hp p (List.mem_cons_self ..)
     refine Wt _ (fun q hq=>hp q (List.mem_cons_of_mem _ hq)) (Nat.or_lt_two_pow hu ?_);exact Nat.lt_of_lt_of_le (ih p.toNat (by omega)) (Nat.pow_le_pow_right (by omega) (by omega))
   exact e ps _ hp (Nat.pow_lt_pow_right (by omega) (by omega))
  ·show(vN T).getD k 0<_
   rw[List.getD_eq_getElem?_getD,List.getElem?_eq_none (by rw[po];exact h)];exact Nat.pow_pos (by omega)
theorem qy {T:List dc}(hT:iJ T){k:Nat}(hk:k<60):Bv T k<18446744073709551616:=
 Nat.lt_of_lt_of_le (PI hT k) (show 2^(k+1)≤2^64 from Nat.pow_le_pow_right (by decide) (by omega))
theorem HF {T:List dc}(hT:iJ T){k:Nat}(hk:k<60):∀{ps:List Int},(∀p∈ps,0≤p∧p<k)→NM T k ps<18446744073709551616:=by
 have e:∀(ps:List Int) (u:Nat),(∀p∈ps,0≤p∧p<k)→u<18446744073709551616→ps.foldl (fun u p=>u|||Bv T p.toNat) u<18446744073709551616:=by
  intro ps
  induction ps with
  |nil=>intro u _ h;exact h
  |cons p ps ih=>
   intro u hp hu
   have Qu:=hp p (List.mem_cons_self ..)
   exact ih _ (fun q hq=>hp q (List.mem_cons_of_mem _ hq)) (Nat.or_lt_two_pow (n:=64) hu (qy hT (by omega)))
 intro ps hp;exact e ps _ hp (show 2^k<2^64 from Nat.pow_lt_pow_right (by decide) (by omega))
def jI (T:List dc)(k j:Nat):Nat:=(List.range k).foldl (fun a i=>if e9 T i j then a|||2^i else a) 0
theorem o9 (T:List dc)(k j:Nat):jI T (k+1) j=if e9 T k j then jI T k j|||2^k else jI T k j:=by
 unfold jI;rw[List.range_succ,List.foldl_append];rfl
theorem DP (T:List dc)(j:Nat):∀k:Nat,jI T k j<2^k
 |0=>by show(0:Nat)<2^0;omega
 |k+1=>by
  have ih:=Nat.lt_of_lt_of_le (DP T j k) (Nat.pow_le_pow_right (n:=2) (by omega) (Nat.le_succ k))
  rw[o9]
  split
  ·exact Nat.or_lt_two_pow ih (Nat.pow_lt_pow_right (by omega) (by omega))
  ·exact ih
theorem pq (T:List dc)(j:Nat){k:Nat}(hk:k≤60):jI T k j<18446744073709551616:=
 Nat.lt_of_lt_of_le (DP T j k) (show 2^k≤2^64 from Nat.pow_le_pow_right (by decide) (by omega))
theorem nP (T:List dc)(j i:Nat):∀k:Nat,(jI T k j).testBit i=(decide (i<k)&&e9 T i j)
 |0=>by show(0:Nat).testBit i=_;simp
 |k+1=>by
  rw[o9]
  have ih:=nP T j i k
  by_cases e:i=k
  ·subst e
   cases h:e9 T i j with
   |true=>simp[ih,Nat.testBit_two_pow]
   |false=>simp[ih]
  ·have e2:decide (i<k+1)=decide (i<k):=by rw[decide_eq_decide];omega
   rw[e2]
   split
   ·rw[Nat.testBit_or,ih,Nat.testBit_two_pow,decide_eq_false (p:=k=i) (fun h=>e h.symm),Bool.or_false]
   ·exact ih
def kD (T:List dc):List Nat:=(List.range T.length).map (Bv T)
def kE (T:List dc):List Nat:=(List.range T.length).map (jI T T.length)
theorem tt {f:Nat→Nat}{n:Nat}{U:List Nat}(hl:U.length=n)(h:∀i,i<n→U[i]?=some (f i)):U=(List.range n).map f:=by
 refine List.ext_getElem? fun i=> ?_
 rw[List.getElem?_map]
 rcases Nat.lt_or_ge i n with hi|hi
 ·rw[h i hi,List.getElem?_range hi];rfl
 ·rw[List.getElem?_eq_none (by omega),List.getElem?_eq_none (by simpa using hi)];rfl
theorem HG {T:List dc}{i:Nat}(h:i<T.length):(kD T)[i]?=some (Bv T i):=by unfold kD;rw[List.getElem?_map,List.getElem?_range h];rfl
theorem tu {T:List dc}{i:Nat}(h:i<T.length):(kE T)[i]?=some (jI T T.length i):=by unfold kE;rw[List.getElem?_map,List.getElem?_range h];rfl
theorem HH (T:List dc):(kD T).length=T.length:=by simp[kD]
theorem HI (T:List dc):(kE T).length=T.length:=by simp[kE]
def both (T:List dc)(a b:Nat):Nat:=jI T T.length a&&&jI T T.length b
theorem nQ (T:List dc)(a b i:Nat):(both T a b).testBit i=(decide (i<T.length)&&(e9 T i a&&e9 T i b)):=by
 unfold both;rw[Nat.testBit_and,nP,nP]
 cases decide (i<T.length)<;>simp
theorem nR {T:List dc}{a b i:Nat}:i∈comm T a b↔(both T a b).testBit i=true:=by
 unfold comm;rw[List.mem_filter,List.mem_range,nQ];simp only[Bool.and_eq_true,decide_eq_true_eq]
theorem Bw {T:List dc}{a b:Nat}(h:both T a b=0):gE T a b=false:=by
 unfold gE
 split
 ·rfl
 ·rename_i m r e
  have:m∈comm T a b:=by rw[e];exact List.mem_cons_self ..
  rw[nR,h,Nat.zero_testBit]at this;cases this
theorem HJ {T:List dc}(hT:iJ T){a b m:Nat}(h:(both T a b).testBit m=true)(hl:∀i,i<m→(both T a b).testBit i=false):gE T a b=decide (jI T T.length m≠both T a b):=by
 have hm:=nR.2 h
 unfold gE
 split
 ·rename_i e;rw[e]at hm;cases hm
 ·rename_i m' r e
  have hp:(comm T a b).Pairwise (· < ·):=by unfold comm;exact List.Pairwise.filter _ List.pairwise_lt_range
  rw[e]at hp
  have jK:m'∈comm T a b:=by rw[e];exact List.mem_cons_self ..
  have e2:m'=m:=by
   rw[e]at hm
   rcases List.mem_cons.1 hm with h2|h2
   ·exact h2.symm
   ·have h3:=(List.pairwise_cons.1 hp).1 m h2
    have h4:=hl m' h3
    rw[nR.1 jK]at h4;cases h4
  subst e2
  have hb:=h
  rw[nQ,Bool.and_eq_true,Bool.and_eq_true,decide_eq_true_eq]at hb;rw[Bool.eq_iff_iff,List.any_eq_true,decide_eq_true_eq]
  constructor
  ·rintro ⟨i,hi,h5⟩ h6
   have h7:(both T a b).testBit i=true:=nR.1 (by rw[e];exact List.mem_cons_of_mem _ hi)
   rw[←h6,nP,Bool.and_eq_true]at h7
   rw[h7.2]at h5;cases h5
  ·intro h5
   apply Decidable.byContradiction
   intro h6;refine h5 (Nat.eq_of_testBit_eq fun i=> ?_);rw[nP,nQ];rw[Bool.eq_iff_iff,Bool.and_eq_true,Bool.and_eq_true,decide_eq_true_eq]
   constructor
   ·rintro ⟨h7,h8⟩
    exact⟨h7,by rw[qx hT h8 hb.2.1,qx hT h8 hb.2.2];rfl⟩
   ·rintro ⟨h7,h8⟩
    refine⟨h7,?_⟩
    have h9:i∈comm T a b:=nR.2 (by rw[nQ,h8,decide_eq_true h7];rfl)
    rw[e]at h9
    rcases List.mem_cons.1 h9 with rfl|h9
    ·exact sub_self hT h7
    ·cases re:e9 T i m' with
     |true=>rfl
     |false=>exact absurd ⟨i,h9,by rw[re];rfl⟩ h6
end Go.Proofs.YtolmidffiegkaaaGreatDoor
namespace Go.J
open Go
section
variable {P:Program}{n:Nat}{F:Fr}{A:World→Prop}{ty t u:TypeId}{x y:Operand}{a b:Nat}
theorem Eo (h:a<18446744073709551616)(h2:b<18446744073709551616):bits .and .u64 (a:Int) (b:Int)=((a&&&b:Nat):Int):=by
 have e:(BitVec.ofInt IntKind.u64.bits (a:Int)&&&BitVec.ofInt IntKind.u64.bits (b:Int)).toNat=a&&&b:=by
  show(BitVec.ofInt 64 (a:Int)&&&BitVec.ofInt 64 (b:Int)).toNat=_
  rw[BitVec.toNat_and,BitVec.ofInt_natCast,BitVec.ofInt_natCast,BitVec.toNat_ofNat,BitVec.toNat_ofNat,Nat.mod_eq_of_lt h,Nat.mod_eq_of_lt h2]
 simp only[bits,e]
 rw[lZ,Nat.mod_eq_of_lt (Nat.lt_of_le_of_lt Nat.and_le_left h)]
theorem HK (h:a<18446744073709551616)(h2:b<18446744073709551616):bits .or .u64 (a:Int) (b:Int)=((a|||b:Nat):Int):=by
 have e:(BitVec.ofInt IntKind.u64.bits (a:Int)|||BitVec.ofInt IntKind.u64.bits (b:Int)).toNat=a|||b:=by
  show(BitVec.ofInt 64 (a:Int)|||BitVec.ofInt 64 (b:Int)).toNat=_
  rw[BitVec.toNat_or,BitVec.ofInt_natCast,BitVec.ofInt_natCast,BitVec.toNat_ofNat,BitVec.toNat_ofNat,Nat.mod_eq_of_lt h,Nat.mod_eq_of_lt h2]
 simp only[bits,e]
 rw[lZ,Nat.mod_eq_of_lt (Nat.or_lt_two_pow (n:=64) h h2)]
theorem Ev.Yn (hx:aL F x (uv a))(hy:aL F y (uv b))(h:a<18446744073709551616∧b<18446744073709551616):Ev P n F A (.binOp .and t x y u) ty (uv (a&&&b)):= .of_run fun a' w ha _=>by
 simp only[execOp,hx.eval ha,hy.eval ha];simp only[go_sem,Eo h.1 h.2];simp
theorem Ev.Yo (hx:aL F x (uv a))(hy:aL F y (uv b))(h:a<18446744073709551616∧b<18446744073709551616):Ev P n F A (.binOp .or t x y u) ty (uv (a|||b)):= .of_run fun a' w ha _=>by
 simp only[execOp,hx.eval ha,hy.eval ha];simp only[go_sem,HK h.1 h.2];simp
theorem Ev.So {k:Nat}{i:Int}{kd:IntKind}(hx:aL F x (uv 1))(hy:aL F y (.int kd i))(h:i=k∧k<64):Ev P n F A (.binOp .shl t x y u) ty (uv (2^k)):=by
 have:=Ev.YB (P:=P) (n:=n) (A:=A) (ty:=ty) (t:=t) (u:=u) k (2^k) rfl hx hy (by omega)
 have e:1*2^k%18446744073709551616=2^k:=by
  rw[Nat.one_mul];exact Nat.mod_eq_of_lt (show 2^k<2^64 from Nat.pow_lt_pow_right (by decide) h.2)
 rw[e]at this;exact this
theorem DQ (a j:Nat):decide ((((a/2^j%2:Nat):Int))=1)=a.testBit j:=by
 rw[Nat.testBit_eq_decide_div_mod_eq,decide_eq_decide];omega
end
def eD:Rp Nat:=⟨1,by decide,fun a=>[uv a],fun a=>a<18446744073709551616,fun _=>rfl,fun x u h=>by rw[List.mem_singleton.1 h];rfl⟩
theorem oA (U:List Nat):rows eD U=U.map fun a=>uv a:=by
 show U.flatMap (fun a=>[uv a])=_
 induction U with
 |nil=>rfl
 |cons a U ih=>rw[List.flatMap_cons,ih];rfl
theorem lu {U:List Nat}{k a:Nat}(h:U[k]?=some a):(rows eD U)[k*1+0]?=some (uv a):=by
 rw[oA,Nat.mul_one,Nat.add_zero,List.getElem?_map,h];rfl
theorem pr {U:List Nat}{k a:Nat}:(rows eD U).set (k*1+0) (uv a)=rows eD (U.set k a):=by
 rw[oA,oA,Nat.mul_one,Nat.add_zero,List.map_set]
theorem gl (n:Nat):List.replicate n (uv 0)=rows eD (List.replicate n 0):=by rw[oA,List.map_replicate]
end Go.J
namespace Go.Proofs.YtolmidffiegkaaaGreatDoor
open Go Go.J
theorem L2 {T:List dc}{k q n:Nat}{E:List Nat}(hE:∀j,j<n→E[j]?=some (if j<q then jI T (k+1) j else jI T k j))(hl:E.length=n)(hq:q<n)(h:e9 T k q=true):
 ∀j,j<n→(E.set q (jI T k q|||2^k))[j]?=some (if j<q+1 then jI T (k+1) j else jI T k j):=fun j hj=>by
 by_cases e:q=j
 ·subst e;rw[List.getElem?_set_self (by omega),if_pos (by omega),o9,if_pos h]
 ·rw[List.getElem?_set_ne e,hE j hj]
  by_cases e2:j<q
  ·rw[if_pos e2,if_pos (by omega)]
  ·rw[if_neg e2,if_neg (by omega)]
theorem L3 {T:List dc}{k q n:Nat}{E:List Nat}(hE:∀j,j<n→E[j]?=some (if j<q then jI T (k+1) j else jI T k j))(h:e9 T k q=false):
 ∀j,j<n→E[j]?=some (if j<q+1 then jI T (k+1) j else jI T k j):=fun j hj=>by
 rw[hE j hj]
 by_cases e:q=j
 ·subst e;rw[if_neg (by omega),if_pos (by omega),o9,if_neg (by rw[h];decide)]
 ·by_cases e2:j<q
  ·rw[if_pos e2,if_pos (by omega)]
  ·rw[if_neg e2,if_neg (by omega)]
set_option maxHeartbeats 2000000 in
theorem rf (u:Value)(ts:List jj)(hT:iJ (ts.map bf)):fF Tryz.prog 66 #[u] ([sl e6 u ts,aY ew ts].map aG) (fun v H'=>∃w1 w2:ck,v= .agg #[w1.1,w2.1]∧H'=[aG (sl eD w1.1 (kD (ts.map bf))),aG (sl eD w2.1 (kE (ts.map bf)))]):=by
 refine fF.body (args:=[u]) 75 Tryz.func66 rfl Tryz.ntmps66 rfl (fun c=> ?_);refine St.cast (H':=[aG (sl e6 u ts),aG (aY ew ts)]) rfl ?_;refine St.seq ?_
 have vT:=hT.len
 rw[List.length_map]at vT;refine St.rg ?_;refine St.alloc pg rfl (fun b2=> ?_);refine St.nn ?_;refine St.join (ι:=Nat×Nat×Nat) (fun y T=>(3,.pointer (some ⟨y.2.2,0,none⟩))::T) (fun y=>[ae y.2.2 (.cells [(.slice (some ⟨y.1,0,none⟩) ts.length ts.length),(.slice (some ⟨y.2.1,0,none⟩) ts.length ts.length)].toArray 129 (0,0)),row (.slice (some ⟨y.1,0,none⟩) ts.length ts.length) 175 1 ts.length (rows eD (List.replicate ts.length 0)),row (.slice (some ⟨y.2.1,0,none⟩) ts.length ts.length) 175 1 ts.length (rows eD (List.replicate ts.length 0)),ae b2 (.cells [(.slice none 0 0),(.slice none 0 0)].toArray 129 (0,0)),aG (sl e6 u ts),aG (aY ew ts)]) (fun y=>True) (aE.cons 0 rfl (aE.cons 2 rfl aE.nil)) ?_ ?_
 ·refine St.zM [] mixed (fun np ns=> ?_)
  refine SW.dd 0 rfl (fun _=>Ev.move (.mk rfl)) ?_;refine SW.dd 1 rfl (fun _=>Ev.ao (.mk rfl) eW) ?_;refine SW.dd 3 rfl (fun _=>Ev.move (.mk rfl)) ?_;refine SW.dd 4 rfl (fun _=>Ev.ao (.mk rfl) eW) ?_;refine SW.Rb (i:=2) (j:=5) (k:=7) (by kernel_rfl) rfl rfl rfl ?_ ?_ ?_
  ·refine St.gB (m:=ts.length) (.mk rfl) (.mk rfl) eY fP om oo rfl rfl (by omega) rfl rfl (fun kp=> ?_)
   refine St.bB (.slice (some ⟨kp,0,none⟩) ts.length ts.length) rfl (gl _) ?_;refine St.nn ?_;refine SW.go ?_;refine SW.jC (i:=5) (j:=7) (by kernel_rfl) rfl rfl ?_ ?_
   ·refine St.gB (m:=ts.length) (.mk rfl) (.mk rfl) eY fP om oo rfl rfl (by omega) rfl rfl (fun oU=> ?_)
    refine St.bB (.slice (some ⟨oU,0,none⟩) ts.length ts.length) rfl (gl _) ?_;refine St.nn ?_;refine SW.go ?_;refine SW.dd 6 rfl (fun _=>Ev.build (ps:=[(0,(.tmp 11)),(1,(.tmp 14))]) (aU.cons (aL.mk rfl) (aU.cons (aL.mk rfl) aU.nil)) (fun w=>j3 rfl rfl w)) ?_;refine SW.bG (i:=7) (by kernel_rfl) rfl ?_;refine St.alloc pg rfl (fun b3=> ?_);refine St.nn ?_;refine SW.go ?_;refine SW.bG (i:=8) (by kernel_rfl) rfl ?_;refine St.sA (.mk rfl) (.mk rfl) iQ ?_ (h1:=(by simp only[List.all_cons,List.all_nil,Bool.and_true,Bool.and_eq_true];exact⟨rfl,rfl⟩));refine St.nn ?_;refine SW.go ?_;refine SW.done (by kernel_rfl) ?_;refine St.aA ?_;refine St.mE (kp,oU,b3) trivial
   ·refine St.alloc pg rfl (fun b3=> ?_)
    refine St.nn ?_;refine SW.go ?_;refine SW.bG (i:=5) (by kernel_rfl) rfl ?_;refine St.gB (m:=ts.length) (.mk rfl) (.mk rfl) eY fP om oo rfl rfl (by omega) rfl rfl (fun oU=> ?_);refine St.bB (.slice (some ⟨oU,0,none⟩) ts.length ts.length) rfl (gl _) ?_;refine St.nn ?_;refine SW.go ?_;refine SW.dd 6 rfl (fun _=>Ev.build (ps:=[(0,(.tmp 11)),(1,(.tmp 14))]) (aU.cons (aL.mk rfl) (aU.cons (aL.mk rfl) aU.nil)) (fun w=>j3 rfl rfl w)) ?_;refine SW.bG (i:=8) (by kernel_rfl) rfl ?_;refine St.sA (.mk rfl) (.mk rfl) iQ ?_ (h1:=(by simp only[List.all_cons,List.all_nil,Bool.and_true,Bool.and_eq_true];exact⟨rfl,rfl⟩));refine St.nn ?_;refine SW.go ?_;refine SW.done (by kernel_rfl) ?_;refine St.aA ?_;refine St.mE (kp,oU,b3) trivial
  ·refine St.gB (m:=ts.length) (.mk rfl) (.mk rfl) eY fP om oo rfl rfl (by omega) rfl rfl (fun oU=> ?_)
   refine St.bB (.slice (some ⟨oU,0,none⟩) ts.length ts.length) rfl (gl _) ?_;refine St.nn ?_;refine SW.go ?_;refine SW.jC (i:=2) (j:=7) (by kernel_rfl) rfl rfl ?_ ?_
   ·refine St.gB (m:=ts.length) (.mk rfl) (.mk rfl) eY fP om oo rfl rfl (by omega) rfl rfl (fun kp=> ?_)
    refine St.bB (.slice (some ⟨kp,0,none⟩) ts.length ts.length) rfl (gl _) ?_;refine St.nn ?_;refine SW.go ?_;refine SW.dd 6 rfl (fun _=>Ev.build (ps:=[(0,(.tmp 11)),(1,(.tmp 14))]) (aU.cons (aL.mk rfl) (aU.cons (aL.mk rfl) aU.nil)) (fun w=>j3 rfl rfl w)) ?_;refine SW.bG (i:=7) (by kernel_rfl) rfl ?_;refine St.alloc pg rfl (fun b3=> ?_);refine St.nn ?_;refine SW.go ?_;refine SW.bG (i:=8) (by kernel_rfl) rfl ?_;refine St.sA (.mk rfl) (.mk rfl) iQ ?_ (h1:=(by simp only[List.all_cons,List.all_nil,Bool.and_true,Bool.and_eq_true];exact⟨rfl,rfl⟩));refine St.nn ?_;refine SW.go ?_;refine SW.done (by kernel_rfl) ?_;refine St.aA ?_;refine St.mE (kp,oU,b3) trivial
   ·refine St.alloc pg rfl (fun b3=> ?_)
    refine St.nn ?_;refine SW.go ?_;refine SW.bG (i:=2) (by kernel_rfl) rfl ?_;refine St.gB (m:=ts.length) (.mk rfl) (.mk rfl) eY fP om oo rfl rfl (by omega) rfl rfl (fun kp=> ?_);refine St.bB (.slice (some ⟨kp,0,none⟩) ts.length ts.length) rfl (gl _) ?_;refine St.nn ?_;refine SW.go ?_;refine SW.dd 6 rfl (fun _=>Ev.build (ps:=[(0,(.tmp 11)),(1,(.tmp 14))]) (aU.cons (aL.mk rfl) (aU.cons (aL.mk rfl) aU.nil)) (fun w=>j3 rfl rfl w)) ?_;refine SW.bG (i:=8) (by kernel_rfl) rfl ?_;refine St.sA (.mk rfl) (.mk rfl) iQ ?_ (h1:=(by simp only[List.all_cons,List.all_nil,Bool.and_true,Bool.and_eq_true];exact⟨rfl,rfl⟩));refine St.nn ?_;refine SW.go ?_;refine SW.done (by kernel_rfl) ?_;refine St.aA ?_;refine St.mE (kp,oU,b3) trivial
  ·refine St.alloc pg rfl (fun b3=> ?_)
   refine St.nn ?_;refine SW.go ?_;refine SW.jC (i:=2) (j:=5) (by kernel_rfl) rfl rfl ?_ ?_
   ·refine St.gB (m:=ts.length) (.mk rfl) (.mk rfl) eY fP om oo rfl rfl (by omega) rfl rfl (fun kp=> ?_)
    refine St.bB (.slice (some ⟨kp,0,none⟩) ts.length ts.length) rfl (gl _) ?_;refine St.nn ?_;refine SW.go ?_;refine SW.bG (i:=5) (by kernel_rfl) rfl ?_;refine St.gB (m:=ts.length) (.mk rfl) (.mk rfl) eY fP om oo rfl rfl (by omega) rfl rfl (fun oU=> ?_);refine St.bB (.slice (some ⟨oU,0,none⟩) ts.length ts.length) rfl (gl _) ?_;refine St.nn ?_;refine SW.go ?_;refine SW.dd 6 rfl (fun _=>Ev.build (ps:=[(0,(.tmp 11)),(1,(.tmp 14))]) (aU.cons (aL.mk rfl) (aU.cons (aL.mk rfl) aU.nil)) (fun w=>j3 rfl rfl w)) ?_;refine SW.bG (i:=8) (by kernel_rfl) rfl ?_;refine St.sA (.mk rfl) (.mk rfl) iQ ?_ (h1:=(by simp only[List.all_cons,List.all_nil,Bool.and_true,Bool.and_eq_true];exact⟨rfl,rfl⟩));refine St.nn ?_;refine SW.go ?_;refine SW.done (by kernel_rfl) ?_;refine St.aA ?_;refine St.mE (kp,oU,b3) trivial
   ·refine St.gB (m:=ts.length) (.mk rfl) (.mk rfl) eY fP om oo rfl rfl (by omega) rfl rfl (fun oU=> ?_)
    refine St.bB (.slice (some ⟨oU,0,none⟩) ts.length ts.length) rfl (gl _) ?_;refine St.nn ?_;refine SW.go ?_;refine SW.bG (i:=2) (by kernel_rfl) rfl ?_;refine St.gB (m:=ts.length) (.mk rfl) (.mk rfl) eY fP om oo rfl rfl (by omega) rfl rfl (fun kp=> ?_);refine St.bB (.slice (some ⟨kp,0,none⟩) ts.length ts.length) rfl (gl _) ?_;refine St.nn ?_;refine SW.go ?_;refine SW.dd 6 rfl (fun _=>Ev.build (ps:=[(0,(.tmp 11)),(1,(.tmp 14))]) (aU.cons (aL.mk rfl) (aU.cons (aL.mk rfl) aU.nil)) (fun w=>j3 rfl rfl w)) ?_;refine SW.bG (i:=8) (by kernel_rfl) rfl ?_;refine St.sA (.mk rfl) (.mk rfl) iQ ?_ (h1:=(by simp only[List.all_cons,List.all_nil,Bool.and_true,Bool.and_eq_true];exact⟨rfl,rfl⟩));refine St.nn ?_;refine SW.go ?_;refine SW.done (by kernel_rfl) ?_;refine St.aA ?_;refine St.mE (kp,oU,b3) trivial
 ·intro y dA
  refine St.seq (St.sr ?_);refine St.mv ?_;refine St.ee (Ev.ao (.mk rfl) eW) ?_;refine St.mv ?_;refine St.nn (St.block ?_);refine St.mf (ι:=Nat) (κ:=List Nat×List Nat) (fun k z T=>(18,iv k)::T) (fun k z=>[ae y.2.2 (.cells [(.slice (some ⟨y.1,0,none⟩) ts.length ts.length),(.slice (some ⟨y.2.1,0,none⟩) ts.length ts.length)].toArray 129 (0,0)),row (.slice (some ⟨y.1,0,none⟩) ts.length ts.length) 175 1 ts.length (rows eD z.1),row (.slice (some ⟨y.2.1,0,none⟩) ts.length ts.length) 175 1 ts.length (rows eD z.2),ae b2 (.cells [(.slice none 0 0),(.slice none 0 0)].toArray 129 (0,0)),aG (sl e6 u ts),aG (aY ew ts)]) (fun k z=>k≤ts.length∧(z.1.length=ts.length∧∀i,i<k→z.1[i]?=some (Bv (ts.map bf) i))∧(z.2.length=ts.length∧∀j,j<ts.length→z.2[j]?=some (jI (ts.map bf) k j))) (fun k z=>ts.length-k) 0 (List.replicate ts.length 0,List.replicate ts.length 0) (aE.cons 0 rfl (aE.cons 2 rfl (aE.cons 3 rfl (aE.cons 16 rfl (aE.cons 17 rfl aE.nil))))) ⟨Nat.zero_le _,⟨List.length_replicate,fun i hi=>absurd hi (by omega)⟩,List.length_replicate,fun j hj=>by show(List.replicate ts.length 0)[j]?=_;rw[List.getElem?_replicate,if_pos hj];rfl⟩ ?_;rintro k ⟨U,D⟩ ⟨hk,⟨Wv,hU⟩,Qv,hD⟩
  dsimp only at Wv hU Qv hD⊢
  refine St.sr ?_;refine St.ee Ev.dn ?_;refine St.nn (St.seq ?_);refine St.cond _ rfl (fun gY=> ?_) (fun gY=> ?_)
  ·try simp only[aC]at gY
   obtain⟨t,ht⟩:=aO (show k<ts.length by omega)
   have lU:=List.mem_of_getElem? ht
   have hTt:(ts.map bf)[k]?=some (bf t):=by rw[List.getElem?_map,ht];rfl
   have PJ:=hT.par k _ hTt
   refine St.cD ew ts (x:=t) lU ?_;refine St.gQ (sl aK t.pv.1 t.parents) [ew t] (fun ρ h=>h _ (List.mem_cons_self ..)) ?_;refine St.wf t.pv.1 (fun Kz DL=> ?_);refine St.skip (St.aA (St.seq (St.block (St.sr ?_))));refine St.mv ?_;refine St.ee (Ev.aR (k:=k) (.mk rfl) (.mk rfl) eW im (by omega) (by omega)) ?_;refine St.ee (Ev.fg (.mk rfl) ht za trivial im ei.eq) ?_;refine St.alloc wI rfl (fun b5=> ?_);refine St.ak ?_;refine St.sA (.mk rfl) (.mk rfl) im ?_ (h1:=(by simp only[List.all_cons,List.all_nil,Bool.and_true,Bool.and_eq_true];exact⟨rfl,t.pv.2⟩));refine St.nn (St.seq ?_);refine St.eV [row (.slice (some ⟨y.1,0,none⟩) ts.length ts.length) 175 1 ts.length (rows eD U)] mixed (fun np ns=> ?_);refine SW.dd 0 rfl (fun _=>Ev.aD (.mk rfl) ph) ?_;refine SW.dd 1 rfl (fun _=>Ev.cN (.mk rfl) eY trivial (by rfl)) ?_;refine SW.dd 2 rfl (fun _=>Ev.move (.mk rfl)) ?_;refine SW.dd 3 rfl (fun _=>Ev.move (.mk rfl)) ?_;refine SW.dd 4 rfl (fun _=>Ev.So (k:=k) (.mk rfl) (.mk rfl) (by omega)) ?_;refine SW.dd 5 rfl (fun _=>Ev.jL (k:=k) rfl (.mk rfl) (.mk rfl) eY fP (by omega) (by omega)) ?_;refine SW.bG (i:=6) (by kernel_rfl) rfl ?_;refine St.dH (.mk rfl) (.mk rfl) fP rfl (by omega) (by decide) ?_;refine St.bB (.slice (some ⟨y.1,0,none⟩) ts.length ts.length) rfl pr ?_;refine St.nn ?_;refine SW.go ?_;refine SW.done (by kernel_rfl) ?_;refine St.aA (St.seq (St.sr ?_));refine St.ee (Ev.aD (.mk rfl) kk) ?_;refine St.ee (Ev.l0 (.mk rfl) bE) ?_;refine St.ee (Ev.ao (.mk rfl) bE) ?_;refine St.mv ?_;refine St.nn (St.block ?_);refine St.mf (ι:=Nat) (κ:=List Nat) (fun q V T=>(32,iv q)::T) (fun q V=>[row (.slice (some ⟨y.1,0,none⟩) ts.length ts.length) 175 1 ts.length (rows eD V),ae y.2.2 (.cells [(.slice (some ⟨y.1,0,none⟩) ts.length ts.length),(.slice (some ⟨y.2.1,0,none⟩) ts.length ts.length)].toArray 129 (0,0)),row (.slice (some ⟨y.2.1,0,none⟩) ts.length ts.length) 175 1 ts.length (rows eD D),ae b2 (.cells [(.slice none 0 0),(.slice none 0 0)].toArray 129 (0,0)),aG (sl aK t.pv.1 t.parents),aG (sl e6 u ts),aG (aY ew ts)]) (fun q V=>q≤t.parents.length∧V.length=ts.length∧(∀i,i<k→V[i]?=some (Bv (ts.map bf) i))∧V[k]?=some (NM (ts.map bf) k (t.parents.take q))) (fun q V=>t.parents.length-q) 0 (U.set k (2^k)) (aE.cons 0 rfl (aE.cons 2 rfl (aE.cons 3 rfl (aE.cons 4 rfl (aE.cons 16 rfl (aE.cons 17 rfl (aE.cons 18 rfl (aE.cons 30 rfl (aE.cons 31 rfl aE.nil))))))))) ⟨Nat.zero_le _,by rw[List.length_set];exact Wv,fun i hi=>by rw[List.getElem?_set_ne (by omega)];exact hU i hi,by rw[List.getElem?_set_self (by omega)];rfl⟩ ?_;rintro q V ⟨hq,Yp,hV,PK⟩;refine St.sr ?_;refine St.ee Ev.dn ?_;refine St.nn (St.seq ?_);refine St.cond _ rfl (fun qZ=> ?_) (fun qZ=> ?_)
   ·try simp only[aC]at qZ
    obtain⟨p,hp⟩:=aO (show q<t.parents.length by omega)
    have hpp:=PJ p (List.mem_of_getElem? hp)
    refine St.skip (St.aA (St.seq (St.block (St.sr ?_))));refine St.ee (Ev.aR (k:=q) (.mk rfl) (.mk rfl) bE cr (by omega) (by omega)) ?_;refine St.ee (Ev.ff (.mk rfl) hp bP trivial rfl) ?_;refine St.ak ?_;refine St.nn ?_;refine St.eV [row (.slice (some ⟨y.1,0,none⟩) ts.length ts.length) 175 1 ts.length (rows eD V)] mixed (fun np ns=> ?_);refine SW.dd 0 rfl (fun _=>Ev.aD (.mk rfl) ph) ?_;refine SW.dd 1 rfl (fun _=>Ev.cN (.mk rfl) eY trivial (by rfl)) ?_;refine SW.dd 2 rfl (fun _=>Ev.move (.mk rfl)) ?_;refine SW.dd 3 rfl (fun _=>Ev.jL (k:=k) rfl (.mk rfl) (.mk rfl) eY fP (by omega) (by omega)) ?_;refine SW.dd 5 rfl (fun _=>Ev.aD (.mk rfl) ph) ?_;refine SW.dd 6 rfl (fun _=>Ev.cN (.mk rfl) eY trivial (by rfl)) ?_;refine SW.dd 7 rfl (fun _=>Ev.move (.mk rfl)) ?_;refine SW.dd 8 rfl (fun _=>Ev.jL (k:=p.toNat) rfl (.mk rfl) (.mk rfl) eY fP (by omega) (by omega)) ?_;refine SW.jC (i:=4) (j:=9) (by kernel_rfl) rfl rfl ?_ ?_
    ·refine St.ee (Ev.hS (.mk rfl) mg trivial (by omega) (lu PK)) ?_
     refine St.nn ?_;refine SW.go ?_;refine SW.bG (i:=9) (by kernel_rfl) rfl ?_;refine St.ee (Ev.hS (.mk rfl) mg trivial (by omega) (lu (hV p.toNat (by omega)))) ?_;refine St.nn ?_;refine SW.go ?_;refine SW.dd 10 rfl (fun _=>Ev.Yo (.mk rfl) (.mk rfl) ⟨HF hT (by omega) (fun p hp=>PJ p (List.mem_of_mem_take hp)),qy hT (by omega)⟩) ?_;refine SW.dd 11 rfl (fun _=>Ev.jL (k:=k) rfl (.mk rfl) (.mk rfl) eY fP (by omega) (by omega)) ?_;refine SW.bG (i:=12) (by kernel_rfl) rfl ?_;refine St.dH (.mk rfl) (.mk rfl) fP rfl (by omega) (by decide) ?_;refine St.bB (.slice (some ⟨y.1,0,none⟩) ts.length ts.length) rfl pr ?_;refine St.nn ?_;refine SW.go ?_;refine SW.done (by kernel_rfl) ?_;refine St.aN (St.aA (St.rg ?_));refine St.ee Ev.a0 ?_;refine St.mv ?_;refine St.nn ?_;refine St.jb (q+1) (V.set k (NM (ts.map bf) k (t.parents.take q)|||Bv (ts.map bf) p.toNat)) ⟨by omega,by rw[List.length_set];exact Yp,fun i hi=>by rw[List.getElem?_set_ne (by omega)];exact hV i hi,by rw[List.getElem?_set_self (by omega),bI hp,zz]⟩
    ·refine St.ee (Ev.hS (.mk rfl) mg trivial (by omega) (lu (hV p.toNat (by omega)))) ?_
     refine St.nn ?_;refine SW.go ?_;refine SW.bG (i:=4) (by kernel_rfl) rfl ?_;refine St.ee (Ev.hS (.mk rfl) mg trivial (by omega) (lu PK)) ?_;refine St.nn ?_;refine SW.go ?_;refine SW.dd 10 rfl (fun _=>Ev.Yo (.mk rfl) (.mk rfl) ⟨HF hT (by omega) (fun p hp=>PJ p (List.mem_of_mem_take hp)),qy hT (by omega)⟩) ?_;refine SW.dd 11 rfl (fun _=>Ev.jL (k:=k) rfl (.mk rfl) (.mk rfl) eY fP (by omega) (by omega)) ?_;refine SW.bG (i:=12) (by kernel_rfl) rfl ?_;refine St.dH (.mk rfl) (.mk rfl) fP rfl (by omega) (by decide) ?_;refine St.bB (.slice (some ⟨y.1,0,none⟩) ts.length ts.length) rfl pr ?_;refine St.nn ?_;refine SW.go ?_;refine SW.done (by kernel_rfl) ?_;refine St.aN (St.aA (St.rg ?_));refine St.ee Ev.a0 ?_;refine St.mv ?_;refine St.nn ?_;refine St.jb (q+1) (V.set k (NM (ts.map bf) k (t.parents.take q)|||Bv (ts.map bf) p.toNat)) ⟨by omega,by rw[List.length_set];exact Yp,fun i hi=>by rw[List.getElem?_set_ne (by omega)];exact hV i hi,by rw[List.getElem?_set_self (by omega),bI hp,zz]⟩
   ·try simp only[aC]at qZ
    rw[List.take_of_length_le (by omega)]at PK
    replace PK:V[k]?=some (Bv (ts.map bf) k):=by rw[HE hT hTt];exact PK
    refine St.exit (St.aF (St.aF (St.bH (St.aA (St.sr ?_)))));refine St.mv ?_;refine St.ee (Ev.ao (.mk rfl) eW) ?_;refine St.mv ?_;refine St.nn (St.block ?_);refine St.mf (ι:=Nat) (κ:=List Nat) (fun q E T=>(51,iv q)::T) (fun q E=>[row (.slice (some ⟨y.2.1,0,none⟩) ts.length ts.length) 175 1 ts.length (rows eD E),row (.slice (some ⟨y.1,0,none⟩) ts.length ts.length) 175 1 ts.length (rows eD V),ae y.2.2 (.cells [(.slice (some ⟨y.1,0,none⟩) ts.length ts.length),(.slice (some ⟨y.2.1,0,none⟩) ts.length ts.length)].toArray 129 (0,0)),ae b2 (.cells [(.slice none 0 0),(.slice none 0 0)].toArray 129 (0,0)),aG (sl e6 u ts),aG (aY ew ts)]) (fun q E=>q≤ts.length∧E.length=ts.length∧∀j,j<ts.length→E[j]?=some (if j<q then jI (ts.map bf) (k+1) j else jI (ts.map bf) k j)) (fun q E=>ts.length-q) 0 D (aE.cons 0 rfl (aE.cons 2 rfl (aE.cons 3 rfl (aE.cons 4 rfl (aE.cons 16 rfl (aE.cons 17 rfl (aE.cons 18 rfl (aE.cons 50 rfl aE.nil)))))))) ⟨Nat.zero_le _,Qv,fun j hj=>by rw[if_neg (by omega)];exact hD j hj⟩ ?_;rintro q E ⟨hq,Ww,hE⟩;refine St.sr ?_;refine St.ee Ev.dn ?_;refine St.nn (St.seq ?_);refine St.cond _ rfl (fun Ep=> ?_) (fun Ep=> ?_)
    ·try simp only[aC]at Ep
     have hEq:=hE q (by omega)
     rw[if_neg (by omega)]at hEq;refine St.skip (St.aA (St.seq (St.block (St.sr ?_))));refine St.mv ?_;refine St.ak ?_;refine St.nn (St.sr ?_);refine St.ee (Ev.aD (.mk rfl) ph) ?_;refine St.ee (Ev.l0 (.mk rfl) eY) ?_;refine St.mv ?_;refine St.ee (Ev.cK (k:=k) (.mk rfl) (.mk rfl) eY fP (by omega) (by omega)) ?_;refine St.ee (Ev.hS (.mk rfl) mg trivial (by omega) (lu PK)) ?_;refine St.mv ?_;refine St.ee (Ev.Og (q) _ rfl (.mk rfl) (.mk rfl) (by omega)) ?_;refine St.ee (Ev.Rf (b:=1) 1 2 (by decide) (.mk rfl) (.mk rfl) (⟨(Nat.lt_of_le_of_lt (Nat.div_le_self _ _) (qy hT (by omega))),by decide,by decide⟩)) ?_;refine St.ee Ev.ey ?_;refine St.slot 62 (.bool (e9 (ts.map bf) k q)) rfl (congrArg Value.bool (DQ _ _)) ?_;refine St.nn ?_;refine St.cond _ rfl (fun oB=> ?_) (fun oB=> ?_)
     ·skip
      refine St.eV [row (.slice (some ⟨y.2.1,0,none⟩) ts.length ts.length) 175 1 ts.length (rows eD E)] mixed (fun np ns=> ?_);refine SW.dd 0 rfl (fun _=>Ev.aD (.mk rfl) sg) ?_;refine SW.dd 1 rfl (fun _=>Ev.cN (.mk rfl) eY trivial (by rfl)) ?_;refine SW.dd 2 rfl (fun _=>Ev.move (.mk rfl)) ?_;refine SW.dd 3 rfl (fun _=>Ev.jL (k:=q) rfl (.mk rfl) (.mk rfl) eY fP (by omega) (by omega)) ?_;refine SW.dd 5 rfl (fun _=>Ev.move (.mk rfl)) ?_;refine SW.dd 6 rfl (fun _=>Ev.So (k:=k) (.mk rfl) (.mk rfl) (by omega)) ?_;refine SW.bG (i:=4) (by kernel_rfl) rfl ?_;refine St.ee (Ev.hS (.mk rfl) mg trivial (by omega) (lu hEq)) ?_;refine St.nn ?_;refine SW.go ?_;refine SW.dd 7 rfl (fun _=>Ev.Yo (.mk rfl) (.mk rfl) ⟨pq _ _ (by omega),(show 2^k<2^64 from Nat.pow_lt_pow_right (by decide) (by omega))⟩) ?_;refine SW.dd 8 rfl (fun _=>Ev.jL (k:=q) rfl (.mk rfl) (.mk rfl) eY fP (by omega) (by omega)) ?_;refine SW.bG (i:=9) (by kernel_rfl) rfl ?_;refine St.dH (.mk rfl) (.mk rfl) fP rfl (by omega) (by decide) ?_;refine St.bB (.slice (some ⟨y.2.1,0,none⟩) ts.length ts.length) rfl pr ?_;refine St.nn ?_;refine SW.go ?_;refine SW.done (by kernel_rfl) ?_;refine St.aN (St.aA (St.rg ?_));refine St.ee Ev.a0 ?_;refine St.mv ?_;refine St.nn ?_;refine St.jb (q+1) (E.set q (jI (ts.map bf) k q|||2^k)) ⟨by omega,by rw[List.length_set];exact Ww,L2 hE Ww (by omega) oB⟩
     ·skip
      refine St.skip (St.aN (St.aA (St.rg ?_)));refine St.ee Ev.a0 ?_;refine St.mv ?_;refine St.nn ?_;refine St.jb (q+1) E ⟨by omega,Ww,L3 hE oB⟩
    ·try simp only[aC]at Ep
     obtain rfl:q=ts.length:=by omega
     replace hE:∀j,j<ts.length→E[j]?=some (jI (ts.map bf) (k+1) j):=fun j hj=>by rw[hE j hj,if_pos hj]
     refine St.exit (St.aF (St.aF (St.bH (St.aN (St.aA (St.rg ?_))))));refine St.ee Ev.a0 ?_;refine St.mv ?_;refine St.nn ?_;refine St.jb (k+1) (V,E) ⟨by omega,⟨Yp,fun i hi=>by rcases Nat.lt_or_ge i k with h|h;exact hV i h;rw[show i=k by omega];exact PK⟩,Ww,hE⟩
  ·try simp only[aC]at gY
   obtain rfl:k=ts.length:=by omega
   refine St.exit (St.aF (St.aF (St.bH (St.aA (St.sr ?_)))));refine St.ee (Ev.bF (.mk rfl) og trivial (by exact iQ)) ?_;refine St.sA (.mk rfl) (.mk rfl) iQ ?_ (h1:=(by simp only[List.all_cons,List.all_nil,Bool.and_true,Bool.and_eq_true];exact⟨rfl,rfl⟩));refine St.nn (St.aX ?_)
   have hU2:U=kD (ts.map bf):=by unfold kD;rw[List.length_map];exact tt Wv hU
   have hD2:D=kE (ts.map bf):=by unfold kE;rw[List.length_map];exact tt Qv hD
   refine St.aV (.slice (some ⟨y.1,0,none⟩) ts.length ts.length) eD U rfl Wv.symm (fun a ha=>by obtain⟨i,hi,rfl⟩:=List.mem_map.1 (hU2▸ha);exact qy hT (by have:=List.mem_range.1 hi;rw[List.length_map]at this;omega)) ?_;refine St.aV (.slice (some ⟨y.2.1,0,none⟩) ts.length ts.length) eD D rfl Qv.symm (fun a ha=>by obtain⟨i,hi,rfl⟩:=List.mem_map.1 (hD2▸ha);exact pq _ _ (by rw[List.length_map];omega)) ?_;rw[hU2,hD2];refine St.rT [_] [aG (sl eD (.slice (some ⟨y.1,0,none⟩) ts.length ts.length) (kD (ts.map bf))),aG (sl eD (.slice (some ⟨y.2.1,0,none⟩) ts.length ts.length) (kE (ts.map bf)))] Tryz.results66 ⟨⟨_,_,_,_,rfl,ju.mem,.inl ⟨⟨_,og⟩,iQ,rfl⟩⟩,trivial⟩ ?_;exact⟨⟨(.slice (some ⟨y.1,0,none⟩) ts.length ts.length),rfl⟩,⟨(.slice (some ⟨y.2.1,0,none⟩) ts.length ts.length),rfl⟩,rfl,rfl⟩
end Go.Proofs.YtolmidffiegkaaaGreatDoor
namespace Go.Proofs
open Go.Shelf
def Tryz.Bx:Go.Shelf.Ren:=⟨fun|29=>115|n=>n,fun|0=>0|3=>3|4=>4|5=>5|22=>175|25=>171|54=>207|n=>n,fun|1=>3|n=>n⟩
theorem Tryz.PL:Go.Proofs.Lays7.n29 Tryz.prog Tryz.Bx:={
 mixed:=by kernel_rfl
 f29:=Tryz.func115.trans (congrArg some (by kernel_rfl))
 t0:=S9
 a0:=Tryz.isAgg0
 z0:=Tryz.sizeOf0
 v0:=Tryz.zeroValue0
 i0:=by kernel_rfl
 t3:=bP
 a3:=Tryz.isAgg3
 z3:=Tryz.sizeOf3
 v3:=Tryz.zeroValue3
 i3:=by kernel_rfl
 t4:=sJ
 a4:=Tryz.isAgg4
 z4:=Tryz.sizeOf4
 v4:=Tryz.zeroValue4
 i4:=by kernel_rfl
 t5:=DG
 a5:=Tryz.isAgg5
 z5:=Tryz.sizeOf5
 v5:=Tryz.zeroValue5
 i5:=by kernel_rfl
 t22:=mg
 a22:=Tryz.isAgg175
 z22:=Tryz.sizeOf175
 v22:=Tryz.zeroValue175
 i22:=by kernel_rfl
 t25:=zb
 a25:=Tryz.isAgg171
 z25:=Tryz.sizeOf171
 v25:=Tryz.zeroValue171
 i25:=by kernel_rfl
 t54:=Tryz.underlying207
 a54:=Tryz.isAgg207
 z54:=Tryz.sizeOf207
 g1:=by kernel_rfl}
end Go.Proofs
namespace Go.Proofs.YtolmidffiegkaaaGreatDoor
open Go Go.J
abbrev tz:dm:=dm.of (TabAt 3 Lib.deBruijn64tab)
theorem ct.of_same {P:Program}{f:FuncId}{args:Array Value}{X:World→Prop}{v:Value}(h:∀w,X w→Calls P f args w fun e w'=>e= .returned v∧w'=w):ct P f args [dm.of X] v:=by
 intro w ρ hs
 have hx:X w:=dZ.1 (hs.dK (aG (dm.of X)) (List.mem_cons_self ..)) w hs.fits
 refine(h w hx).mono ?_;rintro e w' ⟨rfl,rfl⟩;exact⟨v,[],rfl,rfl,Mm.mk (ρ:=ρ) ⟨rfl,⟨rfl,fun _=>Nat.le_refl _⟩,rfl,Nat.le_refl _,fun _ _ _=>rfl,hs.fits,Ro.le_refl _,fun _ _ _=>rfl,fun _ h=>by simp at h,fun _ h=>by simp at h,.nil⟩⟩
theorem L4 (x:Nat)(hx:x<18446744073709551616):ct Tryz.prog 115 #[uv x] [tz] (iv (Lib.ctz 64 x)):=
 ct.of_same fun w hw=>Any7.bits_TrailingZeros64 Tryz.PL x hx w (fun _=>hw)
theorem HL {x:Nat}(h0:x≠0)(h:x<18446744073709551616):x.testBit (Lib.ctz 64 x)=true∧∀i,i<Lib.ctz 64 x→x.testBit i=false:=by
 obtain⟨m,hm,_⟩:=Lib.ctzFrom_spec 64 x (by omega) h
 have e:Lib.ctz 64 x=Lib.ctzFrom 64 x:=by unfold Lib.ctz;rw[if_neg h0]
 rw[e]
 generalize Lib.ctzFrom 64 x=k at hm
 subst hm;refine⟨?_,fun i hi=> ?_⟩
 ·rw[Nat.testBit_two_pow_mul,Nat.sub_self,decide_eq_true (Nat.le_refl k),Bool.true_and,Nat.testBit_zero]
  exact decide_eq_true (by omega)
 ·rw[Nat.testBit_two_pow_mul,decide_eq_false (by omega),Bool.false_and]
abbrev tx (w1 w2:ck):Value:= .agg #[w1.1,w2.1]
theorem HM (w1 w2:ck)(T:List dc)(hT:iJ T)(i j:Nat)(hi:i<T.length)(hj:j<T.length):ct Tryz.prog 98 #[tx w1 w2,iv i,iv j] [sl eD w1.1 (kD T),sl eD w2.1 (kE T)] (.bool (e9 T i j)):=by
 refine ct.mw (args:=[tx w1 w2,iv i,iv j]) 16 Tryz.func98 rfl Tryz.ntmps98 rfl (fun c=> ?_);refine St.seq ?_
 have vT:=hT.len
 have DR:=HH T
 refine St.rg ?_;refine St.cV (.mk rfl) rfl (fun b3=> ?_);refine St.ak ?_;refine St.nn (St.sr ?_);refine St.ee (Ev.aD (.mk rfl) ph) ?_;refine St.ee (Ev.l0 (.mk rfl) eY) ?_;refine St.mv ?_;refine St.ee (Ev.aR (k:=i) (.mk rfl) (.mk rfl) eY fP (by omega) (by omega)) ?_;refine St.ee (Ev.ff (.mk rfl) (HG hi) mg trivial rfl) ?_;refine St.mv ?_;refine St.ee (Ev.Og (j) _ rfl (.mk rfl) (.mk rfl) (by omega)) ?_;refine St.ee (Ev.Rf (b:=1) 1 2 (by decide) (.mk rfl) (.mk rfl) (⟨(Nat.lt_of_le_of_lt (Nat.div_le_self _ _) (qy hT (by omega))),by decide,by decide⟩)) ?_;refine St.ee Ev.ey ?_;refine St.slot 15 (.bool (e9 T i j)) rfl (congrArg Value.bool (DQ _ _)) ?_;refine St.ak ?_;refine St.nn (St.aX ?_);refine St.rU [_] [] Tryz.results98 ?_;rfl
theorem Er (w1 w2:ck)(T:List dc)(hT:iJ T)(a b:Nat)(ha:a<T.length)(hb:b<T.length):fF Tryz.prog 94 #[tx w1 w2,iv a,iv b] ([sl eD w1.1 (kD T),sl eD w2.1 (kE T),tz].map aG) (fun v H'=>∃(m:Int) (ok:Bool),v= .tuple #[iv m,.bool ok,.bool (gE T a b)]∧H'=[]):=by
 refine fF.body (args:=[tx w1 w2,iv a,iv b]) 33 Tryz.func94 rfl Tryz.ntmps94 rfl (fun c=> ?_);refine St.cast (H':=[aG (sl eD w1.1 (kD T)),aG (sl eD w2.1 (kE T)),aG (tz)]) rfl ?_;refine St.seq ?_
 have vT:=hT.len
 have hdl:=HI T
 refine St.rg ?_;refine St.cV (.mk rfl) rfl (fun b3=> ?_);refine St.ak ?_;refine St.ak ?_;refine St.ak ?_;refine St.nn (St.seq ?_);refine St.rq mixed (by kernel_rfl) (Mm.drawn _ _) ?_;refine Sq.ee (Ev.aD (.mk rfl) sg) ?_;refine Sq.ee (Ev.l0 (.mk rfl) eY) ?_;refine Sq.ee (Ev.move (.mk rfl)) ?_;refine Sq.ee (Ev.aR (k:=a) (.mk rfl) (.mk rfl) eY fP (by omega) (by omega)) ?_;refine Sq.ee (Ev.ff (.mk rfl) (tu ha) mg trivial rfl) ?_;refine Sq.ee (Ev.aD (.mk rfl) sg) ?_;refine Sq.ee (Ev.l0 (.mk rfl) eY) ?_;refine Sq.ee (Ev.move (.mk rfl)) ?_;refine Sq.ee (Ev.aR (k:=b) (.mk rfl) (.mk rfl) eY fP (by omega) (by omega)) ?_;refine Sq.ee (Ev.ff (.mk rfl) (tu hb) mg trivial rfl) ?_;refine Sq.ee (Ev.Yn (.mk rfl) (.mk rfl) ⟨pq _ _ vT,pq _ _ vT⟩) ?_;refine Sq.ee (Ev.assign (.mk rfl)) ?_;refine Sq.nil ?_;refine St.aA (St.seq (St.seq ?_));refine St.slot 9 (uv (both T a b)) rfl rfl ?_
 have mh:both T a b<18446744073709551616:=Nat.lt_of_le_of_lt Nat.and_le_left (pq _ _ vT)
 refine St.rg ?_;refine St.mv ?_;refine St.ee Ev.ey ?_;refine St.nn ?_;refine St.cond _ rfl (fun vR=> ?_) (fun vR=> ?_)
 ·try simp only[aC]at vR
  have h0:both T a b=0:=by omega
  refine St.sr ?_;refine St.ak ?_;refine St.ak ?_;refine St.ak ?_;refine St.nn (St.aX (St.aB ?_));refine St.rT [_,_,_] [] Tryz.results94 ⟨rfl,⟨rfl,⟨rfl,trivial⟩⟩⟩ ?_;exact⟨0,false,by rw[Bw h0];rfl,rfl⟩
 ·try simp only[aC]at vR
  have h0:both T a b≠0:=by omega
  obtain⟨zI,vJ⟩:=HL h0 mh
  have K5:Lib.ctz 64 (both T a b)<T.length:=by rw[nQ,Bool.and_eq_true,decide_eq_true_eq]at zI;exact zI.1
  have Wx:=HJ hT zI vJ
  refine St.skip (St.aA (St.sr ?_));refine St.mv ?_;refine St.ee (Ev.call (L4 (both T a b) mh) SQ (.cons (.mk rfl) .nil)) ?_;refine St.ak ?_;refine St.nn (St.seq (St.sr ?_));refine St.ee (Ev.aD (.mk rfl) sg) ?_;refine St.ee (Ev.l0 (.mk rfl) eY) ?_;refine St.mv ?_;refine St.ee (Ev.aR (k:=(Lib.ctz 64 (both T a b))) (.mk rfl) (.mk rfl) eY fP (by omega) (by omega)) ?_;refine St.ee (Ev.ff (.mk rfl) (tu K5) mg trivial rfl) ?_;refine St.mv ?_;refine St.ee Ev.k9 ?_;refine St.nn ?_;refine St.cond _ rfl (fun kO=> ?_) (fun kO=> ?_)
  ·try simp only[aC]at kO
   rw[decide_eq_true (by omega)]at Wx;refine St.sr ?_;refine St.ak ?_;refine St.ak ?_;refine St.ak ?_;refine St.nn (St.aX (St.aB ?_));refine St.rT [_,_,_] [] Tryz.results94 ⟨rfl,⟨rfl,⟨rfl,trivial⟩⟩⟩ ?_;exact⟨0,false,by rw[Wx];rfl,rfl⟩
  ·try simp only[aC]at kO
   rw[decide_eq_false (by omega)]at Wx;refine St.skip (St.aA (St.sr ?_));refine St.mv ?_;refine St.ak ?_;refine St.ak ?_;refine St.ak ?_;refine St.nn (St.aX ?_);refine St.rT [_,_,_] [] Tryz.results94 ⟨rfl,⟨rfl,⟨rfl,trivial⟩⟩⟩ ?_;exact⟨(Lib.ctz 64 (both T a b):Nat),true,by rw[Wx];rfl,rfl⟩
end Go.Proofs.YtolmidffiegkaaaGreatDoor
