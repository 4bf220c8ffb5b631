/-
  Laws of walks through programs, and facts on grammars, trees and queries.
  Conditions: none.
-/
import Derived.Test.YtolmidffiegkaaaGreatDoorGB2
import Derived.Test.YtolmidffiegkaaaGreatDoorGB1
import Derived.Lib.SliceRun
import Derived.Shelf.Spec.TrailingZeros
import Derived.Test.YtolmidffiegkaaaGreatDoorChecked
set_option maxRecDepth 20000
set_option linter.unusedSimpArgs false
set_option linter.unusedVariables false
namespace Go.Proofs.YtolmidffiegkaaaGreatDoor
open Go Go.J
theorem Jz:∀(x:dU) (d n:Nat),n≤200→(fq x d n).1≤201:=by
 intro x;refine dU.rec (motive_1:=fun x=>∀d n,n≤200→(fq x d n).1≤201) (motive_2:=fun l=>∀d n,n≤200→(gJ l d n).1≤201) ?_ ?_ ?_ x
 ·intro b l ih d n hn
  rw[fq]
  split
  ·show n+1≤201;omega
  ·split
   ·show n+1≤201;omega
   ·exact ih _ _ (by omega)
 ·intro d n h;show n≤201;omega
 ·intro x l AH xK d n h
  rw[gJ]
  split
  ·exact AH d n h
  ·rename_i h1
   exact xK _ _ (xL x d n (Decidable.not_not.1 h1)).2.2
theorem Au {l:List dU}{k:Nat}{y:dU}(h:l[k]?=some y)(d n:Nat):gJ (l.drop k) d n=if(fq y d n).2≠0 then fq y d n else gJ (l.drop (k+1)) d (fq y d n).1:=by rw[bf h,gJ]
theorem Dr {l:List dU}{k:Nat}(h:l.length≤k)(d n:Nat):gJ (l.drop k) d n=(n,0):=by rw[List.drop_of_length_le h,gJ]
theorem yo {b:cV}{m:Nat}(h:dN b m=true):m≤2:=by
 unfold dN at h
 simp only[Bool.or_eq_true,Bool.and_eq_true,decide_eq_true_eq]at h
 rcases h with⟨_,h⟩|⟨_,h⟩<;>omega
theorem yp (b:cV)(m:Nat):(((b==([101]:cV))||(b==([116]:cV)))&&decide ((m:Int)=0)||((b==([]:cV))&&decide ((m:Int)=2)))=dN b m:=by
 unfold dN;rw[Bool.eq_iff_iff]
 simp only[Bool.or_eq_true,Bool.and_eq_true,beq_iff_eq,decide_eq_true_eq]
 constructor
 ·rintro (⟨h,k⟩|⟨h,k⟩)
  ·exact .inl ⟨h,by omega⟩
  ·exact .inr ⟨h,by omega⟩
 ·rintro (⟨h,k⟩|⟨h,k⟩)
  ·exact .inl ⟨h,by omega⟩
  ·exact .inr ⟨h,by omega⟩
theorem jl (s:cV)(hs:s.length≤9223372036854775807):cz Tryz.prog 25 #[sv s] [] (.bool (isName s)):=by
 refine cz.kI (args:=[sv s]) 55 Tryz.func25 rfl Tryz.ntmps25 rfl (fun c=> ?_);refine St.sr ?_;refine St.ar ?_;refine St.nn (St.seq (St.sr ?_));refine St.mv ?_;refine St.ee (Ev.ko (.mk rfl) eG) ?_;refine St.ee Ev.fa ?_;refine St.mv ?_;refine St.gf _ rfl rfl (fun hg=>Ev.move (.mk rfl)) rfl ?_;refine St.gf _ rfl rfl (fun hg=>Ev.ko (aL.gv rfl hg) eG) rfl ?_;refine St.gf _ rfl rfl (fun hg=>Ev.gtr (aL.gv rfl hg) (.mk rfl)) rfl ?_;refine St.ee Ev.o0 ?_;refine St.mv ?_;refine St.gf _ rfl rfl (fun hg=>Ev.move (.mk rfl)) rfl ?_;refine St.gf _ rfl rfl (fun hg=>Ev.gE (k:=0) (aL.gv rfl hg) (.mk rfl) eG rfl (by first|omega|(simp only[aC]at hg;omega))) rfl ?_;refine St.gf _ rfl rfl (fun hg=>Ev.lss (aL.gv rfl hg) (.mk rfl)) rfl ?_;refine St.ee Ev.o0 ?_;refine St.mv ?_;refine St.gf _ rfl rfl (fun hg=>Ev.move (.mk rfl)) rfl ?_;refine St.gf _ rfl rfl (fun hg=>Ev.gE (k:=0) (aL.gv rfl hg) (.mk rfl) eG rfl (by first|omega|(simp only[aC]at hg;omega))) rfl ?_;refine St.gf _ rfl rfl (fun hg=>Ev.gtr (aL.gv rfl hg) (.mk rfl)) rfl ?_;refine St.ee Ev.o0 ?_;refine St.nn ?_;refine St.cond _ rfl (fun uf=> ?_) (fun uf=> ?_)
 ·try simp only[aC]at uf
  refine St.sr ?_;refine St.ar ?_;refine St.nn (St.ab (St.aB ?_));refine St.rU [_] [] Tryz.results25 ?_;exact be (j3 (by omega)).symm
 ·try simp only[aC]at uf
  refine St.skip (St.aA (St.seq (St.sr ?_)));refine St.mv ?_;refine St.ee (Ev.ko (.mk rfl) eG) ?_;refine St.mv ?_;refine St.nn (St.block ?_);refine St.lS (ι:=Nat) (fun k T=>(25,iv k)::T) (fun k=>k≤s.length∧(s.take k).all eh=true) (fun k=>s.length-k) 0 (aE.cons 0 rfl (aE.cons 24 rfl aE.nil)) ⟨Nat.zero_le _,rfl⟩ ?_;intro k dK;obtain⟨hk,fE⟩:=dK;refine St.sr ?_;refine St.ee Ev.dz ?_;refine St.nn (St.seq ?_);refine St.cond _ rfl (fun En=> ?_) (fun En=> ?_)
  ·try simp only[aC]at En
   refine St.skip (St.aA (St.seq (St.block (St.sr ?_))));refine St.mv ?_;refine St.ar ?_;refine St.nn (St.sr ?_);refine St.mv ?_;refine St.mv ?_;refine St.ee (Ev.gE (.mk rfl) (.mk rfl) eG rfl (by omega)) ?_;refine St.ar ?_;refine St.nn (St.sr ?_);refine St.mv ?_;refine St.ee Ev.ra ?_;refine St.mv ?_;refine St.gt _ rfl rfl (fun hg=>Ev.move (.mk rfl)) rfl ?_;refine St.gt _ rfl rfl (fun hg=>Ev.leq (aL.gv rfl hg) (.mk rfl)) rfl ?_;refine St.ee Ev.n0 ?_;refine St.mv ?_;refine St.gf _ rfl rfl (fun hg=>Ev.move (.mk rfl)) rfl ?_;refine St.gf _ rfl rfl (fun hg=>Ev.geq (aL.gv rfl hg) (.mk rfl)) rfl ?_;refine St.gf _ rfl rfl (fun hg=>Ev.move (aL.gv rfl hg)) rfl ?_;refine St.yD _ rfl rfl (fun hg=>Ev.move (.mk rfl)) rfl ?_;refine St.yD _ rfl rfl (fun hg=>Ev.leq (aL.gv rfl hg) (.mk rfl)) rfl ?_;refine St.gf _ rfl rfl (fun hg=>Ev.and (aL.gv rfl hg) (fun hp=>aL.gv rfl (kH hg hp))) rfl ?_;refine St.ee Ev.o0 ?_;refine St.mv ?_;refine St.gf _ rfl rfl (fun hg=>Ev.move (.mk rfl)) rfl ?_;refine St.gf _ rfl rfl (fun hg=>Ev.eql (aL.gv rfl hg) (.mk rfl)) rfl ?_;refine St.ee Ev.o0 ?_;refine St.mv ?_;refine St.gf _ rfl rfl (fun hg=>Ev.move (.mk rfl)) rfl ?_;refine St.gf _ rfl rfl (fun hg=>Ev.eql (aL.gv rfl hg) (.mk rfl)) rfl ?_;refine St.ee Ev.o0 ?_;refine St.ee (Ev.not (.mk rfl)) ?_;refine St.nn ?_;refine St.cond _ rfl (fun CV=> ?_) (fun CV=> ?_)
   ·try simp only[aC]at CV
    refine St.sr ?_;refine St.ar ?_;refine St.nn (St.ab (St.aN (St.aB (St.aB (St.aN (St.aB ?_))))));refine St.rU [_] [] Tryz.results25 ?_;exact be (mh (k:=k) (by omega) (by simp only[eh,low,digit,Bool.and_eq_false_iff,Bool.or_eq_false_iff,decide_eq_false_iff_not];omega)).symm
   ·try simp only[aC]at CV
    refine St.skip (St.aO (St.aA (St.rg ?_)));refine St.ee Ev.a0 ?_;refine St.mv ?_;refine St.nn ?_;refine St.aS (k+1) ⟨by omega,l5 (d:=0) fE (by simp only[eh,low,digit,Bool.and_eq_true,Bool.or_eq_true,decide_eq_true_eq];exact CV)⟩
  ·try simp only[aC]at En
   refine St.exit (St.aI (St.aI (St.bM (St.aA (St.sr ?_)))));refine St.ar ?_;refine St.nn (St.ab ?_);refine St.rU [_] [] Tryz.results25 ?_;exact be (mi (by omega) (by omega) (by simp only[low,Bool.and_eq_true,decide_eq_true_eq];omega) (mg fE (by omega))).symm
theorem cv (a b:Int):cz Tryz.prog 24 #[iv a,iv b] [] (fv (a,b)):=by
 refine cz.kI (args:=[iv a,iv b]) 8 Tryz.func24 rfl Tryz.ntmps24 rfl (fun c=> ?_);refine St.sr ?_;refine St.alloc dC rfl (fun b4=> ?_);refine St.nn (St.sr ?_);refine St.mv ?_;refine St.mv ?_;refine St.ee (Ev.build (ps:=[(0,(.tmp 5)),(1,(.tmp 6))]) (aV.cons (aL.mk rfl) (aV.cons (aL.mk rfl) aV.nil)) (fun w=>bO rfl rfl w)) ?_;refine St.sA (.mk rfl) (.mk rfl) bC ?_;refine St.nn (St.ab ?_);refine St.rU [_] [] Tryz.results24 ?_;rfl
theorem dc (a b:Int):cz Tryz.prog 65 #[iv a,iv b] [] (fv (a,b)):=by
 refine cz.kI (args:=[iv a,iv b]) 8 Tryz.func65 rfl Tryz.ntmps65 rfl (fun c=> ?_);refine St.sr ?_;refine St.alloc dC rfl (fun b4=> ?_);refine St.nn (St.sr ?_);refine St.mv ?_;refine St.mv ?_;refine St.ee (Ev.build (ps:=[(0,(.tmp 5)),(1,(.tmp 6))]) (aV.cons (aL.mk rfl) (aV.cons (aL.mk rfl) aV.nil)) (fun w=>bO rfl rfl w)) ?_;refine St.sA (.mk rfl) (.mk rfl) bC ?_;refine St.nn (St.ab ?_);refine St.rU [_] [] Tryz.results65 ?_;rfl
theorem eN (a b:Int):cz Tryz.prog 71 #[iv a,iv b] [] (fv (a,b)):=by
 refine cz.kI (args:=[iv a,iv b]) 8 Tryz.func71 rfl Tryz.ntmps71 rfl (fun c=> ?_);refine St.sr ?_;refine St.alloc dC rfl (fun b4=> ?_);refine St.nn (St.sr ?_);refine St.mv ?_;refine St.mv ?_;refine St.ee (Ev.build (ps:=[(0,(.tmp 5)),(1,(.tmp 6))]) (aV.cons (aL.mk rfl) (aV.cons (aL.mk rfl) aV.nil)) (fun w=>bO rfl rfl w)) ?_;refine St.sA (.mk rfl) (.mk rfl) bC ?_;refine St.nn (St.ab ?_);refine St.rU [_] [] Tryz.results71 ?_;rfl
theorem cH (a b:Int):cz Tryz.prog 92 #[iv a,iv b] [] (fv (a,b)):=by
 refine cz.kI (args:=[iv a,iv b]) 8 Tryz.func92 rfl Tryz.ntmps92 rfl (fun c=> ?_);refine St.sr ?_;refine St.alloc dC rfl (fun b4=> ?_);refine St.nn (St.sr ?_);refine St.mv ?_;refine St.mv ?_;refine St.ee (Ev.build (ps:=[(0,(.tmp 5)),(1,(.tmp 6))]) (aV.cons (aL.mk rfl) (aV.cons (aL.mk rfl) aV.nil)) (fun w=>bO rfl rfl w)) ?_;refine St.sA (.mk rfl) (.mk rfl) bC ?_;refine St.nn (St.ab ?_);refine St.rU [_] [] Tryz.results92 ?_;rfl
theorem eb (a b:Int):cz Tryz.prog 99 #[iv a,iv b] [] (fv (a,b)):=by
 refine cz.kI (args:=[iv a,iv b]) 8 Tryz.func99 rfl Tryz.ntmps99 rfl (fun c=> ?_);refine St.sr ?_;refine St.alloc dC rfl (fun b4=> ?_);refine St.nn (St.sr ?_);refine St.mv ?_;refine St.mv ?_;refine St.ee (Ev.build (ps:=[(0,(.tmp 5)),(1,(.tmp 6))]) (aV.cons (aL.mk rfl) (aV.cons (aL.mk rfl) aV.nil)) (fun w=>bO rfl rfl w)) ?_;refine St.sA (.mk rfl) (.mk rfl) bC ?_;refine St.nn (St.ab ?_);refine St.rU [_] [] Tryz.results99 ?_;rfl
theorem vV (x:cT):cz Tryz.prog 120 #[aP x] [bW x] (.bool (gr (bI x))):=by
 refine cz.iL (args:=[aP x]) 12 Tryz.func120 rfl Tryz.ntmps120 rfl (fun c=> ?_);refine St.sr ?_;refine St.cX (.mk rfl) rfl (fun b1=> ?_);refine St.ar ?_;refine St.nn (St.seq ?_);refine St.jb x ?_;refine St.rg ?_;refine St.ee (Ev.aD (.mk rfl) ij) ?_;refine St.ee (Ev.l0 (.mk rfl) eG) ?_;refine St.ee (Ev.j1 (.mk rfl) (.mk rfl)) ?_;refine St.mv ?_;refine St.gt _ rfl rfl (fun hg=>Ev.aD (.mk rfl) eY) rfl ?_;refine St.gt _ rfl rfl (fun hg=>Ev.cS (aL.gv rfl hg) dG trivial (by rfl)) rfl ?_;refine St.gt _ rfl rfl (fun hg=>Ev.au (aL.gv rfl hg) dG) rfl ?_;refine St.gt _ rfl rfl (fun hg=>Ev.eql (aL.gv rfl hg) (.mk rfl)) rfl ?_;refine St.ee Ev.n0 ?_;refine St.ar ?_;refine St.nn (St.ab ?_);refine St.rU [_] [] Tryz.results120 ?_;exact be (by rw[gr,fT,dA,List.length_map,Bool.eq_iff_iff];simp only[Bool.and_eq_true,beq_iff_eq,decide_eq_true_eq];exact⟨fun h=>⟨h.1,by have:=h.2;omega⟩,fun h=>⟨h.1,by have:=h.2;omega⟩⟩)
set_option maxHeartbeats 1000000 in
theorem xN (bn bw tw:Nat):∀(x:cT) (d n:Nat),d≤100→n≤200→fC Tryz.prog 138 ([aP x,iv (d:Nat)]++ [Value.pointer (some ⟨bn,0,none⟩),Value.pointer (some ⟨bw,0,none⟩)]).toArray [aF (bW x),ae bn (.cells [iv (n:Nat)].toArray 3 (0,0)),ae bw (.cells [(.func (.func 138) #[] [Value.pointer (some ⟨bn,0,none⟩),Value.pointer (some ⟨bw,0,none⟩)].toArray)].toArray tw (0,0))] (fun v H'=>v=iv (fq (bI x) d n).2∧H'=[ae bn (.cells [iv ((fq (bI x) d n).1:Nat)].toArray 3 (0,0)),ae bw (.cells [(.func (.func 138) #[] [Value.pointer (some ⟨bn,0,none⟩),Value.pointer (some ⟨bw,0,none⟩)].toArray)].toArray tw (0,0))]):=by
 intro x
 induction x using cT.ind
 rename_i x ih
 intro d n hd hn;refine fC.body (args:=[aP x,iv (d:Nat)]++ [Value.pointer (some ⟨bn,0,none⟩),Value.pointer (some ⟨bw,0,none⟩)]) 62 Tryz.func138 rfl Tryz.ntmps138 rfl (fun c=> ?_);refine St.seq ?_
 have cp:=s7 (bI x) d n
 rw[fT,dA,List.length_map]at cp;refine St.jb x ?_;refine St.rg ?_;refine St.cX (.mk rfl) rfl (fun b4=> ?_);refine St.ar ?_;refine St.nn (St.sr ?_);refine St.ee (Ev.l0 (.mk rfl) bP) ?_;refine St.ee Ev.a0 ?_;refine St.cR (.mk rfl) (.mk rfl) cr rfl (by rfl) ?_;refine St.gS bn (L':=[iv ((n+1:Nat):Int)]) rfl ?_;refine St.nn (St.seq (St.sr ?_));refine St.ee (Ev.l0 (.mk rfl) bP) ?_;refine St.ee Ev.s5 ?_;refine St.mv ?_;refine St.gf _ rfl rfl (fun hg=>Ev.move (.mk rfl)) rfl ?_;refine St.gf _ rfl rfl (fun hg=>Ev.gtr (aL.gv rfl hg) (.mk rfl)) rfl ?_;refine St.ee Ev.o0 ?_;refine St.nn ?_;refine St.cond _ rfl (fun fM=> ?_) (fun fM=> ?_)
 ·try simp only[aC]at fM
  rw[if_pos (by omega)]at cp;refine St.sr ?_;refine St.ar ?_;refine St.nn (St.ab (St.aB ?_));refine St.rU [_] [ae bn (.cells [iv ((n+1):Nat)].toArray 3 (0,0)),ae bw (.cells [(.func (.func 138) #[] [Value.pointer (some ⟨bn,0,none⟩),Value.pointer (some ⟨bw,0,none⟩)].toArray)].toArray tw (0,0))] Tryz.results138 ?_
  rw[cp];exact⟨rfl,rfl⟩
 ·try simp only[aC]at fM
  rw[if_neg (by omega)]at cp;refine St.skip (St.aA (St.sr ?_));refine St.ee (Ev.aD (.mk rfl) ij) ?_;refine St.ee (Ev.l0 (.mk rfl) eG) ?_;refine St.ee (Ev.j1 (.mk rfl) (.mk rfl)) ?_;refine St.mv ?_;refine St.gf _ rfl rfl (fun hg=>Ev.aD (.mk rfl) ij) rfl ?_;refine St.gf _ rfl rfl (fun hg=>Ev.cS (aL.gv rfl hg) eG trivial (by rfl)) rfl ?_;refine St.gf _ rfl rfl (fun hg=>Ev.j1 (aL.gv rfl hg) (.mk rfl)) rfl ?_;refine St.ee Ev.o0 ?_;refine St.ar ?_;refine St.nn (St.seq (St.sr ?_));refine St.mv ?_;refine St.mv ?_;refine St.gt _ rfl rfl (fun hg=>Ev.aD (.mk rfl) eY) rfl ?_;refine St.gt _ rfl rfl (fun hg=>Ev.cS (aL.gv rfl hg) dG trivial (by rfl)) rfl ?_;refine St.gt _ rfl rfl (fun hg=>Ev.au (aL.gv rfl hg) dG) rfl ?_;refine St.gt _ rfl rfl (fun hg=>Ev.eql (aL.gv rfl hg) (.mk rfl)) rfl ?_;refine St.ee Ev.n0 ?_;refine St.mv ?_;refine St.gf _ rfl rfl (fun hg=>Ev.aD (.mk rfl) ij) rfl ?_;refine St.gf _ rfl rfl (fun hg=>Ev.cS (aL.gv rfl hg) eG trivial (by rfl)) rfl ?_;refine St.gf _ rfl rfl (fun hg=>Ev.j1 (aL.gv rfl hg) (.mk rfl)) rfl ?_;refine St.gf _ rfl rfl (fun hg=>Ev.move (aL.gv rfl hg)) rfl ?_;refine St.yD _ rfl rfl (fun hg=>Ev.aD (.mk rfl) eY) rfl ?_;refine St.yD _ rfl rfl (fun hg=>Ev.cS (aL.gv rfl hg) dG trivial (by rfl)) rfl ?_;refine St.yD _ rfl rfl (fun hg=>Ev.au (aL.gv rfl hg) dG) rfl ?_;refine St.yD _ rfl rfl (fun hg=>Ev.eql (aL.gv rfl hg) (.mk rfl)) rfl ?_;refine St.gf _ rfl rfl (fun hg=>Ev.and (aL.gv rfl hg) (fun hp=>aL.gv rfl (kH hg hp))) rfl ?_;refine St.ee Ev.o0 ?_;refine St.ee (Ev.not (.mk rfl)) ?_;refine St.nn ?_;refine St.cond _ rfl (fun vW=> ?_) (fun vW=> ?_)
  ·rw[yp]at vW
   rw[if_pos (by simpa using vW)]at cp;refine St.sr ?_;refine St.ar ?_;refine St.nn (St.ab (St.aB ?_));refine St.rU [_] [ae bn (.cells [iv ((n+1):Nat)].toArray 3 (0,0)),ae bw (.cells [(.func (.func 138) #[] [Value.pointer (some ⟨bn,0,none⟩),Value.pointer (some ⟨bw,0,none⟩)].toArray)].toArray tw (0,0))] Tryz.results138 ?_
   rw[cp];exact⟨rfl,rfl⟩
  ·rw[yp]at vW
   have Py:=yo (show dN x.base x.args.length=true by simpa using vW)
   rw[if_neg (by simpa using vW)]at cp;refine St.skip (St.aA (St.seq (St.sr ?_)));refine St.ee (Ev.aD (.mk rfl) eY) ?_;refine St.ee (Ev.l0 (.mk rfl) dG) ?_;refine St.ee (Ev.au (.mk rfl) dG) ?_;refine St.mv ?_;refine St.nn (St.block ?_);refine St.my (ι:=Nat) (κ:=Nat) (fun k z T=>(49,iv k)::T) (fun k z=>[ae bn (.cells [iv (z:Nat)].toArray 3 (0,0)),ae bw (.cells [(.func (.func 138) #[] [Value.pointer (some ⟨bn,0,none⟩),Value.pointer (some ⟨bw,0,none⟩)].toArray)].toArray tw (0,0)),aF (sl gT x.av.1 x.args),aF (aX bW x.args)]) (fun k z=>k≤x.args.length∧z≤200∧gJ (x.args.map bI) (d+1) (n+1)=gJ ((x.args.map bI).drop k) (d+1) z) (fun k z=>x.args.length-k) 0 (n+1) (aE.cons 1 rfl (aE.cons 3 rfl (aE.cons 47 rfl (aE.cons 48 rfl aE.nil)))) ⟨Nat.zero_le _,by omega,rfl⟩ ?_;rintro k z ⟨hk,hz,uO⟩;refine St.sr ?_;refine St.ee Ev.dz ?_;refine St.nn (St.seq ?_);refine St.cond _ rfl (fun G7=> ?_) (fun G7=> ?_)
   ·try simp only[aC]at G7
    obtain⟨y,hy⟩:=aQ (show k<x.args.length by omega)
    have lY:=List.mem_of_getElem? hy
    have iU:=Au (l:=x.args.map bI) (k:=k) (y:=bI y) (by rw[List.getElem?_map,hy];rfl) (d+1) z
    refine St.cC bW x.args (x:=y) lY ?_
    have hle:=Jz (bI y) (d+1) z hz
    refine St.skip (St.aA (St.seq (St.block (St.sr ?_))));refine St.ee (Ev.aR (k:=k) (.mk rfl) (.mk rfl) dG bD (by omega) (by omega)) ?_;refine St.ee (Ev.fg (.mk rfl) hy bX trivial bD en.eq) ?_;refine St.alloc iA rfl (fun b9=> ?_);refine St.sA (.mk rfl) (.mk rfl) bD ?_ (h1:=(by simp only[List.all_cons,List.all_nil,Bool.and_true,Bool.and_eq_true];exact⟨rfl,y.av.2⟩));refine St.nn (St.sr ?_);refine St.ee (Ev.l0 (.mk rfl) Tryz.underlying211) ?_;refine St.ee (Ev.bH (.mk rfl) bX trivial (by exact bD)) ?_;refine St.mv ?_;refine St.ee Ev.a0 ?_;refine St.slot 56 (iv ((d+1:Nat):Int)) rfl rfl ?_;refine St.dR (ih y lY (d+1) z (by omega) hz) MG (.mk rfl) (.cons (.mk rfl) (.cons (.mk rfl) .nil)) rfl ?_;rintro v57 _ ⟨rfl,rfl⟩;refine St.ca ?_;refine St.ar ?_;refine St.nn (St.sr ?_);refine St.mv ?_;refine St.ee Ev.jj ?_;refine St.nn ?_;refine St.cond _ rfl (fun Rf=> ?_) (fun Rf=> ?_)
    ·try simp only[aC]at Rf
     refine St.sr ?_;refine St.mv ?_;refine St.ar ?_;refine St.nn (St.ab (St.aN (St.aB (St.aB (St.aN (St.aB ?_))))));refine St.rU [_] [ae bn (.cells [iv ((fq (bI y) (d+1) z).1:Nat)].toArray 3 (0,0)),ae bw (.cells [(.func (.func 138) #[] [Value.pointer (some ⟨bn,0,none⟩),Value.pointer (some ⟨bw,0,none⟩)].toArray)].toArray tw (0,0))] Tryz.results138 ?_
     rw[cp,uO,iU,if_pos (by omega)];exact⟨rfl,rfl⟩
    ·try simp only[aC]at Rf
     refine St.skip (St.aO (St.aA (St.rg ?_)));refine St.ee Ev.a0 ?_;refine St.mv ?_;refine St.nn ?_
     have MP:=(xL (bI y) (d+1) z (by omega)).2.2
     refine St.ji (k+1) (fq (bI y) (d+1) z).1 ⟨by omega,MP,by rw[uO,iU,if_neg (by omega)]⟩
   ·try simp only[aC]at G7
    rw[Dr (by rw[List.length_map];omega)]at uO;refine St.exit (St.aI (St.aI (St.bM (St.aA (St.sr ?_)))));refine St.ar ?_;refine St.nn (St.ab ?_);refine St.rU [_] [ae bn (.cells [iv (z:Nat)].toArray 3 (0,0)),ae bw (.cells [(.func (.func 138) #[] [Value.pointer (some ⟨bn,0,none⟩),Value.pointer (some ⟨bw,0,none⟩)].toArray)].toArray tw (0,0))] Tryz.results138 ?_
    rw[cp,uO];exact⟨rfl,rfl⟩
theorem rB (x:cT):cz Tryz.prog 119 #[aP x] [bW x] (fv (jc (bI x),0)):=by
 refine cz.iL (args:=[aP x]) 10 Tryz.func119 rfl Tryz.ntmps119 rfl (fun c=> ?_);refine St.sr ?_;refine St.cX (.mk rfl) rfl (fun b1=> ?_);refine St.alloc dC rfl (fun b2=> ?_);refine St.nn (St.sr ?_);refine St.alloc MH rfl (fun b3=> ?_);refine St.cR (.mk rfl) (.mk rfl) cr rfl (by rfl) ?_;refine St.gS b3 (L':=[iv ((0:Nat):Int)]) rfl ?_;refine St.nn (St.sr ?_);refine St.alloc RH rfl (fun b4=> ?_);refine St.nn (St.sr ?_);refine St.ee (Ev.func (.cons (.mk rfl) (.cons (.mk rfl) .nil))) ?_;refine St.cR (.mk rfl) (.mk rfl) RI rfl (by rfl) ?_;refine St.nn (St.sr ?_);refine St.ee (Ev.l0 (.mk rfl) Tryz.underlying211) ?_;refine St.ee (Ev.bH (.mk rfl) bX trivial (by exact bD)) ?_;refine St.dR (xN b3 b4 211 x 1 0 (by omega) (by omega)) MG (.mk rfl) (.cons (.mk rfl) (.cons (.mk rfl) .nil)) rfl ?_;rintro v8 _ ⟨rfl,rfl⟩;refine St.ca ?_;refine St.ee (Ev.build (ps:=[(0,(.tmp 8))]) (aV.cons (aL.mk rfl) aV.nil) (fun w=>Ju rfl w)) ?_;refine St.sA (.mk rfl) (.mk rfl) bC ?_;refine St.nn (St.ab ?_);refine St.rU [_] [] Tryz.results119 ?_;rfl
theorem G8 (x y:dU):fZ x y=(decide (x.base=y.base)&&decide (x.args.length=y.args.length)&&jF x.args y.args):=by cases x;cases y;rw[fZ];rfl
theorem yq {l m:List dU}{k:Nat}{x y:dU}(hx:l[k]?=some x)(hy:m[k]?=some y):jF (l.drop k) (m.drop k)=(fZ x y&&jF (l.drop (k+1)) (m.drop (k+1))):=by rw[bf hx,bf hy,jF]
theorem Av {l m:List dU}{k:Nat}(h:l.length≤k):jF (l.drop k) (m.drop k)=true:=by rw[List.drop_of_length_le h,jF];intro _ _ _ _ h;cases h
theorem Ds:∀(x y:cT),cz Tryz.prog 139 #[aP x,aP y] [bW x,bW y] (.bool (fZ (bI x) (bI y))):=by
 intro x
 induction x using cT.ind
 rename_i x ih
 intro y;refine cz.o7 (args:=[aP x,aP y]) 39 Tryz.func139 rfl Tryz.ntmps139 rfl (fun c=> ?_);refine St.seq ?_
 have hs:=G8 (bI x) (bI y)
 rw[fT,fT,dA,dA,List.length_map,List.length_map]at hs;refine St.jb x ?_;refine St.jb y ?_;refine St.wf x.av.1 (fun lX sO=> ?_);refine St.rg ?_;refine St.cX (.mk rfl) rfl (fun b2=> ?_);refine St.cX (.mk rfl) rfl (fun b3=> ?_);refine St.ar ?_;refine St.nn (St.seq (St.sr ?_));refine St.ee (Ev.aD (.mk rfl) ij) ?_;refine St.ee (Ev.l0 (.mk rfl) eG) ?_;refine St.ee (Ev.aD (.mk rfl) ij) ?_;refine St.ee (Ev.l0 (.mk rfl) eG) ?_;refine St.ee (Ev.oz (.mk rfl) (.mk rfl)) ?_;refine St.mv ?_;refine St.gf _ rfl rfl (fun hg=>Ev.aD (.mk rfl) eY) rfl ?_;refine St.gf _ rfl rfl (fun hg=>Ev.cS (aL.gv rfl hg) dG trivial (by rfl)) rfl ?_;refine St.gf _ rfl rfl (fun hg=>Ev.au (aL.gv rfl hg) dG) rfl ?_;refine St.gf _ rfl rfl (fun hg=>Ev.aD (.mk rfl) eY) rfl ?_;refine St.gf _ rfl rfl (fun hg=>Ev.cS (aL.gv rfl hg) dG trivial (by rfl)) rfl ?_;refine St.gf _ rfl rfl (fun hg=>Ev.au (aL.gv rfl hg) dG) rfl ?_;refine St.gf _ rfl rfl (fun hg=>Ev.neq (aL.gv rfl hg) (aL.gv rfl hg)) rfl ?_;refine St.ee Ev.o0 ?_;refine St.nn ?_;refine St.cond _ rfl (fun gP=> ?_) (fun gP=> ?_)
 ·try simp only[aC]at gP
  refine St.sr ?_;refine St.ar ?_;refine St.nn (St.ab (St.aB ?_));refine St.rU [_] [] Tryz.results139 ?_;exact be (by rw[hs];rcases gP with h|h<;>simp[h]<;>omega)
 ·try simp only[aC]at gP
  obtain⟨hb,hl⟩:x.base=y.base∧x.args.length=y.args.length:=⟨by simpa using gP.1,by have:=gP.2;omega⟩
  rw[hb,hl,decide_eq_true rfl,decide_eq_true rfl,Bool.true_and,Bool.true_and]at hs;refine St.skip (St.aA (St.seq (St.sr ?_)));refine St.ee (Ev.aD (.mk rfl) eY) ?_;refine St.ee (Ev.l0 (.mk rfl) dG) ?_;refine St.ee (Ev.au (.mk rfl) dG) ?_;refine St.mv ?_;refine St.nn (St.block ?_);refine St.lS (ι:=Nat) (fun k T=>(23,iv k)::T) (fun k=>k≤x.args.length∧jF (x.args.map bI) (y.args.map bI)=jF ((x.args.map bI).drop k) ((y.args.map bI).drop k)) (fun k=>x.args.length-k) 0 (aE.cons 2 rfl (aE.cons 3 rfl (aE.cons 22 rfl aE.nil))) ⟨Nat.zero_le _,rfl⟩ ?_;intro k dK;obtain⟨hk,hv⟩:=dK;refine St.sr ?_;refine St.ee Ev.dz ?_;refine St.nn (St.seq ?_);refine St.cond _ rfl (fun ob=> ?_) (fun ob=> ?_)
  ·try simp only[aC]at ob
   obtain⟨u,hu⟩:=aQ (show k<x.args.length by omega);obtain⟨w,hw⟩:=aQ (show k<y.args.length by omega);refine St.cC bW x.args (x:=u) (List.mem_of_getElem? hu) ?_;refine St.cC bW y.args (x:=w) (List.mem_of_getElem? hw) ?_
   have iU:=yq (l:=x.args.map bI) (m:=y.args.map bI) (k:=k) (x:=bI u) (y:=bI w) (by rw[List.getElem?_map,hu];rfl) (by rw[List.getElem?_map,hw];rfl)
   refine St.skip (St.aA (St.seq (St.block (St.sr ?_))));refine St.mv ?_;refine St.ar ?_;refine St.nn (St.seq ?_);refine St.rq mixed (by kernel_rfl) (Mm.drawn _ _) ?_;refine Sq.ee (Ev.aD (.mk rfl) eY) ?_;refine Sq.ee (Ev.l0 (.mk rfl) dG) ?_;refine Sq.ee (Ev.move (.mk rfl)) ?_;refine Sq.ee (Ev.aR (k:=k) (.mk rfl) (.mk rfl) dG bD (by omega) (by omega)) ?_;refine Sq.ee (Ev.fg (.mk rfl) hu bX trivial bD en.eq) ?_;refine Sq.ee (Ev.aD (.mk rfl) eY) ?_;refine Sq.ee (Ev.l0 (.mk rfl) dG) ?_;refine Sq.ee (Ev.move (.mk rfl)) ?_;refine Sq.ee (Ev.aR (k:=k) (.mk rfl) (.mk rfl) dG bD (by omega) (by omega)) ?_;refine Sq.ee (Ev.fg (.mk rfl) hw bX trivial bD en.eq) ?_;refine Sq.ee (Ev.call (ih u (List.mem_of_getElem? hu) w) MI (.cons (.mk rfl) (.cons (.mk rfl) .nil))) ?_;refine Sq.ee (Ev.not (.mk rfl)) ?_;refine Sq.nil ?_;refine St.aA ?_;refine St.cond _ rfl (fun yr=> ?_) (fun yr=> ?_)
   ·skip
    refine St.sr ?_;refine St.ar ?_;refine St.nn (St.ab (St.aN (St.aB (St.aB (St.aN (St.aB ?_))))));refine St.rU [_] [] Tryz.results139 ?_;exact be (by rw[hs,hv,iU,show fZ (bI u) (bI w)=false by simpa using yr];rfl)
   ·skip
    refine St.skip (St.aO (St.aA (St.rg ?_)));refine St.ee Ev.a0 ?_;refine St.mv ?_;refine St.nn ?_;refine St.aS (k+1) ⟨by omega,by rw[hv,iU,show fZ (bI u) (bI w)=true by simpa using yr,Bool.true_and]⟩
  ·try simp only[aC]at ob
   rw[Av (by rw[List.length_map];omega)]at hv;refine St.exit (St.aI (St.aI (St.bM (St.aA (St.sr ?_)))));refine St.ar ?_;refine St.nn (St.ab ?_);refine St.rU [_] [] Tryz.results139 ?_;exact be (by rw[hs,hv])
theorem xO (x:cD)(b:Nat):jN (ax x) b=gK x.kind x.name x.index (bI x.type) x.args.length b:=by
 cases x with
 |mk k s i t v l=>rw[lW];show gK k s i (bI t) (l.map ax).length b=_;rw[List.length_map];rfl
theorem m7 (x:cD):(ax x).kind=x.kind:=by cases x;rfl
theorem Xk (nm:cV)(ix:Int)(tp:dU)(m b:Nat):gK 1 nm ix tp m b=if ix≠0∨m≠0 then 5 else if isName nm=false then 10 else if jc tp≠0 then 12 else 0:=by unfold gK;rw[if_pos rfl]
theorem Xl (nm:cV)(ix:Int)(tp:dU)(m b:Nat):gK 2 nm ix tp m b=if nm≠ []∨gr tp=false∨m≠0 then 5 else if ix<0∨(b:Int)≤ix then 15 else 0:=by unfold gK;rw[if_neg (by decide),if_pos rfl]
theorem Xm (nm:cV)(ix:Int)(tp:dU)(m b:Nat):gK 3 nm ix tp m b=if nm≠ []∨ix≠0∨m≠1 then 5 else if jc tp≠0 then 12 else 0:=by unfold gK;rw[if_neg (by decide),if_neg (by decide),if_pos rfl]
theorem Xn (nm:cV)(ix:Int)(tp:dU)(m b:Nat):gK 4 nm ix tp m b=if nm≠ []∨ix≠0∨gr tp=false∨m≠2 then 5 else 0:=by unfold gK;rw[if_neg (by decide),if_neg (by decide),if_neg (by decide),if_pos rfl]
theorem tm5 {k:Int}(h1:k≠1)(h2:k≠2)(h3:k≠3)(h4:k≠4)(nm:cV)(ix:Int)(tp:dU)(m b:Nat):gK k nm ix tp m b=4:=by unfold gK;rw[if_neg h1,if_neg h2,if_neg h3,if_neg h4]
theorem yt {α:Type}{l:List α}(h:l.length=1):∃y,l=[y]:=by
 match l,h with
 | [y],_=>exact⟨y,rfl⟩
theorem n8 {α:Type}{l:List α}(h:l.length=2):∃y z,l=[y,z]:=by
 match l,h with
 | [y,z],_=>exact⟨y,z,rfl⟩
theorem gW (b:Nat)(cd at_:Int):cz Tryz.prog 118 ([iv cd]++ [Value.pointer (some ⟨b,0,none⟩)]).toArray [DP b (iv at_)] (fv (cd,at_)):=by
 refine cz.iL (args:=[iv cd]++ [Value.pointer (some ⟨b,0,none⟩)]) 7 Tryz.func118 rfl Tryz.ntmps118 rfl (fun c=> ?_);refine St.sr ?_;refine St.alloc dC rfl (fun b3=> ?_);refine St.nn (St.sr ?_);refine St.mv ?_;refine St.ee (Ev.Lv (.mk rfl) bP trivial) ?_;refine St.ee (Ev.build (ps:=[(0,(.tmp 4)),(1,(.tmp 5))]) (aV.cons (aL.mk rfl) (aV.cons (aL.mk rfl) aV.nil)) (fun w=>bO rfl rfl w)) ?_;refine St.sA (.mk rfl) (.mk rfl) bC ?_;refine St.nn (St.ab ?_);refine St.rU [_] [] Tryz.results118 ?_;rfl
set_option maxHeartbeats 2000000 in
theorem ug (bn bw tw:Nat):∀(x:cD) (d b n:Nat),cE.wf x→d≤100→b≤d→n≤200→fC Tryz.prog 117 ([bc x,iv (d:Nat),iv (b:Nat)]++ [Value.pointer (some ⟨bn,0,none⟩),Value.pointer (some ⟨bw,0,none⟩)]).toArray [aF (bN x),ae bn (.cells [iv (n:Nat)].toArray 3 (0,0)),ae bw (.cells [(.func (.func 117) #[] [Value.pointer (some ⟨bn,0,none⟩),Value.pointer (some ⟨bw,0,none⟩)].toArray)].toArray tw (0,0))] (fun v H'=>v=fv (fU (ax x) d b n).2∧H'=[ae bn (.cells [iv ((fU (ax x) d b n).1:Nat)].toArray 3 (0,0)),ae bw (.cells [(.func (.func 117) #[] [Value.pointer (some ⟨bn,0,none⟩),Value.pointer (some ⟨bw,0,none⟩)].toArray)].toArray tw (0,0))]):=by
 intro x
 induction x using cD.ind
 rename_i x ih
 intro d b n Vp hd Dt hn
 have yu:x.name.length≤9223372036854775807:=by have:=Vp.2.1;omega
 refine fC.body (args:=[bc x,iv (d:Nat),iv (b:Nat)]++ [Value.pointer (some ⟨bn,0,none⟩),Value.pointer (some ⟨bw,0,none⟩)]) 166 Tryz.func117 rfl Tryz.ntmps117 rfl (fun c=> ?_);refine St.seq ?_
 have cp:=xJ (ax x) d b n
 rw[xO,iZ,m7]at cp;refine St.pB x ?_;refine St.wf x.av.1 (fun lX sO=> ?_);refine St.rg ?_;refine St.cX (.mk rfl) rfl (fun b5=> ?_);refine St.alloc dC rfl (fun b8=> ?_);refine St.nn (St.sr ?_);refine St.ee (Ev.l0 (.mk rfl) bP) ?_;refine St.alloc MH rfl (fun b9=> ?_);refine St.cR (.mk rfl) (.mk rfl) cr rfl (by rfl) ?_;refine St.nn (St.sr ?_);refine St.ee (Ev.l0 (.mk rfl) bP) ?_;refine St.ee Ev.a0 ?_;refine St.cR (.mk rfl) (.mk rfl) cr rfl (by rfl) ?_;refine St.gS bn (L':=[iv ((n+1:Nat):Int)]) rfl ?_;refine St.nn (St.sr ?_);refine St.ee (Ev.func (.cons (.mk rfl) .nil)) ?_;refine St.ar ?_;refine St.nn (St.seq (St.sr ?_));refine St.ee (Ev.l0 (.mk rfl) bP) ?_;refine St.ee Ev.s5 ?_;refine St.mv ?_;refine St.gf _ rfl rfl (fun hg=>Ev.move (.mk rfl)) rfl ?_;refine St.gf _ rfl rfl (fun hg=>Ev.gtr (aL.gv rfl hg) (.mk rfl)) rfl ?_;refine St.ee Ev.o0 ?_;refine St.nn ?_;refine St.cond _ rfl (fun qU=> ?_) (fun qU=> ?_)
 ·try simp only[aC]at qU
  rw[if_pos (by omega)]at cp;refine St.sr ?_;refine St.mv ?_;refine St.ee (Ev.kr (gW b9 1 n) oB (.mk rfl) (.cons (.mk rfl) .nil) (fV.ae fV.nil)) ?_;refine St.sA (.mk rfl) (.mk rfl) bC ?_;refine St.nn (St.ab (St.aB ?_));refine St.rU [_] [ae bn (.cells [iv ((n+1):Nat)].toArray 3 (0,0)),ae bw (.cells [(.func (.func 117) #[] [Value.pointer (some ⟨bn,0,none⟩),Value.pointer (some ⟨bw,0,none⟩)].toArray)].toArray tw (0,0))] Tryz.results117 ?_;rw[cp];exact⟨rfl,rfl⟩
 ·try simp only[aC]at qU
  rw[if_neg (by omega)]at cp;refine St.skip (St.aA (St.seq (St.sr ?_)));refine St.ee (Ev.aD (.mk rfl) gp) ?_;refine St.ee (Ev.l0 (.mk rfl) bP) ?_;refine St.nn (St.block (St.sr ?_));refine St.ee Ev.fa ?_;refine St.ar ?_;refine St.nn ?_;refine St.cond _ rfl (fun s8=> ?_) (fun s8=> ?_)
  ·try simp only[aC]at s8
   rw[s8,Xk]at cp;refine St.seq (St.sr ?_);refine St.ee (Ev.aD (.mk rfl) lB) ?_;refine St.ee (Ev.l0 (.mk rfl) bP) ?_;refine St.ee Ev.jj ?_;refine St.mv ?_;refine St.gf _ rfl rfl (fun hg=>Ev.aD (.mk rfl) gC) rfl ?_;refine St.gf _ rfl rfl (fun hg=>Ev.cS (aL.gv rfl hg) eo trivial (by rfl)) rfl ?_;refine St.gf _ rfl rfl (fun hg=>Ev.au (aL.gv rfl hg) eo) rfl ?_;refine St.gf _ rfl rfl (fun hg=>Ev.neq (aL.gv rfl hg) (.mk rfl)) rfl ?_;refine St.ee Ev.o0 ?_;refine St.nn ?_;refine St.cond _ rfl (fun s9=> ?_) (fun s9=> ?_)
   ·try simp only[aC]at s9
    rw[if_pos (show x.index≠0∨x.args.length≠0 by omega)]at cp;refine St.sr ?_;refine St.mv ?_;refine St.ee (Ev.kr (gW b9 5 n) oB (.mk rfl) (.cons (.mk rfl) .nil) (fV.ae fV.nil)) ?_;refine St.sA (.mk rfl) (.mk rfl) bC ?_;refine St.nn (St.ab (St.aB (St.aN (St.aB ?_))));refine St.rU [_] [ae bn (.cells [iv ((n+1):Nat)].toArray 3 (0,0)),ae bw (.cells [(.func (.func 117) #[] [Value.pointer (some ⟨bn,0,none⟩),Value.pointer (some ⟨bw,0,none⟩)].toArray)].toArray tw (0,0))] Tryz.results117 ?_;rw[cp,if_pos (by decide)];exact⟨rfl,rfl⟩
   ·try simp only[aC]at s9
    obtain⟨hi,hl⟩:x.index=0∧x.args.length=0:=by omega
    rw[if_neg (show ¬(x.index≠0∨x.args.length≠0) by omega)]at cp;refine St.skip (St.aA (St.seq (St.sr ?_)));refine St.ee (Ev.aD (.mk rfl) oY) ?_;refine St.ee (Ev.l0 (.mk rfl) eG) ?_;refine St.ee (Ev.call (jl x.name yu) Dj (.cons (.mk rfl) .nil)) ?_;refine St.ee (Ev.not (.mk rfl)) ?_;refine St.nn ?_;refine St.cond _ rfl (fun CW=> ?_) (fun CW=> ?_)
    ·try simp only[aC]at CW
     rw[if_pos (show isName x.name=false by simpa using CW)]at cp;refine St.sr ?_;refine St.mv ?_;refine St.ee (Ev.kr (gW b9 10 n) oB (.mk rfl) (.cons (.mk rfl) .nil) (fV.ae fV.nil)) ?_;refine St.sA (.mk rfl) (.mk rfl) bC ?_;refine St.nn (St.ab (St.aB (St.aN (St.aB ?_))));refine St.rU [_] [ae bn (.cells [iv ((n+1):Nat)].toArray 3 (0,0)),ae bw (.cells [(.func (.func 117) #[] [Value.pointer (some ⟨bn,0,none⟩),Value.pointer (some ⟨bw,0,none⟩)].toArray)].toArray tw (0,0))] Tryz.results117 ?_;rw[cp,if_pos (by decide)];exact⟨rfl,rfl⟩
    ·try simp only[aC]at CW
     rw[if_neg (show ¬isName x.name=false by simpa using CW)]at cp;refine St.skip (St.aA (St.sr ?_));refine St.ee (Ev.aD (.mk rfl) lC) ?_;refine St.ee (Ev.gy 2 (.mk rfl) bX trivial bD rfl rfl) ?_;refine St.ee (Ev.call (rB x.type) MJ (.cons (.mk rfl) .nil)) ?_;refine St.ee (Ev.mf (.mk rfl) gF rfl (by first|rw[bP]|(dsimp only;rw[bP])|kernel_rfl) rfl) ?_;refine St.ee Ev.jj ?_;refine St.nn ?_;refine St.cond _ rfl (fun Rg=> ?_) (fun Rg=> ?_)
     ·try simp only[aC]at Rg
      rw[if_pos (show jc (bI x.type)≠0 by simpa using Rg)]at cp;refine St.sr ?_;refine St.mv ?_;refine St.ee (Ev.kr (gW b9 12 n) oB (.mk rfl) (.cons (.mk rfl) .nil) (fV.ae fV.nil)) ?_;refine St.sA (.mk rfl) (.mk rfl) bC ?_;refine St.nn (St.ab (St.aN (St.aB ?_)));refine St.rU [_] [ae bn (.cells [iv ((n+1):Nat)].toArray 3 (0,0)),ae bw (.cells [(.func (.func 117) #[] [Value.pointer (some ⟨bn,0,none⟩),Value.pointer (some ⟨bw,0,none⟩)].toArray)].toArray tw (0,0))] Tryz.results117 ?_;rw[cp,if_pos (by decide)];exact⟨rfl,rfl⟩
     ·try simp only[aC]at Rg
      rw[if_neg (show ¬jc (bI x.type)≠0 by simpa using Rg),if_neg (by decide),List.eq_nil_of_length_eq_zero hl,List.map_nil,j5]at cp;refine St.skip (St.aO (St.aA (St.sr ?_)));refine St.ee (Ev.build (ps:=[]) (aV.nil) (fun w=>fB w)) ?_;refine St.sA (.mk rfl) (.mk rfl) bC ?_;refine St.nn (St.ab ?_);refine St.rU [_] [ae bn (.cells [iv ((n+1):Nat)].toArray 3 (0,0)),ae bw (.cells [(.func (.func 117) #[] [Value.pointer (some ⟨bn,0,none⟩),Value.pointer (some ⟨bw,0,none⟩)].toArray)].toArray tw (0,0))] Tryz.results117 ?_;rw[cp];exact⟨rfl,rfl⟩
  ·try simp only[aC]at s8
   refine St.sr ?_;refine St.ee Ev.fa ?_;refine St.ar ?_;refine St.nn ?_;refine St.cond _ rfl (fun tD=> ?_) (fun tD=> ?_)
   ·try simp only[aC]at tD
    rw[tD,Xl]at cp;refine St.seq (St.sr ?_);refine St.ee (Ev.aD (.mk rfl) oY) ?_;refine St.ee (Ev.l0 (.mk rfl) eG) ?_;refine St.ee (Ev.oz (.mk rfl) (.mk rfl)) ?_;refine St.mv ?_;refine St.gf _ rfl rfl (fun hg=>Ev.aD (.mk rfl) lC) rfl ?_;refine St.gf _ rfl rfl (fun hg=>Ev.gy 2 (aL.gv rfl hg) bX trivial bD rfl rfl) rfl ?_;refine St.gf _ rfl rfl (fun hg=>Ev.call (vV x.type) ML (.cons (aL.gv rfl hg) .nil)) rfl ?_;refine St.gf _ rfl rfl (fun hg=>Ev.not (aL.gv rfl hg)) rfl ?_;refine St.ee Ev.o0 ?_;refine St.mv ?_;refine St.gf _ rfl rfl (fun hg=>Ev.aD (.mk rfl) gC) rfl ?_;refine St.gf _ rfl rfl (fun hg=>Ev.cS (aL.gv rfl hg) eo trivial (by rfl)) rfl ?_;refine St.gf _ rfl rfl (fun hg=>Ev.au (aL.gv rfl hg) eo) rfl ?_;refine St.gf _ rfl rfl (fun hg=>Ev.neq (aL.gv rfl hg) (.mk rfl)) rfl ?_;refine St.ee Ev.o0 ?_;refine St.nn ?_;refine St.cond _ rfl (fun re=> ?_) (fun re=> ?_)
    ·simp only[Bool.or_eq_true,Bool.or_eq_false_iff,Bool.not_eq_true',Bool.not_eq_false',decide_eq_true_eq,decide_eq_false_iff_not,beq_iff_eq,beq_eq_false_iff_ne]at re
     rw[if_pos (show x.name≠ []∨gr (bI x.type)=false∨x.args.length≠0 by rcases re with(h|h)|h;exact .inl h;exact .inr (.inl h);exact .inr (.inr (by omega)))]at cp;refine St.sr ?_;refine St.mv ?_;refine St.ee (Ev.kr (gW b9 5 n) oB (.mk rfl) (.cons (.mk rfl) .nil) (fV.ae fV.nil)) ?_;refine St.sA (.mk rfl) (.mk rfl) bC ?_;refine St.nn (St.ab (St.aB (St.aN (St.aB ?_))));refine St.rU [_] [ae bn (.cells [iv ((n+1):Nat)].toArray 3 (0,0)),ae bw (.cells [(.func (.func 117) #[] [Value.pointer (some ⟨bn,0,none⟩),Value.pointer (some ⟨bw,0,none⟩)].toArray)].toArray tw (0,0))] Tryz.results117 ?_;rw[cp,if_pos (by decide)];exact⟨rfl,rfl⟩
    ·simp only[Bool.or_eq_true,Bool.or_eq_false_iff,Bool.not_eq_true',Bool.not_eq_false',decide_eq_true_eq,decide_eq_false_iff_not,beq_iff_eq,beq_eq_false_iff_ne]at re
     obtain⟨⟨K0,O7⟩,Xo⟩:=re
     have hl:x.args.length=0:=by omega
     rw[if_neg (show ¬(x.name≠ []∨gr (bI x.type)=false∨x.args.length≠0) by rintro (h|h|h);exact h (by simpa using K0);rw[O7]at h;cases h;omega)]at cp;refine St.skip (St.aA (St.sr ?_));refine St.ee (Ev.aD (.mk rfl) lB) ?_;refine St.ee (Ev.l0 (.mk rfl) bP) ?_;refine St.ee Ev.dz ?_;refine St.mv ?_;refine St.gf _ rfl rfl (fun hg=>Ev.aD (.mk rfl) lB) rfl ?_;refine St.gf _ rfl rfl (fun hg=>Ev.cS (aL.gv rfl hg) bP trivial (by rfl)) rfl ?_;refine St.gf _ rfl rfl (fun hg=>Ev.move (.mk rfl)) rfl ?_;refine St.gf _ rfl rfl (fun hg=>Ev.geq (aL.gv rfl hg) (aL.gv rfl hg)) rfl ?_;refine St.ee Ev.o0 ?_;refine St.nn ?_;refine St.cond _ rfl (fun Xp=> ?_) (fun Xp=> ?_)
     ·try simp only[aC]at Xp
      rw[if_pos (show x.index<0∨(b:Int)≤x.index by omega)]at cp;refine St.sr ?_;refine St.mv ?_;refine St.ee (Ev.kr (gW b9 15 n) oB (.mk rfl) (.cons (.mk rfl) .nil) (fV.ae fV.nil)) ?_;refine St.sA (.mk rfl) (.mk rfl) bC ?_;refine St.nn (St.ab (St.aN (St.aB ?_)));refine St.rU [_] [ae bn (.cells [iv ((n+1):Nat)].toArray 3 (0,0)),ae bw (.cells [(.func (.func 117) #[] [Value.pointer (some ⟨bn,0,none⟩),Value.pointer (some ⟨bw,0,none⟩)].toArray)].toArray tw (0,0))] Tryz.results117 ?_;rw[cp,if_pos (by decide)];exact⟨rfl,rfl⟩
     ·try simp only[aC]at Xp
      rw[if_neg (show ¬(x.index<0∨(b:Int)≤x.index) by omega),if_neg (by decide),List.eq_nil_of_length_eq_zero hl,List.map_nil,j5]at cp;refine St.skip (St.aO (St.aA (St.sr ?_)));refine St.ee (Ev.build (ps:=[]) (aV.nil) (fun w=>fB w)) ?_;refine St.sA (.mk rfl) (.mk rfl) bC ?_;refine St.nn (St.ab ?_);refine St.rU [_] [ae bn (.cells [iv ((n+1):Nat)].toArray 3 (0,0)),ae bw (.cells [(.func (.func 117) #[] [Value.pointer (some ⟨bn,0,none⟩),Value.pointer (some ⟨bw,0,none⟩)].toArray)].toArray tw (0,0))] Tryz.results117 ?_;rw[cp];exact⟨rfl,rfl⟩
   ·try simp only[aC]at tD
    refine St.sr ?_;refine St.ee Ev.fa ?_;refine St.ar ?_;refine St.nn ?_;refine St.cond _ rfl (fun uQ=> ?_) (fun uQ=> ?_)
    ·try simp only[aC]at uQ
     rw[uQ,Xm]at cp;refine St.seq (St.sr ?_);refine St.ee (Ev.aD (.mk rfl) oY) ?_;refine St.ee (Ev.l0 (.mk rfl) eG) ?_;refine St.ee (Ev.oz (.mk rfl) (.mk rfl)) ?_;refine St.mv ?_;refine St.gf _ rfl rfl (fun hg=>Ev.aD (.mk rfl) lB) rfl ?_;refine St.gf _ rfl rfl (fun hg=>Ev.cS (aL.gv rfl hg) bP trivial (by rfl)) rfl ?_;refine St.gf _ rfl rfl (fun hg=>Ev.neq (aL.gv rfl hg) (.mk rfl)) rfl ?_;refine St.ee Ev.o0 ?_;refine St.mv ?_;refine St.gf _ rfl rfl (fun hg=>Ev.aD (.mk rfl) gC) rfl ?_;refine St.gf _ rfl rfl (fun hg=>Ev.cS (aL.gv rfl hg) eo trivial (by rfl)) rfl ?_;refine St.gf _ rfl rfl (fun hg=>Ev.au (aL.gv rfl hg) eo) rfl ?_;refine St.gf _ rfl rfl (fun hg=>Ev.neq (aL.gv rfl hg) (.mk rfl)) rfl ?_;refine St.ee Ev.o0 ?_;refine St.nn ?_;refine St.cond _ rfl (fun Rh=> ?_) (fun Rh=> ?_)
     ·simp only[Bool.or_eq_true,Bool.or_eq_false_iff,Bool.not_eq_true',Bool.not_eq_false',decide_eq_true_eq,decide_eq_false_iff_not,beq_iff_eq,beq_eq_false_iff_ne]at Rh
      rw[if_pos (show x.name≠ []∨x.index≠0∨x.args.length≠1 by rcases Rh with(h|h)|h;exact .inl h;exact .inr (.inl h);exact .inr (.inr (by omega)))]at cp;refine St.sr ?_;refine St.mv ?_;refine St.ee (Ev.kr (gW b9 5 n) oB (.mk rfl) (.cons (.mk rfl) .nil) (fV.ae fV.nil)) ?_;refine St.sA (.mk rfl) (.mk rfl) bC ?_;refine St.nn (St.ab (St.aB (St.aN (St.aB ?_))));refine St.rU [_] [ae bn (.cells [iv ((n+1):Nat)].toArray 3 (0,0)),ae bw (.cells [(.func (.func 117) #[] [Value.pointer (some ⟨bn,0,none⟩),Value.pointer (some ⟨bw,0,none⟩)].toArray)].toArray tw (0,0))] Tryz.results117 ?_;rw[cp,if_pos (by decide)];exact⟨rfl,rfl⟩
     ·simp only[Bool.or_eq_true,Bool.or_eq_false_iff,Bool.not_eq_true',Bool.not_eq_false',decide_eq_true_eq,decide_eq_false_iff_not,beq_iff_eq,beq_eq_false_iff_ne]at Rh
      obtain⟨⟨K0,O7⟩,Xo⟩:=Rh
      have hl:x.args.length=1:=by omega
      rw[if_neg (show ¬(x.name≠ []∨x.index≠0∨x.args.length≠1) by rintro (h|h|h);exact h (by simpa using K0);omega;omega)]at cp;refine St.skip (St.aA (St.seq (St.sr ?_)));refine St.ee (Ev.aD (.mk rfl) lC) ?_;refine St.ee (Ev.gy 2 (.mk rfl) bX trivial bD rfl rfl) ?_;refine St.ee (Ev.call (rB x.type) MJ (.cons (.mk rfl) .nil)) ?_;refine St.ee (Ev.mf (.mk rfl) gF rfl (by first|rw[bP]|(dsimp only;rw[bP])|kernel_rfl) rfl) ?_;refine St.ee Ev.jj ?_;refine St.nn ?_;refine St.cond _ rfl (fun G9=> ?_) (fun G9=> ?_)
      ·try simp only[aC]at G9
       rw[if_pos (show jc (bI x.type)≠0 by simpa using G9)]at cp;refine St.sr ?_;refine St.mv ?_;refine St.ee (Ev.kr (gW b9 12 n) oB (.mk rfl) (.cons (.mk rfl) .nil) (fV.ae fV.nil)) ?_;refine St.sA (.mk rfl) (.mk rfl) bC ?_;refine St.nn (St.ab (St.aB (St.aN (St.aB ?_))));refine St.rU [_] [ae bn (.cells [iv ((n+1):Nat)].toArray 3 (0,0)),ae bw (.cells [(.func (.func 117) #[] [Value.pointer (some ⟨bn,0,none⟩),Value.pointer (some ⟨bw,0,none⟩)].toArray)].toArray tw (0,0))] Tryz.results117 ?_;rw[cp,if_pos (by decide)];exact⟨rfl,rfl⟩
      ·try simp only[aC]at G9
       obtain⟨y,hy⟩:=yt hl;rw[if_neg (show ¬jc (bI x.type)≠0 by simpa using G9),if_neg (by decide),if_pos rfl,hy,List.map_cons,List.map_nil,yn]at cp;refine St.cC bN x.args (x:=y) (by rw[hy];simp) ?_;refine St.skip (St.aA (St.seq ?_));refine St.eK [ae bn (.cells [iv ((n+1):Nat)].toArray 3 (0,0)),ae bw (.cells [(.func (.func 117) #[] [Value.pointer (some ⟨bn,0,none⟩),Value.pointer (some ⟨bw,0,none⟩)].toArray)].toArray tw (0,0)),aF (bN y),ae b8 (.cells [iv 0,iv 0].toArray 42 (0,0))] mixed (fun np ns=> ?_);refine SW.dd 1 rfl (fun _=>Ev.aD (.mk rfl) gC) ?_;refine SW.dd 2 rfl (fun _=>Ev.cS (.mk rfl) eo trivial (by rfl)) ?_;refine SW.dd 3 rfl (fun _=>Ev.aR (k:=0) (.mk rfl) (.mk rfl) eo cy rfl (by omega)) ?_;refine SW.dd 4 rfl (fun _=>Ev.fg (.mk rfl) (show x.args[0]?=some y by rw[hy];rfl) fH trivial cy en.eq) ?_;refine SW.dd 5 rfl (fun _=>Ev.move (.mk rfl)) ?_;refine SW.dd 6 rfl (fun _=>Ev.a0) ?_;refine SW.slot 115 (iv ((d+1:Nat):Int)) rfl rfl ?_;refine SW.dd 7 rfl (fun _=>Ev.move (.mk rfl)) ?_;refine SW.dd 8 rfl (fun _=>Ev.a0) ?_;refine SW.slot 117 (iv ((b+1:Nat):Int)) rfl rfl ?_;refine SW.bG (i:=0) (by kernel_rfl) rfl ?_;refine St.ee (Ev.l0 (.mk rfl) su) ?_;refine St.nn ?_;refine SW.go ?_;refine SW.bG (i:=9) (by kernel_rfl) rfl ?_;refine St.dR (ih y (by rw[hy];simp) (d+1) (b+1) (n+1) (lX y (by rw[hy];simp)) (by omega) (by omega) (by omega)) r8 (.mk rfl) (.cons (.mk rfl) (.cons (.mk rfl) (.cons (.mk rfl) .nil))) rfl ?_;rintro acE _ ⟨rfl,rfl⟩;refine St.ca ?_;refine St.nn ?_;refine SW.go ?_;refine SW.bG (i:=10) (by kernel_rfl) rfl ?_;refine St.sA (.mk rfl) (.mk rfl) bC ?_;refine St.nn ?_;refine SW.go ?_;refine SW.done (by kernel_rfl) ?_;refine St.aA (St.ab (St.aN (St.aB ?_)));refine St.rU [_] [ae bn (.cells [iv ((fU (ax y) (d+1) (b+1) (n+1)).1:Nat)].toArray 3 (0,0)),ae bw (.cells [(.func (.func 117) #[] [Value.pointer (some ⟨bn,0,none⟩),Value.pointer (some ⟨bw,0,none⟩)].toArray)].toArray tw (0,0))] Tryz.results117 ?_
       rw[cp];exact⟨rfl,rfl⟩
    ·try simp only[aC]at uQ
     refine St.sr ?_;refine St.ee Ev.fa ?_;refine St.ar ?_;refine St.nn ?_;refine St.cond _ rfl (fun tE=> ?_) (fun tE=> ?_)
     ·try simp only[aC]at tE
      rw[tE,Xn]at cp;refine St.seq (St.sr ?_);refine St.ee (Ev.aD (.mk rfl) oY) ?_;refine St.ee (Ev.l0 (.mk rfl) eG) ?_;refine St.ee (Ev.oz (.mk rfl) (.mk rfl)) ?_;refine St.mv ?_;refine St.gf _ rfl rfl (fun hg=>Ev.aD (.mk rfl) lB) rfl ?_;refine St.gf _ rfl rfl (fun hg=>Ev.cS (aL.gv rfl hg) bP trivial (by rfl)) rfl ?_;refine St.gf _ rfl rfl (fun hg=>Ev.neq (aL.gv rfl hg) (.mk rfl)) rfl ?_;refine St.ee Ev.o0 ?_;refine St.mv ?_;refine St.gf _ rfl rfl (fun hg=>Ev.aD (.mk rfl) lC) rfl ?_;refine St.gf _ rfl rfl (fun hg=>Ev.gy 2 (aL.gv rfl hg) bX trivial bD rfl rfl) rfl ?_;refine St.gf _ rfl rfl (fun hg=>Ev.call (vV x.type) ML (.cons (aL.gv rfl hg) .nil)) rfl ?_;refine St.gf _ rfl rfl (fun hg=>Ev.not (aL.gv rfl hg)) rfl ?_;refine St.ee Ev.o0 ?_;refine St.mv ?_;refine St.gf _ rfl rfl (fun hg=>Ev.aD (.mk rfl) gC) rfl ?_;refine St.gf _ rfl rfl (fun hg=>Ev.cS (aL.gv rfl hg) eo trivial (by rfl)) rfl ?_;refine St.gf _ rfl rfl (fun hg=>Ev.au (aL.gv rfl hg) eo) rfl ?_;refine St.gf _ rfl rfl (fun hg=>Ev.neq (aL.gv rfl hg) (.mk rfl)) rfl ?_;refine St.ee Ev.o0 ?_;refine St.nn ?_;refine St.cond _ rfl (fun GA=> ?_) (fun GA=> ?_)
      ·simp only[Bool.or_eq_true,Bool.or_eq_false_iff,Bool.not_eq_true',Bool.not_eq_false',decide_eq_true_eq,decide_eq_false_iff_not,beq_iff_eq,beq_eq_false_iff_ne]at GA
       rw[if_pos (show x.name≠ []∨x.index≠0∨gr (bI x.type)=false∨x.args.length≠2 by rcases GA with((h|h)|h)|h;exact .inl h;exact .inr (.inl h);exact .inr (.inr (.inl h));exact .inr (.inr (.inr (by omega))))]at cp;refine St.sr ?_;refine St.mv ?_;refine St.ee (Ev.kr (gW b9 5 n) oB (.mk rfl) (.cons (.mk rfl) .nil) (fV.ae fV.nil)) ?_;refine St.sA (.mk rfl) (.mk rfl) bC ?_;refine St.nn (St.ab (St.aB (St.aN (St.aB ?_))));refine St.rU [_] [ae bn (.cells [iv ((n+1):Nat)].toArray 3 (0,0)),ae bw (.cells [(.func (.func 117) #[] [Value.pointer (some ⟨bn,0,none⟩),Value.pointer (some ⟨bw,0,none⟩)].toArray)].toArray tw (0,0))] Tryz.results117 ?_;rw[cp,if_pos (by decide)];exact⟨rfl,rfl⟩
      ·simp only[Bool.or_eq_true,Bool.or_eq_false_iff,Bool.not_eq_true',Bool.not_eq_false',decide_eq_true_eq,decide_eq_false_iff_not,beq_iff_eq,beq_eq_false_iff_ne]at GA
       obtain⟨⟨⟨K0,O7⟩,Xo⟩,hq4⟩:=GA;obtain⟨y,z,hy⟩:=n8 (show x.args.length=2 by omega);rw[if_neg (show ¬(x.name≠ []∨x.index≠0∨gr (bI x.type)=false∨x.args.length≠2) by rintro (h|h|h|h);exact h (by simpa using K0);omega;rw[Xo]at h;cases h;omega),if_neg (by decide),if_neg (by decide),hy,List.map_cons,List.map_cons,List.map_nil,G5]at cp;refine St.cC bN x.args (x:=y) (by rw[hy];simp) ?_;refine St.cC bN x.args (x:=z) (by rw[hy];simp) ?_
       have hle:=O6 (ax y) (d+1) b (n+1) (by omega)
       have h2l:x.args.length=2:=by rw[hy];rfl
       refine St.skip (St.aA (St.seq (St.seq ?_)));refine St.eK [ae bn (.cells [iv ((n+1):Nat)].toArray 3 (0,0)),ae bw (.cells [(.func (.func 117) #[] [Value.pointer (some ⟨bn,0,none⟩),Value.pointer (some ⟨bw,0,none⟩)].toArray)].toArray tw (0,0)),aF (bN y)] mixed (fun np ns=> ?_);refine SW.dd 1 rfl (fun _=>Ev.aD (.mk rfl) gC) ?_;refine SW.dd 2 rfl (fun _=>Ev.cS (.mk rfl) eo trivial (by rfl)) ?_;refine SW.dd 3 rfl (fun _=>Ev.aR (k:=0) (.mk rfl) (.mk rfl) eo cy rfl (by omega)) ?_;refine SW.dd 4 rfl (fun _=>Ev.fg (.mk rfl) (show x.args[0]?=some y by rw[hy];rfl) fH trivial cy en.eq) ?_;refine SW.dd 5 rfl (fun _=>Ev.move (.mk rfl)) ?_;refine SW.dd 6 rfl (fun _=>Ev.a0) ?_;refine SW.slot 149 (iv ((d+1:Nat):Int)) rfl rfl ?_;refine SW.dd 7 rfl (fun _=>Ev.move (.mk rfl)) ?_;refine SW.iP (i:=0) (j:=9) (by kernel_rfl) rfl rfl ?_ ?_
       ·refine St.ee (Ev.l0 (.mk rfl) su) ?_
        refine St.nn ?_;refine SW.go ?_;refine SW.iP (i:=8) (j:=9) (by kernel_rfl) rfl rfl ?_ ?_
        ·refine St.dR (ih y (by rw[hy];simp) (d+1) b (n+1) (lX y (by rw[hy];simp)) (by omega) (by omega) (by omega)) r8 (.mk rfl) (.cons (.mk rfl) (.cons (.mk rfl) (.cons (.mk rfl) .nil))) rfl ?_
         rintro Ri _ ⟨rfl,rfl⟩;refine St.ca ?_;refine St.nn ?_;refine SW.go ?_;refine SW.bG (i:=9) (by kernel_rfl) rfl ?_;refine St.alloc dC rfl (fun kX=> ?_);refine St.nn ?_;refine SW.go ?_;refine SW.bG (i:=10) (by kernel_rfl) rfl ?_;refine St.sA (.mk rfl) (.mk rfl) bC ?_;refine St.nn ?_;refine SW.go ?_;refine SW.done (by kernel_rfl) ?_;refine St.aA (St.sr ?_);refine St.ee (Ev.aD (.mk rfl) cb) ?_;refine St.ee (Ev.l0 (.mk rfl) bP) ?_;refine St.ee Ev.jj ?_;refine St.nn ?_;refine St.cond _ rfl (fun n9=> ?_) (fun n9=> ?_)
         ·try simp only[aC]at n9
          rw[if_pos (show(fU (ax y) (d+1) b (n+1)).2.1≠0 by simpa using n9)]at cp;refine St.sr ?_;refine St.ee (Ev.bH (.mk rfl) gF trivial (by exact bC)) ?_;refine St.sA (.mk rfl) (.mk rfl) bC ?_;refine St.nn (St.ab (St.aB (St.aN (St.aB ?_))));refine St.rU [_] [ae bn (.cells [iv ((fU (ax y) (d+1) b (n+1)).1:Nat)].toArray 3 (0,0)),ae bw (.cells [(.func (.func 117) #[] [Value.pointer (some ⟨bn,0,none⟩),Value.pointer (some ⟨bw,0,none⟩)].toArray)].toArray tw (0,0))] Tryz.results117 ?_
          rw[cp];exact⟨rfl,rfl⟩
         ·try simp only[aC]at n9
          have FP:(fU (ax y) (d+1) b (n+1)).2.1=0:=by simpa using n9
          have q8:=(tB (ax y) (d+1) b (n+1) FP).1
          rw[if_neg (by rw[FP];decide)]at cp;refine St.skip (St.aA (St.seq ?_));refine St.eK [ae bn (.cells [iv ((fU (ax y) (d+1) b (n+1)).1:Nat)].toArray 3 (0,0)),ae bw (.cells [(.func (.func 117) #[] [Value.pointer (some ⟨bn,0,none⟩),Value.pointer (some ⟨bw,0,none⟩)].toArray)].toArray tw (0,0)),aF (bN z),ae b8 (.cells [iv 0,iv 0].toArray 42 (0,0))] mixed (fun np ns=> ?_);refine SW.dd 1 rfl (fun _=>Ev.aD (.mk rfl) gC) ?_;refine SW.dd 2 rfl (fun _=>Ev.cS (.mk rfl) eo trivial (by rfl)) ?_;refine SW.dd 3 rfl (fun _=>Ev.aR (k:=1) (.mk rfl) (.mk rfl) eo cy rfl (by omega)) ?_;refine SW.dd 4 rfl (fun _=>Ev.fg (.mk rfl) (show x.args[1]?=some z by rw[hy];rfl) fH trivial cy en.eq) ?_;refine SW.dd 5 rfl (fun _=>Ev.move (.mk rfl)) ?_;refine SW.dd 6 rfl (fun _=>Ev.a0) ?_;refine SW.slot 162 (iv ((d+1:Nat):Int)) rfl rfl ?_;refine SW.dd 7 rfl (fun _=>Ev.move (.mk rfl)) ?_;refine SW.bG (i:=0) (by kernel_rfl) rfl ?_;refine St.ee (Ev.l0 (.mk rfl) su) ?_;refine St.nn ?_;refine SW.go ?_;refine SW.bG (i:=8) (by kernel_rfl) rfl ?_;refine St.dR (ih z (by rw[hy];simp) (d+1) b (fU (ax y) (d+1) b (n+1)).1 (lX z (by rw[hy];simp)) (by omega) (by omega) (by omega)) r8 (.mk rfl) (.cons (.mk rfl) (.cons (.mk rfl) (.cons (.mk rfl) .nil))) rfl ?_;rintro v164 _ ⟨rfl,rfl⟩;refine St.ca ?_;refine St.nn ?_;refine SW.go ?_;refine SW.bG (i:=9) (by kernel_rfl) rfl ?_;refine St.sA (.mk rfl) (.mk rfl) bC ?_;refine St.nn ?_;refine SW.go ?_;refine SW.done (by kernel_rfl) ?_;refine St.aA (St.ab (St.aN (St.aB ?_)));refine St.rU [_] [ae bn (.cells [iv ((fU (ax z) (d+1) b (fU (ax y) (d+1) b (n+1)).1).1:Nat)].toArray 3 (0,0)),ae bw (.cells [(.func (.func 117) #[] [Value.pointer (some ⟨bn,0,none⟩),Value.pointer (some ⟨bw,0,none⟩)].toArray)].toArray tw (0,0))] Tryz.results117 ?_
          rw[cp];exact⟨rfl,rfl⟩
        ·refine St.alloc dC rfl (fun kX=> ?_)
         refine St.nn ?_;refine SW.go ?_;refine SW.bG (i:=8) (by kernel_rfl) rfl ?_;refine St.dR (ih y (by rw[hy];simp) (d+1) b (n+1) (lX y (by rw[hy];simp)) (by omega) (by omega) (by omega)) r8 (.mk rfl) (.cons (.mk rfl) (.cons (.mk rfl) (.cons (.mk rfl) .nil))) rfl ?_;rintro Ri _ ⟨rfl,rfl⟩;refine St.ca ?_;refine St.nn ?_;refine SW.go ?_;refine SW.bG (i:=10) (by kernel_rfl) rfl ?_;refine St.sA (.mk rfl) (.mk rfl) bC ?_;refine St.nn ?_;refine SW.go ?_;refine SW.done (by kernel_rfl) ?_;refine St.aA (St.sr ?_);refine St.ee (Ev.aD (.mk rfl) cb) ?_;refine St.ee (Ev.l0 (.mk rfl) bP) ?_;refine St.ee Ev.jj ?_;refine St.nn ?_;refine St.cond _ rfl (fun n9=> ?_) (fun n9=> ?_)
         ·try simp only[aC]at n9
          rw[if_pos (show(fU (ax y) (d+1) b (n+1)).2.1≠0 by simpa using n9)]at cp;refine St.sr ?_;refine St.ee (Ev.bH (.mk rfl) gF trivial (by exact bC)) ?_;refine St.sA (.mk rfl) (.mk rfl) bC ?_;refine St.nn (St.ab (St.aB (St.aN (St.aB ?_))));refine St.rU [_] [ae bn (.cells [iv ((fU (ax y) (d+1) b (n+1)).1:Nat)].toArray 3 (0,0)),ae bw (.cells [(.func (.func 117) #[] [Value.pointer (some ⟨bn,0,none⟩),Value.pointer (some ⟨bw,0,none⟩)].toArray)].toArray tw (0,0))] Tryz.results117 ?_
          rw[cp];exact⟨rfl,rfl⟩
         ·try simp only[aC]at n9
          have FP:(fU (ax y) (d+1) b (n+1)).2.1=0:=by simpa using n9
          have q8:=(tB (ax y) (d+1) b (n+1) FP).1
          rw[if_neg (by rw[FP];decide)]at cp;refine St.skip (St.aA (St.seq ?_));refine St.eK [ae bn (.cells [iv ((fU (ax y) (d+1) b (n+1)).1:Nat)].toArray 3 (0,0)),ae bw (.cells [(.func (.func 117) #[] [Value.pointer (some ⟨bn,0,none⟩),Value.pointer (some ⟨bw,0,none⟩)].toArray)].toArray tw (0,0)),aF (bN z),ae b8 (.cells [iv 0,iv 0].toArray 42 (0,0))] mixed (fun np ns=> ?_);refine SW.dd 1 rfl (fun _=>Ev.aD (.mk rfl) gC) ?_;refine SW.dd 2 rfl (fun _=>Ev.cS (.mk rfl) eo trivial (by rfl)) ?_;refine SW.dd 3 rfl (fun _=>Ev.aR (k:=1) (.mk rfl) (.mk rfl) eo cy rfl (by omega)) ?_;refine SW.dd 4 rfl (fun _=>Ev.fg (.mk rfl) (show x.args[1]?=some z by rw[hy];rfl) fH trivial cy en.eq) ?_;refine SW.dd 5 rfl (fun _=>Ev.move (.mk rfl)) ?_;refine SW.dd 6 rfl (fun _=>Ev.a0) ?_;refine SW.slot 162 (iv ((d+1:Nat):Int)) rfl rfl ?_;refine SW.dd 7 rfl (fun _=>Ev.move (.mk rfl)) ?_;refine SW.bG (i:=0) (by kernel_rfl) rfl ?_;refine St.ee (Ev.l0 (.mk rfl) su) ?_;refine St.nn ?_;refine SW.go ?_;refine SW.bG (i:=8) (by kernel_rfl) rfl ?_;refine St.dR (ih z (by rw[hy];simp) (d+1) b (fU (ax y) (d+1) b (n+1)).1 (lX z (by rw[hy];simp)) (by omega) (by omega) (by omega)) r8 (.mk rfl) (.cons (.mk rfl) (.cons (.mk rfl) (.cons (.mk rfl) .nil))) rfl ?_;rintro v164 _ ⟨rfl,rfl⟩;refine St.ca ?_;refine St.nn ?_;refine SW.go ?_;refine SW.bG (i:=9) (by kernel_rfl) rfl ?_;refine St.sA (.mk rfl) (.mk rfl) bC ?_;refine St.nn ?_;refine SW.go ?_;refine SW.done (by kernel_rfl) ?_;refine St.aA (St.ab (St.aN (St.aB ?_)));refine St.rU [_] [ae bn (.cells [iv ((fU (ax z) (d+1) b (fU (ax y) (d+1) b (n+1)).1).1:Nat)].toArray 3 (0,0)),ae bw (.cells [(.func (.func 117) #[] [Value.pointer (some ⟨bn,0,none⟩),Value.pointer (some ⟨bw,0,none⟩)].toArray)].toArray tw (0,0))] Tryz.results117 ?_
          rw[cp];exact⟨rfl,rfl⟩
       ·refine St.alloc dC rfl (fun kX=> ?_)
        refine St.nn ?_;refine SW.go ?_;refine SW.bG (i:=0) (by kernel_rfl) rfl ?_;refine St.ee (Ev.l0 (.mk rfl) su) ?_;refine St.nn ?_;refine SW.go ?_;refine SW.bG (i:=8) (by kernel_rfl) rfl ?_;refine St.dR (ih y (by rw[hy];simp) (d+1) b (n+1) (lX y (by rw[hy];simp)) (by omega) (by omega) (by omega)) r8 (.mk rfl) (.cons (.mk rfl) (.cons (.mk rfl) (.cons (.mk rfl) .nil))) rfl ?_;rintro Ri _ ⟨rfl,rfl⟩;refine St.ca ?_;refine St.nn ?_;refine SW.go ?_;refine SW.bG (i:=10) (by kernel_rfl) rfl ?_;refine St.sA (.mk rfl) (.mk rfl) bC ?_;refine St.nn ?_;refine SW.go ?_;refine SW.done (by kernel_rfl) ?_;refine St.aA (St.sr ?_);refine St.ee (Ev.aD (.mk rfl) cb) ?_;refine St.ee (Ev.l0 (.mk rfl) bP) ?_;refine St.ee Ev.jj ?_;refine St.nn ?_;refine St.cond _ rfl (fun n9=> ?_) (fun n9=> ?_)
        ·try simp only[aC]at n9
         rw[if_pos (show(fU (ax y) (d+1) b (n+1)).2.1≠0 by simpa using n9)]at cp;refine St.sr ?_;refine St.ee (Ev.bH (.mk rfl) gF trivial (by exact bC)) ?_;refine St.sA (.mk rfl) (.mk rfl) bC ?_;refine St.nn (St.ab (St.aB (St.aN (St.aB ?_))));refine St.rU [_] [ae bn (.cells [iv ((fU (ax y) (d+1) b (n+1)).1:Nat)].toArray 3 (0,0)),ae bw (.cells [(.func (.func 117) #[] [Value.pointer (some ⟨bn,0,none⟩),Value.pointer (some ⟨bw,0,none⟩)].toArray)].toArray tw (0,0))] Tryz.results117 ?_
         rw[cp];exact⟨rfl,rfl⟩
        ·try simp only[aC]at n9
         have FP:(fU (ax y) (d+1) b (n+1)).2.1=0:=by simpa using n9
         have q8:=(tB (ax y) (d+1) b (n+1) FP).1
         rw[if_neg (by rw[FP];decide)]at cp;refine St.skip (St.aA (St.seq ?_));refine St.eK [ae bn (.cells [iv ((fU (ax y) (d+1) b (n+1)).1:Nat)].toArray 3 (0,0)),ae bw (.cells [(.func (.func 117) #[] [Value.pointer (some ⟨bn,0,none⟩),Value.pointer (some ⟨bw,0,none⟩)].toArray)].toArray tw (0,0)),aF (bN z),ae b8 (.cells [iv 0,iv 0].toArray 42 (0,0))] mixed (fun np ns=> ?_);refine SW.dd 1 rfl (fun _=>Ev.aD (.mk rfl) gC) ?_;refine SW.dd 2 rfl (fun _=>Ev.cS (.mk rfl) eo trivial (by rfl)) ?_;refine SW.dd 3 rfl (fun _=>Ev.aR (k:=1) (.mk rfl) (.mk rfl) eo cy rfl (by omega)) ?_;refine SW.dd 4 rfl (fun _=>Ev.fg (.mk rfl) (show x.args[1]?=some z by rw[hy];rfl) fH trivial cy en.eq) ?_;refine SW.dd 5 rfl (fun _=>Ev.move (.mk rfl)) ?_;refine SW.dd 6 rfl (fun _=>Ev.a0) ?_;refine SW.slot 162 (iv ((d+1:Nat):Int)) rfl rfl ?_;refine SW.dd 7 rfl (fun _=>Ev.move (.mk rfl)) ?_;refine SW.bG (i:=0) (by kernel_rfl) rfl ?_;refine St.ee (Ev.l0 (.mk rfl) su) ?_;refine St.nn ?_;refine SW.go ?_;refine SW.bG (i:=8) (by kernel_rfl) rfl ?_;refine St.dR (ih z (by rw[hy];simp) (d+1) b (fU (ax y) (d+1) b (n+1)).1 (lX z (by rw[hy];simp)) (by omega) (by omega) (by omega)) r8 (.mk rfl) (.cons (.mk rfl) (.cons (.mk rfl) (.cons (.mk rfl) .nil))) rfl ?_;rintro v164 _ ⟨rfl,rfl⟩;refine St.ca ?_;refine St.nn ?_;refine SW.go ?_;refine SW.bG (i:=9) (by kernel_rfl) rfl ?_;refine St.sA (.mk rfl) (.mk rfl) bC ?_;refine St.nn ?_;refine SW.go ?_;refine SW.done (by kernel_rfl) ?_;refine St.aA (St.ab (St.aN (St.aB ?_)));refine St.rU [_] [ae bn (.cells [iv ((fU (ax z) (d+1) b (fU (ax y) (d+1) b (n+1)).1).1:Nat)].toArray 3 (0,0)),ae bw (.cells [(.func (.func 117) #[] [Value.pointer (some ⟨bn,0,none⟩),Value.pointer (some ⟨bw,0,none⟩)].toArray)].toArray tw (0,0))] Tryz.results117 ?_
         rw[cp];exact⟨rfl,rfl⟩
     ·try simp only[aC]at tE
      rw[tm5 s8 tD uQ tE]at cp;refine St.sr ?_;refine St.mv ?_;refine St.ee (Ev.kr (gW b9 4 n) oB (.mk rfl) (.cons (.mk rfl) .nil) (fV.ae fV.nil)) ?_;refine St.sA (.mk rfl) (.mk rfl) bC ?_;refine St.nn (St.ab (St.aN (St.aB ?_)));refine St.rU [_] [ae bn (.cells [iv ((n+1):Nat)].toArray 3 (0,0)),ae bw (.cells [(.func (.func 117) #[] [Value.pointer (some ⟨bn,0,none⟩),Value.pointer (some ⟨bw,0,none⟩)].toArray)].toArray tw (0,0))] Tryz.results117 ?_;rw[cp,if_pos (by decide)];exact⟨rfl,rfl⟩
end Go.Proofs.YtolmidffiegkaaaGreatDoor
namespace Go.J
open Go
section
variable {P:Program}{n:Nat}{F:Fr}{A:World→Prop}{c:Ctx}{H R:List bQ}{ty:TypeId}{x y z:Operand}{v:Value}{Q:Exit→Act→World→Prop}{ops:Array Oper}{rest:List Oper}
 {d:Nat} {pos:String} {after:Array Edge} {t e:TypeId} {size m:Nat} {cs:List Value}
end
section
variable {P:Program}{n:Nat}{F:Fr}{A:World→Prop}{c:Ctx}{H R:List bQ}{ty:TypeId}{x y z:Operand}{v:Value}{Q:Exit→Act→World→Prop}{ops:Array Oper}{rest:List Oper}
 {d:Nat} {pos:String} {after:Array Edge} {t e:TypeId} {size m:Nat} {cs:List Value}
def yv:Value→Value
 | .slice a m _=> .slice a m m
 |v=>v
theorem Ev.clip {α:Type}{Rr:Rp α}{xs:List α}{i j:Int}{ki kj:IntKind}{hi mx:Operand}[hd:sM v H α Rr xs](hx:aL F x v)(hh:aL F hi (.int ki i))(hm:aL F mx (.int kj j))(ht:P.underlying t=some (.slice e))(hs:(P.info? e).map (·.size)=some Rr.size)
 (h1:i=xs.length) (h2:j=xs.length):Ev P n F (Mm c H) (.slice t x none (some hi) (some mx)) ty (yv v):= .of_run fun a w ha hw=>by
 obtain⟨ρ,sN⟩:=hw.out;obtain⟨inf,p4,fD⟩:=Option.map_eq_some_iff.1 hs;obtain⟨ad,cap,rfl,hc,_⟩:=sN.sl hd;subst h1 h2
 have b1:(0:Int)≤(xs.length:Int)∧(xs.length:Int)≤(cap:Int):=by omega
 have b2:(0:Int)≤(xs.length:Int)∧(xs.length:Int)≤(xs.length:Int):=by omega
 simp only[execOp,hx.eval ha,hh.eval ha,hm.eval ha,Option.map_some,Option.map_none,Instr.sliceAt,Instr.slice,Instr.sliceBounds,Instr.sliceBound,asIntOf,Sem.run_bind,run_underlying ht,Result.andThen_ok,Sem.run_pure,b1,b2,and_self,if_true,Int.toNat_natCast,sizeOf,typeInfo,run_program,p4,fD,yv,Nat.sub_zero,Nat.zero_mul]
 cases ad with
 |none=>simp
 |some a=>simp[Addr.add_zero']
theorem St.Aw {α:Type}{Rr:Rp α}{xs:List α}{v2:Value}{m2:Nat}{news:List Value}{zv:Value}{vA:Nat}[t2:jR v2 H e Rr.size m2 news R][t1:sM v H α Rr xs]
 (hx:aL F x (yv v)) (hy:aL F y v2) (ht:P.underlying t=some (.slice e)) (hs:(P.info? e).map (·.size)=some Rr.size) (hz:(P.info? e).bind (·.zero)=some zv) (hb:(P.info? e).map (·.bytes)=some vA)
 (JB:∀u∈news,u.oneCell'=true) (hlen:xs.length+m2≤9223372036854775807) (mK:(xs.length+m2)*vA≤140737488355328) (Lu:zv.cells.size=Rr.size) (mY:Nat.ble 1 Rr.size=true) (fj:Nat.ble 1 m2=true) (hd:Nat.ble (d+1) n=true)
 (h:∀v',v'.oneCell'=true→St n ((d,v')::F) (Mm c (row v' e Rr.size (xs.length+m2) (rows Rr xs++news)::R)) (wpList P ops Q rest)):
 St n F (Mm c H) (wpList P ops Q ({dst:=some d,op:= .call {callee:= .builtin .append,args:= #[x,y],argTypes:= #[t,t]},type:=ty,pos:=pos,after:=after,guard:=none}::rest)):=by
 refine St.Eg (K:=fun v' H'=>v'.oneCell'=true∧H'=row v' e Rr.size (xs.length+m2) (rows Rr xs++news)::R) ?_ hd ?_
 ·intro a w ρ ha hm
  have wV:=hm.perm t2.perm
  have Ei:=eP.1 (wV.dF _ (List.mem_cons_self ..))
  obtain⟨ad,cap,rfl,_,_,_,h5⟩:=hm.sl t1
  have Wy:=Nat.le_of_ble_eq_true fj
  obtain⟨i,hi,fD⟩:=Option.map_eq_some_iff.1 hs;obtain⟨q1,q2,q3⟩:=mb hs hz hb hi
  rcases Ei.2 with⟨_,rfl⟩|⟨g2,Ac,QT,rfl,_,QU,yQ,uW,QV,F6⟩
  ·omega
  ·have qw:∀j u,news[j]?=some u→w.cell? ((⟨g2,0,none⟩:Addr).add j)=some u:=fun j u hj=>by
    rw[Addr.add_lit,Nat.zero_add,cW QU];rw[←F6,List.getElem?_take]at hj
    split at hj
    ·simpa using hj
    ·simp at hj
   have O8:xs.length+m2≤9223372036854775807:=hlen
   have qI:(xs.length+m2)*i.bytes≤140737488355328:=by rw[q3];exact mK
   have jO:(rows Rr xs).length=xs.length*i.size:=by rw[dw,q1]
   have Rj:news.length=m2*i.size:=by rw[Ei.1,q1]
   have fE:∃(we:Nat),(Builtin.append_ #[t,t] ty #[yv (.slice ad xs.length cap),.slice (some ⟨g2,0,none⟩) m2 Ac]).run P w= .ok (.slice (some ⟨w.heap.size,0,none⟩) (xs.length+m2) we) (w.drew.alloc (.cells ((rows Rr xs).toArray++news.toArray++Builtin.zeroCells zv.cells (we-(xs.length+m2))) e))∧xs.length+m2≤we∧we≤maxLen:=by
    cases ad with
    |none=>
     rcases h5 with h5|⟨b,off,C,e',fr,h5,_⟩
     ·subst h5
      refine⟨grownCap w (([]:List α).length+m2) 0 e,?_,grownCap_ge ..,grownCap_le_maxLen _ _ _ _ (by unfold maxLen;omega)⟩
      have hr:=run_append_nil (P:=P) w t ty e i zv ht hi q2 ⟨g2,0,none⟩ m2 Ac news Rj qw (by omega) (by simp at O8;omega) (by simp at qI;omega)
      simpa[yv,rows]using hr
     ·cases h5
    |some ad=>
     refine⟨grownCap w (xs.length+m2) xs.length e,?_,grownCap_ge ..,grownCap_le_maxLen _ _ _ _ (by unfold maxLen;omega)⟩;refine run_append_grow (P:=P) w t ty e i zv ht hi q2 ad xs.length xs.length (rows Rr xs) jO (fun j u hj=> ?_) ⟨g2,0,none⟩ m2 Ac news Rj qw (by omega) (by omega) (growslice_fits (by omega) qI)
     rcases h5 with h5|⟨b,off,C,e',fr,h5,h6,h7⟩
     ·subst h5;simp[rows]at hj
     ·cases h5
      rw[Addr.add_lit,cW (hm.fits _ _ h6)];exact h7 j u hj
   obtain⟨we,sP,hc3,hc4⟩:=fE;refine⟨.value (.slice (some ⟨w.heap.size,0,none⟩) (xs.length+m2) we),w.drew.alloc (.cells ((rows Rr xs).toArray++news.toArray++Builtin.zeroCells zv.cells (we-(xs.length+m2))) e),ρ,_,?_,⟨_,.inl rfl,rfl,rfl⟩,?_⟩
   ·simp[execOp,resolve,invoke,builtin,hx.eval ha,hy.eval ha,sP]
   ·have MQ:(rows Rr xs++news).length=(xs.length+m2)*Rr.size:=by rw[List.length_append,Ei.1,dw,Nat.add_mul]
    refine wV.drop.AX rfl ⟨rfl,Nat.le_succ _⟩ rfl (by simp) (fun k hk=>heap_alloc_old w.drew _ hk) (eP.2 ⟨MQ,.inr ⟨w.heap.size,we,_,rfl,Nat.zero_le _,heap_alloc_new w.drew _,hc3,hc4,?_,?_⟩⟩) ?_
    ·simp only[Array.size_append,List.size_toArray,size_zeroCells,Lu,dw,Ei.1,←Nat.add_mul]
     congr 1
     omega
    ·simp only[Array.toList_append,List.append_assoc]
     rw[←List.append_assoc,←MQ];exact List.take_left
    ·intro b hb;rw[ef]at hb;simp[Value.ownBlock]at hb;omega
 ·rintro _ _ ⟨h1,rfl⟩
  exact h _ h1
end
end Go.J
namespace Go.Proofs.YtolmidffiegkaaaGreatDoor
open Go Go.J
theorem Ax (x:cD):(ax x).type=bI x.type:=by cases x;rfl
theorem yw (x:cD):(ax x).index=x.index:=by cases x;rfl
theorem na {a b:Option dU}{s1 s2:dU}{b1 b2:Bool}(h1:b1=true→a=some s1)(h1f:b1=false→a=none)(h2:b2=true→b=some s2)(h2f:b2=false→b=none)
 (hn:b1=true→b2=true→∀p q,s1.args=[p,q]→fZ p s2=true→False):wj a b=none:=by
 cases b1 with
 |false=>rw[h1f rfl];rfl
 |true=>
  cases b2 with
  |false=>
   rw[h2f rfl];unfold wj
   split
   ·contradiction
   ·rfl
  |true=>
   rw[h1 rfl,h2 rfl]
   refine vT _ _ fun s l x e1 e2 e3=> ?_
   cases e1;cases e3
   rintro ⟨p,q,rfl,hs⟩;exact hn rfl rfl p q e2 hs
theorem Du {l:List cT}{p q:cT}(h:l=[p,q]):l[0]?=some (l.headD gN):=by rw[h];rfl
section
variable {n:Nat}{F:Fr}{c:Ctx}{H:List bQ}{T:Act→World→Prop}
theorem St.K1 (l:List cT)[hd:jW (aX bW l) H](k:St n F (Mm c (aF (bW (l.headD gN))::H)) T):St n F (Mm c H) T:=
 St.fo (bW (l.headD gN)) [aX bW l] (fun ρ h=>by
  cases l with
  |nil=>exact .mk (x:=gN) (Ae gT ρ) (fun y hy=>by cases hy)
  |cons p l=>exact h _ (List.mem_cons_self ..) p (List.mem_cons_self ..)) k
end
set_option maxHeartbeats 2000000 in
theorem Ay:∀(x:cD) (ctx:List cT) (v:Value) (d:Nat),ue (ax x) d ctx.length→cE.wf x→ctx.length≤d→fC Tryz.prog 121 #[bc x,v] ([bN x,sl gT v ctx,aX bW ctx].map aF) (fun r H'=>∃(s:cT) (b:Bool),r= .tuple #[aP s,.bool b]∧gT.wf s∧(b=true→iH (ax x) (ctx.map bI)=some (bI s))∧(b=false→iH (ax x) (ctx.map bI)=none)∧H'=[aF (bW s)]):=by
 intro x
 induction x using cD.ind
 rename_i x ih
 intro ctx v d hg hw JE;refine fC.body (args:=[bc x,v]) 101 Tryz.func121 rfl Tryz.ntmps121 rfl (fun c=> ?_);refine St.cast (H':=[aF (bN x),aF (sl gT v ctx),aF (aX bW ctx)]) rfl ?_;refine St.seq ?_;obtain⟨acF,hh,hk⟩:=hg.inv;rw[xO]at hh
 have hinv:=qT hh
 rw[iZ,m7]at hk
 have cp:=pO (ax x) (ctx.map bI)
 rw[m7,iZ,Ax,yw,List.length_map]at cp;refine St.pB x ?_;refine St.wf x.av.1 (fun lX sO=> ?_);refine St.wf v (fun hcw hcx=> ?_);refine St.rg ?_;refine St.cX (.mk rfl) rfl (fun b2=> ?_);refine St.alloc iA rfl (fun b4=> ?_);refine St.ar ?_;refine St.nn (St.seq (St.sr ?_));refine St.ee (Ev.aD (.mk rfl) gp) ?_;refine St.ee (Ev.l0 (.mk rfl) bP) ?_;refine St.nn (St.block (St.sr ?_));refine St.ee Ev.fa ?_;refine St.ar ?_;refine St.nn ?_;refine St.cond _ rfl (fun K2=> ?_) (fun K2=> ?_)
 ·try simp only[aC]at K2
  rw[if_pos K2]at cp;refine St.sr ?_;refine St.ee (Ev.aD (.mk rfl) lC) ?_;refine St.ee (Ev.gy 2 (.mk rfl) bX trivial bD rfl rfl) ?_;refine St.slot 18 (aP x.type) rfl rfl ?_;refine St.sA (.mk rfl) (.mk rfl) bD ?_ (h1:=(by simp only[List.all_cons,List.all_nil,Bool.and_true,Bool.and_eq_true];exact⟨rfl,x.type.av.2⟩));refine St.ar ?_;refine St.nn (St.ab (St.aN (St.aB ?_)));refine St.rT [_,_] [aF (bW x.type)] Tryz.results121 ⟨⟨_,_,_,_,rfl,jm.mem,.inl ⟨⟨_,bX⟩,bD,rfl⟩⟩,⟨rfl,trivial⟩⟩ ?_;exact⟨x.type,true,rfl,hw.2.2.2,(fun _=>cp),((fun hb=>by cases hb)),rfl⟩
 ·try simp only[aC]at K2
  rw[if_neg K2]at cp;refine St.sr ?_;refine St.ee Ev.fa ?_;refine St.ar ?_;refine St.nn ?_;refine St.cond _ rfl (fun gP=> ?_) (fun gP=> ?_)
  ·try simp only[aC]at gP
   rw[if_pos gP]at cp;obtain⟨s,hs⟩:=aQ (show ctx.length-1-x.index.toNat<ctx.length by omega);refine St.cC bW ctx (x:=s) (List.mem_of_getElem? hs) ?_;refine St.sr ?_;refine St.mv ?_;refine St.mv ?_;refine St.ee (Ev.au (.mk rfl) dG) ?_;refine St.ee Ev.s0 ?_;refine St.ee (Ev.aD (.mk rfl) lB) ?_;refine St.ee (Ev.l0 (.mk rfl) bP) ?_;refine St.ee Ev.s0 ?_;refine St.ee (Ev.aR (k:=(ctx.length-1-x.index.toNat)) (.mk rfl) (.mk rfl) dG bD (by omega) (by omega)) ?_;refine St.ee (Ev.fg (.mk rfl) hs bX trivial bD en.eq) ?_;refine St.sA (.mk rfl) (.mk rfl) bD ?_ (h1:=(by simp only[List.all_cons,List.all_nil,Bool.and_true,Bool.and_eq_true];exact⟨rfl,s.av.2⟩));refine St.ar ?_;refine St.nn (St.ab (St.aN (St.aB ?_)));refine St.rT [_,_] [aF (bW s)] Tryz.results121 ⟨⟨_,_,_,_,rfl,jm.mem,.inl ⟨⟨_,bX⟩,bD,rfl⟩⟩,⟨rfl,trivial⟩⟩ ?_;exact⟨s,true,rfl,hcw s (List.mem_of_getElem? hs),(fun _=>by rw[cp,List.getElem?_map,hs];rfl),((fun hb=>by cases hb)),rfl⟩
  ·try simp only[aC]at gP
   rw[if_neg gP]at cp;refine St.sr ?_;refine St.ee Ev.fa ?_;refine St.ar ?_;refine St.nn ?_;refine St.cond _ rfl (fun qV=> ?_) (fun qV=> ?_)
   ·try simp only[aC]at qV
    rw[if_pos qV]at cp;obtain⟨y,hy⟩:=yt (show x.args.length=1 by omega)
    have h1l:x.args.length=1:=by omega
    have lY:y∈x.args:=by rw[hy];simp
    have Pz:=hk (ax y) (List.mem_map_of_mem lY)
    rw[if_pos qV]at Pz;refine St.cC bN x.args (x:=y) lY ?_;rw[hy,List.map_cons,List.map_nil,jf]at cp;refine St.seq ?_;refine St.yS [] mixed (fun np ns=> ?_);refine SW.dd 0 rfl (fun _=>Ev.move (.mk rfl)) ?_;refine SW.dd 1 rfl (fun _=>Ev.move (.mk rfl)) ?_;refine SW.dd 2 rfl (fun _=>Ev.au (.mk rfl) dG) ?_;refine SW.dd 3 rfl (fun _=>Ev.move (.mk rfl)) ?_;refine SW.dd 4 rfl (fun _=>Ev.au (.mk rfl) dG) ?_;refine SW.dd 5 rfl (fun _=>Ev.clip (.mk rfl) (.mk rfl) (.mk rfl) dG bD rfl rfl) ?_;refine SW.dd 6 rfl (fun _=>Ev.aD (.mk rfl) lC) ?_;refine SW.dd 7 rfl (fun _=>Ev.gy 2 (.mk rfl) bX trivial bD rfl rfl) ?_;refine SW.slot 39 (aP x.type) rfl rfl ?_;refine SW.bG (i:=8) (by kernel_rfl) rfl ?_;refine St.cn rfl (.cons (.mk rfl) .nil) dG bD Df rfl rfl (by simp[Value.cells]) rfl rfl (fun Xq=> ?_);refine St.nn ?_;refine SW.go ?_;refine SW.bG (i:=9) (by kernel_rfl) rfl ?_;refine St.Aw (.mk rfl) (.mk rfl) dG bD Df RJ (tA (p:=fun u:Value=>u.oneCell'=true) rfl x.type.av.2) (by omega) (by omega) rfl rfl rfl rfl (fun Xr acG=> ?_);refine St.aU Xr gT (ctx++ [x.type]) (by simp[rows];rfl) (by simp) (fun u hu=>(List.mem_append.1 hu).elim (hcw u) (fun h=>by rw[List.mem_singleton.1 h];exact hw.2.2.2)) ?_;refine St.lP bW (xs:=ctx) (x:=x.type) ?_;refine St.nn ?_;refine SW.go ?_;refine SW.dd 10 rfl (fun _=>Ev.assign (.mk rfl)) ?_;refine SW.done (by kernel_rfl) ?_;refine St.aA (St.sr ?_);refine St.ee (Ev.aD (.mk rfl) gC) ?_;refine St.ee (Ev.l0 (.mk rfl) eo) ?_;refine St.ee (Ev.aR (k:=0) (.mk rfl) (.mk rfl) eo cy rfl (by omega)) ?_;refine St.ee (Ev.fg (.mk rfl) (show x.args[0]?=some y by rw[hy];rfl) fH trivial cy en.eq) ?_;refine St.mv ?_;refine St.ay (ih y lY (ctx++ [x.type]) Xr (d+1) (by rw[←eg];exact Pz) (lX y lY) (by rw[←eg];omega)) CU (.cons (.mk rfl) (.cons (.mk rfl) .nil)) rfl ?_;rintro v48 _ ⟨s,b1,rfl,Rk,Az,Dv,rfl⟩;refine St.bK ?_;refine St.mv ?_;refine St.ee (Ev.extract (.mk rfl) rfl) ?_;refine St.ee (Ev.extract (.mk rfl) rfl) ?_;refine St.alloc iA rfl (fun b7=> ?_);refine St.sA (.mk rfl) (.mk rfl) bD ?_ (h1:=(by simp only[List.all_cons,List.all_nil,Bool.and_true,Bool.and_eq_true];exact⟨rfl,s.av.2⟩));refine St.ar ?_;refine St.nn (St.sr ?_);refine St.ee (Ev.aD (.mk rfl) lC) ?_;refine St.ee (Ev.gy 2 (.mk rfl) bX trivial bD rfl rfl) ?_;refine St.slot 52 (aP x.type) rfl rfl ?_;refine St.ee (Ev.bH (.mk rfl) bX trivial (by exact bD)) ?_;refine St.cn rfl (.cons (.mk rfl) (.cons (.mk rfl) .nil)) dG bD Df rfl rfl (by simp[Value.cells]) rfl rfl (fun O9=> ?_);refine St.aU (.slice (some ⟨O9,0,none⟩) 2 2) gT [x.type,s] rfl rfl (tA hw.2.2.2 Rk) ?_;refine St.dX bW ?_;refine St.ei bW (xs:=[]) (x:=s) ?_;refine St.ei bW (xs:=[s]) (x:=x.type) ?_;refine St.mM [] (.slice (some ⟨O9,0,none⟩) 2 2) rfl [x.type,s] ?_;refine St.ee (Ev.build (ps:=[(1,(.tmp 54))]) (aV.cons (aL.mk rfl) aV.nil) (fun w=>xH rfl w)) ?_;refine St.mv ?_;refine St.sA (.mk rfl) (.mk rfl) bD ?_ (h1:=(by simp only[List.all_cons,List.all_nil,Bool.and_true,Bool.and_eq_true];exact⟨rfl,rfl⟩));refine St.ar ?_;refine St.nn (St.ab (St.aN (St.aB ?_)));refine St.rT [_,_] [aF (bW (.mk [] ⟨(.slice (some ⟨O9,0,none⟩) 2 2),rfl⟩ [x.type,s]))] Tryz.results121 ⟨⟨_,_,_,_,rfl,jm.mem,.inl ⟨⟨_,bX⟩,bD,rfl⟩⟩,⟨rfl,trivial⟩⟩ ?_;exact⟨(.mk [] ⟨(.slice (some ⟨O9,0,none⟩) 2 2),rfl⟩ [x.type,s]),b1,rfl,Nat.zero_le _,(fun hb=>by rw[cp,show iH (ax y) (ctx.map bI++ [bI x.type])=some (bI s) by rw[←Az hb,List.map_append];rfl,iy];rfl),(fun hb=>by rw[cp,show iH (ax y) (ctx.map bI++ [bI x.type])=none by rw[←Dv hb,List.map_append];rfl];rfl),rfl⟩
   ·try simp only[aC]at qV
    rw[if_neg qV]at cp;obtain⟨y,z,hy⟩:=n8 (show x.args.length=2 by omega)
    have h2l:x.args.length=2:=by omega
    have lY:y∈x.args:=by rw[hy];simp
    have Vt:z∈x.args:=by rw[hy];simp
    have Pz:=hk (ax y) (List.mem_map_of_mem lY)
    have hzg:=hk (ax z) (List.mem_map_of_mem Vt)
    rw[if_neg qV]at Pz hzg;refine St.cC bN x.args (x:=y) lY ?_;refine St.cC bN x.args (x:=z) Vt ?_;rw[hy,List.map_cons,List.map_cons,List.map_nil,jf,rA]at cp;refine St.skip (St.aO (St.aA (St.sr ?_)));refine St.ee (Ev.aD (.mk rfl) gC) ?_;refine St.ee (Ev.l0 (.mk rfl) eo) ?_;refine St.ee (Ev.aR (k:=0) (.mk rfl) (.mk rfl) eo cy rfl (by omega)) ?_;refine St.ee (Ev.fg (.mk rfl) (show x.args[0]?=some y by rw[hy];rfl) fH trivial cy en.eq) ?_;refine St.mv ?_;refine St.ay (ih y lY ctx v (d+1) Pz (lX y lY) (by omega)) CU (.cons (.mk rfl) (.cons (.mk rfl) .nil)) rfl ?_;rintro v63 _ ⟨s1,b1,rfl,Rk,Az,Dv,rfl⟩;refine St.bK ?_;refine St.mv ?_;refine St.ee (Ev.extract (.mk rfl) rfl) ?_;refine St.ee (Ev.extract (.mk rfl) rfl) ?_;refine St.alloc iA rfl (fun b9=> ?_);refine St.sA (.mk rfl) (.mk rfl) bD ?_ (h1:=(by simp only[List.all_cons,List.all_nil,Bool.and_true,Bool.and_eq_true];exact⟨rfl,s1.av.2⟩));refine St.ar ?_;refine St.nn (St.sr ?_);refine St.ee (Ev.aD (.mk rfl) gC) ?_;refine St.ee (Ev.l0 (.mk rfl) eo) ?_;refine St.ee (Ev.aR (k:=1) (.mk rfl) (.mk rfl) eo cy rfl (by omega)) ?_;refine St.ee (Ev.fg (.mk rfl) (show x.args[1]?=some z by rw[hy];rfl) fH trivial cy en.eq) ?_;refine St.mv ?_;refine St.ay (ih z Vt ctx v (d+1) hzg (lX z Vt) (by omega)) CU (.cons (.mk rfl) (.cons (.mk rfl) .nil)) rfl ?_;rintro v72 _ ⟨s2,b2,rfl,acH,GB,K3,rfl⟩;refine St.bK ?_;refine St.mv ?_;refine St.ee (Ev.extract (.mk rfl) rfl) ?_;refine St.ee (Ev.extract (.mk rfl) rfl) ?_;refine St.alloc iA rfl (fun kX=> ?_);refine St.sA (.mk rfl) (.mk rfl) bD ?_ (h1:=(by simp only[List.all_cons,List.all_nil,Bool.and_true,Bool.and_eq_true];exact⟨rfl,s2.av.2⟩));refine St.ar ?_;refine St.nn (St.seq (St.seq ?_));refine St.jb s1 ?_;refine St.wf s1.av.1 (fun OA AJ=> ?_);refine St.K1 s1.args ?_;refine St.eK [] mixed (fun np ns=> ?_);refine SW.dd 0 rfl (fun _=>Ev.move (.mk rfl)) ?_;refine SW.dd 1 rfl (fun _=>Ev.not (.mk rfl)) ?_;refine SW.dd 2 rfl (fun _=>Ev.move (.mk rfl)) ?_;refine SW.split 77 _ rfl (fun GC=> ?_) (fun GC=> ?_)
    ·refine SW.gf 3 undef np ns rfl rfl rfl (fun R hg=>by cases hg) (by kernel_rfl) rfl ?_
     refine SW.slot 78 undef rfl (ag rfl _) ?_;refine SW.gf 4 undef np ns rfl rfl rfl (fun R hg=>by cases hg) (by kernel_rfl) rfl ?_;refine SW.slot 79 undef rfl (ag rfl _) ?_;refine SW.dd 5 rfl (fun _=>Ev.er (.mk rfl) rfl (.mk rfl)) ?_;refine SW.dd 6 rfl (fun _=>Ev.move (.mk rfl)) ?_;refine SW.slot 81 (.bool true) rfl (congrArg Value.bool rfl) ?_;refine SW.gf 7 undef np ns rfl rfl rfl (fun R hg=>by cases hg) (by kernel_rfl) rfl ?_;refine SW.slot 82 undef rfl (ag rfl _) ?_;refine SW.gf 8 undef np ns rfl rfl rfl (fun R hg=>by cases hg) (by kernel_rfl) rfl ?_;refine SW.slot 83 undef rfl (ag rfl _) ?_;refine SW.gf 9 undef np ns rfl rfl rfl (fun R hg=>by cases hg) (by kernel_rfl) rfl ?_;refine SW.slot 84 undef rfl (ag rfl _) ?_;refine SW.gf 10 undef np ns rfl rfl rfl (fun R hg=>by cases hg) (by kernel_rfl) rfl ?_;refine SW.slot 85 undef rfl (ag rfl _) ?_;refine SW.dd 11 rfl (fun _=>Ev.er (.mk rfl) rfl (.mk rfl)) ?_;refine SW.dd 12 rfl (fun _=>Ev.move (.mk rfl)) ?_;refine SW.slot 87 (.bool true) rfl (congrArg Value.bool rfl) ?_;refine SW.gf 13 undef np ns rfl rfl rfl (fun R hg=>by cases hg) (by kernel_rfl) rfl ?_;refine SW.slot 88 undef rfl (ag rfl _) ?_;refine SW.gf 14 undef np ns rfl rfl rfl (fun R hg=>by cases hg) (by kernel_rfl) rfl ?_;refine SW.slot 89 undef rfl (ag rfl _) ?_;refine SW.gf 15 undef np ns rfl rfl rfl (fun R hg=>by cases hg) (by kernel_rfl) rfl ?_;refine SW.slot 90 undef rfl (ag rfl _) ?_;refine SW.gf 16 undef np ns rfl rfl rfl (fun R hg=>by cases hg) (by kernel_rfl) rfl ?_;refine SW.slot 91 undef rfl (ag rfl _) ?_;refine SW.gf 17 undef np ns rfl rfl rfl (fun R hg=>by cases hg) (by kernel_rfl) rfl ?_;refine SW.slot 92 undef rfl (ag rfl _) ?_;refine SW.gf 18 undef np ns rfl rfl rfl (fun R hg=>by cases hg) (by kernel_rfl) rfl ?_;refine SW.slot 93 undef rfl (ag rfl _) ?_;refine SW.gf 19 undef np ns rfl rfl rfl (fun R hg=>by cases hg) (by kernel_rfl) rfl ?_;refine SW.slot 94 undef rfl (ag rfl _) ?_;refine SW.dd 20 rfl (fun _=>Ev.er (.mk rfl) rfl (.mk rfl)) ?_;refine SW.done (by kernel_rfl) ?_;refine St.aA ?_;refine St.cond _ rfl (fun qW=> ?_) (fun qW=> ?_)
     ·skip
      have mL:b1=true→b2=true→∀p q,(bI s1).args=[p,q]→fZ p (bI s2)=true→False:=fun e1 _ _ _ _ _=>by rw[e1]at GC;cases GC
      refine St.sr ?_;refine St.ee (Ev.build (ps:=[]) (aV.nil) (fun w=>qS w)) ?_;refine St.sA (.mk rfl) (.mk rfl) bD ?_ (h1:=(by simp only[List.all_cons,List.all_nil,Bool.and_true,Bool.and_eq_true];exact⟨rfl,rfl⟩));refine St.ar ?_;refine St.nn (St.ab (St.aB ?_));refine St.hJ gT ?_;refine St.dX bW ?_;refine St.mM [] (.slice none 0 0) rfl [] ?_;refine St.rT [_,_] [aF (bW gN)] Tryz.results121 ⟨⟨_,_,_,_,rfl,jm.mem,.inl ⟨⟨_,bX⟩,bD,rfl⟩⟩,⟨rfl,trivial⟩⟩ ?_;exact⟨gN,false,rfl,Nat.zero_le _,((fun hb=>by cases hb)),(fun _=>by rw[cp];exact na Az Dv GB K3 mL),rfl⟩
     ·skip
      cases qW
    ·refine SW.gf 3 _ np ns rfl rfl rfl (fun R _=>Ev.move (.mk rfl)) (by kernel_rfl) rfl ?_
     refine SW.slot 78 _ rfl (an rfl _) ?_;refine SW.gf 4 _ np ns rfl rfl rfl (fun R _=>Ev.not (.mk rfl)) (by kernel_rfl) rfl ?_;refine SW.slot 79 _ rfl (an rfl _) ?_;refine SW.dd 5 rfl (fun _=>Ev.iM (.mk rfl) rfl (.mk rfl)) ?_;refine SW.dd 6 rfl (fun _=>Ev.move (.mk rfl)) ?_;refine SW.split 81 _ rfl (fun GD=> ?_) (fun GD=> ?_)
     ·refine SW.gf 7 undef np ns rfl rfl rfl (fun R hg=>by cases hg) (by kernel_rfl) rfl ?_
      refine SW.slot 82 undef rfl (ag rfl _) ?_;refine SW.gf 8 undef np ns rfl rfl rfl (fun R hg=>by cases hg) (by kernel_rfl) rfl ?_;refine SW.slot 83 undef rfl (ag rfl _) ?_;refine SW.gf 9 undef np ns rfl rfl rfl (fun R hg=>by cases hg) (by kernel_rfl) rfl ?_;refine SW.slot 84 undef rfl (ag rfl _) ?_;refine SW.gf 10 undef np ns rfl rfl rfl (fun R hg=>by cases hg) (by kernel_rfl) rfl ?_;refine SW.slot 85 undef rfl (ag rfl _) ?_;refine SW.dd 11 rfl (fun _=>Ev.er (.mk rfl) rfl (.mk rfl)) ?_;refine SW.dd 12 rfl (fun _=>Ev.move (.mk rfl)) ?_;refine SW.slot 87 (.bool true) rfl (congrArg Value.bool rfl) ?_;refine SW.gf 13 undef np ns rfl rfl rfl (fun R hg=>by cases hg) (by kernel_rfl) rfl ?_;refine SW.slot 88 undef rfl (ag rfl _) ?_;refine SW.gf 14 undef np ns rfl rfl rfl (fun R hg=>by cases hg) (by kernel_rfl) rfl ?_;refine SW.slot 89 undef rfl (ag rfl _) ?_;refine SW.gf 15 undef np ns rfl rfl rfl (fun R hg=>by cases hg) (by kernel_rfl) rfl ?_;refine SW.slot 90 undef rfl (ag rfl _) ?_;refine SW.gf 16 undef np ns rfl rfl rfl (fun R hg=>by cases hg) (by kernel_rfl) rfl ?_;refine SW.slot 91 undef rfl (ag rfl _) ?_;refine SW.gf 17 undef np ns rfl rfl rfl (fun R hg=>by cases hg) (by kernel_rfl) rfl ?_;refine SW.slot 92 undef rfl (ag rfl _) ?_;refine SW.gf 18 undef np ns rfl rfl rfl (fun R hg=>by cases hg) (by kernel_rfl) rfl ?_;refine SW.slot 93 undef rfl (ag rfl _) ?_;refine SW.gf 19 undef np ns rfl rfl rfl (fun R hg=>by cases hg) (by kernel_rfl) rfl ?_;refine SW.slot 94 undef rfl (ag rfl _) ?_;refine SW.dd 20 rfl (fun _=>Ev.er (.mk rfl) rfl (.mk rfl)) ?_;refine SW.done (by kernel_rfl) ?_;refine St.aA ?_;refine St.cond _ rfl (fun qW=> ?_) (fun qW=> ?_)
      ·skip
       have mL:b1=true→b2=true→∀p q,(bI s1).args=[p,q]→fZ p (bI s2)=true→False:=fun _ e2 _ _ _ _=>by rw[e2]at GD;cases GD
       refine St.sr ?_;refine St.ee (Ev.build (ps:=[]) (aV.nil) (fun w=>qS w)) ?_;refine St.sA (.mk rfl) (.mk rfl) bD ?_ (h1:=(by simp only[List.all_cons,List.all_nil,Bool.and_true,Bool.and_eq_true];exact⟨rfl,rfl⟩));refine St.ar ?_;refine St.nn (St.ab (St.aB ?_));refine St.hJ gT ?_;refine St.dX bW ?_;refine St.mM [] (.slice none 0 0) rfl [] ?_;refine St.rT [_,_] [aF (bW gN)] Tryz.results121 ⟨⟨_,_,_,_,rfl,jm.mem,.inl ⟨⟨_,bX⟩,bD,rfl⟩⟩,⟨rfl,trivial⟩⟩ ?_;exact⟨gN,false,rfl,Nat.zero_le _,((fun hb=>by cases hb)),(fun _=>by rw[cp];exact na Az Dv GB K3 mL),rfl⟩
      ·skip
       cases qW
     ·refine SW.gf 7 _ np ns rfl rfl rfl (fun R _=>Ev.aD (.mk rfl) eY) (by kernel_rfl) rfl ?_
      refine SW.slot 82 _ rfl (an rfl _) ?_;refine SW.gf 8 _ np ns rfl rfl rfl (fun R _=>Ev.cS (.mk rfl) dG trivial (by rfl)) (by kernel_rfl) rfl ?_;refine SW.slot 83 _ rfl (an rfl _) ?_;refine SW.gf 9 _ np ns rfl rfl rfl (fun R _=>Ev.au (.mk rfl) dG) (by kernel_rfl) rfl ?_;refine SW.slot 84 _ rfl (an rfl _) ?_;refine SW.gf 10 _ np ns rfl rfl rfl (fun R _=>Ev.jj) (by kernel_rfl) rfl ?_;refine SW.slot 85 _ rfl (an rfl _) ?_;refine SW.dd 11 rfl (fun _=>Ev.iM (.mk rfl) rfl (.mk rfl)) ?_;refine SW.dd 12 rfl (fun _=>Ev.move (.mk rfl)) ?_;refine SW.split 87 _ rfl (fun xP=> ?_) (fun xP=> ?_)
      ·refine SW.gf 13 undef np ns rfl rfl rfl (fun R hg=>by cases hg) (by kernel_rfl) rfl ?_
       refine SW.slot 88 undef rfl (ag rfl _) ?_;refine SW.gf 14 undef np ns rfl rfl rfl (fun R hg=>by cases hg) (by kernel_rfl) rfl ?_;refine SW.slot 89 undef rfl (ag rfl _) ?_;refine SW.gf 15 undef np ns rfl rfl rfl (fun R hg=>by cases hg) (by kernel_rfl) rfl ?_;refine SW.slot 90 undef rfl (ag rfl _) ?_;refine SW.gf 16 undef np ns rfl rfl rfl (fun R hg=>by cases hg) (by kernel_rfl) rfl ?_;refine SW.slot 91 undef rfl (ag rfl _) ?_;refine SW.gf 17 undef np ns rfl rfl rfl (fun R hg=>by cases hg) (by kernel_rfl) rfl ?_;refine SW.slot 92 undef rfl (ag rfl _) ?_;refine SW.gf 18 undef np ns rfl rfl rfl (fun R hg=>by cases hg) (by kernel_rfl) rfl ?_;refine SW.slot 93 undef rfl (ag rfl _) ?_;refine SW.gf 19 undef np ns rfl rfl rfl (fun R hg=>by cases hg) (by kernel_rfl) rfl ?_;refine SW.slot 94 undef rfl (ag rfl _) ?_;refine SW.dd 20 rfl (fun _=>Ev.er (.mk rfl) rfl (.mk rfl)) ?_;refine SW.done (by kernel_rfl) ?_;refine St.aA ?_;refine St.cond _ rfl (fun qW=> ?_) (fun qW=> ?_)
       ·skip
        simp only[aC]at xP
        have mL:b1=true→b2=true→∀p q,(bI s1).args=[p,q]→fZ p (bI s2)=true→False:=fun _ _ p q e _=>by rw[dA]at e;have e3:=congrArg List.length e;rw[List.length_map]at e3;exact xP (by rw[e3];rfl)
        refine St.sr ?_;refine St.ee (Ev.build (ps:=[]) (aV.nil) (fun w=>qS w)) ?_;refine St.sA (.mk rfl) (.mk rfl) bD ?_ (h1:=(by simp only[List.all_cons,List.all_nil,Bool.and_true,Bool.and_eq_true];exact⟨rfl,rfl⟩));refine St.ar ?_;refine St.nn (St.ab (St.aB ?_));refine St.hJ gT ?_;refine St.dX bW ?_;refine St.mM [] (.slice none 0 0) rfl [] ?_;refine St.rT [_,_] [aF (bW gN)] Tryz.results121 ⟨⟨_,_,_,_,rfl,jm.mem,.inl ⟨⟨_,bX⟩,bD,rfl⟩⟩,⟨rfl,trivial⟩⟩ ?_;exact⟨gN,false,rfl,Nat.zero_le _,((fun hb=>by cases hb)),(fun _=>by rw[cp];exact na Az Dv GB K3 mL),rfl⟩
       ·skip
        cases qW
      ·have Xs:=xP
       simp only[aC]at Xs
       have Py:s1.args.length=2:=by omega
       obtain⟨p,q,xQ⟩:=n8 Py;refine SW.gf 13 _ np ns rfl rfl rfl (fun R _=>Ev.aD (.mk rfl) eY) (by kernel_rfl) rfl ?_;refine SW.slot 88 _ rfl (an rfl _) ?_;refine SW.gf 14 _ np ns rfl rfl rfl (fun R _=>Ev.cS (.mk rfl) dG trivial (by rfl)) (by kernel_rfl) rfl ?_;refine SW.slot 89 _ rfl (an rfl _) ?_;refine SW.gf 15 _ np ns rfl rfl rfl (fun R _=>Ev.aR (k:=0) (.mk rfl) (.mk rfl) dG bD rfl (by omega)) (by kernel_rfl) rfl ?_;refine SW.slot 90 _ rfl (an rfl _) ?_;refine SW.gf 16 _ np ns rfl rfl rfl (fun R _=>Ev.fg (.mk rfl) (Du xQ) bX trivial bD en.eq) (by kernel_rfl) rfl ?_;refine SW.slot 91 _ rfl (an rfl _) ?_;refine SW.gf 17 _ np ns rfl rfl rfl (fun R _=>Ev.bH (.mk rfl) bX trivial (by exact bD)) (by kernel_rfl) rfl ?_;refine SW.slot 92 _ rfl (an rfl _) ?_;refine SW.gf 18 _ np ns rfl rfl rfl (fun R _=>Ev.call (Ds (s1.args.headD gN) s2) MI (.cons (.mk rfl) (.cons (.mk rfl) .nil))) (by kernel_rfl) rfl ?_;refine SW.slot 93 _ rfl (an rfl _) ?_;refine SW.gf 19 _ np ns rfl rfl rfl (fun R _=>Ev.not (.mk rfl)) (by kernel_rfl) rfl ?_;refine SW.slot 94 _ rfl (an rfl _) ?_;refine SW.dd 20 rfl (fun _=>Ev.iM (.mk rfl) rfl (.mk rfl)) ?_;refine SW.done (by kernel_rfl) ?_;refine St.aA ?_;refine St.cond _ rfl (fun qW=> ?_) (fun qW=> ?_)
       ·skip
        simp only[aC]at qW
        have mL:b1=true→b2=true→∀p q,(bI s1).args=[p,q]→fZ p (bI s2)=true→False:=fun _ _ p1 q1 e hs=>by rw[dA,xQ]at e;cases e;rw[xQ]at qW;exact absurd (qW.symm.trans hs) (by decide)
        refine St.sr ?_;refine St.ee (Ev.build (ps:=[]) (aV.nil) (fun w=>qS w)) ?_;refine St.sA (.mk rfl) (.mk rfl) bD ?_ (h1:=(by simp only[List.all_cons,List.all_nil,Bool.and_true,Bool.and_eq_true];exact⟨rfl,rfl⟩));refine St.ar ?_;refine St.nn (St.ab (St.aB ?_));refine St.hJ gT ?_;refine St.dX bW ?_;refine St.mM [] (.slice none 0 0) rfl [] ?_;refine St.rT [_,_] [aF (bW gN)] Tryz.results121 ⟨⟨_,_,_,_,rfl,jm.mem,.inl ⟨⟨_,bX⟩,bD,rfl⟩⟩,⟨rfl,trivial⟩⟩ ?_;exact⟨gN,false,rfl,Nat.zero_le _,((fun hb=>by cases hb)),(fun _=>by rw[cp];exact na Az Dv GB K3 mL),rfl⟩
       ·skip
        simp only[aC]at qW GC GD
        rw[xQ]at qW;refine St.cC bW s1.args (x:=q) (by rw[xQ];simp) ?_;refine St.skip (St.aA (St.sr ?_));refine St.ee (Ev.aD (.mk rfl) eY) ?_;refine St.ee (Ev.l0 (.mk rfl) dG) ?_;refine St.ee (Ev.aR (k:=1) (.mk rfl) (.mk rfl) dG bD rfl (by omega)) ?_;refine St.ee (Ev.fg (.mk rfl) (show s1.args[1]?=some q by rw[xQ];rfl) bX trivial bD en.eq) ?_;refine St.sA (.mk rfl) (.mk rfl) bD ?_ (h1:=(by simp only[List.all_cons,List.all_nil,Bool.and_true,Bool.and_eq_true];exact⟨rfl,q.av.2⟩));refine St.ar ?_;refine St.nn (St.ab ?_);refine St.rT [_,_] [aF (bW q)] Tryz.results121 ⟨⟨_,_,_,_,rfl,jm.mem,.inl ⟨⟨_,bX⟩,bD,rfl⟩⟩,⟨rfl,trivial⟩⟩ ?_;exact⟨q,true,rfl,OA q (by rw[xQ];simp),(fun _=>by rw[cp,Az GC,GB GD];exact vU (by rw[dA,xQ];rfl) qW),((fun hb=>by cases hb)),rfl⟩
theorem Dw {t:cx}(h:(fU t 1 0 0).2.1≠0):gu t=(fU t 1 0 0).2:=by unfold gu;rw[if_pos h]
theorem B0 {t:cx}(h:¬(fU t 1 0 0).2.1≠0)(h2:iH t []=none):gu t=(12,-1):=by unfold gu;rw[if_neg h,h2];rfl
theorem GF {t:cx}{s:dU}(h:¬(fU t 1 0 0).2.1≠0)(h2:iH t []=some s):gu t=(0,0):=by unfold gu;rw[if_neg h,h2,if_neg (by simp)]
theorem pP (x:cD)(hw:cE.wf x):cz Tryz.prog 96 #[bc x] [bN x] (fv (gu (ax x))):=by
 refine cz.iL (args:=[bc x]) 25 Tryz.func96 rfl Tryz.ntmps96 rfl (fun c=> ?_);refine St.sr ?_;refine St.cX (.mk rfl) rfl (fun b1=> ?_);refine St.alloc dC rfl (fun b2=> ?_);refine St.nn (St.sr ?_);refine St.alloc MH rfl (fun b3=> ?_);refine St.cR (.mk rfl) (.mk rfl) cr rfl (by rfl) ?_;refine St.gS b3 (L':=[iv ((0:Nat):Int)]) rfl ?_;refine St.nn (St.sr ?_);refine St.alloc RL rfl (fun b4=> ?_);refine St.nn (St.sr ?_);refine St.ee (Ev.func (.cons (.mk rfl) (.cons (.mk rfl) .nil))) ?_;refine St.cR (.mk rfl) (.mk rfl) RM rfl (by rfl) ?_;refine St.nn (St.seq (St.seq ?_));refine St.dup (bN x) ?_;refine St.rg ?_;refine St.ee (Ev.l0 (.mk rfl) su) ?_;refine St.ee (Ev.bH (.mk rfl) fH trivial (by exact cy)) ?_;refine St.dR (ug b3 b4 190 x 1 0 0 hw (by omega) (by omega) (by omega)) r8 (.mk rfl) (.cons (.mk rfl) (.cons (.mk rfl) (.cons (.mk rfl) .nil))) rfl ?_;rintro v11 _ ⟨rfl,rfl⟩;refine St.ca ?_;refine St.alloc dC rfl (fun b5=> ?_);refine St.sA (.mk rfl) (.mk rfl) bC ?_;refine St.nn (St.sr ?_);refine St.ee (Ev.aD (.mk rfl) cb) ?_;refine St.ee (Ev.l0 (.mk rfl) bP) ?_;refine St.ee Ev.jj ?_;refine St.nn ?_;refine St.cond _ rfl (fun qX=> ?_) (fun qX=> ?_)
 ·skip
  have hb:(fU (ax x) 1 0 0).2.1≠0:=by simpa using qX
  refine St.sr ?_;refine St.ee (Ev.bH (.mk rfl) gF trivial (by exact bC)) ?_;refine St.sA (.mk rfl) (.mk rfl) bC ?_;refine St.nn (St.ab (St.aB ?_));refine St.rU [_] [] Tryz.results96 ?_;exact congrArg fv (Dw hb).symm
 ·skip
  have hb:¬(fU (ax x) 1 0 0).2.1≠0:=by simpa using qX
  refine St.hJ gT ?_;refine St.dX bW ?_;refine St.skip (St.aA (St.seq (St.sr ?_)));refine St.ee (Ev.bH (.mk rfl) fH trivial (by exact cy)) ?_;refine St.ay (Ay x [] (.slice none 0 0) 1 (ym _ _ _ _ (Decidable.not_not.1 hb)) hw (Nat.zero_le _)) CU (.cons (.mk rfl) (.cons (.mk rfl) .nil)) rfl ?_;rintro gw _ ⟨s,b,rfl,cp,cQ,hsf,rfl⟩;refine St.bK ?_;refine St.mv ?_;refine St.ee (Ev.extract (.mk rfl) rfl) ?_;refine St.ee (Ev.extract (.mk rfl) rfl) ?_;refine St.alloc iA rfl (fun b6=> ?_);refine St.sA (.mk rfl) (.mk rfl) bD ?_ (h1:=(by simp only[List.all_cons,List.all_nil,Bool.and_true,Bool.and_eq_true];exact⟨rfl,s.av.2⟩));refine St.ar ?_;refine St.nn (St.sr ?_);refine St.mv ?_;refine St.ee (Ev.not (.mk rfl)) ?_;refine St.nn ?_;refine St.cond _ rfl (fun uf=> ?_) (fun uf=> ?_)
  ·try simp only[aC]at uf
   refine St.sr ?_;refine St.ee (Ev.build (ps:=[(0,(.const (.int .i64 12))),(1,(.const (.int .i64 (-1))))]) (aV.cons (aL.mk rfl) (aV.cons (aL.mk rfl) aV.nil)) (fun w=>bO rfl rfl w)) ?_;refine St.sA (.mk rfl) (.mk rfl) bC ?_;refine St.nn (St.ab (St.aB ?_));refine St.rU [_] [] Tryz.results96 ?_;exact congrArg fv (B0 hb (hsf (by simpa using uf))).symm
  ·try simp only[aC]at uf
   refine St.skip (St.aA (St.sr ?_));refine St.ee (Ev.build (ps:=[]) (aV.nil) (fun w=>fB w)) ?_;refine St.sA (.mk rfl) (.mk rfl) bC ?_;refine St.nn (St.ab ?_);refine St.rU [_] [] Tryz.results96 ?_;exact congrArg fv (GF hb (cQ (by simpa using uf))).symm
theorem qY:∀(l:List dZ) (U:List Nat),(kO U l).length=U.length+l.length
 | [],U=>rfl
 |t::l,U=>by rw[kO,qY l];simp;omega
theorem pQ (l:List dZ):(ua l).length=l.length:=by unfold ua;rw[qY];simp
theorem m8:∀(l m:List dZ) (U:List Nat),kO U (l++m)=kO (kO U l) m
 | [],_,_=>rfl
 |t::l,m,U=>by rw[List.cons_append,kO,kO,m8 l m]
theorem vX:∀(l:List dZ) (U:List Nat) (i:Nat),i<U.length→(kO U l)[i]?=U[i]?
 | [],_,_,_=>rfl
 |t::l,U,i,h=>by rw[kO,vX l _ i (by simp;omega),List.getElem?_append_left h]
theorem GG (l:List dZ)(t:dZ):ua (l++ [t])=ua l++ [FK (ua l) l.length t.2]:=by
 unfold ua;rw[m8,kO,kO,qY];simp
theorem tF (l:List dZ)(k i:Nat)(h:i<k)(hk:k≤l.length):(ua (l.take k)).getD i 0=(ua l).getD i 0:=by
 have e:ua l=kO (ua (l.take k)) (l.drop k):=by unfold ua;rw[←m8,List.take_append_drop]
 rw[e,List.getD_eq_getElem?_getD,List.getD_eq_getElem?_getD,vX _ _ _ (by rw[pQ,List.length_take];omega)]
theorem GH {l:List dZ}{k:Nat}{t:dZ}(h:l[k]?=some t):(ua l).getD k 0=FK (ua (l.take k)) k t.2:=by
 have hk:=cG h
 rw[←tF l (k+1) k (Nat.lt_succ_self _) hk,bJ h,GG]
 have e:(l.take k).length=k:=by rw[List.length_take];omega
 rw[List.getD_eq_getElem?_getD,List.getElem?_append_right (by rw[pQ,e];exact Nat.le_refl _),pQ,e,Nat.sub_self];rfl
theorem CX (g:Int→Nat)(j:Nat):∀(ps:List Int) (u:Nat),(ps.foldl (fun u p=>u|||g p) u).testBit j=(u.testBit j||ps.any fun p=>(g p).testBit j)
 | [],u=>by simp
 |p::ps,u=>by rw[List.foldl_cons,CX g j ps,Nat.testBit_or,List.any_cons,Bool.or_assoc]
theorem GI (U:List Nat)(i:Nat)(ps:List Int)(j:Nat):(FK U i ps).testBit j=(decide (i=j)||ps.any fun p=>(U.getD p.toNat 0).testBit j):=by
 unfold FK;rw[CX,Nat.testBit_two_pow]
structure gz (l:List dZ):Prop where
 len:l.length≤60
 par:∀(i:Nat) (t:dZ),l[i]?=some t→∀p∈t.2,0≤p∧p<i
theorem CY {i:Int}:∀{ps:List Int} {last:Int},(mT i last ps).1=0→mT i last ps=(0,0)∧∀p∈ps,0≤p∧p<i
 | [],_,_=>⟨rfl,fun p h=>by cases h⟩
 |p::ps,last,h=>by
  rw[mT]at h⊢
  by_cases h1:p<0∨i≤p
  ·rw[if_pos h1]at h;exact absurd h (by simp)
  ·rw[if_neg h1]at h⊢
   by_cases h2:p≤last
   ·rw[if_pos h2]at h;exact absurd h (by simp)
   ·rw[if_neg h2]at h⊢
    obtain⟨e,k⟩:=CY h;refine⟨e,fun q hq=> ?_⟩
    rcases List.mem_cons.1 hq with rfl|hq
    ·omega
    ·exact k q hq
theorem vY:∀{l:List dZ} {known:List cV} {i:Nat},(hS known i l).1=0→hS known i l=(0,0)∧∀(k:Nat) (t:dZ),l[k]?=some t→∀p∈t.2,0≤p∧p<(i+k:Nat)
 | [],_,_,_=>⟨rfl,fun k t h=>by simp at h⟩
 |t::l,known,i,h=>by
  rw[hS]at h⊢
  by_cases h1:isName t.1=false
  ·rw[if_pos h1]at h;exact absurd h (by simp)
  rw[if_neg h1]at h⊢
  by_cases h2:t.1∈known
  ·rw[if_pos h2]at h;exact absurd h (by simp)
  rw[if_neg h2]at h⊢
  by_cases h3:decide (i=0)≠decide (t.2.length=0)
  ·rw[if_pos h3]at h;exact absurd h (by simp)
  rw[if_neg h3]at h⊢
  by_cases h4:(mT i (-1) t.2).1≠0
  ·rw[if_pos h4]at h;exact absurd h h4
  rw[if_neg h4]at h⊢;obtain⟨e,k⟩:=vY h;refine⟨e,fun j u hj=> ?_⟩
  cases j with
  |zero=>
   simp only[List.getElem?_cons_zero,Option.some.injEq]at hj
   subst hj;intro p hp
   have:=(CY (Decidable.not_not.1 h4)).2 p hp
   omega
  |succ j=>
   rw[List.getElem?_cons_succ]at hj;intro p hp
   have:=k j u hj p hp
   omega
theorem B1 {l:List dZ}(h:(q7 l).1=0):q7 l=(0,0)∧0<l.length∧gz l:=by
 unfold q7 at h⊢
 by_cases h1:l.length=0∨60<l.length
 ·rw[if_pos h1]at h;exact absurd h (by simp)
 ·rw[if_neg h1]at h⊢
  obtain⟨e,k⟩:=vY h;refine⟨e,by omega,by omega,fun i t hi p hp=> ?_⟩
  have:=k i t hi p hp
  omega
section
variable {l:List dZ}
theorem K4 {i:Nat}(hi:l.length≤i)(j:Nat):dx l i j=false:=by
 unfold dx;rw[List.getD_eq_getElem?_getD,List.getElem?_eq_none (by rw[pQ];exact hi)];exact Nat.zero_testBit _
theorem sub_lt {i j:Nat}(h:dx l i j=true):i<l.length:=by
 rcases Nat.lt_or_ge i l.length with k|k
 ·exact k
 ·rw[K4 k]at h;cases h
theorem nA (hl:gz l){i:Nat}{t:dZ}(hi:l[i]?=some t)(j:Nat):dx l i j=(decide (i=j)||t.2.any fun p=>dx l p.toNat j):=by
 show((ua l).getD i 0).testBit j=_
 rw[GH hi,GI]
 congr 1
 rw[Bool.eq_iff_iff,List.any_eq_true,List.any_eq_true]
 have e:∀p∈t.2,(ua (l.take i)).getD p.toNat 0=(ua l).getD p.toNat 0:=fun p hp=>by
  have:=hl.par i t hi p hp
  exact tF l i _ (by omega) (Nat.le_of_lt (cG hi))
 constructor
 ·rintro ⟨p,hp,h⟩;rw[e p hp]at h;exact⟨p,hp,h⟩
 ·rintro ⟨p,hp,h⟩;exact⟨p,hp,by rw[e p hp];exact h⟩
theorem sub_self (hl:gz l){i:Nat}(hi:i<l.length):dx l i i=true:=by
 rw[nA hl (List.getElem?_eq_getElem hi)];simp
theorem qZ (hl:gz l){i j:Nat}(h:dx l i j=true):i=j∨∃t p,l[i]?=some t∧p∈t.2∧0≤p∧p<i∧dx l p.toNat j=true:=by
 have hi:=sub_lt h
 rw[nA hl (List.getElem?_eq_getElem hi)]at h
 simp only[Bool.or_eq_true,decide_eq_true_eq,List.any_eq_true]at h
 rcases h with h|⟨p,hp,h⟩
 ·exact .inl h
 ·have:=hl.par i _ (List.getElem?_eq_getElem hi) p hp
  exact .inr ⟨_,p,List.getElem?_eq_getElem hi,hp,this.1,this.2,h⟩
theorem sub_le (hl:gz l):∀{i j:Nat},dx l i j=true→j≤i:=by
 intro i
 induction i using Nat.strongRecOn with
 |ind i ih=>
  intro j h
  rcases qZ hl h with rfl|⟨t,p,_,_,h0,h1,h2⟩
  ·exact Nat.le_refl _
  ·have:=ih p.toNat (by omega) h2
   omega
theorem qa (hl:gz l):∀{i j k:Nat},dx l i j=true→dx l j k=true→dx l i k=true:=by
 intro i
 induction i using Nat.strongRecOn with
 |ind i ih=>
  intro j k h1 h2
  rcases qZ hl h1 with rfl|⟨t,p,ht,hp,h0,jA,h3⟩
  ·exact h2
  ·have:=ih p.toNat (by omega) h3 h2
   rw[nA hl ht]
   simp only[Bool.or_eq_true,List.any_eq_true]
   exact .inr ⟨p,hp,this⟩
theorem GJ (hl:gz l):∀{i j:Nat},dx l i j=true→i≠j→∃z t,dx l i z=true∧l[z]?=some t∧(j:Int)∈t.2∧j<z:=by
 intro i
 induction i using Nat.strongRecOn with
 |ind i ih=>
  intro j h fj
  rcases qZ hl h with e|⟨t,p,ht,hp,h0,jA,h3⟩
  ·exact absurd e fj
  ·by_cases e:p.toNat=j
   ·have e':p=(j:Int):=by omega
    subst e';exact⟨i,t,sub_self hl (cG ht),ht,hp,by omega⟩
   ·obtain⟨z,u,h4,h5,h6,h7⟩:=ih p.toNat (by omega) h3 e
    refine⟨z,u,?_,h5,h6,h7⟩;rw[nA hl ht]
    simp only[Bool.or_eq_true,List.any_eq_true]
    exact .inr ⟨p,hp,h4⟩
structure o5 (l:List dZ)(a i:Nat)(M:List Bool):Prop where
 len:M.length=l.length
 snd:∀x,M[x]?=some true→dx l a x=true
 top:M[a]?=some true
 cls:∀(y:Nat) (t:dZ),i<y→M[y]?=some true→l[y]?=some t→∀p∈t.2,M[p.toNat]?=some true
theorem o5.start (hl:gz l){a:Nat}(ha:a<l.length):o5 l a a ((List.replicate l.length false).set a true):=by
 refine⟨by simp,fun x hx=> ?_,by rw[List.getElem?_set_self (by simp;exact ha)],fun y t hy hm _=> ?_⟩
 ·by_cases e:a=x
  ·subst e;exact sub_self hl ha
  ·rw[List.getElem?_set_ne e,List.getElem?_replicate]at hx
   split at hx<;>simp at hx
 ·rw[List.getElem?_set_ne (by omega),List.getElem?_replicate]at hm
  split at hm<;>simp at hm
theorem o5.done (hl:gz l){a b:Nat}{M:List Bool}(h:o5 l a b M):∀(n y:Nat),a-y=n→b≤y→dx l a y=true→M[y]?=some true:=by
 intro n
 induction n using Nat.strongRecOn with
 |ind n ih=>
  intro y hn hy hs
  by_cases e:a=y
  ·subst e;exact h.top
  ·obtain⟨z,t,h1,h2,h3,h4⟩:=GJ hl hs e
   have hz:=sub_le hl h1
   have:=ih (a-z) (by omega) z rfl (by omega) h1
   have:=h.cls z t (by omega) this h2 _ h3
   simpa using this
theorem o5.fin (hl:gz l){a b:Nat}{M:List Bool}(h:o5 l a b M)(hb:b<l.length):M[b]?=some (dx l a b):=by
 cases e:dx l a b with
 |true=>exact h.done hl _ b rfl (Nat.le_refl _) e
 |false=>
  have jA:b<M.length:=by rw[h.len];exact hb
  rw[List.getElem?_eq_getElem jA]
  cases e2:M[b]with
  |false=>rfl
  |true=>
   have:=h.snd b (by rw[List.getElem?_eq_getElem jA,e2])
   rw[e]at this;cases this
theorem o5.skip {a i:Nat}{M:List Bool}(h:o5 l a (i+1) M)(hm:M[i+1]?≠some true):o5 l a i M:=
 ⟨h.len,h.snd,h.top,fun y t hy hmy=>by
  by_cases e:y=i+1
  ·subst e;exact absurd hmy hm
  ·exact h.cls y t (by omega) hmy⟩
structure yx (l:List dZ)(a i:Nat)(t:dZ)(k:Nat)(M:List Bool):Prop where
 ok:o5 l a i M
 at_:M[i]?=some true
 upto:∀p∈t.2.take k,M[p.toNat]?=some true
theorem yx.step (hl:gz l){a i k:Nat}{t:dZ}{M:List Bool}{p:Int}(h:yx l a i t k M)(hi:l[i]?=some t)(hp:t.2[k]?=some p):yx l a i t (k+1) (M.set p.toNat true):=by
 have hpm:=hl.par i t hi p (List.mem_of_getElem? hp)
 have FN:=cG hi
 have mono:∀x,M[x]?=some true→(M.set p.toNat true)[x]?=some true:=fun x hx=>by
  by_cases e:p.toNat=x
  ·subst e;rw[List.getElem?_set_self (cG hx)]
  ·rw[List.getElem?_set_ne e];exact hx
 refine⟨⟨by rw[List.length_set];exact h.ok.len,fun x hx=> ?_,mono _ h.ok.top,fun y u hy hm hu q hq=> ?_⟩,mono _ h.at_,fun q hq=> ?_⟩
 ·by_cases e:p.toNat=x
  ·subst e
   refine qa hl (h.ok.snd i h.at_) ?_;rw[nA hl hi]
   simp only[Bool.or_eq_true,List.any_eq_true]
   exact .inr ⟨p,List.mem_of_getElem? hp,sub_self hl (by omega)⟩
  ·rw[List.getElem?_set_ne e]at hx;exact h.ok.snd x hx
 ·rw[List.getElem?_set_ne (by omega)]at hm
  exact mono _ (h.ok.cls y u hy hm hu q hq)
 ·rw[bJ hp]at hq
  rcases List.mem_append.1 hq with hq|hq
  ·exact mono _ (h.upto q hq)
  ·rw[List.mem_singleton.1 hq,List.getElem?_set_self (by rw[h.ok.len];omega)]
theorem yx.done {a i:Nat}{t:dZ}{M:List Bool}(h:yx l a (i+1) t t.2.length M)(hi:l[i+1]?=some t):o5 l a i M:=
 ⟨h.ok.len,h.ok.snd,h.ok.top,fun y u hy hm hu q hq=>by
  by_cases e:y=i+1
  ·subst e
   rw[hi]at hu;cases hu
   exact h.upto q (by rw[List.take_length];exact hq)
  ·exact h.ok.cls y u (by omega) hm hu q hq⟩
end
theorem rC {l:List dZ}{k:Nat}{t:dZ}(ht:l[k]?=some t)(known:List cV):hS known k (l.drop k)=if isName t.1=false then(10,(k:Int))else if t.1∈known then(7,(k:Int))else if decide (k=0)≠decide (t.2.length=0)then(5,(k:Int))
 else if(mT k (-1) t.2).1≠0 then mT k (-1) t.2 else hS (known++ [t.1]) (k+1) (l.drop (k+1)):=by rw[bf ht,hS]
theorem tG {l:List dZ}{k:Nat}(h:l.length≤k)(known:List cV):hS known k (l.drop k)=(0,0):=by rw[List.drop_of_length_le h,hS]
theorem vZ {i z p:Int}{ps:List Int}{q:Nat}(hp:ps[q]?=some p):mT i z (ps.drop q)=if p<0∨i≤p then(3,i)else if p≤z then(13,i)else mT i p (ps.drop (q+1)):=by rw[bf hp,mT]
theorem yy {i z:Int}{ps:List Int}{q:Nat}(h:ps.length≤q):mT i z (ps.drop q)=(0,0):=by rw[List.drop_of_length_le h,mT]
def Dx (m:List (cV×Value))(known:List cV):Prop:=∀s,(nz m s).isSome=decide (s∈known)
theorem Dx.nil:Dx [] []:=fun s=>by simp[nz]
theorem Dx.snoc {m:List (cV×Value)}{known:List cV}(h:Dx m known)(s:cV)(v:Value):Dx (jZ m s v) (known++ [s]):=fun s'=>by
 rw[FC]
 by_cases e:s'=s
 ·subst e;simp
 ·rw[if_neg e,h s',decide_eq_decide];simp[e]
theorem cF {α β:Type}(f:α→β){l:List α}{k:Nat}{x:α}(h:l[k]?=some x):(l.take (k+1)).map f=(l.take k).map f++ [f x]:=by rw[bJ h,List.map_append];rfl
set_option maxHeartbeats 1000000 in
theorem B2 (u:Value)(ts:List ja):cz Tryz.prog 93 #[u] [sl du u ts,aX ek ts] (fv (q7 (ts.map bh))):=by
 refine cz.o7 (args:=[u]) 82 Tryz.func93 rfl Tryz.ntmps93 rfl (fun c=> ?_);refine St.seq ?_;refine St.wf u (fun pR Da=> ?_);refine St.rg ?_;refine St.alloc dC rfl (fun b2=> ?_);refine St.nn (St.seq (St.sr ?_));refine St.mv ?_;refine St.ee (Ev.au (.mk rfl) eT) ?_;refine St.ee Ev.fa ?_;refine St.mv ?_;refine St.gf _ rfl rfl (fun hg=>Ev.move (.mk rfl)) rfl ?_;refine St.gf _ rfl rfl (fun hg=>Ev.au (aL.gv rfl hg) eT) rfl ?_;refine St.gf _ rfl rfl (fun hg=>Ev.gtr (aL.gv rfl hg) (.mk rfl)) rfl ?_;refine St.ee Ev.o0 ?_;refine St.nn ?_;refine St.cond _ rfl (fun fM=> ?_) (fun fM=> ?_)
 ·try simp only[aC]at fM
  have hf:q7 (ts.map bh)=(2,-1):=by unfold q7;rw[if_pos (by rw[List.length_map];omega)]
  refine St.sr ?_;refine St.ee (Ev.call (cH 2 (-1)) sy (.cons (.mk rfl) (.cons (.mk rfl) .nil))) ?_;refine St.sA (.mk rfl) (.mk rfl) bC ?_;refine St.nn (St.ab (St.aB ?_));refine St.rU [_] [] Tryz.results93 ?_;exact congrArg fv hf.symm
 ·try simp only[aC]at fM
  have hf:q7 (ts.map bh)=hS [] 0 (ts.map bh):=by unfold q7;rw[if_neg (by rw[List.length_map];omega)]
  refine St.skip (St.aA (St.sr ?_));refine St.makeMap mkStr rfl (fun b20=> ?_);refine St.ar ?_;refine St.nn (St.seq (St.sr ?_));refine St.mv ?_;refine St.ee (Ev.au (.mk rfl) eT) ?_;refine St.mv ?_;refine St.nn (St.block ?_);refine St.my (ι:=Nat) (κ:=List (cV×Value)) (fun k m T=>(23,iv k)::T) (fun k m=>[ae b20 (jq mkStr m),ae b2 (.cells [iv 0,iv 0].toArray 42 (0,0)),aF (sl du u ts),aF (aX ek ts)]) (fun k m=>k≤ts.length∧q7 (ts.map bh)=hS ((ts.take k).map ja.name) k ((ts.map bh).drop k)∧Dx m ((ts.take k).map ja.name)) (fun k m=>ts.length-k) 0 [] (aE.cons 2 rfl (aE.cons 3 rfl (aE.cons 21 rfl (aE.cons 22 rfl aE.nil)))) ⟨Nat.zero_le _,hf,Dx.nil⟩ ?_;rintro k m ⟨hk,hv,z6⟩;refine St.sr ?_;refine St.ee Ev.dz ?_;refine St.nn (St.seq ?_);refine St.cond _ rfl (fun ob=> ?_) (fun ob=> ?_)
  ·try simp only[aC]at ob
   obtain⟨t,ht⟩:=aQ (show k<ts.length by omega)
   have lg:=List.mem_of_getElem? ht
   have cQ:=rC (l:=ts.map bh) (k:=k) (t:=bh t) (by rw[List.getElem?_map,ht];rfl) ((ts.take k).map ja.name)
   rw[←hv]at cQ
   have yu:t.name.length≤9223372036854775807:=by have:=pR t lg;simp only[du,hP]at this;omega
   refine St.cC ek ts (x:=t) lg ?_;refine St.fo (sl aK t.pv.1 t.parents) [ek t] (fun ρ h=>h _ (List.mem_cons_self ..)) ?_;refine St.wf t.pv.1 (fun OA AJ=> ?_);refine St.skip (St.aA (St.seq (St.block (St.sr ?_))));refine St.mv ?_;refine St.ee (Ev.aR (k:=k) (.mk rfl) (.mk rfl) eT iV (by omega) (by omega)) ?_;refine St.ee (Ev.fg (.mk rfl) ht yd trivial iV en.eq) ?_;refine St.alloc vP rfl (fun b5=> ?_);refine St.ar ?_;refine St.sA (.mk rfl) (.mk rfl) iV ?_ (h1:=(by simp only[List.all_cons,List.all_nil,Bool.and_true,Bool.and_eq_true];exact⟨rfl,t.pv.2⟩));refine St.nn (St.seq (St.sr ?_));refine St.ee (Ev.aD (.mk rfl) nV) ?_;refine St.ee (Ev.l0 (.mk rfl) eG) ?_;refine St.ee (Ev.call (jl t.name yu) Dj (.cons (.mk rfl) .nil)) ?_;refine St.ee (Ev.not (.mk rfl)) ?_;refine St.nn ?_;refine St.cond _ rfl (fun kE=> ?_) (fun kE=> ?_)
   ·try simp only[aC]at kE
    rw[if_pos (show isName (bh t).1=false from(by simpa using kE:isName t.name=false))]at cQ;refine St.sr ?_;refine St.mv ?_;refine St.ee (Ev.call (cH 10 k) sy (.cons (.mk rfl) (.cons (.mk rfl) .nil))) ?_;refine St.sA (.mk rfl) (.mk rfl) bC ?_;refine St.nn (St.ab (St.aB (St.aN (St.aB (St.aB (St.aN (St.aB ?_)))))));refine St.rU [_] [] Tryz.results93 ?_;exact congrArg fv cQ.symm
   ·try simp only[aC]at kE
    rw[if_neg (show ¬isName (bh t).1=false from(by simpa using kE:¬isName t.name=false))]at cQ;refine St.skip (St.aA (St.seq (St.sr ?_)));refine St.mv ?_;refine St.ee (Ev.aD (.mk rfl) nV) ?_;refine St.ee (Ev.l0 (.mk rfl) eG) ?_;refine St.ee (Ev.ry mkStr (k:=t.name) (.mk rfl) (.mk rfl) yb (by exact eG) eE) ?_;refine St.mv ?_;refine St.ee (Ev.extract (.mk rfl) rfl) ?_;refine St.ee (Ev.extract (.mk rfl) rfl) ?_;refine St.slot 40 (.bool (decide (t.name∈(ts.take k).map ja.name))) rfl (congrArg Value.bool (z6 t.name)) ?_;refine St.ar ?_;refine St.ar ?_;refine St.nn (St.sr ?_);refine St.mv ?_;refine St.nn ?_;refine St.cond _ rfl (fun o6=> ?_) (fun o6=> ?_)
    ·try simp only[aC]at o6
     rw[if_pos (show(bh t).1∈(ts.take k).map ja.name from o6)]at cQ;refine St.sr ?_;refine St.mv ?_;refine St.ee (Ev.call (cH 7 k) sy (.cons (.mk rfl) (.cons (.mk rfl) .nil))) ?_;refine St.sA (.mk rfl) (.mk rfl) bC ?_;refine St.nn (St.ab (St.aB (St.aN (St.aB (St.aB (St.aN (St.aB ?_)))))));refine St.rU [_] [] Tryz.results93 ?_;exact congrArg fv cQ.symm
    ·try simp only[aC]at o6
     rw[if_neg (show ¬(bh t).1∈(ts.take k).map ja.name from o6)]at cQ;refine St.skip (St.aA (St.sr ?_));refine St.mv ?_;refine St.ee (Ev.aD (.mk rfl) nV) ?_;refine St.ee (Ev.l0 (.mk rfl) eG) ?_;refine St.mv ?_;refine St.mapUpdate mkStr (k:=t.name) (.mk rfl) (.mk rfl) (.mk rfl) yb (by exact eG) ?_;refine St.nn (St.seq (St.sr ?_));refine St.mv ?_;refine St.ee Ev.fa ?_;refine St.ee (Ev.aD (.mk rfl) kU) ?_;refine St.ee (Ev.l0 (.mk rfl) bE) ?_;refine St.ee (Ev.au (.mk rfl) bE) ?_;refine St.ee Ev.fa ?_;refine St.ee (Ev.rr (.mk rfl) (.mk rfl) uP) ?_;refine St.nn ?_;refine St.cond _ rfl (fun tD=> ?_) (fun tD=> ?_)
     ·skip
      have OB:decide (k=0)≠decide (t.parents.length=0):=by simpa using tD
      rw[if_pos (show decide (k=0)≠decide ((bh t).2.length=0)from OB)]at cQ;refine St.sr ?_;refine St.mv ?_;refine St.ee (Ev.call (cH 5 k) sy (.cons (.mk rfl) (.cons (.mk rfl) .nil))) ?_;refine St.sA (.mk rfl) (.mk rfl) bC ?_;refine St.nn (St.ab (St.aB (St.aN (St.aB (St.aB (St.aN (St.aB ?_)))))));refine St.rU [_] [] Tryz.results93 ?_;exact congrArg fv cQ.symm
     ·skip
      have OB:¬decide (k=0)≠decide (t.parents.length=0):=by simpa using tD
      rw[if_neg (show ¬decide (k=0)≠decide ((bh t).2.length=0)from OB)]at cQ;refine St.skip (St.aA (St.sr ?_));refine St.ar ?_;refine St.nn (St.sr ?_);refine St.ee (Ev.aD (.mk rfl) kU) ?_;refine St.ee (Ev.l0 (.mk rfl) bE) ?_;refine St.ee (Ev.au (.mk rfl) bE) ?_;refine St.mv ?_;refine St.nn (St.block ?_);refine St.my (ι:=Nat) (κ:=Int) (fun q z T=>(60,iv q)::(8,iv z)::T) (fun q z=>[ae b20 (jq mkStr (jZ m t.name (iv k))),ae b2 (.cells [iv 0,iv 0].toArray 42 (0,0)),aF (sl aK t.pv.1 t.parents),aF (sl du u ts),aF (aX ek ts)]) (fun q z=>q≤t.parents.length∧mT k (-1) (bh t).2=mT k z (t.parents.drop q)) (fun q z=>t.parents.length-q) 0 (-1) (aE.cons 2 rfl (aE.cons 3 rfl (aE.cons 4 rfl (aE.cons 21 rfl (aE.cons 22 rfl (aE.cons 23 rfl (aE.cons 58 rfl (aE.cons 59 rfl aE.nil)))))))) ⟨Nat.zero_le _,rfl⟩ ?_;rintro q z ⟨hq,tH⟩;refine St.sr ?_;refine St.ee Ev.dz ?_;refine St.nn (St.seq ?_);refine St.cond _ rfl (fun GK=> ?_) (fun GK=> ?_)
      ·try simp only[aC]at GK
       obtain⟨p,hp⟩:=aQ (show q<t.parents.length by omega)
       have oc:=vZ (i:=k) (z:=z) hp
       refine St.skip (St.aA (St.seq (St.block (St.sr ?_))));refine St.ee (Ev.aR (k:=q) (.mk rfl) (.mk rfl) bE cr (by omega) (by omega)) ?_;refine St.ee (Ev.fL (.mk rfl) hp bP trivial rfl) ?_;refine St.ar ?_;refine St.nn (St.seq (St.sr ?_));refine St.mv ?_;refine St.ee Ev.dz ?_;refine St.mv ?_;refine St.gf _ rfl rfl (fun hg=>Ev.move (.mk rfl)) rfl ?_;refine St.gf _ rfl rfl (fun hg=>Ev.move (.mk rfl)) rfl ?_;refine St.gf _ rfl rfl (fun hg=>Ev.geq (aL.gv rfl hg) (aL.gv rfl hg)) rfl ?_;refine St.ee Ev.o0 ?_;refine St.nn ?_;refine St.cond _ rfl (fun re=> ?_) (fun re=> ?_)
       ·try simp only[aC]at re
        rw[if_pos (by omega)]at oc;rw[tH,oc,if_pos (by show(3:Int)≠0;decide)]at cQ;refine St.sr ?_;refine St.mv ?_;refine St.ee (Ev.call (cH 3 k) sy (.cons (.mk rfl) (.cons (.mk rfl) .nil))) ?_;refine St.sA (.mk rfl) (.mk rfl) bC ?_;refine St.nn (St.ab (St.aB (St.aN (St.aB (St.aB (St.aN (St.aN (St.aB (St.aB (St.aN (St.aB ?_)))))))))));refine St.rU [_] [] Tryz.results93 ?_;exact congrArg fv cQ.symm
       ·try simp only[aC]at re
        rw[if_neg (by omega)]at oc;refine St.skip (St.aA (St.seq (St.sr ?_)));refine St.mv ?_;refine St.mv ?_;refine St.ee Ev.Iw ?_;refine St.nn ?_;refine St.cond _ rfl (fun K5=> ?_) (fun K5=> ?_)
        ·try simp only[aC]at K5
         rw[if_pos (by omega)]at oc;rw[tH,oc,if_pos (by show(13:Int)≠0;decide)]at cQ;refine St.sr ?_;refine St.mv ?_;refine St.ee (Ev.call (cH 13 k) sy (.cons (.mk rfl) (.cons (.mk rfl) .nil))) ?_;refine St.sA (.mk rfl) (.mk rfl) bC ?_;refine St.nn (St.ab (St.aB (St.aN (St.aB (St.aB (St.aN (St.aN (St.aB (St.aB (St.aN (St.aB ?_)))))))))));refine St.rU [_] [] Tryz.results93 ?_;exact congrArg fv cQ.symm
        ·try simp only[aC]at K5
         rw[if_neg (by omega)]at oc;refine St.skip (St.aA (St.rg ?_));refine St.mv ?_;refine St.ar ?_;refine St.nil (St.aO (St.aA (St.rg ?_)));refine St.ee Ev.a0 ?_;refine St.mv ?_;refine St.nn ?_;refine St.ji (q+1) p ⟨by omega,by rw[tH,oc]⟩
      ·try simp only[aC]at GK
       rw[yy (by omega)]at tH;rw[if_neg (by rw[tH];decide)]at cQ;refine St.exit (St.aI (St.aI (St.bM (St.aO (St.aA (St.rg ?_))))));refine St.ee Ev.a0 ?_;refine St.mv ?_;refine St.nn ?_;refine St.ji (k+1) (jZ m t.name (iv k)) ⟨by omega,by rw[cQ,cF ja.name ht];rfl,by rw[cF ja.name ht];exact z6.snoc _ _⟩
  ·try simp only[aC]at ob
   rw[tG (by rw[List.length_map];omega)]at hv;refine St.exit (St.aI (St.aI (St.bM (St.aA (St.sr ?_)))));refine St.ee (Ev.build (ps:=[]) (aV.nil) (fun w=>fB w)) ?_;refine St.sA (.mk rfl) (.mk rfl) bC ?_;refine St.nn (St.ab ?_);refine St.rU [_] [] Tryz.results93 ?_;exact congrArg fv hv.symm
def B3 (T:List dZ)(i:Nat):Nat:=(ua T).getD i 0
def MR (T:List dZ)(k:Nat)(ps:List Int):Nat:=ps.foldl (fun u p=>u|||B3 T p.toNat) (2^k)
theorem z7 (T:List dZ)(k:Nat)(ps:List Int)(p:Int):MR T k (ps++ [p])=MR T k ps|||B3 T p.toNat:=by unfold MR;rw[List.foldl_append];rfl
theorem GL {T:List dZ}(hT:gz T){k:Nat}{t:dZ}(h:T[k]?=some t):B3 T k=MR T k t.2:=by
 have e:∀(ps:List Int) (u:Nat),(∀p∈ps,0≤p∧p<k)→ps.foldl (fun u p=>u|||(ua (T.take k)).getD p.toNat 0) u=ps.foldl (fun u p=>u|||B3 T p.toNat) u:=by
  intro ps
  induction ps with
  |nil=>intro u _;rfl
  |cons p ps ih=>
   intro u hp
   have Vu:=hp p (List.mem_cons_self ..)
   rw[List.foldl_cons,List.foldl_cons,tF T k p.toNat (by omega) (Nat.le_of_lt (cG h))]
   exact ih _ fun q hq=>hp q (List.mem_cons_of_mem _ hq)
 show(ua T).getD k 0=_
 rw[GH h];exact e t.2 _ (hT.par k t h)
theorem OC {T:List dZ}(hT:gz T):∀k:Nat,B3 T k<2^(k+1):=by
 intro k
 induction k using Nat.strongRecOn with
 |ind k ih=>
  rcases Nat.lt_or_ge k T.length with h|h
  ·rw[GL hT (List.getElem?_eq_getElem h)]
   have hp:=hT.par k _ (List.getElem?_eq_getElem h)
   generalize (T[k]).2=ps at hp
   have e:∀(ps:List Int) (u:Nat),(∀p∈ps,0≤p∧p<k)→u<2^(k+1)→ps.foldl (fun u p=>u|||B3 T p.toNat) u<2^(k+1):=by
    intro ps
    induction ps with
    |nil=>intro u _ h;exact h
    |cons p ps Vs=>
     intro u hp hu
     have Vu:=hp p (List.mem_cons_self ..)
     refine Vs _ (fun q hq=>hp q (List.mem_cons_of_mem _ hq)) (Nat.or_lt_two_pow hu ?_);exact Nat.lt_of_lt_of_le (ih p.toNat (by omega)) (Nat.pow_le_pow_right (by omega) (by omega))
   exact e ps _ hp (Nat.pow_lt_pow_right (by omega) (by omega))
  ·show(ua T).getD k 0<_
   rw[List.getD_eq_getElem?_getD,List.getElem?_eq_none (by rw[pQ];exact h)];exact Nat.pow_pos (by omega)
theorem qb {T:List dZ}(hT:gz T){k:Nat}(hk:k<60):B3 T k<18446744073709551616:=
 Nat.lt_of_lt_of_le (OC hT k) (show 2^(k+1)≤2^64 from Nat.pow_le_pow_right (by decide) (by omega))
theorem GM {T:List dZ}(hT:gz T){k:Nat}(hk:k<60):∀{ps:List Int},(∀p∈ps,0≤p∧p<k)→MR T k ps<18446744073709551616:=by
 have e:∀(ps:List Int) (u:Nat),(∀p∈ps,0≤p∧p<k)→u<18446744073709551616→ps.foldl (fun u p=>u|||B3 T p.toNat) u<18446744073709551616:=by
  intro ps
  induction ps with
  |nil=>intro u _ h;exact h
  |cons p ps ih=>
   intro u hp hu
   have Vu:=hp p (List.mem_cons_self ..)
   exact ih _ (fun q hq=>hp q (List.mem_cons_of_mem _ hq)) (Nat.or_lt_two_pow (n:=64) hu (qb hT (by omega)))
 intro ps hp;exact e ps _ hp (show 2^k<2^64 from Nat.pow_lt_pow_right (by decide) (by omega))
def j9 (T:List dZ)(k j:Nat):Nat:=(List.range k).foldl (fun a i=>if dx T i j then a|||2^i else a) 0
theorem nb (T:List dZ)(k j:Nat):j9 T (k+1) j=if dx T k j then j9 T k j|||2^k else j9 T k j:=by
 unfold j9;rw[List.range_succ,List.foldl_append];rfl
theorem CZ (T:List dZ)(j:Nat):∀k:Nat,j9 T k j<2^k
 |0=>by show(0:Nat)<2^0;omega
 |k+1=>by
  have ih:=Nat.lt_of_lt_of_le (CZ T j k) (Nat.pow_le_pow_right (n:=2) (by omega) (Nat.le_succ k))
  rw[nb]
  split
  ·exact Nat.or_lt_two_pow ih (Nat.pow_lt_pow_right (by omega) (by omega))
  ·exact ih
theorem pS (T:List dZ)(j:Nat){k:Nat}(hk:k≤60):j9 T k j<18446744073709551616:=
 Nat.lt_of_lt_of_le (CZ T j k) (show 2^k≤2^64 from Nat.pow_le_pow_right (by decide) (by omega))
theorem nB (T:List dZ)(j i:Nat):∀k:Nat,(j9 T k j).testBit i=(decide (i<k)&&dx T i j)
 |0=>by show(0:Nat).testBit i=_;simp
 |k+1=>by
  rw[nb]
  have ih:=nB T j i k
  by_cases e:i=k
  ·subst e
   cases h:dx T i j with
   |true=>simp[ih,Nat.testBit_two_pow]
   |false=>simp[ih]
  ·have e2:decide (i<k+1)=decide (i<k):=by rw[decide_eq_decide];omega
   rw[e2]
   split
   ·rw[Nat.testBit_or,ih,Nat.testBit_two_pow,decide_eq_false (p:=k=i) (fun h=>e h.symm),Bool.or_false]
   ·exact ih
def k6 (T:List dZ):List Nat:=(List.range T.length).map (B3 T)
def k7 (T:List dZ):List Nat:=(List.range T.length).map (j9 T T.length)
theorem tI {f:Nat→Nat}{n:Nat}{U:List Nat}(hl:U.length=n)(h:∀i,i<n→U[i]?=some (f i)):U=(List.range n).map f:=by
 refine List.ext_getElem? fun i=> ?_
 rw[List.getElem?_map]
 rcases Nat.lt_or_ge i n with hi|hi
 ·rw[h i hi,List.getElem?_range hi];rfl
 ·rw[List.getElem?_eq_none (by omega),List.getElem?_eq_none (by simpa using hi)];rfl
theorem GN {T:List dZ}{i:Nat}(h:i<T.length):(k6 T)[i]?=some (B3 T i):=by unfold k6;rw[List.getElem?_map,List.getElem?_range h];rfl
theorem tJ {T:List dZ}{i:Nat}(h:i<T.length):(k7 T)[i]?=some (j9 T T.length i):=by unfold k7;rw[List.getElem?_map,List.getElem?_range h];rfl
theorem GO (T:List dZ):(k6 T).length=T.length:=by simp[k6]
theorem GP (T:List dZ):(k7 T).length=T.length:=by simp[k7]
def both (T:List dZ)(a b:Nat):Nat:=j9 T T.length a&&&j9 T T.length b
theorem nC (T:List dZ)(a b i:Nat):(both T a b).testBit i=(decide (i<T.length)&&(dx T i a&&dx T i b)):=by
 unfold both;rw[Nat.testBit_and,nB,nB]
 cases decide (i<T.length)<;>simp
theorem nD {T:List dZ}{a b i:Nat}:i∈comm T a b↔(both T a b).testBit i=true:=by
 unfold comm;rw[List.mem_filter,List.mem_range,nC];simp only[Bool.and_eq_true,decide_eq_true_eq]
theorem B4 {T:List dZ}{a b:Nat}(h:both T a b=0):fp T a b=false:=by
 unfold fp
 split
 ·rfl
 ·rename_i m r e
  have:m∈comm T a b:=by rw[e];exact List.mem_cons_self ..
  rw[nD,h,Nat.zero_testBit]at this;cases this
theorem GQ {T:List dZ}(hT:gz T){a b m:Nat}(h:(both T a b).testBit m=true)(hl:∀i,i<m→(both T a b).testBit i=false):fp T a b=decide (j9 T T.length m≠both T a b):=by
 have hm:=nD.2 h
 unfold fp
 split
 ·rename_i e;rw[e]at hm;cases hm
 ·rename_i m' r e
  have hp:(comm T a b).Pairwise (· < ·):=by unfold comm;exact List.Pairwise.filter _ List.pairwise_lt_range
  rw[e]at hp
  have jC:m'∈comm T a b:=by rw[e];exact List.mem_cons_self ..
  have e2:m'=m:=by
   rw[e]at hm
   rcases List.mem_cons.1 hm with h2|h2
   ·exact h2.symm
   ·have h3:=(List.pairwise_cons.1 hp).1 m h2
    have h4:=hl m' h3
    rw[nD.1 jC]at h4;cases h4
  subst e2
  have hb:=h
  rw[nC,Bool.and_eq_true,Bool.and_eq_true,decide_eq_true_eq]at hb;rw[Bool.eq_iff_iff,List.any_eq_true,decide_eq_true_eq]
  constructor
  ·rintro ⟨i,hi,h5⟩ h6
   have h7:(both T a b).testBit i=true:=nD.1 (by rw[e];exact List.mem_cons_of_mem _ hi)
   rw[←h6,nB,Bool.and_eq_true]at h7
   rw[h7.2]at h5;cases h5
  ·intro h5
   apply Decidable.byContradiction
   intro h6;refine h5 (Nat.eq_of_testBit_eq fun i=> ?_);rw[nB,nC];rw[Bool.eq_iff_iff,Bool.and_eq_true,Bool.and_eq_true,decide_eq_true_eq]
   constructor
   ·rintro ⟨h7,h8⟩
    exact⟨h7,by rw[qa hT h8 hb.2.1,qa hT h8 hb.2.2];rfl⟩
   ·rintro ⟨h7,h8⟩
    refine⟨h7,?_⟩
    have h9:i∈comm T a b:=nD.2 (by rw[nC,h8,decide_eq_true h7];rfl)
    rw[e]at h9
    rcases List.mem_cons.1 h9 with rfl|h9
    ·exact sub_self hT h7
    ·cases uR:dx T i m' with
     |true=>rfl
     |false=>exact absurd ⟨i,h9,by rw[uR];rfl⟩ h6
end Go.Proofs.YtolmidffiegkaaaGreatDoor
namespace Go.J
open Go
section
variable {P:Program}{n:Nat}{F:Fr}{A:World→Prop}{ty t u:TypeId}{x y:Operand}{a b:Nat}
theorem Dy (h:a<18446744073709551616)(h2:b<18446744073709551616):bits .and .u64 (a:Int) (b:Int)=((a&&&b:Nat):Int):=by
 have e:(BitVec.ofInt IntKind.u64.bits (a:Int)&&&BitVec.ofInt IntKind.u64.bits (b:Int)).toNat=a&&&b:=by
  show(BitVec.ofInt 64 (a:Int)&&&BitVec.ofInt 64 (b:Int)).toNat=_
  rw[BitVec.toNat_and,BitVec.ofInt_natCast,BitVec.ofInt_natCast,BitVec.toNat_ofNat,BitVec.toNat_ofNat,Nat.mod_eq_of_lt h,Nat.mod_eq_of_lt h2]
 simp only[bits,e]
 rw[lN,Nat.mod_eq_of_lt (Nat.lt_of_le_of_lt Nat.and_le_left h)]
theorem GR (h:a<18446744073709551616)(h2:b<18446744073709551616):bits .or .u64 (a:Int) (b:Int)=((a|||b:Nat):Int):=by
 have e:(BitVec.ofInt IntKind.u64.bits (a:Int)|||BitVec.ofInt IntKind.u64.bits (b:Int)).toNat=a|||b:=by
  show(BitVec.ofInt 64 (a:Int)|||BitVec.ofInt 64 (b:Int)).toNat=_
  rw[BitVec.toNat_or,BitVec.ofInt_natCast,BitVec.ofInt_natCast,BitVec.toNat_ofNat,BitVec.toNat_ofNat,Nat.mod_eq_of_lt h,Nat.mod_eq_of_lt h2]
 simp only[bits,e]
 rw[lN,Nat.mod_eq_of_lt (Nat.or_lt_two_pow (n:=64) h h2)]
theorem Ev.Xt (hx:aL F x (uv a))(hy:aL F y (uv b))(h:a<18446744073709551616∧b<18446744073709551616):Ev P n F A (.binOp .and t x y u) ty (uv (a&&&b)):= .of_run fun a' w ha _=>by
 simp only[execOp,hx.eval ha,hy.eval ha];simp only[go_sem,Dy h.1 h.2];simp
theorem Ev.Xu (hx:aL F x (uv a))(hy:aL F y (uv b))(h:a<18446744073709551616∧b<18446744073709551616):Ev P n F A (.binOp .or t x y u) ty (uv (a|||b)):= .of_run fun a' w ha _=>by
 simp only[execOp,hx.eval ha,hy.eval ha];simp only[go_sem,GR h.1 h.2];simp
theorem Ev.Rl {k:Nat}{i:Int}{kd:IntKind}(hx:aL F x (uv 1))(hy:aL F y (.int kd i))(h:i=k∧k<64):Ev P n F A (.binOp .shl t x y u) ty (uv (2^k)):=by
 have:=Ev.XI (P:=P) (n:=n) (A:=A) (ty:=ty) (t:=t) (u:=u) k (2^k) rfl hx hy (by omega)
 have e:1*2^k%18446744073709551616=2^k:=by
  rw[Nat.one_mul];exact Nat.mod_eq_of_lt (show 2^k<2^64 from Nat.pow_lt_pow_right (by decide) h.2)
 rw[e]at this;exact this
theorem Ca (a j:Nat):decide ((((a/2^j%2:Nat):Int))=1)=a.testBit j:=by
 rw[Nat.testBit_eq_decide_div_mod_eq,decide_eq_decide];omega
end
def eA:Rp Nat:=⟨1,by decide,fun a=>[uv a],fun a=>a<18446744073709551616,fun _=>rfl,fun x u h=>by rw[List.mem_singleton.1 h];rfl⟩
theorem nc (U:List Nat):rows eA U=U.map fun a=>uv a:=by
 show U.flatMap (fun a=>[uv a])=_
 induction U with
 |nil=>rfl
 |cons a U ih=>rw[List.flatMap_cons,ih];rfl
theorem lZ {U:List Nat}{k a:Nat}(h:U[k]?=some a):(rows eA U)[k*1+0]?=some (uv a):=by
 rw[nc,Nat.mul_one,Nat.add_zero,List.getElem?_map,h];rfl
theorem pT {U:List Nat}{k a:Nat}:(rows eA U).set (k*1+0) (uv a)=rows eA (U.set k a):=by
 rw[nc,nc,Nat.mul_one,Nat.add_zero,List.map_set]
theorem gX (n:Nat):List.replicate n (uv 0)=rows eA (List.replicate n 0):=by rw[nc,List.map_replicate]
end Go.J
namespace Go.Proofs.YtolmidffiegkaaaGreatDoor
open Go Go.J
theorem K6 {T:List dZ}{k q n:Nat}{E:List Nat}(hE:∀j,j<n→E[j]?=some (if j<q then j9 T (k+1) j else j9 T k j))(hl:E.length=n)(hq:q<n)(h:dx T k q=true):
 ∀j,j<n→(E.set q (j9 T k q|||2^k))[j]?=some (if j<q+1 then j9 T (k+1) j else j9 T k j):=fun j hj=>by
 by_cases e:q=j
 ·subst e;rw[List.getElem?_set_self (by omega),if_pos (by omega),nb,if_pos h]
 ·rw[List.getElem?_set_ne e,hE j hj]
  by_cases e2:j<q
  ·rw[if_pos e2,if_pos (by omega)]
  ·rw[if_neg e2,if_neg (by omega)]
theorem K7 {T:List dZ}{k q n:Nat}{E:List Nat}(hE:∀j,j<n→E[j]?=some (if j<q then j9 T (k+1) j else j9 T k j))(h:dx T k q=false):
 ∀j,j<n→E[j]?=some (if j<q+1 then j9 T (k+1) j else j9 T k j):=fun j hj=>by
 rw[hE j hj]
 by_cases e:q=j
 ·subst e;rw[if_neg (by omega),if_pos (by omega),nb,if_neg (by rw[h];decide)]
 ·by_cases e2:j<q
  ·rw[if_pos e2,if_pos (by omega)]
  ·rw[if_neg e2,if_neg (by omega)]
set_option maxHeartbeats 2000000 in
theorem rD (u:Value)(ts:List ja)(hT:gz (ts.map bh)):fC Tryz.prog 66 #[u] ([sl du u ts,aX ek ts].map aF) (fun v H'=>∃w1 w2:cm,v= .agg #[w1.1,w2.1]∧H'=[aF (sl eA w1.1 (k6 (ts.map bh))),aF (sl eA w2.1 (k7 (ts.map bh)))]):=by
 refine fC.body (args:=[u]) 75 Tryz.func66 rfl Tryz.ntmps66 rfl (fun c=> ?_);refine St.cast (H':=[aF (sl du u ts),aF (aX ek ts)]) rfl ?_;refine St.seq ?_
 have uh:=hT.len
 rw[List.length_map]at uh;refine St.rg ?_;refine St.alloc pM rfl (fun b2=> ?_);refine St.nn ?_;refine St.join (ι:=Nat×Nat×Nat) (fun y T=>(3,.pointer (some ⟨y.2.2,0,none⟩))::T) (fun y=>[ae y.2.2 (.cells [(.slice (some ⟨y.1,0,none⟩) ts.length ts.length),(.slice (some ⟨y.2.1,0,none⟩) ts.length ts.length)].toArray 129 (0,0)),row (.slice (some ⟨y.1,0,none⟩) ts.length ts.length) 175 1 ts.length (rows eA (List.replicate ts.length 0)),row (.slice (some ⟨y.2.1,0,none⟩) ts.length ts.length) 175 1 ts.length (rows eA (List.replicate ts.length 0)),ae b2 (.cells [(.slice none 0 0),(.slice none 0 0)].toArray 129 (0,0)),aF (sl du u ts),aF (aX ek ts)]) (fun y=>True) (aE.cons 0 rfl (aE.cons 2 rfl aE.nil)) ?_ ?_
 ·refine St.yS [] mixed (fun np ns=> ?_)
  refine SW.dd 0 rfl (fun _=>Ev.move (.mk rfl)) ?_;refine SW.dd 1 rfl (fun _=>Ev.au (.mk rfl) eT) ?_;refine SW.dd 3 rfl (fun _=>Ev.move (.mk rfl)) ?_;refine SW.dd 4 rfl (fun _=>Ev.au (.mk rfl) eT) ?_;refine SW.Qb (i:=2) (j:=5) (k:=7) (by kernel_rfl) rfl rfl rfl ?_ ?_ ?_
  ·refine St.gL (m:=ts.length) (.mk rfl) (.mk rfl) eU fJ oC oD rfl rfl (by omega) rfl rfl (fun kX=> ?_)
   refine St.bB (.slice (some ⟨kX,0,none⟩) ts.length ts.length) rfl (gX _) ?_;refine St.nn ?_;refine SW.go ?_;refine SW.iP (i:=5) (j:=7) (by kernel_rfl) rfl rfl ?_ ?_
   ·refine St.gL (m:=ts.length) (.mk rfl) (.mk rfl) eU fJ oC oD rfl rfl (by omega) rfl rfl (fun nd=> ?_)
    refine St.bB (.slice (some ⟨nd,0,none⟩) ts.length ts.length) rfl (gX _) ?_;refine St.nn ?_;refine SW.go ?_;refine SW.dd 6 rfl (fun _=>Ev.build (ps:=[(0,(.tmp 11)),(1,(.tmp 14))]) (aV.cons (aL.mk rfl) (aV.cons (aL.mk rfl) aV.nil)) (fun w=>ik rfl rfl w)) ?_;refine SW.bG (i:=7) (by kernel_rfl) rfl ?_;refine St.alloc pM rfl (fun b3=> ?_);refine St.nn ?_;refine SW.go ?_;refine SW.bG (i:=8) (by kernel_rfl) rfl ?_;refine St.sA (.mk rfl) (.mk rfl) iB ?_ (h1:=(by simp only[List.all_cons,List.all_nil,Bool.and_true,Bool.and_eq_true];exact⟨rfl,rfl⟩));refine St.nn ?_;refine SW.go ?_;refine SW.done (by kernel_rfl) ?_;refine St.aA ?_;refine St.mE (kX,nd,b3) trivial
   ·refine St.alloc pM rfl (fun b3=> ?_)
    refine St.nn ?_;refine SW.go ?_;refine SW.bG (i:=5) (by kernel_rfl) rfl ?_;refine St.gL (m:=ts.length) (.mk rfl) (.mk rfl) eU fJ oC oD rfl rfl (by omega) rfl rfl (fun nd=> ?_);refine St.bB (.slice (some ⟨nd,0,none⟩) ts.length ts.length) rfl (gX _) ?_;refine St.nn ?_;refine SW.go ?_;refine SW.dd 6 rfl (fun _=>Ev.build (ps:=[(0,(.tmp 11)),(1,(.tmp 14))]) (aV.cons (aL.mk rfl) (aV.cons (aL.mk rfl) aV.nil)) (fun w=>ik rfl rfl w)) ?_;refine SW.bG (i:=8) (by kernel_rfl) rfl ?_;refine St.sA (.mk rfl) (.mk rfl) iB ?_ (h1:=(by simp only[List.all_cons,List.all_nil,Bool.and_true,Bool.and_eq_true];exact⟨rfl,rfl⟩));refine St.nn ?_;refine SW.go ?_;refine SW.done (by kernel_rfl) ?_;refine St.aA ?_;refine St.mE (kX,nd,b3) trivial
  ·refine St.gL (m:=ts.length) (.mk rfl) (.mk rfl) eU fJ oC oD rfl rfl (by omega) rfl rfl (fun nd=> ?_)
   refine St.bB (.slice (some ⟨nd,0,none⟩) ts.length ts.length) rfl (gX _) ?_;refine St.nn ?_;refine SW.go ?_;refine SW.iP (i:=2) (j:=7) (by kernel_rfl) rfl rfl ?_ ?_
   ·refine St.gL (m:=ts.length) (.mk rfl) (.mk rfl) eU fJ oC oD rfl rfl (by omega) rfl rfl (fun kX=> ?_)
    refine St.bB (.slice (some ⟨kX,0,none⟩) ts.length ts.length) rfl (gX _) ?_;refine St.nn ?_;refine SW.go ?_;refine SW.dd 6 rfl (fun _=>Ev.build (ps:=[(0,(.tmp 11)),(1,(.tmp 14))]) (aV.cons (aL.mk rfl) (aV.cons (aL.mk rfl) aV.nil)) (fun w=>ik rfl rfl w)) ?_;refine SW.bG (i:=7) (by kernel_rfl) rfl ?_;refine St.alloc pM rfl (fun b3=> ?_);refine St.nn ?_;refine SW.go ?_;refine SW.bG (i:=8) (by kernel_rfl) rfl ?_;refine St.sA (.mk rfl) (.mk rfl) iB ?_ (h1:=(by simp only[List.all_cons,List.all_nil,Bool.and_true,Bool.and_eq_true];exact⟨rfl,rfl⟩));refine St.nn ?_;refine SW.go ?_;refine SW.done (by kernel_rfl) ?_;refine St.aA ?_;refine St.mE (kX,nd,b3) trivial
   ·refine St.alloc pM rfl (fun b3=> ?_)
    refine St.nn ?_;refine SW.go ?_;refine SW.bG (i:=2) (by kernel_rfl) rfl ?_;refine St.gL (m:=ts.length) (.mk rfl) (.mk rfl) eU fJ oC oD rfl rfl (by omega) rfl rfl (fun kX=> ?_);refine St.bB (.slice (some ⟨kX,0,none⟩) ts.length ts.length) rfl (gX _) ?_;refine St.nn ?_;refine SW.go ?_;refine SW.dd 6 rfl (fun _=>Ev.build (ps:=[(0,(.tmp 11)),(1,(.tmp 14))]) (aV.cons (aL.mk rfl) (aV.cons (aL.mk rfl) aV.nil)) (fun w=>ik rfl rfl w)) ?_;refine SW.bG (i:=8) (by kernel_rfl) rfl ?_;refine St.sA (.mk rfl) (.mk rfl) iB ?_ (h1:=(by simp only[List.all_cons,List.all_nil,Bool.and_true,Bool.and_eq_true];exact⟨rfl,rfl⟩));refine St.nn ?_;refine SW.go ?_;refine SW.done (by kernel_rfl) ?_;refine St.aA ?_;refine St.mE (kX,nd,b3) trivial
  ·refine St.alloc pM rfl (fun b3=> ?_)
   refine St.nn ?_;refine SW.go ?_;refine SW.iP (i:=2) (j:=5) (by kernel_rfl) rfl rfl ?_ ?_
   ·refine St.gL (m:=ts.length) (.mk rfl) (.mk rfl) eU fJ oC oD rfl rfl (by omega) rfl rfl (fun kX=> ?_)
    refine St.bB (.slice (some ⟨kX,0,none⟩) ts.length ts.length) rfl (gX _) ?_;refine St.nn ?_;refine SW.go ?_;refine SW.bG (i:=5) (by kernel_rfl) rfl ?_;refine St.gL (m:=ts.length) (.mk rfl) (.mk rfl) eU fJ oC oD rfl rfl (by omega) rfl rfl (fun nd=> ?_);refine St.bB (.slice (some ⟨nd,0,none⟩) ts.length ts.length) rfl (gX _) ?_;refine St.nn ?_;refine SW.go ?_;refine SW.dd 6 rfl (fun _=>Ev.build (ps:=[(0,(.tmp 11)),(1,(.tmp 14))]) (aV.cons (aL.mk rfl) (aV.cons (aL.mk rfl) aV.nil)) (fun w=>ik rfl rfl w)) ?_;refine SW.bG (i:=8) (by kernel_rfl) rfl ?_;refine St.sA (.mk rfl) (.mk rfl) iB ?_ (h1:=(by simp only[List.all_cons,List.all_nil,Bool.and_true,Bool.and_eq_true];exact⟨rfl,rfl⟩));refine St.nn ?_;refine SW.go ?_;refine SW.done (by kernel_rfl) ?_;refine St.aA ?_;refine St.mE (kX,nd,b3) trivial
   ·refine St.gL (m:=ts.length) (.mk rfl) (.mk rfl) eU fJ oC oD rfl rfl (by omega) rfl rfl (fun nd=> ?_)
    refine St.bB (.slice (some ⟨nd,0,none⟩) ts.length ts.length) rfl (gX _) ?_;refine St.nn ?_;refine SW.go ?_;refine SW.bG (i:=2) (by kernel_rfl) rfl ?_;refine St.gL (m:=ts.length) (.mk rfl) (.mk rfl) eU fJ oC oD rfl rfl (by omega) rfl rfl (fun kX=> ?_);refine St.bB (.slice (some ⟨kX,0,none⟩) ts.length ts.length) rfl (gX _) ?_;refine St.nn ?_;refine SW.go ?_;refine SW.dd 6 rfl (fun _=>Ev.build (ps:=[(0,(.tmp 11)),(1,(.tmp 14))]) (aV.cons (aL.mk rfl) (aV.cons (aL.mk rfl) aV.nil)) (fun w=>ik rfl rfl w)) ?_;refine SW.bG (i:=8) (by kernel_rfl) rfl ?_;refine St.sA (.mk rfl) (.mk rfl) iB ?_ (h1:=(by simp only[List.all_cons,List.all_nil,Bool.and_true,Bool.and_eq_true];exact⟨rfl,rfl⟩));refine St.nn ?_;refine SW.go ?_;refine SW.done (by kernel_rfl) ?_;refine St.aA ?_;refine St.mE (kX,nd,b3) trivial
 ·intro y dK
  refine St.seq (St.sr ?_);refine St.mv ?_;refine St.ee (Ev.au (.mk rfl) eT) ?_;refine St.mv ?_;refine St.nn (St.block ?_);refine St.my (ι:=Nat) (κ:=List Nat×List Nat) (fun k z T=>(18,iv k)::T) (fun k z=>[ae y.2.2 (.cells [(.slice (some ⟨y.1,0,none⟩) ts.length ts.length),(.slice (some ⟨y.2.1,0,none⟩) ts.length ts.length)].toArray 129 (0,0)),row (.slice (some ⟨y.1,0,none⟩) ts.length ts.length) 175 1 ts.length (rows eA z.1),row (.slice (some ⟨y.2.1,0,none⟩) ts.length ts.length) 175 1 ts.length (rows eA z.2),ae b2 (.cells [(.slice none 0 0),(.slice none 0 0)].toArray 129 (0,0)),aF (sl du u ts),aF (aX ek ts)]) (fun k z=>k≤ts.length∧(z.1.length=ts.length∧∀i,i<k→z.1[i]?=some (B3 (ts.map bh) i))∧(z.2.length=ts.length∧∀j,j<ts.length→z.2[j]?=some (j9 (ts.map bh) k j))) (fun k z=>ts.length-k) 0 (List.replicate ts.length 0,List.replicate ts.length 0) (aE.cons 0 rfl (aE.cons 2 rfl (aE.cons 3 rfl (aE.cons 16 rfl (aE.cons 17 rfl aE.nil))))) ⟨Nat.zero_le _,⟨List.length_replicate,fun i hi=>absurd hi (by omega)⟩,List.length_replicate,fun j hj=>by show(List.replicate ts.length 0)[j]?=_;rw[List.getElem?_replicate,if_pos hj];rfl⟩ ?_;rintro k ⟨U,D⟩ ⟨hk,⟨Vv,hU⟩,Vw,hD⟩
  dsimp only at Vv hU Vw hD⊢
  refine St.sr ?_;refine St.ee Ev.dz ?_;refine St.nn (St.seq ?_);refine St.cond _ rfl (fun gP=> ?_) (fun gP=> ?_)
  ·try simp only[aC]at gP
   obtain⟨t,ht⟩:=aQ (show k<ts.length by omega)
   have lg:=List.mem_of_getElem? ht
   have hTt:(ts.map bh)[k]?=some (bh t):=by rw[List.getElem?_map,ht];rfl
   have OD:=hT.par k _ hTt
   refine St.cC ek ts (x:=t) lg ?_;refine St.fo (sl aK t.pv.1 t.parents) [ek t] (fun ρ h=>h _ (List.mem_cons_self ..)) ?_;refine St.wf t.pv.1 (fun OA AJ=> ?_);refine St.skip (St.aA (St.seq (St.block (St.sr ?_))));refine St.mv ?_;refine St.ee (Ev.aR (k:=k) (.mk rfl) (.mk rfl) eT iV (by omega) (by omega)) ?_;refine St.ee (Ev.fg (.mk rfl) ht yd trivial iV en.eq) ?_;refine St.alloc vP rfl (fun b5=> ?_);refine St.ar ?_;refine St.sA (.mk rfl) (.mk rfl) iV ?_ (h1:=(by simp only[List.all_cons,List.all_nil,Bool.and_true,Bool.and_eq_true];exact⟨rfl,t.pv.2⟩));refine St.nn (St.seq ?_);refine St.eK [row (.slice (some ⟨y.1,0,none⟩) ts.length ts.length) 175 1 ts.length (rows eA U)] mixed (fun np ns=> ?_);refine SW.dd 0 rfl (fun _=>Ev.aD (.mk rfl) pN) ?_;refine SW.dd 1 rfl (fun _=>Ev.cS (.mk rfl) eU trivial (by rfl)) ?_;refine SW.dd 2 rfl (fun _=>Ev.move (.mk rfl)) ?_;refine SW.dd 3 rfl (fun _=>Ev.move (.mk rfl)) ?_;refine SW.dd 4 rfl (fun _=>Ev.Rl (k:=k) (.mk rfl) (.mk rfl) (by omega)) ?_;refine SW.dd 5 rfl (fun _=>Ev.kF (k:=k) rfl (.mk rfl) (.mk rfl) eU fJ (by omega) (by omega)) ?_;refine SW.bG (i:=6) (by kernel_rfl) rfl ?_;refine St.dM (.mk rfl) (.mk rfl) fJ rfl (by omega) (by decide) ?_;refine St.bB (.slice (some ⟨y.1,0,none⟩) ts.length ts.length) rfl pT ?_;refine St.nn ?_;refine SW.go ?_;refine SW.done (by kernel_rfl) ?_;refine St.aA (St.seq (St.sr ?_));refine St.ee (Ev.aD (.mk rfl) kU) ?_;refine St.ee (Ev.l0 (.mk rfl) bE) ?_;refine St.ee (Ev.au (.mk rfl) bE) ?_;refine St.mv ?_;refine St.nn (St.block ?_);refine St.my (ι:=Nat) (κ:=List Nat) (fun q V T=>(32,iv q)::T) (fun q V=>[row (.slice (some ⟨y.1,0,none⟩) ts.length ts.length) 175 1 ts.length (rows eA V),ae y.2.2 (.cells [(.slice (some ⟨y.1,0,none⟩) ts.length ts.length),(.slice (some ⟨y.2.1,0,none⟩) ts.length ts.length)].toArray 129 (0,0)),row (.slice (some ⟨y.2.1,0,none⟩) ts.length ts.length) 175 1 ts.length (rows eA D),ae b2 (.cells [(.slice none 0 0),(.slice none 0 0)].toArray 129 (0,0)),aF (sl aK t.pv.1 t.parents),aF (sl du u ts),aF (aX ek ts)]) (fun q V=>q≤t.parents.length∧V.length=ts.length∧(∀i,i<k→V[i]?=some (B3 (ts.map bh) i))∧V[k]?=some (MR (ts.map bh) k (t.parents.take q))) (fun q V=>t.parents.length-q) 0 (U.set k (2^k)) (aE.cons 0 rfl (aE.cons 2 rfl (aE.cons 3 rfl (aE.cons 4 rfl (aE.cons 16 rfl (aE.cons 17 rfl (aE.cons 18 rfl (aE.cons 30 rfl (aE.cons 31 rfl aE.nil))))))))) ⟨Nat.zero_le _,by rw[List.length_set];exact Vv,fun i hi=>by rw[List.getElem?_set_ne (by omega)];exact hU i hi,by rw[List.getElem?_set_self (by omega)];rfl⟩ ?_;rintro q V ⟨hq,Xv,hV,OE⟩;refine St.sr ?_;refine St.ee Ev.dz ?_;refine St.nn (St.seq ?_);refine St.cond _ rfl (fun qA=> ?_) (fun qA=> ?_)
   ·try simp only[aC]at qA
    obtain⟨p,hp⟩:=aQ (show q<t.parents.length by omega)
    have hpp:=OD p (List.mem_of_getElem? hp)
    refine St.skip (St.aA (St.seq (St.block (St.sr ?_))));refine St.ee (Ev.aR (k:=q) (.mk rfl) (.mk rfl) bE cr (by omega) (by omega)) ?_;refine St.ee (Ev.fL (.mk rfl) hp bP trivial rfl) ?_;refine St.ar ?_;refine St.nn ?_;refine St.eK [row (.slice (some ⟨y.1,0,none⟩) ts.length ts.length) 175 1 ts.length (rows eA V)] mixed (fun np ns=> ?_);refine SW.dd 0 rfl (fun _=>Ev.aD (.mk rfl) pN) ?_;refine SW.dd 1 rfl (fun _=>Ev.cS (.mk rfl) eU trivial (by rfl)) ?_;refine SW.dd 2 rfl (fun _=>Ev.move (.mk rfl)) ?_;refine SW.dd 3 rfl (fun _=>Ev.kF (k:=k) rfl (.mk rfl) (.mk rfl) eU fJ (by omega) (by omega)) ?_;refine SW.dd 5 rfl (fun _=>Ev.aD (.mk rfl) pN) ?_;refine SW.dd 6 rfl (fun _=>Ev.cS (.mk rfl) eU trivial (by rfl)) ?_;refine SW.dd 7 rfl (fun _=>Ev.move (.mk rfl)) ?_;refine SW.dd 8 rfl (fun _=>Ev.kF (k:=p.toNat) rfl (.mk rfl) (.mk rfl) eU fJ (by omega) (by omega)) ?_;refine SW.iP (i:=4) (j:=9) (by kernel_rfl) rfl rfl ?_ ?_
    ·refine St.ee (Ev.j2 (.mk rfl) mO trivial (by omega) (lZ OE)) ?_
     refine St.nn ?_;refine SW.go ?_;refine SW.bG (i:=9) (by kernel_rfl) rfl ?_;refine St.ee (Ev.j2 (.mk rfl) mO trivial (by omega) (lZ (hV p.toNat (by omega)))) ?_;refine St.nn ?_;refine SW.go ?_;refine SW.dd 10 rfl (fun _=>Ev.Xu (.mk rfl) (.mk rfl) ⟨GM hT (by omega) (fun p hp=>OD p (List.mem_of_mem_take hp)),qb hT (by omega)⟩) ?_;refine SW.dd 11 rfl (fun _=>Ev.kF (k:=k) rfl (.mk rfl) (.mk rfl) eU fJ (by omega) (by omega)) ?_;refine SW.bG (i:=12) (by kernel_rfl) rfl ?_;refine St.dM (.mk rfl) (.mk rfl) fJ rfl (by omega) (by decide) ?_;refine St.bB (.slice (some ⟨y.1,0,none⟩) ts.length ts.length) rfl pT ?_;refine St.nn ?_;refine SW.go ?_;refine SW.done (by kernel_rfl) ?_;refine St.aO (St.aA (St.rg ?_));refine St.ee Ev.a0 ?_;refine St.mv ?_;refine St.nn ?_;refine St.ji (q+1) (V.set k (MR (ts.map bh) k (t.parents.take q)|||B3 (ts.map bh) p.toNat)) ⟨by omega,by rw[List.length_set];exact Xv,fun i hi=>by rw[List.getElem?_set_ne (by omega)];exact hV i hi,by rw[List.getElem?_set_self (by omega),bJ hp,z7]⟩
    ·refine St.ee (Ev.j2 (.mk rfl) mO trivial (by omega) (lZ (hV p.toNat (by omega)))) ?_
     refine St.nn ?_;refine SW.go ?_;refine SW.bG (i:=4) (by kernel_rfl) rfl ?_;refine St.ee (Ev.j2 (.mk rfl) mO trivial (by omega) (lZ OE)) ?_;refine St.nn ?_;refine SW.go ?_;refine SW.dd 10 rfl (fun _=>Ev.Xu (.mk rfl) (.mk rfl) ⟨GM hT (by omega) (fun p hp=>OD p (List.mem_of_mem_take hp)),qb hT (by omega)⟩) ?_;refine SW.dd 11 rfl (fun _=>Ev.kF (k:=k) rfl (.mk rfl) (.mk rfl) eU fJ (by omega) (by omega)) ?_;refine SW.bG (i:=12) (by kernel_rfl) rfl ?_;refine St.dM (.mk rfl) (.mk rfl) fJ rfl (by omega) (by decide) ?_;refine St.bB (.slice (some ⟨y.1,0,none⟩) ts.length ts.length) rfl pT ?_;refine St.nn ?_;refine SW.go ?_;refine SW.done (by kernel_rfl) ?_;refine St.aO (St.aA (St.rg ?_));refine St.ee Ev.a0 ?_;refine St.mv ?_;refine St.nn ?_;refine St.ji (q+1) (V.set k (MR (ts.map bh) k (t.parents.take q)|||B3 (ts.map bh) p.toNat)) ⟨by omega,by rw[List.length_set];exact Xv,fun i hi=>by rw[List.getElem?_set_ne (by omega)];exact hV i hi,by rw[List.getElem?_set_self (by omega),bJ hp,z7]⟩
   ·try simp only[aC]at qA
    rw[List.take_of_length_le (by omega)]at OE
    replace OE:V[k]?=some (B3 (ts.map bh) k):=by rw[GL hT hTt];exact OE
    refine St.exit (St.aI (St.aI (St.bM (St.aA (St.sr ?_)))));refine St.mv ?_;refine St.ee (Ev.au (.mk rfl) eT) ?_;refine St.mv ?_;refine St.nn (St.block ?_);refine St.my (ι:=Nat) (κ:=List Nat) (fun q E T=>(51,iv q)::T) (fun q E=>[row (.slice (some ⟨y.2.1,0,none⟩) ts.length ts.length) 175 1 ts.length (rows eA E),row (.slice (some ⟨y.1,0,none⟩) ts.length ts.length) 175 1 ts.length (rows eA V),ae y.2.2 (.cells [(.slice (some ⟨y.1,0,none⟩) ts.length ts.length),(.slice (some ⟨y.2.1,0,none⟩) ts.length ts.length)].toArray 129 (0,0)),ae b2 (.cells [(.slice none 0 0),(.slice none 0 0)].toArray 129 (0,0)),aF (sl du u ts),aF (aX ek ts)]) (fun q E=>q≤ts.length∧E.length=ts.length∧∀j,j<ts.length→E[j]?=some (if j<q then j9 (ts.map bh) (k+1) j else j9 (ts.map bh) k j)) (fun q E=>ts.length-q) 0 D (aE.cons 0 rfl (aE.cons 2 rfl (aE.cons 3 rfl (aE.cons 4 rfl (aE.cons 16 rfl (aE.cons 17 rfl (aE.cons 18 rfl (aE.cons 50 rfl aE.nil)))))))) ⟨Nat.zero_le _,Vw,fun j hj=>by rw[if_neg (by omega)];exact hD j hj⟩ ?_;rintro q E ⟨hq,Vx,hE⟩;refine St.sr ?_;refine St.ee Ev.dz ?_;refine St.nn (St.seq ?_);refine St.cond _ rfl (fun Dz=> ?_) (fun Dz=> ?_)
    ·try simp only[aC]at Dz
     have hEq:=hE q (by omega)
     rw[if_neg (by omega)]at hEq;refine St.skip (St.aA (St.seq (St.block (St.sr ?_))));refine St.mv ?_;refine St.ar ?_;refine St.nn (St.sr ?_);refine St.ee (Ev.aD (.mk rfl) pN) ?_;refine St.ee (Ev.l0 (.mk rfl) eU) ?_;refine St.mv ?_;refine St.ee (Ev.cN (k:=k) (.mk rfl) (.mk rfl) eU fJ (by omega) (by omega)) ?_;refine St.ee (Ev.j2 (.mk rfl) mO trivial (by omega) (lZ OE)) ?_;refine St.mv ?_;refine St.ee (Ev.Na (q) _ rfl (.mk rfl) (.mk rfl) (by omega)) ?_;refine St.ee (Ev.Qg (b:=1) 1 2 (by decide) (.mk rfl) (.mk rfl) (⟨(Nat.lt_of_le_of_lt (Nat.div_le_self _ _) (qb hT (by omega))),by decide,by decide⟩)) ?_;refine St.ee Ev.fa ?_;refine St.slot 62 (.bool (dx (ts.map bh) k q)) rfl (congrArg Value.bool (Ca _ _)) ?_;refine St.nn ?_;refine St.cond _ rfl (fun ox=> ?_) (fun ox=> ?_)
     ·skip
      refine St.eK [row (.slice (some ⟨y.2.1,0,none⟩) ts.length ts.length) 175 1 ts.length (rows eA E)] mixed (fun np ns=> ?_);refine SW.dd 0 rfl (fun _=>Ev.aD (.mk rfl) s6) ?_;refine SW.dd 1 rfl (fun _=>Ev.cS (.mk rfl) eU trivial (by rfl)) ?_;refine SW.dd 2 rfl (fun _=>Ev.move (.mk rfl)) ?_;refine SW.dd 3 rfl (fun _=>Ev.kF (k:=q) rfl (.mk rfl) (.mk rfl) eU fJ (by omega) (by omega)) ?_;refine SW.dd 5 rfl (fun _=>Ev.move (.mk rfl)) ?_;refine SW.dd 6 rfl (fun _=>Ev.Rl (k:=k) (.mk rfl) (.mk rfl) (by omega)) ?_;refine SW.bG (i:=4) (by kernel_rfl) rfl ?_;refine St.ee (Ev.j2 (.mk rfl) mO trivial (by omega) (lZ hEq)) ?_;refine St.nn ?_;refine SW.go ?_;refine SW.dd 7 rfl (fun _=>Ev.Xu (.mk rfl) (.mk rfl) ⟨pS _ _ (by omega),(show 2^k<2^64 from Nat.pow_lt_pow_right (by decide) (by omega))⟩) ?_;refine SW.dd 8 rfl (fun _=>Ev.kF (k:=q) rfl (.mk rfl) (.mk rfl) eU fJ (by omega) (by omega)) ?_;refine SW.bG (i:=9) (by kernel_rfl) rfl ?_;refine St.dM (.mk rfl) (.mk rfl) fJ rfl (by omega) (by decide) ?_;refine St.bB (.slice (some ⟨y.2.1,0,none⟩) ts.length ts.length) rfl pT ?_;refine St.nn ?_;refine SW.go ?_;refine SW.done (by kernel_rfl) ?_;refine St.aO (St.aA (St.rg ?_));refine St.ee Ev.a0 ?_;refine St.mv ?_;refine St.nn ?_;refine St.ji (q+1) (E.set q (j9 (ts.map bh) k q|||2^k)) ⟨by omega,by rw[List.length_set];exact Vx,K6 hE Vx (by omega) ox⟩
     ·skip
      refine St.skip (St.aO (St.aA (St.rg ?_)));refine St.ee Ev.a0 ?_;refine St.mv ?_;refine St.nn ?_;refine St.ji (q+1) E ⟨by omega,Vx,K7 hE ox⟩
    ·try simp only[aC]at Dz
     obtain rfl:q=ts.length:=by omega
     replace hE:∀j,j<ts.length→E[j]?=some (j9 (ts.map bh) (k+1) j):=fun j hj=>by rw[hE j hj,if_pos hj]
     refine St.exit (St.aI (St.aI (St.bM (St.aO (St.aA (St.rg ?_))))));refine St.ee Ev.a0 ?_;refine St.mv ?_;refine St.nn ?_;refine St.ji (k+1) (V,E) ⟨by omega,⟨Xv,fun i hi=>by rcases Nat.lt_or_ge i k with h|h;exact hV i h;rw[show i=k by omega];exact OE⟩,Vx,hE⟩
  ·try simp only[aC]at gP
   obtain rfl:k=ts.length:=by omega
   refine St.exit (St.aI (St.aI (St.bM (St.aA (St.sr ?_)))));refine St.ee (Ev.bH (.mk rfl) oA trivial (by exact iB)) ?_;refine St.sA (.mk rfl) (.mk rfl) iB ?_ (h1:=(by simp only[List.all_cons,List.all_nil,Bool.and_true,Bool.and_eq_true];exact⟨rfl,rfl⟩));refine St.nn (St.ab ?_)
   have hU2:U=k6 (ts.map bh):=by unfold k6;rw[List.length_map];exact tI Vv hU
   have hD2:D=k7 (ts.map bh):=by unfold k7;rw[List.length_map];exact tI Vw hD
   refine St.aU (.slice (some ⟨y.1,0,none⟩) ts.length ts.length) eA U rfl Vv.symm (fun a ha=>by obtain⟨i,hi,rfl⟩:=List.mem_map.1 (hU2▸ha);exact qb hT (by have:=List.mem_range.1 hi;rw[List.length_map]at this;omega)) ?_;refine St.aU (.slice (some ⟨y.2.1,0,none⟩) ts.length ts.length) eA D rfl Vw.symm (fun a ha=>by obtain⟨i,hi,rfl⟩:=List.mem_map.1 (hD2▸ha);exact pS _ _ (by rw[List.length_map];omega)) ?_;rw[hU2,hD2];refine St.rT [_] [aF (sl eA (.slice (some ⟨y.1,0,none⟩) ts.length ts.length) (k6 (ts.map bh))),aF (sl eA (.slice (some ⟨y.2.1,0,none⟩) ts.length ts.length) (k7 (ts.map bh)))] Tryz.results66 ⟨⟨_,_,_,_,rfl,jm.mem,.inl ⟨⟨_,oA⟩,iB,rfl⟩⟩,trivial⟩ ?_;exact⟨⟨(.slice (some ⟨y.1,0,none⟩) ts.length ts.length),rfl⟩,⟨(.slice (some ⟨y.2.1,0,none⟩) ts.length ts.length),rfl⟩,rfl,rfl⟩
end Go.Proofs.YtolmidffiegkaaaGreatDoor
namespace Go.Proofs
open Go.Shelf
def Tryz.B5:Go.Shelf.Ren:=⟨fun|29=>115|n=>n,fun|0=>0|3=>3|4=>4|5=>5|22=>175|25=>171|54=>207|n=>n,fun|1=>3|n=>n⟩
theorem Tryz.OG:Go.Proofs.Lays7.n29 Tryz.prog Tryz.B5:={
 mixed:=by kernel_rfl
 f29:=Tryz.func115.trans (congrArg some (by kernel_rfl))
 t0:=R6
 a0:=Tryz.isAgg0
 z0:=Tryz.sizeOf0
 v0:=Tryz.zeroValue0
 i0:=by kernel_rfl
 t3:=bP
 a3:=Tryz.isAgg3
 z3:=Tryz.sizeOf3
 v3:=Tryz.zeroValue3
 i3:=by kernel_rfl
 t4:=uP
 a4:=Tryz.isAgg4
 z4:=Tryz.sizeOf4
 v4:=Tryz.zeroValue4
 i4:=by kernel_rfl
 t5:=CS
 a5:=Tryz.isAgg5
 z5:=Tryz.sizeOf5
 v5:=Tryz.zeroValue5
 i5:=by kernel_rfl
 t22:=mO
 a22:=Tryz.isAgg175
 z22:=Tryz.sizeOf175
 v22:=Tryz.zeroValue175
 i22:=by kernel_rfl
 t25:=ye
 a25:=Tryz.isAgg171
 z25:=Tryz.sizeOf171
 v25:=Tryz.zeroValue171
 i25:=by kernel_rfl
 t54:=Tryz.underlying207
 a54:=Tryz.isAgg207
 z54:=Tryz.sizeOf207
 g1:=by kernel_rfl}
end Go.Proofs
namespace Go.Proofs.YtolmidffiegkaaaGreatDoor
open Go Go.J
abbrev tz:df:=df.of (TabAt 3 Lib.deBruijn64tab)
theorem cz.of_same {P:Program}{f:FuncId}{args:Array Value}{X:World→Prop}{v:Value}(h:∀w,X w→Calls P f args w fun e w'=>e= .returned v∧w'=w):cz P f args [df.of X] v:=by
 intro w ρ hs
 have hx:X w:=dV.1 (hs.dF (aF (df.of X)) (List.mem_cons_self ..)) w hs.fits
 refine(h w hx).mono ?_;rintro e w' ⟨rfl,rfl⟩;exact⟨v,[],rfl,rfl,Mm.mk (ρ:=ρ) ⟨rfl,⟨rfl,fun _=>Nat.le_refl _⟩,rfl,Nat.le_refl _,fun _ _ _=>rfl,hs.fits,Ro.le_refl _,fun _ _ _=>rfl,fun _ h=>by simp at h,fun _ h=>by simp at h,.nil⟩⟩
theorem K8 (x:Nat)(hx:x<18446744073709551616):cz Tryz.prog 115 #[uv x] [tz] (iv (Lib.ctz 64 x)):=
 cz.of_same fun w hw=>Any7.bits_TrailingZeros64 Tryz.OG x hx w (fun _=>hw)
theorem GS {x:Nat}(h0:x≠0)(h:x<18446744073709551616):x.testBit (Lib.ctz 64 x)=true∧∀i,i<Lib.ctz 64 x→x.testBit i=false:=by
 obtain⟨m,hm,_⟩:=Lib.ctzFrom_spec 64 x (by omega) h
 have e:Lib.ctz 64 x=Lib.ctzFrom 64 x:=by unfold Lib.ctz;rw[if_neg h0]
 rw[e]
 generalize Lib.ctzFrom 64 x=k at hm
 subst hm;refine⟨?_,fun i hi=> ?_⟩
 ·rw[Nat.testBit_two_pow_mul,Nat.sub_self,decide_eq_true (Nat.le_refl k),Bool.true_and,Nat.testBit_zero]
  exact decide_eq_true (by omega)
 ·rw[Nat.testBit_two_pow_mul,decide_eq_false (by omega),Bool.false_and]
abbrev tK (w1 w2:cm):Value:= .agg #[w1.1,w2.1]
theorem GU (w1 w2:cm)(T:List dZ)(hT:gz T)(i j:Nat)(hi:i<T.length)(hj:j<T.length):cz Tryz.prog 98 #[tK w1 w2,iv i,iv j] [sl eA w1.1 (k6 T),sl eA w2.1 (k7 T)] (.bool (dx T i j)):=by
 refine cz.o7 (args:=[tK w1 w2,iv i,iv j]) 16 Tryz.func98 rfl Tryz.ntmps98 rfl (fun c=> ?_);refine St.seq ?_
 have uh:=hT.len
 have Eo:=GO T
 refine St.rg ?_;refine St.cX (.mk rfl) rfl (fun b3=> ?_);refine St.ar ?_;refine St.nn (St.sr ?_);refine St.ee (Ev.aD (.mk rfl) pN) ?_;refine St.ee (Ev.l0 (.mk rfl) eU) ?_;refine St.mv ?_;refine St.ee (Ev.aR (k:=i) (.mk rfl) (.mk rfl) eU fJ (by omega) (by omega)) ?_;refine St.ee (Ev.fL (.mk rfl) (GN hi) mO trivial rfl) ?_;refine St.mv ?_;refine St.ee (Ev.Na (j) _ rfl (.mk rfl) (.mk rfl) (by omega)) ?_;refine St.ee (Ev.Qg (b:=1) 1 2 (by decide) (.mk rfl) (.mk rfl) (⟨(Nat.lt_of_le_of_lt (Nat.div_le_self _ _) (qb hT (by omega))),by decide,by decide⟩)) ?_;refine St.ee Ev.fa ?_;refine St.slot 15 (.bool (dx T i j)) rfl (congrArg Value.bool (Ca _ _)) ?_;refine St.ar ?_;refine St.nn (St.ab ?_);refine St.rU [_] [] Tryz.results98 ?_;rfl
theorem E0 (w1 w2:cm)(T:List dZ)(hT:gz T)(a b:Nat)(ha:a<T.length)(hb:b<T.length):fC Tryz.prog 94 #[tK w1 w2,iv a,iv b] ([sl eA w1.1 (k6 T),sl eA w2.1 (k7 T),tz].map aF) (fun v H'=>∃(m:Int) (ok:Bool),v= .tuple #[iv m,.bool ok,.bool (fp T a b)]∧H'=[]):=by
 refine fC.body (args:=[tK w1 w2,iv a,iv b]) 33 Tryz.func94 rfl Tryz.ntmps94 rfl (fun c=> ?_);refine St.cast (H':=[aF (sl eA w1.1 (k6 T)),aF (sl eA w2.1 (k7 T)),aF (tz)]) rfl ?_;refine St.seq ?_
 have uh:=hT.len
 have hdl:=GP T
 refine St.rg ?_;refine St.cX (.mk rfl) rfl (fun b3=> ?_);refine St.ar ?_;refine St.ar ?_;refine St.ar ?_;refine St.nn (St.seq ?_);refine St.rq mixed (by kernel_rfl) (Mm.drawn _ _) ?_;refine Sq.ee (Ev.aD (.mk rfl) s6) ?_;refine Sq.ee (Ev.l0 (.mk rfl) eU) ?_;refine Sq.ee (Ev.move (.mk rfl)) ?_;refine Sq.ee (Ev.aR (k:=a) (.mk rfl) (.mk rfl) eU fJ (by omega) (by omega)) ?_;refine Sq.ee (Ev.fL (.mk rfl) (tJ ha) mO trivial rfl) ?_;refine Sq.ee (Ev.aD (.mk rfl) s6) ?_;refine Sq.ee (Ev.l0 (.mk rfl) eU) ?_;refine Sq.ee (Ev.move (.mk rfl)) ?_;refine Sq.ee (Ev.aR (k:=b) (.mk rfl) (.mk rfl) eU fJ (by omega) (by omega)) ?_;refine Sq.ee (Ev.fL (.mk rfl) (tJ hb) mO trivial rfl) ?_;refine Sq.ee (Ev.Xt (.mk rfl) (.mk rfl) ⟨pS _ _ uh,pS _ _ uh⟩) ?_;refine Sq.ee (Ev.assign (.mk rfl)) ?_;refine Sq.nil ?_;refine St.aA (St.seq (St.seq ?_));refine St.slot 9 (uv (both T a b)) rfl rfl ?_
 have sB:both T a b<18446744073709551616:=Nat.lt_of_le_of_lt Nat.and_le_left (pS _ _ uh)
 refine St.rg ?_;refine St.mv ?_;refine St.ee Ev.fa ?_;refine St.nn ?_;refine St.cond _ rfl (fun uf=> ?_) (fun uf=> ?_)
 ·try simp only[aC]at uf
  have h0:both T a b=0:=by omega
  refine St.sr ?_;refine St.ar ?_;refine St.ar ?_;refine St.ar ?_;refine St.nn (St.ab (St.aB ?_));refine St.rT [_,_,_] [] Tryz.results94 ⟨rfl,⟨rfl,⟨rfl,trivial⟩⟩⟩ ?_;exact⟨0,false,by rw[B4 h0];rfl,rfl⟩
 ·try simp only[aC]at uf
  have h0:both T a b≠0:=by omega
  obtain⟨yQ,uW⟩:=GS h0 sB
  have JE:Lib.ctz 64 (both T a b)<T.length:=by rw[nC,Bool.and_eq_true,decide_eq_true_eq]at yQ;exact yQ.1
  have Vy:=GQ hT yQ uW
  refine St.skip (St.aA (St.sr ?_));refine St.mv ?_;refine St.ee (Ev.call (K8 (both T a b) sB) RO (.cons (.mk rfl) .nil)) ?_;refine St.ar ?_;refine St.nn (St.seq (St.sr ?_));refine St.ee (Ev.aD (.mk rfl) s6) ?_;refine St.ee (Ev.l0 (.mk rfl) eU) ?_;refine St.mv ?_;refine St.ee (Ev.aR (k:=(Lib.ctz 64 (both T a b))) (.mk rfl) (.mk rfl) eU fJ (by omega) (by omega)) ?_;refine St.ee (Ev.fL (.mk rfl) (tJ JE) mO trivial rfl) ?_;refine St.mv ?_;refine St.ee Ev.jj ?_;refine St.nn ?_;refine St.cond _ rfl (fun kE=> ?_) (fun kE=> ?_)
  ·try simp only[aC]at kE
   rw[decide_eq_true (by omega)]at Vy;refine St.sr ?_;refine St.ar ?_;refine St.ar ?_;refine St.ar ?_;refine St.nn (St.ab (St.aB ?_));refine St.rT [_,_,_] [] Tryz.results94 ⟨rfl,⟨rfl,⟨rfl,trivial⟩⟩⟩ ?_;exact⟨0,false,by rw[Vy];rfl,rfl⟩
  ·try simp only[aC]at kE
   rw[decide_eq_false (by omega)]at Vy;refine St.skip (St.aA (St.sr ?_));refine St.mv ?_;refine St.ar ?_;refine St.ar ?_;refine St.ar ?_;refine St.nn (St.ab ?_);refine St.rT [_,_,_] [] Tryz.results94 ⟨rfl,⟨rfl,⟨rfl,trivial⟩⟩⟩ ?_;exact⟨(Lib.ctz 64 (both T a b):Nat),true,by rw[Vy];rfl,rfl⟩
end Go.Proofs.YtolmidffiegkaaaGreatDoor
