/-
  Laws of walks through programs, and facts on grammars, trees and queries.
  Conditions: none.
-/
import Derived.Test.YtolmidffiegkaaaGreatDoorGB7
import Derived.Test.YtolmidffiegkaaaGreatDoorGB2
import Derived.Test.YtolmidffiegkaaaGreatDoorGB1
import Derived.Laws.Slices
import Derived.Laws.Strings2
import Derived.Laws.RangeAny
set_option maxRecDepth 20000
set_option linter.unusedSimpArgs false
set_option linter.unusedVariables false
namespace Go.Proofs.YtolmidffiegkaaaGreatDoor
open Go Go.J
theorem ot (s:cV)(hs:s.length≤9223372036854775807):cz Tryz.prog 36 #[sv s] [] (.bool (isName s)):=by
 refine cz.kI (args:=[sv s]) 54 Tryz.func36 rfl Tryz.ntmps36 rfl (fun c=> ?_);refine St.sr ?_;refine St.ar ?_;refine St.nn (St.seq (St.sr ?_));refine St.mv ?_;refine St.ee (Ev.ko (.mk rfl) eG) ?_;refine St.ee Ev.dz ?_;refine St.mv ?_;refine St.gf _ rfl rfl (fun hg=>Ev.move (.mk rfl)) rfl ?_;refine St.gf _ rfl rfl (fun hg=>Ev.ko (aL.gv rfl hg) eG) rfl ?_;refine St.gf _ rfl rfl (fun hg=>Ev.gtr (aL.gv rfl hg) (.mk rfl)) rfl ?_;refine St.ee Ev.o0 ?_;refine St.nn ?_;refine St.cond _ rfl (fun qX=> ?_) (fun qX=> ?_)
 ·try simp only[aC]at qX
  refine St.sr ?_;refine St.ar ?_;refine St.nn (St.ab (St.aB ?_));refine St.rU [_] [] Tryz.results36 ?_;exact be (j3 (by omega)).symm
 ·try simp only[aC]at qX
  refine St.skip (St.aA (St.seq (St.sr ?_)));refine St.mv ?_;refine St.I0 (.mk rfl) hs eG Tryz.underlying138 CS rfl (fun WS=> ?_);refine St.ee (Ev.au (.mk rfl) Tryz.underlying138) ?_;refine St.mv ?_;refine St.nn (St.block ?_);refine St.lS (ι:=Nat) (fun k T=>(18,iv k)::T) (fun k=>k≤s.length∧(s.take k).all eh=true∧(0<k→low (s.getD 0 0)=true)) (fun k=>s.length-k) 0 (aE.cons 16 rfl (aE.cons 17 rfl aE.nil)) ⟨Nat.zero_le _,rfl,by omega⟩ ?_;intro k dK;obtain⟨hk,fE,I6⟩:=dK;refine St.sr ?_;refine St.ee Ev.dz ?_;refine St.nn (St.seq ?_);refine St.cond _ rfl (fun gP=> ?_) (fun gP=> ?_)
  ·try simp only[aC]at gP
   refine St.skip (St.aA (St.seq (St.block (St.sr ?_))));refine St.mv ?_;refine St.ee (Ev.aR (k:=k) (.mk rfl) (.mk rfl) Tryz.underlying138 sz5 (by omega) (by omega)) ?_;refine St.ee (Ev.fL (.mk rfl) (by first|assumption|exact jg 0 (by omega)) CS trivial rfl) ?_;refine St.ar ?_;refine St.ar ?_;refine St.nn (St.sr ?_);refine St.mv ?_;refine St.ee Ev.ra ?_;refine St.mv ?_;refine St.gt _ rfl rfl (fun hg=>Ev.move (.mk rfl)) rfl ?_;refine St.gt _ rfl rfl (fun hg=>Ev.leq (aL.gv rfl hg) (.mk rfl)) rfl ?_;refine St.ee Ev.n0 ?_;refine St.ar ?_;refine St.nn (St.sr ?_);refine St.mv ?_;refine St.ee Ev.ra ?_;refine St.mv ?_;refine St.gt _ rfl rfl (fun hg=>Ev.move (.mk rfl)) rfl ?_;refine St.gt _ rfl rfl (fun hg=>Ev.leq (aL.gv rfl hg) (.mk rfl)) rfl ?_;refine St.ee Ev.n0 ?_;refine St.mv ?_;refine St.gf _ rfl rfl (fun hg=>Ev.move (.mk rfl)) rfl ?_;refine St.gf _ rfl rfl (fun hg=>Ev.eql (aL.gv rfl hg) (.mk rfl)) rfl ?_;refine St.ee Ev.o0 ?_;refine St.mv ?_;refine St.gf _ rfl rfl (fun hg=>Ev.move (.mk rfl)) rfl ?_;refine St.gf _ rfl rfl (fun hg=>Ev.eql (aL.gv rfl hg) (.mk rfl)) rfl ?_;refine St.ee Ev.o0 ?_;refine St.ar ?_;refine St.nn (St.sr ?_);refine St.mv ?_;refine St.ee (Ev.not (.mk rfl)) ?_;refine St.mv ?_;refine St.gt _ rfl rfl (fun hg=>Ev.move (.mk rfl)) rfl ?_;refine St.gt _ rfl rfl (fun hg=>Ev.not (aL.gv rfl hg)) rfl ?_;refine St.gt _ rfl rfl (fun hg=>Ev.move (aL.gv rfl hg)) rfl ?_;refine St.ny _ rfl rfl (fun hg=>Ev.move (.mk rfl)) rfl ?_;refine St.ny _ rfl rfl (fun hg=>Ev.eql (aL.gv rfl hg) (.mk rfl)) rfl ?_;refine St.gt _ rfl rfl (fun hg=>Ev.or (aL.gv rfl hg) (fun hp=>aL.gv rfl (kH hg hp))) rfl ?_;refine St.ee Ev.n0 ?_;refine St.nn ?_;refine St.cond _ rfl (fun Dz=> ?_) (fun Dz=> ?_)
   ·try simp only[aC]at Dz
    refine St.sr ?_;refine St.ar ?_;refine St.nn (St.ab (St.aN (St.aB (St.aB (St.aN (St.aB ?_))))));refine St.rU [_] [] Tryz.results36 ?_
    rcases Nat.eq_zero_or_pos k with rfl|h0
    ·exact be (j3 (by omega)).symm
    ·exact be (mh (k:=k) (by omega) (by simp only[eh,low,digit,Bool.and_eq_false_iff,Bool.or_eq_false_iff,decide_eq_false_iff_not];omega)).symm
   ·try simp only[aC]at Dz
    refine St.skip (St.aO (St.aA (St.rg ?_)));refine St.ee Ev.a0 ?_;refine St.mv ?_;refine St.nn ?_
    have hy:k+1≤s.length∧(s.take (k+1)).all eh=true∧(0<k+1→low (s.getD 0 0)=true):=by
     refine⟨by omega,l5 (d:=0) fE (by simp only[eh,low,digit,Bool.and_eq_true,Bool.or_eq_true,decide_eq_true_eq];omega),fun _=> ?_⟩
     rcases Nat.eq_zero_or_pos k with rfl|h0
     ·simp only[low,Bool.and_eq_true,decide_eq_true_eq];omega
     ·exact I6 h0
    refine St.aS (k+1) hy
  ·try simp only[aC]at gP
   refine St.exit (St.aI (St.aI (St.bM (St.aA (St.sr ?_)))));refine St.ar ?_;refine St.nn (St.ab ?_);refine St.rU [_] [] Tryz.results36 ?_;exact be (mi (by omega) (by omega) (I6 (by omega)) (mg fE (by omega))).symm
theorem Bh (s:cV)(hs:s.length≤9223372036854775807):cz Tryz.prog 123 #[sv s] [] (.bool (isName s)):=by
 refine cz.kI (args:=[sv s]) 62 Tryz.func123 rfl Tryz.ntmps123 rfl (fun c=> ?_);refine St.sr ?_;refine St.ar ?_;refine St.nn (St.seq (St.sr ?_));refine St.mv ?_;refine St.ee (Ev.ko (.mk rfl) eG) ?_;refine St.ee Ev.dz ?_;refine St.mv ?_;refine St.gf _ rfl rfl (fun hg=>Ev.move (.mk rfl)) rfl ?_;refine St.gf _ rfl rfl (fun hg=>Ev.ko (aL.gv rfl hg) eG) rfl ?_;refine St.gf _ rfl rfl (fun hg=>Ev.gtr (aL.gv rfl hg) (.mk rfl)) rfl ?_;refine St.ee Ev.o0 ?_;refine St.nn ?_;refine St.cond _ rfl (fun PM=> ?_) (fun PM=> ?_)
 ·try simp only[aC]at PM
  refine St.sr ?_;refine St.ar ?_;refine St.nn (St.ab (St.aB ?_));refine St.rU [_] [] Tryz.results123 ?_;exact be (j3 (by omega)).symm
 ·try simp only[aC]at PM
  refine St.skip (St.aA (St.seq (St.sr ?_)));refine St.ar ?_;refine St.nn (St.block ?_);refine St.lS (ι:=Nat) (fun k T=>(3,iv k)::T) (fun k=>k≤s.length∧(s.take k).all eh=true∧(0<k→low (s.getD 0 0)=true)) (fun k=>s.length-k) 0 (aE.cons 0 rfl aE.nil) ⟨Nat.zero_le _,rfl,by omega⟩ ?_;intro k dK;obtain⟨hk,fE,I6⟩:=dK;refine St.seq (St.sr ?_);refine St.mv ?_;refine St.mv ?_;refine St.ee (Ev.ko (.mk rfl) eG) ?_;refine St.ee Ev.dz ?_;refine St.nn ?_;refine St.cond _ rfl (fun mW=> ?_) (fun mW=> ?_)
  ·try simp only[aC]at mW
   refine St.skip (St.aA (St.seq (St.block (St.sr ?_))));refine St.mv ?_;refine St.mv ?_;refine St.ee (Ev.gE (.mk rfl) (.mk rfl) eG rfl (by omega)) ?_;refine St.ee Ev.Iw ?_;refine St.mv ?_;refine St.gt _ rfl rfl (fun hg=>Ev.move (.mk rfl)) rfl ?_;refine St.gt _ rfl rfl (fun hg=>Ev.move (.mk rfl)) rfl ?_;refine St.gt _ rfl rfl (fun hg=>Ev.gE (aL.gv rfl hg) (aL.gv rfl hg) eG rfl (by first|omega|(simp only[aC]at hg;omega))) rfl ?_;refine St.gt _ rfl rfl (fun hg=>Ev.leq (aL.gv rfl hg) (.mk rfl)) rfl ?_;refine St.ee Ev.n0 ?_;refine St.ar ?_;refine St.nn (St.sr ?_);refine St.mv ?_;refine St.mv ?_;refine St.ee (Ev.gE (.mk rfl) (.mk rfl) eG rfl (by omega)) ?_;refine St.ee Ev.Iw ?_;refine St.mv ?_;refine St.gt _ rfl rfl (fun hg=>Ev.move (.mk rfl)) rfl ?_;refine St.gt _ rfl rfl (fun hg=>Ev.move (.mk rfl)) rfl ?_;refine St.gt _ rfl rfl (fun hg=>Ev.gE (aL.gv rfl hg) (aL.gv rfl hg) eG rfl (by first|omega|(simp only[aC]at hg;omega))) rfl ?_;refine St.gt _ rfl rfl (fun hg=>Ev.leq (aL.gv rfl hg) (.mk rfl)) rfl ?_;refine St.ee Ev.n0 ?_;refine St.mv ?_;refine St.gf _ rfl rfl (fun hg=>Ev.move (.mk rfl)) rfl ?_;refine St.gf _ rfl rfl (fun hg=>Ev.move (.mk rfl)) rfl ?_;refine St.gf _ rfl rfl (fun hg=>Ev.gE (aL.gv rfl hg) (aL.gv rfl hg) eG rfl (by first|omega|(simp only[aC]at hg;omega))) rfl ?_;refine St.gf _ rfl rfl (fun hg=>Ev.eql (aL.gv rfl hg) (.mk rfl)) rfl ?_;refine St.ee Ev.o0 ?_;refine St.mv ?_;refine St.gf _ rfl rfl (fun hg=>Ev.move (.mk rfl)) rfl ?_;refine St.gf _ rfl rfl (fun hg=>Ev.move (.mk rfl)) rfl ?_;refine St.gf _ rfl rfl (fun hg=>Ev.gE (aL.gv rfl hg) (aL.gv rfl hg) eG rfl (by first|omega|(simp only[aC]at hg;omega))) rfl ?_;refine St.gf _ rfl rfl (fun hg=>Ev.eql (aL.gv rfl hg) (.mk rfl)) rfl ?_;refine St.ee Ev.o0 ?_;refine St.ar ?_;refine St.nn (St.sr ?_);refine St.mv ?_;refine St.ee (Ev.not (.mk rfl)) ?_;refine St.mv ?_;refine St.gt _ rfl rfl (fun hg=>Ev.move (.mk rfl)) rfl ?_;refine St.gt _ rfl rfl (fun hg=>Ev.eql (aL.gv rfl hg) (.mk rfl)) rfl ?_;refine St.gt _ rfl rfl (fun hg=>Ev.move (aL.gv rfl hg)) rfl ?_;refine St.ny _ rfl rfl (fun hg=>Ev.move (.mk rfl)) rfl ?_;refine St.ny _ rfl rfl (fun hg=>Ev.not (aL.gv rfl hg)) rfl ?_;refine St.gt _ rfl rfl (fun hg=>Ev.or (aL.gv rfl hg) (fun hp=>aL.gv rfl (kH hg hp))) rfl ?_;refine St.ee Ev.n0 ?_;refine St.nn ?_;refine St.cond _ rfl (fun GK=> ?_) (fun GK=> ?_)
   ·try simp only[aC]at GK
    refine St.sr ?_;refine St.ar ?_;refine St.nn (St.ab (St.aN (St.aB (St.aB (St.aN (St.aB ?_))))));refine St.rU [_] [] Tryz.results123 ?_
    rcases Nat.eq_zero_or_pos k with rfl|h0
    ·exact be (j3 (by omega)).symm
    ·exact be (mh (k:=k) (by omega) (by simp only[eh,low,digit,Bool.and_eq_false_iff,Bool.or_eq_false_iff,decide_eq_false_iff_not];omega)).symm
   ·try simp only[aC]at GK
    refine St.skip (St.aO (St.aA (St.rg ?_)));refine St.mv ?_;refine St.ee Ev.a0 ?_;refine St.ar ?_;refine St.nn ?_
    have hy:k+1≤s.length∧(s.take (k+1)).all eh=true∧(0<k+1→low (s.getD 0 0)=true):=by
     refine⟨by omega,l5 (d:=0) fE (by simp only[eh,low,digit,Bool.and_eq_true,Bool.or_eq_true,decide_eq_true_eq];omega),fun _=> ?_⟩
     rcases Nat.eq_zero_or_pos k with rfl|h0
     ·simp only[low,Bool.and_eq_true,decide_eq_true_eq];omega
     ·exact I6 h0
    refine St.aS (k+1) hy
  ·try simp only[aC]at mW
   refine St.exit (St.aI (St.aI (St.bM (St.aA (St.sr ?_)))));refine St.ar ?_;refine St.nn (St.ab ?_);refine St.rU [_] [] Tryz.results123 ?_;exact be (mi (by omega) (by omega) (I6 (by omega)) (mg fE (by omega))).symm
theorem o5.mono {l:List dZ}{a i j:Nat}{M:List Bool}(h:o5 l a i M)(NY:i≤j):o5 l a j M:=⟨h.len,h.snd,h.top,fun y t hy=>h.cls y t (by omega)⟩
set_option maxHeartbeats 1000000 in
theorem wE (tv:Value)(ts:List ja)(hT:gz (ts.map bh))(a b:Nat)(ha:a<ts.length)(hb:b<ts.length):cz Tryz.prog 79 #[tv,iv a,iv b] [sl du tv ts,aX ek ts] (.bool (dx (ts.map bh) a b)):=by
 refine cz.o7 (args:=[tv,iv a,iv b]) 45 Tryz.func79 rfl Tryz.ntmps79 rfl (fun c=> ?_);refine St.seq ?_
 have rf:(ts.map bh).length=ts.length:=List.length_map ..
 have uh:=hT.len
 refine St.wf tv (fun pR _=> ?_);refine St.rg ?_;refine St.ar ?_;refine St.nn (St.sr ?_);refine St.mv ?_;refine St.ee (Ev.au (.mk rfl) eT) ?_;refine St.gL (m:=ts.length) (.mk rfl) (.mk rfl) fb q9 Vq Vr rfl rfl (by omega) rfl rfl (fun MZ=> ?_);refine St.bB (.slice (some ⟨MZ,0,none⟩) ts.length ts.length) rfl (pX _) ?_;refine St.ar ?_;refine St.nn (St.sr ?_);refine St.mv ?_;refine St.mv ?_;refine St.ee (Ev.cN (k:=a) (.mk rfl) (.mk rfl) fb q9 (by omega) (by omega)) ?_;refine St.dM (.mk rfl) (.mk rfl) q9 rfl (by omega) (by decide) ?_;refine St.bB (.slice (some ⟨MZ,0,none⟩) ts.length ts.length) rfl k9 ?_;refine St.nn (St.seq (St.sr ?_));refine St.mv ?_;refine St.ar ?_;refine St.nn (St.block ?_);refine St.my (ι:=Nat) (κ:=List Bool) (fun i M T=>(8,iv i)::T) (fun i M=>[row (.slice (some ⟨MZ,0,none⟩) ts.length ts.length) 4 1 ts.length (rows eB (M)),aF (sl du tv ts),aF (aX ek ts)]) (fun i M=>o5 (ts.map bh) a i M∧i≤a) (fun i M=>i) a ((List.replicate ts.length false).set a true) (aE.cons 0 rfl (aE.cons 2 rfl (aE.cons 6 rfl (aE.cons 7 rfl aE.nil)))) ⟨by have:=o5.start hT (a:=a) (by omega);rw[rf]at this;exact this,Nat.le_refl _⟩ ?_;rintro i M ⟨hM,Pr⟩
 have hML:=hM.len
 refine St.seq (St.sr ?_);refine St.mv ?_;refine St.mv ?_;refine St.ee Ev.s5 ?_;refine St.nn ?_;refine St.cond _ rfl (fun td=> ?_) (fun td=> ?_)
 ·try simp only[aC]at td
  obtain⟨j,rfl⟩:∃j,i=j+1:=⟨i-1,by omega⟩
  obtain⟨bm,hbm⟩:=aQ (show j+1<M.length by omega);obtain⟨t,ht⟩:=aQ (show j+1<ts.length by omega)
  have lg:=List.mem_of_getElem? ht
  have hte:(ts.map bh)[j+1]?=some (bh t):=by rw[List.getElem?_map,ht];rfl
  refine St.cC ek ts (x:=t) lg ?_;refine St.fo (sl aK t.pv.1 t.parents) [ek t] (fun ρ h=>h _ (List.mem_cons_self ..)) ?_;refine St.wf t.pv.1 (fun OA AJ=> ?_);refine St.skip (St.aA (St.seq (St.block (St.sr ?_))));refine St.mv ?_;refine St.mv ?_;refine St.ee (Ev.cN (k:=(j+1)) (.mk rfl) (.mk rfl) fb q9 (by omega) (by omega)) ?_;refine St.ee (Ev.j2 (.mk rfl) uP trivial (by omega) (pW hbm)) ?_;refine St.nn ?_;refine St.cond _ rfl (fun En=> ?_) (fun En=> ?_)
  ·skip
   have hmt:M[j+1]?=some true:=by rw[hbm];cases bm;cases En;rfl
   have abK:yx (ts.map bh) a (j+1) (bh t) 0 M:=⟨hM,hmt,fun p hp=>by rw[List.take_zero]at hp;cases hp⟩
   refine St.sr ?_;refine St.mv ?_;refine St.mv ?_;refine St.ee (Ev.aR (k:=(j+1)) (.mk rfl) (.mk rfl) eT iV (by omega) (by omega)) ?_;refine St.ee (Ev.eR (.mk rfl) (by omega) kU) ?_;refine St.ee (Ev.fL (.mk rfl) ht bE trivial rfl) ?_;refine St.ee (Ev.au (.mk rfl) bE) ?_;refine St.mv ?_;refine St.nn (St.block ?_);refine St.my (ι:=Nat) (κ:=List Bool) (fun q W T=>(33,iv q)::T) (fun q W=>[row (.slice (some ⟨MZ,0,none⟩) ts.length ts.length) 4 1 ts.length (rows eB (W)),aF (sl aK t.pv.1 t.parents),aF (sl du tv ts),aF (aX ek ts)]) (fun q W=>q≤t.parents.length∧yx (ts.map bh) a (j+1) (bh t) q W) (fun q W=>t.parents.length-q) 0 M (aE.cons 0 rfl (aE.cons 2 rfl (aE.cons 6 rfl (aE.cons 7 rfl (aE.cons 8 rfl (aE.cons 31 rfl (aE.cons 32 rfl aE.nil))))))) ⟨Nat.zero_le _,abK⟩ ?_;rintro q W ⟨hq,oH⟩
   have hWL:=oH.ok.len
   refine St.sr ?_;refine St.ee Ev.dz ?_;refine St.nn (St.seq ?_);refine St.cond _ rfl (fun Bc=> ?_) (fun Bc=> ?_)
   ·try simp only[aC]at Bc
    obtain⟨p,hp⟩:=aQ (show q<t.parents.length by omega)
    have hpe:(bh t).2[q]?=some p:=hp
    have Q0:=hT.par (j+1) (bh t) hte p (List.mem_of_getElem? hpe)
    refine St.skip (St.aA (St.seq (St.block (St.sr ?_))));refine St.ee (Ev.aR (k:=q) (.mk rfl) (.mk rfl) bE cr (by omega) (by omega)) ?_;refine St.ee (Ev.fL (.mk rfl) hp bP trivial rfl) ?_;refine St.ar ?_;refine St.nn (St.rg ?_);refine St.mv ?_;refine St.mv ?_;refine St.ee (Ev.cN (k:=p.toNat) (.mk rfl) (.mk rfl) fb q9 (by omega) (by omega)) ?_;refine St.dM (.mk rfl) (.mk rfl) q9 rfl (by omega) (by decide) ?_;refine St.bB (.slice (some ⟨MZ,0,none⟩) ts.length ts.length) rfl k9 ?_;refine St.nil (St.aO (St.aA (St.rg ?_)));refine St.ee Ev.a0 ?_;refine St.mv ?_;refine St.nn ?_;refine St.ji (q+1) (W.set p.toNat true) ⟨by omega,oH.step hT hte hpe⟩
   ·try simp only[aC]at Bc
    obtain rfl:q=t.parents.length:=by omega
    have hdn:=yx.done (t:=bh t) oH hte
    refine St.exit (St.aI (St.aI (St.bM (St.aO (St.aA (St.rg ?_))))));refine St.mv ?_;refine St.ee Ev.s0 ?_;refine St.ar ?_;refine St.nn ?_;refine St.ji j W ⟨hdn,by omega⟩
  ·skip
   have wA:M[j+1]?≠some true:=by rw[hbm];cases bm;exact(by decide);cases En
   have E8:=hM.skip wA
   refine St.skip (St.aO (St.aA (St.rg ?_)));refine St.mv ?_;refine St.ee Ev.s0 ?_;refine St.ar ?_;refine St.nn ?_;refine St.ji j M ⟨E8,by omega⟩
 ·try simp only[aC]at td
  have od:=(hM.mono (show i≤b by omega)).fin hT (show b<(ts.map bh).length by omega)
  refine St.exit (St.aI (St.aI (St.bM (St.aA (St.sr ?_)))));refine St.mv ?_;refine St.mv ?_;refine St.ee (Ev.cN (k:=b) (.mk rfl) (.mk rfl) fb q9 (by omega) (by omega)) ?_;refine St.ee (Ev.j2 (.mk rfl) uP trivial (by omega) (pW od)) ?_;refine St.ar ?_;refine St.nn (St.ab ?_);refine St.rU [_] [] Tryz.results79 ?_;rfl
theorem I7 (g:gx)(M:List Bool)(q:Nat):((List.range q).foldl (j4 g) M).length=M.length:=(kY.fold (fun M i=>kY.node g M i) _ M).1.symm
theorem I8 (i:Nat)(l:List (Int×Int))(M:List Bool):(l.foldl (iR i) M).length=M.length:=(kY.fold (fun M x=>kY.mark i M x) _ M).1.symm
theorem Bi (g:gx)(M:List Bool)(q:Nat):(List.range (q+1)).foldl (j4 g) M=j4 g ((List.range q).foldl (j4 g) M) q:=by rw[List.range_succ,List.foldl_append];rfl
theorem EP {i r:Nat}{l:List (Int×Int)}{x:Int×Int}(h:l[r]?=some x)(M:List Bool):(l.take (r+1)).foldl (iR i) M=iR i ((l.take r).foldl (iR i) M) x:=by rw[bJ h,List.foldl_append];rfl
theorem LF {i:Nat}{M:List Bool}(h:M[i]?=some true)(x:Int×Int):iR i M x=M.set x.2.toNat true:=by unfold iR;rw[List.getD_eq_getElem?_getD,h];rfl
theorem LG {i:Nat}{M:List Bool}(h:M[i]?=some false)(x:Int×Int):iR i M x=M:=by unfold iR;rw[List.getD_eq_getElem?_getD,h];rfl
set_option maxHeartbeats 2000000 in
theorem rj (g:eH)(hg:zE (dH g))(hn:g.nodes.length≤60):cz Tryz.prog 80 #[dJ g] [bU g] (iv (M7 (dH g))):=by
 refine cz.iL (args:=[dJ g]) 47 Tryz.func80 rfl Tryz.ntmps80 rfl (fun c=> ?_);refine St.seq ?_
 refine St.fI (bU g) (fun _:Unit=>l6 g) (fun ρ h=>⟨(),h⟩) fun _=> ?_
 refine St.cast (H':=[aF (sl ej g.nv.1 g.nodes),aF (aX dS g.nodes),aF (bU g)]) rfl ?_
 have CC:=ke g
 have mY:0<g.nodes.length:=by have:=hg.1;omega
 refine St.rg ?_;refine St.cX (.mk rfl) rfl (fun b1=> ?_);refine St.ar ?_;refine St.nn (St.sr ?_);refine St.ee (Ev.aD (.mk rfl) eX) ?_;refine St.ee (Ev.l0 (.mk rfl) eM) ?_;refine St.ee (Ev.au (.mk rfl) eM) ?_;refine St.gL (m:=g.nodes.length) (.mk rfl) (.mk rfl) fb q9 Vq Vr rfl rfl (by omega) rfl rfl (fun kX=> ?_);refine St.bB (.slice (some ⟨kX,0,none⟩) g.nodes.length g.nodes.length) rfl (pX _) ?_;refine St.ar ?_;refine St.nn (St.sr ?_);refine St.mv ?_;refine St.ee (Ev.cN (k:=0) (.mk rfl) (.mk rfl) fb q9 (by omega) (by omega)) ?_;refine St.dM (.mk rfl) (.mk rfl) q9 rfl (by omega) (by decide) ?_;refine St.bB (.slice (some ⟨kX,0,none⟩) g.nodes.length g.nodes.length) rfl (show _=rows eB (cM (dH g) 0) by rw[k9];unfold cM;rw[CC]) ?_;refine St.nn (St.seq (St.sr ?_));refine St.ee (Ev.aD (.mk rfl) eX) ?_;refine St.ee (Ev.l0 (.mk rfl) eM) ?_;refine St.ee (Ev.au (.mk rfl) eM) ?_;refine St.mv ?_;refine St.nn (St.block ?_);refine St.lH (ι:=Nat) (fun k T=>(17,iv k)::T) (fun k=>[row (.slice (some ⟨kX,0,none⟩) g.nodes.length g.nodes.length) 4 1 g.nodes.length (rows eB (cM (dH g) k)),ae b1 (.cells [g.nv.1].toArray 30 (0,0)),aF (sl ej g.nv.1 g.nodes),aF (aX dS g.nodes)]) (fun k=>k≤g.nodes.length) (fun k=>g.nodes.length-k) 0 (aE.cons 1 rfl (aE.cons 2 rfl (aE.cons 3 rfl (aE.cons 16 rfl aE.nil)))) (Nat.zero_le _) ?_;intro k dK
 have hPL:=il (dH g) k
 refine St.sr ?_;refine St.ee Ev.dz ?_;refine St.nn (St.seq ?_);refine St.cond _ rfl (fun fM=> ?_) (fun fM=> ?_)
 ·try simp only[aC]at fM
  refine St.skip (St.aA (St.seq (St.block (St.sr ?_))));refine St.ee (Ev.aD (.mk rfl) eX) ?_;refine St.ee (Ev.l0 (.mk rfl) eM) ?_;refine St.ee (Ev.au (.mk rfl) eM) ?_;refine St.mv ?_;refine St.nn (St.block ?_);refine St.bB (.slice (some ⟨kX,0,none⟩) g.nodes.length g.nodes.length) rfl (show _=rows eB ((List.range 0).foldl (j4 (dH g)) (cM (dH g) k))from rfl) ?_;refine St.lH (ι:=Nat) (fun q T=>(22,iv q)::T) (fun q=>[row (.slice (some ⟨kX,0,none⟩) g.nodes.length g.nodes.length) 4 1 g.nodes.length (rows eB ((List.range q).foldl (j4 (dH g)) (cM (dH g) k))),ae b1 (.cells [g.nv.1].toArray 30 (0,0)),aF (sl ej g.nv.1 g.nodes),aF (aX dS g.nodes)]) (fun q=>q≤g.nodes.length) (fun q=>g.nodes.length-q) 0 (aE.cons 1 rfl (aE.cons 2 rfl (aE.cons 3 rfl (aE.cons 16 rfl (aE.cons 17 rfl (aE.cons 20 rfl (aE.cons 21 rfl aE.nil))))))) (Nat.zero_le _) ?_;intro q dK
  have hQL:=I7 (dH g) (cM (dH g) k) q
  refine St.sr ?_;refine St.ee Ev.dz ?_;refine St.nn (St.seq ?_);refine St.cond _ rfl (fun xz=> ?_) (fun xz=> ?_)
  ·try simp only[aC]at xz
   obtain⟨t,ht⟩:=aQ (show q<g.nodes.length by omega)
   have lg:=List.mem_of_getElem? ht
   have zI:(dH g).getD q sg=kN t:=by rw[List.getD_eq_getElem?_getD,iD ht];rfl
   have abL:(kN t).2.length=t.aY.length:=List.length_map ..
   refine St.cC dS g.nodes (x:=t) lg ?_;refine St.fo (sl eu t.lv.1 t.aY) [dS t] (fun ρ h=>h _ (List.mem_cons_self ..)) ?_;refine St.skip (St.aA (St.seq (St.block (St.sr ?_))));refine St.mv ?_;refine St.ee (Ev.aR (k:=q) (.mk rfl) (.mk rfl) eM fS (by omega) (by omega)) ?_;refine St.ee (Ev.fg (.mk rfl) ht vN trivial fS en.eq) ?_;refine St.alloc sx rfl (fun b5=> ?_);refine St.ar ?_;refine St.sA (.mk rfl) (.mk rfl) fS ?_ (h1:=(by simp only[List.all_cons,List.all_nil,Bool.and_true,Bool.and_eq_true];exact⟨rfl,t.lv.2⟩));refine St.nn (St.sr ?_);refine St.ee (Ev.aD (.mk rfl) gG) ?_;refine St.ee (Ev.l0 (.mk rfl) e6) ?_;refine St.ee (Ev.au (.mk rfl) e6) ?_;refine St.mv ?_;refine St.nn (St.block ?_);refine St.bB (.slice (some ⟨kX,0,none⟩) g.nodes.length g.nodes.length) rfl (show _=rows eB (((kN t).2.take 0).foldl (iR q) ((List.range q).foldl (j4 (dH g)) (cM (dH g) k)))from rfl) ?_;refine St.wf t.lv.1 (fun KB qc=> ?_);refine St.lH (ι:=Nat) (fun r T=>(30,iv r)::T) (fun r=>[row (.slice (some ⟨kX,0,none⟩) g.nodes.length g.nodes.length) 4 1 g.nodes.length (rows eB (((kN t).2.take r).foldl (iR q) ((List.range q).foldl (j4 (dH g)) (cM (dH g) k)))),aF (sl eu t.lv.1 t.aY),ae b1 (.cells [g.nv.1].toArray 30 (0,0)),aF (sl ej g.nv.1 g.nodes),aF (aX dS g.nodes)]) (fun r=>r≤t.aY.length) (fun r=>t.aY.length-r) 0 (aE.cons 1 rfl (aE.cons 2 rfl (aE.cons 3 rfl (aE.cons 4 rfl (aE.cons 16 rfl (aE.cons 17 rfl (aE.cons 20 rfl (aE.cons 21 rfl (aE.cons 22 rfl (aE.cons 28 rfl (aE.cons 29 rfl aE.nil))))))))))) (Nat.zero_le _) ?_;intro r dK
   have hRL:=I8 q ((kN t).2.take r) ((List.range q).foldl (j4 (dH g)) (cM (dH g) k))
   refine St.sr ?_;refine St.ee Ev.dz ?_;refine St.nn (St.seq ?_);refine St.cond _ rfl (fun kE=> ?_) (fun kE=> ?_)
   ·try simp only[aC]at kE
    obtain⟨p,hp⟩:=aQ (show r<t.aY.length by omega)
    have xV:(kN t).2[r]?=some (gI p):=by show(t.aY.map gI)[r]?=_;rw[List.getElem?_map,hp];rfl
    obtain⟨_,Iy,Rs⟩:=hg.at_ (i:=q) (by rw[zI];exact List.mem_of_getElem? xV)
    replace Iy:0≤p.to:=Iy
    replace Rs:p.to.toNat<(dH g).length:=Rs
    obtain⟨b,hb⟩:=aQ (show q<(((kN t).2.take r).foldl (iR q) ((List.range q).foldl (j4 (dH g)) (cM (dH g) k))).length by omega)
    have Mi:=EP (i:=q) xV ((List.range q).foldl (j4 (dH g)) (cM (dH g) k))
    refine St.skip (St.aA (St.seq (St.block (St.sr ?_))));refine St.ee (Ev.aR (k:=r) (.mk rfl) (.mk rfl) e6 eV (by omega) (by omega)) ?_;refine St.ee (Ev.fg (.mk rfl) hp pK trivial eV en.eq) ?_;refine St.alloc r7 rfl (fun b7=> ?_);refine St.sA (.mk rfl) (.mk rfl) eV ?_ (h1:=(by simp only[List.all_cons,List.all_nil,Bool.and_true,Bool.and_eq_true];exact⟨rfl,rfl⟩));refine St.nn (St.sr ?_);refine St.mv ?_;refine St.mv ?_;refine St.ee (Ev.cN (k:=q) (.mk rfl) (.mk rfl) fb q9 (by omega) (by omega)) ?_;refine St.ee (Ev.j2 (.mk rfl) uP trivial (by omega) (pW hb)) ?_;refine St.nn ?_;refine St.cond _ rfl (fun yr=> ?_) (fun yr=> ?_)
    ·skip
     have OM:(((kN t).2.take r).foldl (iR q) ((List.range q).foldl (j4 (dH g)) (cM (dH g) k)))[q]?=some true:=by rw[hb];cases b;cases yr;rfl
     rw[LF OM]at Mi;refine St.rg ?_;refine St.mv ?_;refine St.ee (Ev.aD (.mk rfl) ga) ?_;refine St.ee (Ev.l0 (.mk rfl) bP) ?_;refine St.ee (Ev.cN (k:=p.to.toNat) (.mk rfl) (.mk rfl) fb q9 (by omega) (by omega)) ?_;refine St.dM (.mk rfl) (.mk rfl) q9 rfl (by omega) (by decide) ?_;refine St.bB (.slice (some ⟨kX,0,none⟩) g.nodes.length g.nodes.length) rfl (k9.trans (congrArg (rows eB) Mi.symm)) ?_;refine St.nil (St.aO (St.aA (St.rg ?_)));refine St.ee Ev.a0 ?_;refine St.mv ?_;refine St.nn ?_;refine St.aH (r+1) (by omega)
    ·skip
     have OL:(((kN t).2.take r).foldl (iR q) ((List.range q).foldl (j4 (dH g)) (cM (dH g) k)))[q]?=some false:=by rw[hb];cases b;rfl;cases yr
     rw[LG OL]at Mi;refine St.skip (St.aO (St.aA (St.rg ?_)));refine St.ee Ev.a0 ?_;refine St.mv ?_;refine St.nn ?_;refine St.bB (.slice (some ⟨kX,0,none⟩) g.nodes.length g.nodes.length) rfl (congrArg (rows eB) Mi.symm) ?_;refine St.aH (r+1) (by omega)
   ·try simp only[aC]at kE
    refine St.exit (St.aI (St.aI (St.bM (St.aO (St.aA (St.rg ?_))))));refine St.ee Ev.a0 ?_;refine St.mv ?_;refine St.nn ?_;refine St.bB (.slice (some ⟨kX,0,none⟩) g.nodes.length g.nodes.length) rfl (show _=rows eB ((List.range (q+1)).foldl (j4 (dH g)) (cM (dH g) k)) by rw[Bi,j4,zI,List.take_of_length_le (by rw[abL];omega)]) ?_;refine St.aH (q+1) (by omega)
  ·try simp only[aC]at xz
   refine St.exit (St.aI (St.aI (St.bM (St.aO (St.aA (St.rg ?_))))));refine St.ee Ev.a0 ?_;refine St.mv ?_;refine St.nn ?_;refine St.bB (.slice (some ⟨kX,0,none⟩) g.nodes.length g.nodes.length) rfl (show _=rows eB (cM (dH g) (k+1)) by rw[cM,pass,CC,show g.nodes.length=q by omega]) ?_;refine St.aH (k+1) (by omega)
 ·try simp only[aC]at fM
  obtain rfl:k=g.nodes.length:=by omega
  refine St.aU (.slice (some ⟨kX,0,none⟩) g.nodes.length g.nodes.length) eB (cM (dH g) g.nodes.length) rfl (by omega) (fun _ _=>trivial) ?_;refine St.exit (St.aI (St.aI (St.bM (St.aA (St.sr ?_)))));refine St.mv ?_;refine St.ee (Ev.call (tQ (.slice (some ⟨kX,0,none⟩) g.nodes.length g.nodes.length) (cM (dH g) g.nodes.length)) MM (.cons (.mk rfl) (.cons (.mk rfl) .nil))) ?_;refine St.ar ?_;refine St.nn (St.ab ?_);refine St.rU [_] [] Tryz.results80 ?_;exact congrArg iv (by unfold M7;rw[CC])
def PN (l:List (Int×Int))(k:Int):Int:=match l.find? fun x=>x.1==k with
 |some x=>x.2
 |none=> -1
theorem I9 {l:List (Int×Int)}{q:Nat}{x:Int×Int}(h:l[q]?=some x)(k:Int):PN (l.drop q) k=if x.1=k then x.2 else PN (l.drop (q+1)) k:=by
 rw[bf h];unfold PN
 by_cases e:x.1=k
 ·rw[if_pos e,List.find?_cons_of_pos (by simpa using e)]
 ·rw[if_neg e,List.find?_cons_of_neg (by simpa using e)]
theorem LH {l:List (Int×Int)}{q:Nat}(h:l.length≤q)(k:Int):PN (l.drop q) k= -1:=by rw[List.drop_of_length_le h];rfl
set_option maxHeartbeats 1000000 in
theorem y0 (g:eH)(k:Int)(mY:0<g.nodes.length):cz Tryz.prog 75 #[dJ g,iv 0,iv k] [bU g] (iv (AG (dH g) k)):=by
 refine cz.iL (args:=[dJ g,iv 0,iv k]) 27 Tryz.func75 rfl Tryz.ntmps75 rfl (fun c=> ?_);refine St.seq ?_
 refine St.fI (bU g) (fun _:Unit=>l6 g) (fun ρ h=>⟨(),h⟩) fun _=> ?_
 refine St.cast (H':=[aF (sl ej g.nv.1 g.nodes),aF (aX dS g.nodes),aF (bU g)]) rfl ?_;obtain⟨t,ht⟩:=aQ mY
 have lg:=List.mem_of_getElem? ht
 have zI:(dH g).getD 0 sg=kN t:=by rw[List.getD_eq_getElem?_getD,iD ht];rfl
 have Yn:AG (dH g) k=PN ((t.aY.map gI).drop 0) k:=by unfold AG PN;rw[zI];rfl
 refine St.cC dS g.nodes (x:=t) lg ?_;refine St.fo (sl eu t.lv.1 t.aY) [dS t] (fun ρ h=>h _ (List.mem_cons_self ..)) ?_;refine St.wf t.lv.1 (fun KB qc=> ?_);refine St.rg ?_;refine St.cX (.mk rfl) rfl (fun b3=> ?_);refine St.ar ?_;refine St.nn (St.seq (St.sr ?_));refine St.ee (Ev.aD (.mk rfl) eX) ?_;refine St.ee (Ev.l0 (.mk rfl) eM) ?_;refine St.mv ?_;refine St.ee (Ev.aR (k:=0) (.mk rfl) (.mk rfl) eM fS (by omega) (by omega)) ?_;refine St.ee (Ev.eR (.mk rfl) (by omega) gG) ?_;refine St.ee (Ev.fL (.mk rfl) ht e6 trivial rfl) ?_;refine St.ee (Ev.au (.mk rfl) e6) ?_;refine St.mv ?_;refine St.nn (St.block ?_);refine St.lS (ι:=Nat) (fun q T=>(16,iv q)::T) (fun q=>q≤t.aY.length∧AG (dH g) k=PN ((t.aY.map gI).drop q) k) (fun q=>t.aY.length-q) 0 (aE.cons 2 rfl (aE.cons 14 rfl (aE.cons 15 rfl aE.nil))) ⟨Nat.zero_le _,Yn⟩ ?_;intro q dK;obtain⟨hq,hv⟩:=dK;refine St.sr ?_;refine St.ee Ev.dz ?_;refine St.nn (St.seq ?_);refine St.cond _ rfl (fun mW=> ?_) (fun mW=> ?_)
 ·try simp only[aC]at mW
  obtain⟨p,hp⟩:=aQ (show q<t.aY.length by omega)
  have cQ:=I9 (l:=t.aY.map gI) (q:=q) (x:=gI p) (by rw[List.getElem?_map,hp];rfl) k
  rw[←hv]at cQ;refine St.skip (St.aA (St.seq (St.block (St.sr ?_))));refine St.ee (Ev.aR (k:=q) (.mk rfl) (.mk rfl) e6 eV (by omega) (by omega)) ?_;refine St.ee (Ev.fg (.mk rfl) hp pK trivial eV en.eq) ?_;refine St.alloc r7 rfl (fun b8=> ?_);refine St.sA (.mk rfl) (.mk rfl) eV ?_ (h1:=(by simp only[List.all_cons,List.all_nil,Bool.and_true,Bool.and_eq_true];exact⟨rfl,rfl⟩));refine St.nn (St.sr ?_);refine St.ee (Ev.aD (.mk rfl) gZ) ?_;refine St.ee (Ev.l0 (.mk rfl) bP) ?_;refine St.mv ?_;refine St.ee Ev.fa ?_;refine St.nn ?_;refine St.cond _ rfl (fun xz=> ?_) (fun xz=> ?_)
  ·try simp only[aC]at xz
   rw[if_pos (show(gI p).1=k from xz)]at cQ;refine St.sr ?_;refine St.ee (Ev.aD (.mk rfl) ga) ?_;refine St.ee (Ev.l0 (.mk rfl) bP) ?_;refine St.ar ?_;refine St.nn (St.ab (St.aN (St.aB (St.aB (St.aN (St.aB ?_))))));refine St.rU [_] [] Tryz.results75 ?_;exact congrArg iv cQ.symm
  ·try simp only[aC]at xz
   rw[if_neg (show ¬(gI p).1=k from xz)]at cQ;refine St.skip (St.aO (St.aA (St.rg ?_)));refine St.ee Ev.a0 ?_;refine St.mv ?_;refine St.nn ?_;refine St.aS (q+1) ⟨by omega,cQ⟩
 ·try simp only[aC]at mW
  rw[LH (by rw[List.length_map];omega)]at hv;refine St.exit (St.aI (St.aI (St.bM (St.aA (St.sr ?_)))));refine St.ar ?_;refine St.nn (St.ab ?_);refine St.rU [_] [] Tryz.results75 ?_;exact congrArg iv hv.symm
def VS:fO:=⟨0,0⟩
def rQ (l:List fO)(q:Nat):Int:=if q=0 then-1 else(l.getD (q-1) VS).dh
theorem Bj {l:List fO}{q:Nat}{p:fO}(h:l[q]?=some p):rQ l (q+1)=p.dh:=by unfold rQ;rw[if_neg (by omega),Nat.add_sub_cancel,List.getD_eq_getElem?_getD,h];rfl
set_option maxHeartbeats 2000000 in
theorem zo (tv xv:cm)(ts:List ja)(fs:List eC)(g:eH):cz Tryz.prog 78 #[.agg #[tv.1,xv.1],dJ g] [sl du tv.1 ts,sl bx xv.1 fs,bU g] (fv (da ts.length fs.length (dH g))):=by
 refine cz.Ez (args:=[.agg #[tv.1,xv.1],dJ g]) 94 Tryz.func78 rfl Tryz.ntmps78 rfl (fun c=> ?_);refine St.seq ?_
 refine St.fI (bU g) (fun _:Unit=>l6 g) (fun ρ h=>⟨(),h⟩) fun _=> ?_
 refine St.cast (H':=[aF (sl ej g.nv.1 g.nodes),aF (aX dS g.nodes),aF (sl du tv.1 ts),aF (sl bx xv.1 fs),aF (bU g)]) rfl ?_;refine St.wf tv.1 (fun pR Da=> ?_);refine St.wf xv.1 (fun Rm Xw=> ?_);refine St.wf g.nv.1 (fun Rq yu=> ?_)
 have CC:=ke g
 refine St.rg ?_;refine St.cX (.mk rfl) rfl (fun b2=> ?_);refine St.cX (.mk rfl) rfl (fun b3=> ?_);refine St.alloc dC rfl (fun b4=> ?_);refine St.nn (St.seq (St.sr ?_));refine St.ee (Ev.aD (.mk rfl) eX) ?_;refine St.ee (Ev.l0 (.mk rfl) eM) ?_;refine St.ee (Ev.au (.mk rfl) eM) ?_;refine St.ee Ev.fa ?_;refine St.mv ?_;refine St.gf _ rfl rfl (fun hg=>Ev.aD (.mk rfl) eX) rfl ?_;refine St.gf _ rfl rfl (fun hg=>Ev.cS (aL.gv rfl hg) eM trivial (by rfl)) rfl ?_;refine St.gf _ rfl rfl (fun hg=>Ev.au (aL.gv rfl hg) eM) rfl ?_;refine St.gf _ rfl rfl (fun hg=>Ev.gtr (aL.gv rfl hg) (.mk rfl)) rfl ?_;refine St.ee Ev.o0 ?_;refine St.nn ?_;refine St.cond _ rfl (fun fM=> ?_) (fun fM=> ?_)
 ·try simp only[aC]at fM
  have hf:da ts.length fs.length (dH g)=(2,-2):=by unfold da;rw[if_pos (by omega)]
  refine St.sr ?_;refine St.ee (Ev.build (ps:=[(0,(.const (.int .i64 2))),(1,(.const (.int .i64 (-2))))]) (aV.cons (aL.mk rfl) (aV.cons (aL.mk rfl) aV.nil)) (fun w=>bO rfl rfl w)) ?_;refine St.sA (.mk rfl) (.mk rfl) bC ?_;refine St.nn (St.ab (St.aB ?_));refine St.rU [_] [] Tryz.results78 ?_;exact congrArg fv hf.symm
 ·try simp only[aC]at fM
  have hf:da ts.length fs.length (dH g)=dn ts.length fs.length g.nodes.length 0 (dH g):=by unfold da;rw[if_neg (by omega),CC]
  refine St.skip (St.aA (St.seq (St.sr ?_)));refine St.ee (Ev.aD (.mk rfl) eX) ?_;refine St.ee (Ev.l0 (.mk rfl) eM) ?_;refine St.ee (Ev.au (.mk rfl) eM) ?_;refine St.mv ?_;refine St.nn (St.block ?_);refine St.lS (ι:=Nat) (fun k T=>(23,iv k)::T) (fun k=>k≤g.nodes.length∧da ts.length fs.length (dH g)=dn ts.length fs.length g.nodes.length k ((dH g).drop k)) (fun k=>g.nodes.length-k) 0 (aE.cons 2 rfl (aE.cons 3 rfl (aE.cons 4 rfl (aE.cons 21 rfl (aE.cons 22 rfl aE.nil))))) ⟨Nat.zero_le _,hf⟩ ?_;intro k dK;obtain⟨hk,hv⟩:=dK;refine St.sr ?_;refine St.ee Ev.dz ?_;refine St.nn (St.seq ?_);refine St.cond _ rfl (fun ob=> ?_) (fun ob=> ?_)
  ·try simp only[aC]at ob
   obtain⟨t,ht⟩:=aQ (show k<g.nodes.length by omega)
   have lg:=List.mem_of_getElem? ht
   refine St.cC dS g.nodes (x:=t) lg ?_;refine St.fo (sl eu t.lv.1 t.aY) [dS t] (fun ρ h=>h _ (List.mem_cons_self ..)) ?_;refine St.wf t.lv.1 (fun KB qc=> ?_)
   have cQ:=tP (nt:=ts.length) (nf:=fs.length) (nn:=g.nodes.length) (iD ht)
   rw[←hv]at cQ;refine St.skip (St.aA (St.seq (St.block (St.sr ?_))));refine St.mv ?_;refine St.ee (Ev.aR (k:=k) (.mk rfl) (.mk rfl) eM fS (by omega) (by omega)) ?_;refine St.ee (Ev.fg (.mk rfl) ht vN trivial fS en.eq) ?_;refine St.alloc sx rfl (fun b6=> ?_);refine St.ar ?_;refine St.sA (.mk rfl) (.mk rfl) fS ?_ (h1:=(by simp only[List.all_cons,List.all_nil,Bool.and_true,Bool.and_eq_true];exact⟨rfl,t.lv.2⟩));refine St.nn (St.seq (St.sr ?_));refine St.ee (Ev.aD (.mk rfl) kV) ?_;refine St.ee (Ev.l0 (.mk rfl) bP) ?_;refine St.ee Ev.dz ?_;refine St.mv ?_;refine St.gf _ rfl rfl (fun hg=>Ev.aD (.mk rfl) kV) rfl ?_;refine St.gf _ rfl rfl (fun hg=>Ev.cS (aL.gv rfl hg) bP trivial (by rfl)) rfl ?_;refine St.gf _ rfl rfl (fun hg=>Ev.aD (.mk rfl) fX) rfl ?_;refine St.gf _ rfl rfl (fun hg=>Ev.cS (aL.gv rfl hg) eT trivial (by rfl)) rfl ?_;refine St.gf _ rfl rfl (fun hg=>Ev.au (aL.gv rfl hg) eT) rfl ?_;refine St.gf _ rfl rfl (fun hg=>Ev.geq (aL.gv rfl hg) (aL.gv rfl hg)) rfl ?_;refine St.ee Ev.o0 ?_;refine St.nn ?_;refine St.cond _ rfl (fun s9=> ?_) (fun s9=> ?_)
   ·try simp only[aC]at s9
    rw[if_pos (show(kN t).1<0∨(ts.length:Int)≤(kN t).1 from(by omega:t.type<0∨(ts.length:Int)≤t.type))]at cQ;refine St.sr ?_;refine St.mv ?_;refine St.ee (Ev.build (ps:=[(0,(.const (.int .i64 3))),(1,(.tmp 39))]) (aV.cons (aL.mk rfl) (aV.cons (aL.mk rfl) aV.nil)) (fun w=>bO rfl rfl w)) ?_;refine St.sA (.mk rfl) (.mk rfl) bC ?_;refine St.nn (St.ab (St.aB (St.aN (St.aB (St.aB (St.aN (St.aB ?_)))))));refine St.rU [_] [] Tryz.results78 ?_;exact congrArg fv cQ.symm
   ·try simp only[aC]at s9
    rw[if_neg (show ¬((kN t).1<0∨(ts.length:Int)≤(kN t).1)from(by omega:¬(t.type<0∨(ts.length:Int)≤t.type)))]at cQ;refine St.skip (St.aA (St.sr ?_));refine St.ee (Ev.aD (.mk rfl) gG) ?_;refine St.ee (Ev.l0 (.mk rfl) e6) ?_;refine St.ee (Ev.au (.mk rfl) e6) ?_;refine St.mv ?_;refine St.nn (St.block ?_);refine St.lH (ι:=Nat) (fun q T=>(44,iv q)::T) (fun q=>[ae b6 (.cells [iv t.type,t.lv.1].toArray 143 (0,0)),aF (sl eu t.lv.1 t.aY),ae b4 (.cells [iv 0,iv 0].toArray 42 (0,0)),ae b2 (.cells [tv.1,xv.1].toArray 25 (0,0)),ae b3 (.cells [g.nv.1].toArray 30 (0,0)),aF (sl ej g.nv.1 g.nodes),aF (aX dS g.nodes),aF (sl du tv.1 ts),aF (sl bx xv.1 fs),aF (bU g)]) (fun q=>q≤t.aY.length∧vJ fs.length g.nodes.length k (-1) (kN t).2=vJ fs.length g.nodes.length k (rQ t.aY q) ((t.aY.map gI).drop q)) (fun q=>t.aY.length-q) 0 (aE.cons 2 rfl (aE.cons 3 rfl (aE.cons 4 rfl (aE.cons 5 rfl (aE.cons 6 rfl (aE.cons 21 rfl (aE.cons 22 rfl (aE.cons 23 rfl (aE.cons 42 rfl (aE.cons 43 rfl aE.nil)))))))))) ⟨Nat.zero_le _,rfl⟩ ?_;intro q dK;obtain⟨hq,tH⟩:=dK;refine St.sr ?_;refine St.ee Ev.dz ?_;refine St.nn (St.seq ?_);refine St.cond _ rfl (fun vW=> ?_) (fun vW=> ?_)
    ·try simp only[aC]at vW
     obtain⟨p,hp⟩:=aQ (show q<t.aY.length by omega)
     have oc:=zF (nf:=fs.length) (nn:=g.nodes.length) (i:=k) (z:=rQ t.aY q) (l:=t.aY.map gI) (q:=q) (x:=gI p) (by rw[List.getElem?_map,hp];rfl)
     refine St.skip (St.aA (St.seq (St.block (St.sr ?_))));refine St.mv ?_;refine St.ee (Ev.aR (k:=q) (.mk rfl) (.mk rfl) e6 eV (by omega) (by omega)) ?_;refine St.ee (Ev.fg (.mk rfl) hp pK trivial eV en.eq) ?_;refine St.alloc r7 rfl (fun b8=> ?_);refine St.ar ?_;refine St.sA (.mk rfl) (.mk rfl) eV ?_ (h1:=(by simp only[List.all_cons,List.all_nil,Bool.and_true,Bool.and_eq_true];exact⟨rfl,rfl⟩));refine St.nn (St.seq (St.sr ?_));refine St.ee (Ev.aD (.mk rfl) gZ) ?_;refine St.ee (Ev.l0 (.mk rfl) bP) ?_;refine St.ee Ev.dz ?_;refine St.mv ?_;refine St.gf _ rfl rfl (fun hg=>Ev.aD (.mk rfl) gZ) rfl ?_;refine St.gf _ rfl rfl (fun hg=>Ev.cS (aL.gv rfl hg) bP trivial (by rfl)) rfl ?_;refine St.gf _ rfl rfl (fun hg=>Ev.aD (.mk rfl) jK) rfl ?_;refine St.gf _ rfl rfl (fun hg=>Ev.cS (aL.gv rfl hg) ib trivial (by rfl)) rfl ?_;refine St.gf _ rfl rfl (fun hg=>Ev.au (aL.gv rfl hg) ib) rfl ?_;refine St.gf _ rfl rfl (fun hg=>Ev.geq (aL.gv rfl hg) (aL.gv rfl hg)) rfl ?_;refine St.ee Ev.o0 ?_;refine St.mv ?_;refine St.gf _ rfl rfl (fun hg=>Ev.aD (.mk rfl) ga) rfl ?_;refine St.gf _ rfl rfl (fun hg=>Ev.cS (aL.gv rfl hg) bP trivial (by rfl)) rfl ?_;refine St.gf _ rfl rfl (fun hg=>Ev.lss (aL.gv rfl hg) (.mk rfl)) rfl ?_;refine St.ee Ev.o0 ?_;refine St.mv ?_;refine St.gf _ rfl rfl (fun hg=>Ev.aD (.mk rfl) ga) rfl ?_;refine St.gf _ rfl rfl (fun hg=>Ev.cS (aL.gv rfl hg) bP trivial (by rfl)) rfl ?_;refine St.gf _ rfl rfl (fun hg=>Ev.aD (.mk rfl) eX) rfl ?_;refine St.gf _ rfl rfl (fun hg=>Ev.cS (aL.gv rfl hg) eM trivial (by rfl)) rfl ?_;refine St.gf _ rfl rfl (fun hg=>Ev.au (aL.gv rfl hg) eM) rfl ?_;refine St.gf _ rfl rfl (fun hg=>Ev.geq (aL.gv rfl hg) (aL.gv rfl hg)) rfl ?_;refine St.ee Ev.o0 ?_;refine St.nn ?_;refine St.cond _ rfl (fun OK=> ?_) (fun OK=> ?_)
     ·try simp only[aC]at OK
      rw[if_pos (show(gI p).1<0∨(fs.length:Int)≤(gI p).1∨(gI p).2<0∨(g.nodes.length:Int)≤(gI p).2 from(by omega:p.dh<0∨(fs.length:Int)≤p.dh∨p.to<0∨(g.nodes.length:Int)≤p.to))]at oc;rw[tH,oc,if_pos (by show(3:Int)≠0;decide)]at cQ;refine St.sr ?_;refine St.mv ?_;refine St.ee (Ev.build (ps:=[(0,(.const (.int .i64 3))),(1,(.tmp 73))]) (aV.cons (aL.mk rfl) (aV.cons (aL.mk rfl) aV.nil)) (fun w=>bO rfl rfl w)) ?_;refine St.sA (.mk rfl) (.mk rfl) bC ?_;refine St.nn (St.ab (St.aB (St.aN (St.aB (St.aB (St.aN (St.aN (St.aB (St.aB (St.aN (St.aB ?_)))))))))));refine St.rU [_] [] Tryz.results78 ?_;exact congrArg fv cQ.symm
     ·try simp only[aC]at OK
      rw[if_neg (show ¬((gI p).1<0∨(fs.length:Int)≤(gI p).1∨(gI p).2<0∨(g.nodes.length:Int)≤(gI p).2)from(by omega:¬(p.dh<0∨(fs.length:Int)≤p.dh∨p.to<0∨(g.nodes.length:Int)≤p.to)))]at oc;refine St.skip (St.aA (St.seq ?_));refine St.rq mixed (by kernel_rfl) (Mm.drawn _ _) ?_;refine Sq.ee (Ev.move (.mk rfl)) ?_;refine Sq.ee Ev.s5 ?_;refine Sq.ee (Ev.move (.mk rfl)) ?_;refine Sq.gt _ rfl rfl (fun hg=>Ev.aD (.mk rfl) gZ) rfl ?_;refine Sq.gt _ rfl rfl (fun hg=>Ev.cS (aL.gv rfl hg) bP trivial (by rfl)) rfl ?_;refine Sq.gt _ rfl rfl (fun hg=>Ev.aD (.mk rfl) gG) rfl ?_;refine Sq.gt _ rfl rfl (fun hg=>Ev.cS (aL.gv rfl hg) e6 trivial (by rfl)) rfl ?_;refine Sq.gt _ rfl rfl (fun hg=>Ev.move (.mk rfl)) rfl ?_;refine Sq.gt _ rfl rfl (fun hg=>Ev.sub (aL.gv rfl hg) (.mk rfl) (by first|omega|(simp only[aC]at hg;omega))) rfl ?_;refine Sq.gt _ rfl rfl (fun hg=>Ev.aR (k:=(q-1)) (aL.gv rfl hg) (aL.gv rfl hg) e6 eV (by first|omega|(simp only[aC]at hg;omega)) (by first|omega|(simp only[aC]at hg;omega))) rfl ?_;refine Sq.gt _ rfl rfl (fun hg=>Ev.eR (aL.gv rfl hg) (by first|omega|(simp only[aC]at hg;omega)) gZ) rfl ?_;refine Sq.gt _ rfl rfl (fun hg=>Ev.fL (aL.gv rfl hg) (jg VS (by first|omega|(simp only[aC]at hg;omega))) bP trivial rfl) rfl ?_;refine Sq.gt _ rfl rfl (fun hg=>Ev.leq (aL.gv rfl hg) (aL.gv rfl hg)) rfl ?_;refine Sq.ee Ev.n0 ?_;refine Sq.nil ?_;refine St.aA ?_;refine St.cond _ rfl (fun BF=> ?_) (fun BF=> ?_)
      ·try simp only[aC]at BF
       rw[if_pos (show(gI p).1≤rQ t.aY q from(by unfold rQ;rw[if_neg (by omega)];exact BF.2))]at oc;rw[tH,oc,if_pos (by show(13:Int)≠0;decide)]at cQ;refine St.sr ?_;refine St.mv ?_;refine St.ee (Ev.build (ps:=[(0,(.const (.int .i64 13))),(1,(.tmp 89))]) (aV.cons (aL.mk rfl) (aV.cons (aL.mk rfl) aV.nil)) (fun w=>bO rfl rfl w)) ?_;refine St.sA (.mk rfl) (.mk rfl) bC ?_;refine St.nn (St.ab (St.aN (St.aB (St.aB (St.aN (St.aN (St.aB (St.aB (St.aN (St.aB ?_))))))))));refine St.rU [_] [] Tryz.results78 ?_;exact congrArg fv cQ.symm
      ·try simp only[aC]at BF
       rw[if_neg (show ¬(gI p).1≤rQ t.aY q from(by show ¬p.dh≤_;unfold rQ;split;omega;rcases BF with h|h;omega;omega))]at oc;refine St.skip (St.aO (St.aA (St.rg ?_)));refine St.ee Ev.a0 ?_;refine St.mv ?_;refine St.nn ?_;refine St.aH (q+1) ⟨by omega,by rw[tH,oc,Bj hp];rfl⟩
    ·try simp only[aC]at vW
     rw[Cb (by rw[List.length_map];omega)]at tH;rw[if_neg (by rw[tH];decide)]at cQ;refine St.exit (St.aI (St.aI (St.bM (St.aO (St.aA (St.rg ?_))))));refine St.ee Ev.a0 ?_;refine St.mv ?_;refine St.nn ?_;refine St.aS (k+1) ⟨by omega,by rw[cQ]⟩
  ·try simp only[aC]at ob
   rw[vc (by omega)]at hv;refine St.exit (St.aI (St.aI (St.bM (St.aA (St.sr ?_)))));refine St.ee (Ev.build (ps:=[]) (aV.nil) (fun w=>fB w)) ?_;refine St.sA (.mk rfl) (.mk rfl) bC ?_;refine St.nn (St.ab ?_);refine St.rU [_] [] Tryz.results78 ?_;exact congrArg fv hv.symm
theorem u6 (tv:Value)(ts:List ja)(hT:gz (ts.map bh))(i j:Int)(hi:0≤i∧i.toNat<ts.length)(hj:0≤j∧j.toNat<ts.length):cz Tryz.prog 79 #[tv,iv i,iv j] [sl du tv ts,aX ek ts] (.bool (dx (ts.map bh) i.toNat j.toNat)):=by
 have:=wE tv ts hT i.toNat j.toNat hi.2 hj.2
 rw[Int.toNat_of_nonneg hi.1,Int.toNat_of_nonneg hj.1]at this;exact this
set_option maxHeartbeats 2000000 in
theorem nN (tv xv:cm)(ts:List ja)(fs:List eC)(g:eH)(hT:gz (ts.map bh))(hF:∀f∈fs,0≤f.mm∧f.mm<ts.length∧0≤f.value∧f.value<ts.length):cz Tryz.prog 39 #[.agg #[tv.1,xv.1],dJ g] [sl du tv.1 ts,aX ek ts,sl bx xv.1 fs,bU g] (fv (cU (ts.map bh) (fs.map dL) (dH g))):=by
 refine cz.Lp (args:=[.agg #[tv.1,xv.1],dJ g]) 74 Tryz.func39 rfl Tryz.ntmps39 rfl (fun c=> ?_);refine St.seq ?_
 refine St.fI (bU g) (fun _:Unit=>l6 g) (fun ρ h=>⟨(),h⟩) fun _=> ?_
 refine St.cast (H':=[aF (sl ej g.nv.1 g.nodes),aF (aX dS g.nodes),aF (sl du tv.1 ts),aF (aX ek ts),aF (sl bx xv.1 fs),aF (bU g)]) rfl ?_
 have CC:=ke g
 have rf:(ts.map bh).length=ts.length:=List.length_map ..
 have E1:(fs.map dL).length=fs.length:=List.length_map ..
 refine St.wf g.nv.1 (fun Rq yu=> ?_);refine St.rg ?_;refine St.cX (.mk rfl) rfl (fun b2=> ?_);refine St.cX (.mk rfl) rfl (fun b3=> ?_);refine St.alloc dC rfl (fun b4=> ?_);refine St.nn (St.seq (St.sr ?_));refine St.ee (Ev.bH (.mk rfl) mz trivial (by exact lV)) ?_;refine St.ee (Ev.bH (.mk rfl) oW trivial (by exact n5)) ?_;refine St.ee (Ev.call (zo tv xv ts fs g) aa6 (.cons (.mk rfl) (.cons (.mk rfl) .nil))) ?_;refine St.alloc dC rfl (fun b5=> ?_);refine St.sA (.mk rfl) (.mk rfl) bC ?_;refine St.nn (St.sr ?_);refine St.ee (Ev.aD (.mk rfl) cb) ?_;refine St.ee (Ev.l0 (.mk rfl) bP) ?_;refine St.ee Ev.jj ?_;refine St.nn ?_;refine St.cond _ rfl (fun mW=> ?_) (fun mW=> ?_)
 ·skip
  have hb:(da (ts.map bh).length (fs.map dL).length (dH g)).1≠0:=by rw[rf,E1];simpa using mW
  have oQ:=qd hb
  rw[rf,E1]at oQ;refine St.sr ?_;refine St.ee (Ev.bH (.mk rfl) gF trivial (by exact bC)) ?_;refine St.sA (.mk rfl) (.mk rfl) bC ?_;refine St.nn (St.ab (St.aB ?_));refine St.rU [_] [] Tryz.results39 ?_;exact congrArg fv oQ.symm
 ·skip
  have hb:¬(da (ts.map bh).length (fs.map dL).length (dH g)).1≠0:=by rw[rf,E1];simpa using mW
  have xV:=zJ (Decidable.not_not.1 hb)
  obtain⟨JA,Y0,q8⟩:=nE (Decidable.not_not.1 hb);refine St.skip (St.aA (St.seq (St.sr ?_)));refine St.ee (Ev.aD (.mk rfl) eX) ?_;refine St.ee (Ev.l0 (.mk rfl) eM) ?_;refine St.ee (Ev.au (.mk rfl) eM) ?_;refine St.mv ?_;refine St.nn (St.block ?_);refine St.lS (ι:=Nat) (fun k T=>(22,iv k)::T) (fun k=>k≤g.nodes.length∧∀i,i<k→kQ (ts.map bh) (fs.map dL) (dH g) i=false) (fun k=>g.nodes.length-k) 0 (aE.cons 2 rfl (aE.cons 3 rfl (aE.cons 4 rfl (aE.cons 20 rfl (aE.cons 21 rfl aE.nil))))) ⟨Nat.zero_le _,fun i hi=>absurd hi (by omega)⟩ ?_;intro k dK;obtain⟨hk,Dt⟩:=dK;refine St.sr ?_;refine St.ee Ev.dz ?_;refine St.nn (St.seq ?_);refine St.cond _ rfl (fun xz=> ?_) (fun xz=> ?_)
  ·try simp only[aC]at xz
   obtain⟨t,ht⟩:=aQ (show k<g.nodes.length by omega)
   have lg:=List.mem_of_getElem? ht
   refine St.cC dS g.nodes (x:=t) lg ?_;refine St.fo (sl eu t.lv.1 t.aY) [dS t] (fun ρ h=>h _ (List.mem_cons_self ..)) ?_;refine St.wf t.lv.1 (fun KB qc=> ?_)
   have zI:(dH g).getD k sg=kN t:=by rw[List.getD_eq_getElem?_getD,iD ht];rfl
   obtain⟨uZ,OO⟩:=q8 (kN t) (List.mem_of_getElem? (iD ht))
   replace uZ:0≤t.type∧t.type<((ts.map bh).length:Int):=uZ
   refine St.skip (St.aA (St.seq (St.block (St.sr ?_))));refine St.mv ?_;refine St.ee (Ev.aR (k:=k) (.mk rfl) (.mk rfl) eM fS (by omega) (by omega)) ?_;refine St.ee (Ev.fg (.mk rfl) ht vN trivial fS en.eq) ?_;refine St.alloc sx rfl (fun b7=> ?_);refine St.ar ?_;refine St.sA (.mk rfl) (.mk rfl) fS ?_ (h1:=(by simp only[List.all_cons,List.all_nil,Bool.and_true,Bool.and_eq_true];exact⟨rfl,t.lv.2⟩));refine St.nn (St.sr ?_);refine St.ee (Ev.aD (.mk rfl) gG) ?_;refine St.ee (Ev.l0 (.mk rfl) e6) ?_;refine St.ee (Ev.au (.mk rfl) e6) ?_;refine St.mv ?_;refine St.nn (St.block ?_);refine St.lS (ι:=Nat) (fun q T=>(30,iv q)::T) (fun q=>q≤t.aY.length∧∀j,j<q→∀x,(kN t).2[j]?=some x→si (ts.map bh) (fs.map dL) (dH g) t.type x=false) (fun q=>t.aY.length-q) 0 (aE.cons 2 rfl (aE.cons 3 rfl (aE.cons 4 rfl (aE.cons 6 rfl (aE.cons 7 rfl (aE.cons 20 rfl (aE.cons 21 rfl (aE.cons 22 rfl (aE.cons 28 rfl (aE.cons 29 rfl aE.nil)))))))))) ⟨Nat.zero_le _,fun j hj=>absurd hj (by omega)⟩ ?_;intro q dK;obtain⟨hq,oH⟩:=dK;refine St.sr ?_;refine St.ee Ev.dz ?_;refine St.nn (St.seq ?_);refine St.cond _ rfl (fun kE=> ?_) (fun kE=> ?_)
   ·try simp only[aC]at kE
    obtain⟨p,hp⟩:=aQ (show q<t.aY.length by omega)
    have zM:(kN t).2[q]?=some (gI p):=by show(t.aY.map gI)[q]?=_;rw[List.getElem?_map,hp];rfl
    have Q0:=OO (gI p) (List.mem_of_getElem? zM)
    replace Q0:0≤p.dh∧p.dh<((fs.map dL).length:Int)∧0≤p.to∧p.to<((dH g).length:Int):=Q0
    obtain⟨fe,OP⟩:=aQ (show p.dh.toNat<fs.length by omega);obtain⟨u,hu⟩:=aQ (show p.to.toNat<g.nodes.length by omega)
    have hfo:=hF fe (List.mem_of_getElem? OP)
    have Rt:=(q8 (kN u) (List.mem_of_getElem? (iD hu))).1
    replace Rt:0≤u.type∧u.type<((ts.map bh).length:Int):=Rt
    have wq:(!dx (ts.map bh) t.type.toNat fe.mm.toNat|| !dx (ts.map bh) u.type.toNat fe.value.toNat)=si (ts.map bh) (fs.map dL) (dH g) t.type (gI p):=by
     unfold si
     rw[show(gI p).1=p.dh from rfl,show(gI p).2=p.to from rfl,List.getD_eq_getElem?_getD,List.getElem?_map,OP,List.getD_eq_getElem?_getD,iD hu];rfl
    refine St.skip (St.aA (St.seq (St.block (St.sr ?_))));refine St.ee (Ev.aR (k:=q) (.mk rfl) (.mk rfl) e6 eV (by omega) (by omega)) ?_;refine St.ee (Ev.fg (.mk rfl) hp pK trivial eV en.eq) ?_;refine St.alloc r7 rfl (fun b9=> ?_);refine St.sA (.mk rfl) (.mk rfl) eV ?_ (h1:=(by simp only[List.all_cons,List.all_nil,Bool.and_true,Bool.and_eq_true];exact⟨rfl,rfl⟩));refine St.nn (St.sr ?_);refine St.ee (Ev.aD (.mk rfl) jK) ?_;refine St.ee (Ev.l0 (.mk rfl) ib) ?_;refine St.ee (Ev.aD (.mk rfl) gZ) ?_;refine St.ee (Ev.l0 (.mk rfl) bP) ?_;refine St.ee (Ev.aR (k:=p.dh.toNat) (.mk rfl) (.mk rfl) ib j8 (by omega) (by omega)) ?_;refine St.ee (Ev.fg (.mk rfl) OP yc trivial j8 en.eq) ?_;refine St.alloc vQ rfl (fun jT=> ?_);refine St.sA (.mk rfl) (.mk rfl) j8 ?_ (h1:=(by simp only[List.all_cons,List.all_nil,Bool.and_true,Bool.and_eq_true];exact⟨rfl,rfl,rfl⟩));refine St.nn (St.seq ?_);refine St.rq mixed (by kernel_rfl) (Mm.drawn _ _) ?_;refine Sq.ee (Ev.aD (.mk rfl) fX) ?_;refine Sq.ee (Ev.l0 (.mk rfl) eT) ?_;refine Sq.ee (Ev.aD (.mk rfl) kV) ?_;refine Sq.ee (Ev.l0 (.mk rfl) bP) ?_;refine Sq.ee (Ev.aD (.mk rfl) nX) ?_;refine Sq.ee (Ev.l0 (.mk rfl) bP) ?_;refine Sq.ee (Ev.call (u6 tv.1 ts hT t.type fe.mm ⟨by omega,by omega⟩ ⟨by omega,by omega⟩) PE (.cons (.mk rfl) (.cons (.mk rfl) (.cons (.mk rfl) .nil)))) ?_;refine Sq.ee (Ev.not (.mk rfl)) ?_;refine Sq.ee (Ev.move (.mk rfl)) ?_;refine Sq.gf _ rfl rfl (fun hg=>Ev.aD (.mk rfl) fX) rfl ?_;refine Sq.gf _ rfl rfl (fun hg=>Ev.cS (aL.gv rfl hg) eT trivial (by rfl)) rfl ?_;refine Sq.gf _ rfl rfl (fun hg=>Ev.aD (.mk rfl) eX) rfl ?_;refine Sq.gf _ rfl rfl (fun hg=>Ev.cS (aL.gv rfl hg) eM trivial (by rfl)) rfl ?_;refine Sq.gf _ rfl rfl (fun hg=>Ev.aD (.mk rfl) ga) rfl ?_;refine Sq.gf _ rfl rfl (fun hg=>Ev.cS (aL.gv rfl hg) bP trivial (by rfl)) rfl ?_;refine Sq.gf _ rfl rfl (fun hg=>Ev.aR (k:=p.to.toNat) (aL.gv rfl hg) (aL.gv rfl hg) eM fS (by first|omega|(simp only[aC]at hg;omega)) (by first|omega|(simp only[aC]at hg;omega))) rfl ?_;refine Sq.gf _ rfl rfl (fun hg=>Ev.eR (aL.gv rfl hg) (by first|omega|(simp only[aC]at hg;omega)) kV) rfl ?_;refine Sq.gf _ rfl rfl (fun hg=>Ev.fL (aL.gv rfl hg) hu bP trivial rfl) rfl ?_;refine Sq.gf _ rfl rfl (fun hg=>Ev.aD (.mk rfl) nY) rfl ?_;refine Sq.gf _ rfl rfl (fun hg=>Ev.cS (aL.gv rfl hg) bP trivial (by rfl)) rfl ?_;refine Sq.gf _ rfl rfl (fun hg=>Ev.call (u6 tv.1 ts hT u.type fe.value ⟨by omega,by omega⟩ ⟨by omega,by omega⟩) PE (.cons (aL.gv rfl hg) (.cons (aL.gv rfl hg) (.cons (aL.gv rfl hg) .nil)))) rfl ?_;refine Sq.gf _ rfl rfl (fun hg=>Ev.not (aL.gv rfl hg)) rfl ?_;refine Sq.ee Ev.o0 ?_;refine Sq.nil ?_;refine St.aA ?_;refine St.cond _ rfl (fun ox=> ?_) (fun ox=> ?_)
    ·skip
     rw[wq]at ox
     have OQ:kQ (ts.map bh) (fs.map dL) (dH g) k=true:=by unfold kQ;rw[zI,List.any_eq_true];exact⟨gI p,List.mem_of_getElem? zM,ox⟩
     have oQ:=vf hb (zK (by omega) OQ Dt)
     refine St.sr ?_;refine St.mv ?_;refine St.ee (Ev.build (ps:=[(0,(.const (.int .i64 12))),(1,(.tmp 63))]) (aV.cons (aL.mk rfl) (aV.cons (aL.mk rfl) aV.nil)) (fun w=>bO rfl rfl w)) ?_;refine St.sA (.mk rfl) (.mk rfl) bC ?_;refine St.nn (St.ab (St.aN (St.aB (St.aB (St.aN (St.aN (St.aB (St.aB (St.aN (St.aB ?_))))))))));refine St.rU [_] [] Tryz.results39 ?_;exact congrArg fv oQ.symm
    ·skip
     rw[wq]at ox;refine St.skip (St.aO (St.aA (St.rg ?_)));refine St.ee Ev.a0 ?_;refine St.mv ?_;refine St.nn ?_;refine St.aS (q+1) ⟨by omega,fun j hj x hx=>by rcases Nat.lt_or_ge j q with h|h;exact oH j h x hx;rw[show j=q by omega,zM]at hx;cases hx;exact ox⟩
   ·try simp only[aC]at kE
    refine St.exit (St.aI (St.aI (St.bM (St.aO (St.aA (St.rg ?_))))));refine St.ee Ev.a0 ?_;refine St.mv ?_;refine St.nn ?_
    have OQ:kQ (ts.map bh) (fs.map dL) (dH g) k=false:=by
     unfold kQ;rw[zI,List.any_eq_false]
     intro x hx;obtain⟨j,hj⟩:=List.getElem?_of_mem hx
     rw[show(kN t).1=t.type from rfl,oH j (by have:=cG hj;rw[show(kN t).2.length=t.aY.length from List.length_map _]at this;omega) x hj];decide
    refine St.aS (k+1) ⟨by omega,fun i hi=>by rcases Nat.lt_or_ge i k with h|h;exact Dt i h;rw[show i=k by omega];exact OQ⟩
  ·try simp only[aC]at xz
   have oQ:=vg hb (zL (by rw[CC];intro i hi;exact Dt i (by omega)))
   refine St.exit (St.aI (St.aI (St.bM (St.aA (St.seq (St.sr ?_))))));refine St.ee (Ev.bH (.mk rfl) oW trivial (by exact n5)) ?_;refine St.ee (Ev.call (rj g xV (by omega)) aa7 (.cons (.mk rfl) .nil)) ?_;refine St.ar ?_;refine St.nn (St.sr ?_);refine St.mv ?_;refine St.ee Ev.ra ?_;refine St.nn ?_;refine St.cond _ rfl (fun re=> ?_) (fun re=> ?_)
   ·try simp only[aC]at re
    rw[if_pos (by omega)]at oQ;refine St.sr ?_;refine St.mv ?_;refine St.ee (Ev.build (ps:=[(0,(.const (.int .i64 5))),(1,(.tmp 71))]) (aV.cons (aL.mk rfl) (aV.cons (aL.mk rfl) aV.nil)) (fun w=>bO rfl rfl w)) ?_;refine St.sA (.mk rfl) (.mk rfl) bC ?_;refine St.nn (St.ab (St.aB ?_));refine St.rU [_] [] Tryz.results39 ?_;exact congrArg fv oQ.symm
   ·try simp only[aC]at re
    rw[if_neg (by omega)]at oQ;refine St.skip (St.aA (St.sr ?_));refine St.ee (Ev.build (ps:=[]) (aV.nil) (fun w=>fB w)) ?_;refine St.sA (.mk rfl) (.mk rfl) bC ?_;refine St.nn (St.ab ?_);refine St.rU [_] [] Tryz.results39 ?_;exact congrArg fv oQ.symm
def rR (l:List Int)(q:Nat):Int:=if q=0 then-1 else l.getD (q-1) 0
theorem Bk {l:List Int}{q:Nat}{p:Int}(h:l[q]?=some p):rR l (q+1)=p:=by unfold rR;rw[if_neg (by omega),Nat.add_sub_cancel,List.getD_eq_getElem?_getD,h];rfl
theorem po {α:Type}{l:List α}{k q:Nat}{y:α}(h:l[q]?=some y)(hq:q<k):(l.take k)[q]?=some y:=by rw[List.getElem?_take,if_pos hq];exact h
theorem u7 {l:List cV}{n m:cV}(h:n∉l)(h2:¬m=n):n∉l++ [m]:=fun hm=>by
 rcases List.mem_append.1 hm with hm|hm
 ·exact h hm
 ·exact h2 (List.mem_singleton.1 hm).symm
theorem mG {α:Type}(f:α→cV){l:List α}{k q:Nat}{y:α}(h:l[q]?=some y)(hq:q<k):f y∈(l.take k).map f:=List.mem_map_of_mem (List.mem_of_getElem? (po h hq))
set_option maxHeartbeats 2000000 in
theorem zp (u:Value)(ts:List ja):cz Tryz.prog 73 #[u] [sl du u ts,aX ek ts] (fv (q7 (ts.map bh))):=by
 refine cz.o7 (args:=[u]) 90 Tryz.func73 rfl Tryz.ntmps73 rfl (fun c=> ?_);refine St.seq ?_;refine St.wf u (fun pR Da=> ?_);refine St.rg ?_;refine St.alloc dC rfl (fun b2=> ?_);refine St.nn (St.seq (St.sr ?_));refine St.mv ?_;refine St.ee (Ev.au (.mk rfl) eT) ?_;refine St.ee Ev.fa ?_;refine St.mv ?_;refine St.gf _ rfl rfl (fun hg=>Ev.move (.mk rfl)) rfl ?_;refine St.gf _ rfl rfl (fun hg=>Ev.au (aL.gv rfl hg) eT) rfl ?_;refine St.gf _ rfl rfl (fun hg=>Ev.gtr (aL.gv rfl hg) (.mk rfl)) rfl ?_;refine St.ee Ev.o0 ?_;refine St.nn ?_;refine St.cond _ rfl (fun pY=> ?_) (fun pY=> ?_)
 ·try simp only[aC]at pY
  have hf:q7 (ts.map bh)=(2,-1):=by unfold q7;rw[if_pos (by rw[List.length_map];omega)]
  refine St.sr ?_;refine St.ee (Ev.build (ps:=[(0,(.const (.int .i64 2))),(1,(.const (.int .i64 (-1))))]) (aV.cons (aL.mk rfl) (aV.cons (aL.mk rfl) aV.nil)) (fun w=>bO rfl rfl w)) ?_;refine St.sA (.mk rfl) (.mk rfl) bC ?_;refine St.nn (St.ab (St.aB ?_));refine St.rU [_] [] Tryz.results73 ?_;exact congrArg fv hf.symm
 ·try simp only[aC]at pY
  have hf:q7 (ts.map bh)=hS [] 0 (ts.map bh):=by unfold q7;rw[if_neg (by rw[List.length_map];omega)]
  refine St.skip (St.aA (St.seq (St.sr ?_)));refine St.mv ?_;refine St.ee (Ev.au (.mk rfl) eT) ?_;refine St.mv ?_;refine St.nn (St.block ?_);refine St.lH (ι:=Nat) (fun k T=>(20,iv k)::T) (fun k=>[ae b2 (.cells [iv 0,iv 0].toArray 42 (0,0)),aF (sl du u ts),aF (aX ek ts)]) (fun k=>k≤ts.length∧q7 (ts.map bh)=hS ((ts.take k).map ja.name) k ((ts.map bh).drop k)) (fun k=>ts.length-k) 0 (aE.cons 0 rfl (aE.cons 2 rfl (aE.cons 18 rfl (aE.cons 19 rfl aE.nil)))) ⟨Nat.zero_le _,hf⟩ ?_;intro k dK;obtain⟨hk,hv⟩:=dK;refine St.sr ?_;refine St.ee Ev.dz ?_;refine St.nn (St.seq ?_);refine St.cond _ rfl (fun qU=> ?_) (fun qU=> ?_)
  ·try simp only[aC]at qU
   obtain⟨t,ht⟩:=aQ (show k<ts.length by omega)
   have lg:=List.mem_of_getElem? ht
   have cQ:=rC (l:=ts.map bh) (k:=k) (t:=bh t) (by rw[List.getElem?_map,ht];rfl) ((ts.take k).map ja.name)
   rw[←hv]at cQ
   have yu:t.name.length≤9223372036854775807:=by have:=pR t lg;simp only[du,hP]at this;omega
   refine St.cC ek ts (x:=t) lg ?_;refine St.fo (sl aK t.pv.1 t.parents) [ek t] (fun ρ h=>h _ (List.mem_cons_self ..)) ?_;refine St.wf t.pv.1 (fun OA AJ=> ?_);refine St.skip (St.aA (St.seq (St.block (St.sr ?_))));refine St.mv ?_;refine St.ee (Ev.aR (k:=k) (.mk rfl) (.mk rfl) eT iV (by omega) (by omega)) ?_;refine St.ee (Ev.fg (.mk rfl) ht yd trivial iV en.eq) ?_;refine St.alloc vP rfl (fun b4=> ?_);refine St.ar ?_;refine St.sA (.mk rfl) (.mk rfl) iV ?_ (h1:=(by simp only[List.all_cons,List.all_nil,Bool.and_true,Bool.and_eq_true];exact⟨rfl,t.pv.2⟩));refine St.nn (St.seq (St.sr ?_));refine St.ee (Ev.aD (.mk rfl) nV) ?_;refine St.ee (Ev.l0 (.mk rfl) eG) ?_;refine St.ee (Ev.call (ot t.name yu) PF (.cons (.mk rfl) .nil)) ?_;refine St.ee (Ev.not (.mk rfl)) ?_;refine St.nn ?_;refine St.cond _ rfl (fun s8=> ?_) (fun s8=> ?_)
   ·try simp only[aC]at s8
    rw[if_pos (show isName (bh t).1=false from(by simpa using s8:isName t.name=false))]at cQ;refine St.sr ?_;refine St.mv ?_;refine St.ee (Ev.build (ps:=[(0,(.const (.int .i64 10))),(1,(.tmp 29))]) (aV.cons (aL.mk rfl) (aV.cons (aL.mk rfl) aV.nil)) (fun w=>bO rfl rfl w)) ?_;refine St.sA (.mk rfl) (.mk rfl) bC ?_;refine St.nn (St.ab (St.aB (St.aN (St.aB (St.aB (St.aN (St.aB ?_)))))));refine St.rU [_] [] Tryz.results73 ?_;exact congrArg fv cQ.symm
   ·try simp only[aC]at s8
    rw[if_neg (show ¬isName (bh t).1=false from(by simpa using s8:¬isName t.name=false))]at cQ;refine St.skip (St.aA (St.seq (St.sr ?_)));refine St.mv ?_;refine St.mv ?_;refine St.ee (Ev.nR (h:=k) (.mk rfl) (.mk rfl) eT iV (by omega) (by omega)) ?_;refine St.part (Rr:=du) (xs:=ts) u 0 k (Nat.zero_le _) (by omega) ?_;refine St.fo (sl du (ou u du.size 0 k) (ts.take k)) [sl du (ou u du.size 0 k) ((ts.drop 0).take (k-0))] (fun ρ h=>by simpa using h _ (List.mem_cons_self ..)) ?_
    have uN:(ts.take k).length=k:=by rw[List.length_take];omega
    refine St.ee (Ev.au (.mk rfl) eT) ?_;refine St.mv ?_;refine St.nn (St.block ?_);refine St.lH (ι:=Nat) (fun q T=>(35,iv q)::T) (fun q=>[aF (sl du (ou u du.size 0 k) (ts.take k)),aF (sl aK t.pv.1 t.parents),ae b4 (.cells [sv t.name,t.pv.1].toArray 165 (0,0)),ae b2 (.cells [iv 0,iv 0].toArray 42 (0,0)),aF (sl du u ts),aF (aX ek ts)]) (fun q=>q≤k∧t.name∉(ts.take q).map ja.name) (fun q=>k-q) 0 (aE.cons 0 rfl (aE.cons 2 rfl (aE.cons 3 rfl (aE.cons 4 rfl (aE.cons 18 rfl (aE.cons 19 rfl (aE.cons 20 rfl (aE.cons 33 rfl (aE.cons 34 rfl aE.nil))))))))) ⟨Nat.zero_le _,by simp⟩ ?_;intro q dK;obtain⟨hq,mL⟩:=dK;refine St.sr ?_;refine St.ee Ev.dz ?_;refine St.nn (St.seq ?_);refine St.cond _ rfl (fun Sa=> ?_) (fun Sa=> ?_)
    ·try simp only[aC]at Sa
     obtain⟨y,hy⟩:=aQ (show q<ts.length by omega);refine St.skip (St.aA (St.seq (St.block (St.sr ?_))));refine St.ee (Ev.aR (k:=q) (.mk rfl) (.mk rfl) eT iV (by omega) (by omega)) ?_;refine St.ee (Ev.fg (.mk rfl) (po hy (show q<k by omega)) yd trivial iV en.eq) ?_;refine St.alloc vP rfl (fun b6=> ?_);refine St.sA (.mk rfl) (.mk rfl) iV ?_ (h1:=(by simp only[List.all_cons,List.all_nil,Bool.and_true,Bool.and_eq_true];exact⟨rfl,y.pv.2⟩));refine St.nn (St.sr ?_);refine St.ee (Ev.aD (.mk rfl) nV) ?_;refine St.ee (Ev.l0 (.mk rfl) eG) ?_;refine St.ee (Ev.aD (.mk rfl) nV) ?_;refine St.ee (Ev.l0 (.mk rfl) eG) ?_;refine St.ee (Ev.j1 (.mk rfl) (.mk rfl)) ?_;refine St.nn ?_;refine St.cond _ rfl (fun BU=> ?_) (fun BU=> ?_)
     ·try simp only[aC]at BU
      have ux:=mG ja.name hy (show q<k by omega)
      rw[BU]at ux;rw[if_pos (show(bh t).1∈(ts.take k).map ja.name from ux)]at cQ;refine St.sr ?_;refine St.mv ?_;refine St.ee (Ev.build (ps:=[(0,(.const (.int .i64 7))),(1,(.tmp 44))]) (aV.cons (aL.mk rfl) (aV.cons (aL.mk rfl) aV.nil)) (fun w=>bO rfl rfl w)) ?_;refine St.sA (.mk rfl) (.mk rfl) bC ?_;refine St.nn (St.ab (St.aN (St.aB (St.aB (St.aN (St.aB (St.aN (St.aB (St.aB (St.aN (St.aB ?_)))))))))));refine St.rU [_] [] Tryz.results73 ?_;exact congrArg fv cQ.symm
     ·try simp only[aC]at BU
      refine St.skip (St.aO (St.aA (St.rg ?_)));refine St.ee Ev.a0 ?_;refine St.mv ?_;refine St.nn ?_;refine St.aH (q+1) ⟨by omega,by rw[cF ja.name hy];exact u7 mL BU⟩
    ·try simp only[aC]at Sa
     rw[show q=k by omega]at mL;rw[if_neg (show ¬(bh t).1∈(ts.take k).map ja.name from mL)]at cQ;refine St.exit (St.aI (St.aI (St.bM (St.aA (St.seq (St.sr ?_))))));refine St.mv ?_;refine St.ee Ev.fa ?_;refine St.ee (Ev.aD (.mk rfl) kU) ?_;refine St.ee (Ev.l0 (.mk rfl) bE) ?_;refine St.ee (Ev.au (.mk rfl) bE) ?_;refine St.ee Ev.fa ?_;refine St.ee (Ev.rr (.mk rfl) (.mk rfl) uP) ?_;refine St.nn ?_;refine St.cond _ rfl (fun CV=> ?_) (fun CV=> ?_)
     ·skip
      have PO:decide (k=0)≠decide (t.parents.length=0):=by simpa using CV
      rw[if_pos (show decide (k=0)≠decide ((bh t).2.length=0)from PO)]at cQ;refine St.sr ?_;refine St.mv ?_;refine St.ee (Ev.build (ps:=[(0,(.const (.int .i64 5))),(1,(.tmp 54))]) (aV.cons (aL.mk rfl) (aV.cons (aL.mk rfl) aV.nil)) (fun w=>bO rfl rfl w)) ?_;refine St.sA (.mk rfl) (.mk rfl) bC ?_;refine St.nn (St.ab (St.aB (St.aN (St.aB (St.aB (St.aN (St.aB ?_)))))));refine St.rU [_] [] Tryz.results73 ?_;exact congrArg fv cQ.symm
     ·skip
      have PO:¬decide (k=0)≠decide (t.parents.length=0):=by simpa using CV
      rw[if_neg (show ¬decide (k=0)≠decide ((bh t).2.length=0)from PO)]at cQ;refine St.skip (St.aA (St.sr ?_));refine St.ee (Ev.aD (.mk rfl) kU) ?_;refine St.ee (Ev.l0 (.mk rfl) bE) ?_;refine St.ee (Ev.au (.mk rfl) bE) ?_;refine St.mv ?_;refine St.nn (St.block ?_);refine St.lH (ι:=Nat) (fun q T=>(59,iv q)::T) (fun q=>[ae b4 (.cells [sv t.name,t.pv.1].toArray 165 (0,0)),ae b2 (.cells [iv 0,iv 0].toArray 42 (0,0)),aF (sl aK t.pv.1 t.parents),aF (sl du u ts),aF (aX ek ts)]) (fun q=>q≤t.parents.length∧mT k (-1) (bh t).2=mT k (rR t.parents q) (t.parents.drop q)) (fun q=>t.parents.length-q) 0 (aE.cons 0 rfl (aE.cons 2 rfl (aE.cons 3 rfl (aE.cons 4 rfl (aE.cons 18 rfl (aE.cons 19 rfl (aE.cons 20 rfl (aE.cons 57 rfl (aE.cons 58 rfl aE.nil))))))))) ⟨Nat.zero_le _,rfl⟩ ?_;intro q dK;obtain⟨hq,tH⟩:=dK;refine St.sr ?_;refine St.ee Ev.dz ?_;refine St.nn (St.seq ?_);refine St.cond _ rfl (fun OH=> ?_) (fun OH=> ?_)
      ·try simp only[aC]at OH
       obtain⟨p,hp⟩:=aQ (show q<t.parents.length by omega)
       have oc:=vZ (i:=k) (z:=rR t.parents q) hp
       refine St.skip (St.aA (St.seq (St.block (St.sr ?_))));refine St.mv ?_;refine St.ee (Ev.aR (k:=q) (.mk rfl) (.mk rfl) bE cr (by omega) (by omega)) ?_;refine St.ee (Ev.fL (.mk rfl) hp bP trivial rfl) ?_;refine St.ar ?_;refine St.ar ?_;refine St.nn (St.seq (St.sr ?_));refine St.mv ?_;refine St.ee Ev.dz ?_;refine St.mv ?_;refine St.gf _ rfl rfl (fun hg=>Ev.move (.mk rfl)) rfl ?_;refine St.gf _ rfl rfl (fun hg=>Ev.move (.mk rfl)) rfl ?_;refine St.gf _ rfl rfl (fun hg=>Ev.geq (aL.gv rfl hg) (aL.gv rfl hg)) rfl ?_;refine St.ee Ev.o0 ?_;refine St.nn ?_;refine St.cond _ rfl (fun re=> ?_) (fun re=> ?_)
       ·try simp only[aC]at re
        rw[if_pos (by omega)]at oc;rw[tH,oc,if_pos (by show(3:Int)≠0;decide)]at cQ;refine St.sr ?_;refine St.mv ?_;refine St.ee (Ev.build (ps:=[(0,(.const (.int .i64 3))),(1,(.tmp 71))]) (aV.cons (aL.mk rfl) (aV.cons (aL.mk rfl) aV.nil)) (fun w=>bO rfl rfl w)) ?_;refine St.sA (.mk rfl) (.mk rfl) bC ?_;refine St.nn (St.ab (St.aB (St.aN (St.aB (St.aB (St.aN (St.aN (St.aB (St.aB (St.aN (St.aB ?_)))))))))));refine St.rU [_] [] Tryz.results73 ?_;exact congrArg fv cQ.symm
       ·try simp only[aC]at re
        rw[if_neg (by omega)]at oc;refine St.skip (St.aA (St.sr ?_));refine St.mv ?_;refine St.ee Ev.s5 ?_;refine St.mv ?_;refine St.gt _ rfl rfl (fun hg=>Ev.move (.mk rfl)) rfl ?_;refine St.gt _ rfl rfl (fun hg=>Ev.aD (.mk rfl) kU) rfl ?_;refine St.gt _ rfl rfl (fun hg=>Ev.cS (aL.gv rfl hg) bE trivial (by rfl)) rfl ?_;refine St.gt _ rfl rfl (fun hg=>Ev.move (.mk rfl)) rfl ?_;refine St.gt _ rfl rfl (fun hg=>Ev.sub (aL.gv rfl hg) (.mk rfl) (by first|omega|(simp only[aC]at hg;omega))) rfl ?_;refine St.gt _ rfl rfl (fun hg=>Ev.aR (k:=(q-1)) (aL.gv rfl hg) (aL.gv rfl hg) bE cr (by first|omega|(simp only[aC]at hg;omega)) (by first|omega|(simp only[aC]at hg;omega))) rfl ?_;refine St.gt _ rfl rfl (fun hg=>Ev.fL (aL.gv rfl hg) (jg 0 (by first|omega|(simp only[aC]at hg;omega))) bP trivial rfl) rfl ?_;refine St.gt _ rfl rfl (fun hg=>Ev.leq (aL.gv rfl hg) (aL.gv rfl hg)) rfl ?_;refine St.ee Ev.n0 ?_;refine St.nn ?_;refine St.cond _ rfl (fun uQ=> ?_) (fun uQ=> ?_)
        ·try simp only[aC]at uQ
         rw[if_pos (show p≤rR t.parents q from(by unfold rR;rw[if_neg (by omega)];exact uQ.2))]at oc;rw[tH,oc,if_pos (by show(13:Int)≠0;decide)]at cQ;refine St.sr ?_;refine St.mv ?_;refine St.ee (Ev.build (ps:=[(0,(.const (.int .i64 13))),(1,(.tmp 85))]) (aV.cons (aL.mk rfl) (aV.cons (aL.mk rfl) aV.nil)) (fun w=>bO rfl rfl w)) ?_;refine St.sA (.mk rfl) (.mk rfl) bC ?_;refine St.nn (St.ab (St.aN (St.aB (St.aB (St.aN (St.aN (St.aB (St.aB (St.aN (St.aB ?_))))))))));refine St.rU [_] [] Tryz.results73 ?_;exact congrArg fv cQ.symm
        ·try simp only[aC]at uQ
         rw[if_neg (show ¬p≤rR t.parents q from(by unfold rR;split;omega;rcases uQ with h|h;omega;omega))]at oc;refine St.skip (St.aO (St.aA (St.rg ?_)));refine St.ee Ev.a0 ?_;refine St.mv ?_;refine St.nn ?_;refine St.aH (q+1) ⟨by omega,by rw[tH,oc,Bk hp]⟩
      ·try simp only[aC]at OH
       rw[yy (by omega)]at tH;rw[if_neg (by rw[tH];decide)]at cQ;refine St.exit (St.aI (St.aI (St.bM (St.aO (St.aA (St.rg ?_))))));refine St.ee Ev.a0 ?_;refine St.mv ?_;refine St.nn ?_;refine St.aH (k+1) ⟨by omega,by rw[cQ,cF ja.name ht];rfl⟩
  ·try simp only[aC]at qU
   rw[tG (by rw[List.length_map];omega)]at hv;refine St.exit (St.aI (St.aI (St.bM (St.aA (St.sr ?_)))));refine St.ee (Ev.build (ps:=[]) (aV.nil) (fun w=>fB w)) ?_;refine St.sA (.mk rfl) (.mk rfl) bC ?_;refine St.nn (St.ab ?_);refine St.rU [_] [] Tryz.results73 ?_;exact congrArg fv hv.symm
def IA (T:List dZ)(a b i:Nat):Bool:=dx T i a&&dx T i b
def uT (T:List dZ)(a b i:Nat):List Nat:=(List.range i).filter (IA T a b)
def nO (T:List dZ)(a b i:Nat):Int:=match uT T a b i with
 | []=> -1
 |m::_=>m
def okL (T:List dZ)(l:List Nat):Prop:=match l with
 | []=>True
 |m::r=>∀x∈r,dx T x m=true
theorem Bl {T:List dZ}{a b i:Nat}(h:IA T a b i=false):uT T a b (i+1)=uT T a b i:=by unfold uT;rw[List.range_succ,List.filter_append];simp[h]
theorem nu {T:List dZ}{a b i:Nat}(h:IA T a b i=true):uT T a b (i+1)=uT T a b i++ [i]:=by unfold uT;rw[List.range_succ,List.filter_append];simp[h]
theorem PQ {T:List dZ}{a b i m:Nat}(h:m∈uT T a b i):m<i:=List.mem_range.1 (List.mem_filter.1 h).1
theorem D0 {T:List dZ}{a b:Nat}:∀d i,∃r,uT T a b (i+d)=uT T a b i++r
 |0,i=>⟨[],by simp⟩
 |d+1,i=>by
  obtain⟨r,hr⟩:=D0 d i
  cases h:IA T a b (i+d)with
  |false=>exact⟨r,by rw[show i+(d+1)=(i+d)+1 by omega,Bl h,hr]⟩
  |true=>exact⟨r++ [i+d],by rw[show i+(d+1)=(i+d)+1 by omega,nu h,hr,List.append_assoc]⟩
theorem IB {T:List dZ}{a b i:Nat}(h:nO T a b i<0):uT T a b i=[]:=by
 unfold nO at h
 cases e:uT T a b i with
 |nil=>rfl
 |cons m r=>rw[e]at h;dsimp only at h;omega
theorem IC {T:List dZ}{a b i:Nat}(h:¬nO T a b i<0):∃m r,uT T a b i=m::r∧nO T a b i=m∧m<i:=by
 unfold nO at h⊢
 cases e:uT T a b i with
 |nil=>rw[e]at h;exact absurd (by decide) h
 |cons m r=>exact⟨m,r,rfl,rfl,PQ (by rw[e];exact List.mem_cons_self ..)⟩
theorem ER {T:List dZ}{a b i m:Nat}{r:List Nat}(hc:IA T a b i=true)(hi:i<T.length)(he:uT T a b i=m::r)(hs:dx T i m=false):fp T a b=true:=by
 obtain⟨q,hq⟩:=D0 (T:=T) (a:=a) (b:=b) (T.length-(i+1)) (i+1);rw[show i+1+(T.length-(i+1))=T.length by omega,nu hc,he]at hq
 have e:comm T a b=m::(r++ [i]++q):=by rw[show comm T a b=uT T a b T.length from rfl,hq];simp
 unfold fp;rw[e]
 show(r++ [i]++q).any _=true
 rw[List.any_eq_true];exact⟨i,by simp,by rw[hs];rfl⟩
theorem Bm {T:List dZ}{a b:Nat}(h:okL T (uT T a b T.length)):fp T a b=false:=by
 unfold fp;rw[show comm T a b=uT T a b T.length from rfl]
 cases e:uT T a b T.length with
 |nil=>rfl
 |cons m r=>
  rw[e]at h
  show r.any _=false
  rw[List.any_eq_false];intro x hx;rw[h x hx];decide
theorem LI {T:List dZ}{a b i:Nat}(hc:IA T a b i=true)(he:uT T a b i=[]):nO T a b (i+1)=i:=by unfold nO;rw[nu hc,he];rfl
theorem LJ {T:List dZ}{a b i m:Nat}{r:List Nat}(hc:IA T a b i=true)(he:uT T a b i=m::r):nO T a b (i+1)=m:=by unfold nO;rw[nu hc,he];rfl
theorem ID {T:List dZ}{a b i:Nat}(hc:IA T a b i=false):nO T a b (i+1)=nO T a b i:=by unfold nO;rw[Bl hc]
def LK (T:List dZ):Int:=match kP T with
 |some b=>b
 |none=> -1
def gQ (T:List dZ)(i:Nat):List Bool:=(List.range T.length).map (dx T i)
theorem mH (T:List dZ)(i:Nat):(gQ T i).length=T.length:=by simp[gQ]
theorem nw {T:List dZ}{i j:Nat}(h:j<T.length):(gQ T i)[j]?=some (dx T i j):=by unfold gQ;rw[List.getElem?_map,List.getElem?_range h];rfl
theorem ES {T:List dZ}{i:Nat}{R:List Bool}(hl:R.length=T.length)(h:∀j,j<T.length→R[j]?=some (dx T i j)):R=gQ T i:=by
 refine List.ext_getElem? fun j=> ?_
 by_cases hj:j<T.length
 ·rw[h j hj,nw hj]
 ·rw[List.getElem?_eq_none (by omega),List.getElem?_eq_none (by rw[mH];omega)]
theorem IE {us:List cm}{u:cm}{m:Nat}:(rows cK (us++List.replicate (m+1) fQ)).set (us.length*1+0) u.1=rows cK ((us++ [u])++List.replicate m fQ):=by
 have e:us.length*1+0=us.length:=by omega
 rw[e,nS,nS,List.map_append,List.map_append,List.map_append,List.replicate_succ,List.map_cons,List.set_append_right _ _ (by rw[List.length_map];exact Nat.le_refl _),List.length_map,Nat.sub_self,List.set_cons_zero,List.append_assoc];rfl
theorem LL {us L:List cm}{u:cm}{k:Nat}(h:us.length=k):(rows cK ((us++ [u])++L))[k*1+0]?=some u.1:=by
 have e:k*1+0=us.length:=by omega
 rw[e,nS,List.append_assoc,List.map_append,List.getElem?_append_right (by rw[List.length_map];exact Nat.le_refl _),List.length_map,Nat.sub_self];rfl
theorem IG (n:Nat):List.replicate n (Value.slice none 0 0)=rows cK (List.replicate n fQ):=by rw[nS,List.map_replicate]
set_option maxHeartbeats 2000000 in
theorem zq (u:Value)(ts:List ja)(hT:gz (ts.map bh)):cz Tryz.prog 74 #[u] [sl du u ts,aX ek ts] (iv (LK (ts.map bh))):=by
 refine cz.o7 (args:=[u]) 83 Tryz.func74 rfl Tryz.ntmps74 rfl (fun c=> ?_);refine St.seq ?_
 have rf:(ts.map bh).length=ts.length:=List.length_map ..
 have uh:=hT.len
 refine St.rg ?_;refine St.ar ?_;refine St.nn (St.sr ?_);refine St.mv ?_;refine St.ee (Ev.au (.mk rfl) eT) ?_;refine St.ar ?_;refine St.nn (St.sr ?_);refine St.mv ?_;refine St.gL (m:=ts.length) (.mk rfl) (.mk rfl) vO tt V0 V1 rfl rfl (by omega) rfl rfl (fun nd=> ?_);refine St.bB (.slice (some ⟨nd,0,none⟩) ts.length ts.length) rfl ((IG _).trans (show _=rows cK (([]:List cm)++List.replicate (ts.length-0) fQ)from rfl)) ?_;refine St.qK eB ?_;refine St.fo (ku eB [] ((List.range 0).map (gQ (ts.map bh)))) [ku eB [] []] (fun ρ h=>h _ (List.mem_cons_self ..)) ?_;refine St.ar ?_;refine St.nn (St.seq (St.sr ?_));refine St.mv ?_;refine St.mv ?_;refine St.nn (St.block ?_);refine St.my (ι:=Nat) (κ:=List cm) (fun k us T=>(16,iv k)::T) (fun k us=>[row (.slice (some ⟨nd,0,none⟩) ts.length ts.length) 179 1 ts.length (rows cK (us++List.replicate (ts.length-k) fQ)),aF (ku eB us ((List.range k).map (gQ (ts.map bh)))),aF (sl du u ts),aF (aX ek ts)]) (fun k us=>k≤ts.length∧us.length=k) (fun k us=>ts.length-k) 0 [] (aE.cons 0 rfl (aE.cons 2 rfl (aE.cons 3 rfl (aE.cons 4 rfl (aE.cons 15 rfl aE.nil))))) ⟨Nat.zero_le _,rfl⟩ ?_;rintro k us ⟨hk,PR⟩;refine St.sr ?_;refine St.ee Ev.dz ?_;refine St.nn (St.seq ?_);refine St.cond _ rfl (fun mW=> ?_) (fun mW=> ?_)
 ·try simp only[aC]at mW
  obtain⟨m,hm⟩:∃m,ts.length-k=m+1:=⟨ts.length-k-1,by omega⟩
  refine St.skip (St.aA (St.seq (St.block (St.sr ?_))));refine St.mv ?_;refine St.ar ?_;refine St.nn (St.sr ?_);refine St.mv ?_;refine St.mv ?_;refine St.mv ?_;refine St.gL (m:=ts.length) (.mk rfl) (.mk rfl) fb q9 Vq Vr rfl rfl (by omega) rfl rfl (fun IH=> ?_);refine St.bB (.slice (some ⟨IH,0,none⟩) ts.length ts.length) rfl (pX _) ?_;refine St.ee (Ev.cN (k:=k) (.mk rfl) (.mk rfl) vO tt (by omega) (by omega)) ?_;refine St.dM (.mk rfl) (.mk rfl) tt rfl (by omega) (by decide) ?_;refine St.bB (.slice (some ⟨nd,0,none⟩) ts.length ts.length) rfl (show _=rows cK ((us++ [⟨(.slice (some ⟨IH,0,none⟩) ts.length ts.length),rfl⟩])++List.replicate (ts.length-(k+1)) fQ) by rw[hm,show ts.length-(k+1)=m by omega,←PR];exact IE (u:=⟨(.slice (some ⟨IH,0,none⟩) ts.length ts.length),rfl⟩)) ?_;refine St.nn (St.sr ?_);refine St.mv ?_;refine St.mv ?_;refine St.nn (St.block ?_);refine St.my (ι:=Nat) (κ:=List Bool) (fun j R T=>(25,iv j)::T) (fun j R=>[row (.slice (some ⟨IH,0,none⟩) ts.length ts.length) 4 1 ts.length (rows eB (R)),row (.slice (some ⟨nd,0,none⟩) ts.length ts.length) 179 1 ts.length (rows cK ((us++ [⟨(.slice (some ⟨IH,0,none⟩) ts.length ts.length),rfl⟩])++List.replicate (ts.length-(k+1)) fQ)),aF (ku eB us ((List.range k).map (gQ (ts.map bh)))),aF (sl du u ts),aF (aX ek ts)]) (fun j R=>j≤ts.length∧R.length=ts.length∧∀i,i<j→R[i]?=some (dx (ts.map bh) k i)) (fun j R=>ts.length-j) 0 (List.replicate ts.length false) (aE.cons 0 rfl (aE.cons 2 rfl (aE.cons 3 rfl (aE.cons 4 rfl (aE.cons 5 rfl (aE.cons 15 rfl (aE.cons 16 rfl (aE.cons 24 rfl aE.nil)))))))) ⟨Nat.zero_le _,List.length_replicate,fun i hi=>absurd hi (by omega)⟩ ?_;rintro j R ⟨hj,SR,hR⟩;refine St.sr ?_;refine St.ee Ev.dz ?_;refine St.nn (St.seq ?_);refine St.cond _ rfl (fun En=> ?_) (fun En=> ?_)
  ·try simp only[aC]at En
   refine St.skip (St.aA (St.seq (St.block (St.sr ?_))));refine St.mv ?_;refine St.ar ?_;refine St.nn ?_;refine St.eK [row (.slice (some ⟨IH,0,none⟩) ts.length ts.length) 4 1 ts.length (rows eB (R))] mixed (fun np ns=> ?_);refine SW.dd 0 rfl (fun _=>Ev.move (.mk rfl)) ?_;refine SW.dd 1 rfl (fun _=>Ev.move (.mk rfl)) ?_;refine SW.dd 2 rfl (fun _=>Ev.cN (k:=k) (.mk rfl) (.mk rfl) vO tt (by omega) (by omega)) ?_;refine SW.dd 3 rfl (fun _=>Ev.j2 (.mk rfl) fb trivial (by omega) (LL PR)) ?_;refine SW.dd 4 rfl (fun _=>Ev.move (.mk rfl)) ?_;refine SW.dd 5 rfl (fun _=>Ev.move (.mk rfl)) ?_;refine SW.dd 6 rfl (fun _=>Ev.move (.mk rfl)) ?_;refine SW.dd 7 rfl (fun _=>Ev.move (.mk rfl)) ?_;refine SW.dd 8 rfl (fun _=>Ev.call (wE u ts hT k j (by omega) (by omega)) PE (.cons (.mk rfl) (.cons (.mk rfl) (.cons (.mk rfl) .nil)))) ?_;refine SW.dd 9 rfl (fun _=>Ev.kF (k:=j) rfl (.mk rfl) (.mk rfl) fb q9 (by omega) (by omega)) ?_;refine SW.bG (i:=10) (by kernel_rfl) rfl ?_;refine St.dM (.mk rfl) (.mk rfl) q9 rfl (by omega) (by decide) ?_;refine St.bB (.slice (some ⟨IH,0,none⟩) ts.length ts.length) rfl k9 ?_;refine St.nn ?_;refine SW.go ?_;refine SW.done (by kernel_rfl) ?_;refine St.aO (St.aA (St.rg ?_));refine St.ee Ev.a0 ?_;refine St.mv ?_;refine St.nn ?_;refine St.ji (j+1) (R.set j (dx (ts.map bh) k j)) ⟨by omega,by rw[List.length_set];exact SR,fun i hi=>by rcases Nat.lt_or_ge i j with h|h;rw[List.getElem?_set_ne (by omega)];exact hR i h;rw[show i=j by omega,List.getElem?_set_self (by omega)]⟩
  ·try simp only[aC]at En
   obtain rfl:j=ts.length:=by omega
   refine St.exit (St.aI (St.aI (St.bM (St.aO (St.aA (St.rg ?_))))));refine St.ee Ev.a0 ?_;refine St.mv ?_;refine St.nn ?_;refine St.aU (.slice (some ⟨IH,0,none⟩) ts.length ts.length) eB R rfl (by omega) (fun _ _=>trivial) ?_;rw[ES (T:=(ts.map bh)) (i:=k) (R:=R) (by omega) (fun j hj=>hR j (by omega))];refine St.p7 us ⟨(.slice (some ⟨IH,0,none⟩) ts.length ts.length),rfl⟩ (x:=gQ (ts.map bh) k) (by rw[List.length_map,List.length_range];exact PR) ?_;rw[show(List.range k).map (gQ (ts.map bh))++ [gQ (ts.map bh) k]=(List.range (k+1)).map (gQ (ts.map bh)) by rw[List.range_succ,List.map_append];rfl];refine St.ji (k+1) (us++ [⟨(.slice (some ⟨IH,0,none⟩) ts.length ts.length),rfl⟩]) ⟨by omega,by rw[List.length_append];simp only[List.length_cons,List.length_nil];omega⟩
 ·try simp only[aC]at mW
  obtain rfl:k=ts.length:=by omega
  rw[Nat.sub_self,List.replicate_zero,List.append_nil];refine St.aU (.slice (some ⟨nd,0,none⟩) ts.length ts.length) cK us rfl (by omega) (fun _ _=>trivial) ?_;refine St.exit (St.aI (St.aI (St.bM (St.aA (St.seq (St.sr ?_))))));refine St.mv ?_;refine St.mv ?_;refine St.nn (St.block ?_);refine St.lH (ι:=Nat) (fun b T=>(41,iv b)::T) (fun b=>[aF (sl cK (.slice (some ⟨nd,0,none⟩) ts.length ts.length) us),aF (ku eB us ((List.range ts.length).map (gQ (ts.map bh)))),aF (sl du u ts),aF (aX ek ts)]) (fun b=>b≤ts.length∧∀c,c<b→(List.range c).any (fun a=>fp (ts.map bh) a c)=false) (fun b=>ts.length-b) 0 (aE.cons 3 rfl (aE.cons 4 rfl (aE.cons 40 rfl aE.nil))) ⟨Nat.zero_le _,fun c hc=>absurd hc (by omega)⟩ ?_;intro b dK;obtain⟨hb,Ag⟩:=dK;refine St.sr ?_;refine St.ee Ev.dz ?_;refine St.nn (St.seq ?_);refine St.cond _ rfl (fun Kc=> ?_) (fun Kc=> ?_)
  ·try simp only[aC]at Kc
   refine St.skip (St.aA (St.seq (St.block (St.sr ?_))));refine St.mv ?_;refine St.ar ?_;refine St.nn (St.sr ?_);refine St.mv ?_;refine St.mv ?_;refine St.nn (St.block ?_);refine St.lH (ι:=Nat) (fun a T=>(45,iv a)::T) (fun a=>[aF (sl cK (.slice (some ⟨nd,0,none⟩) ts.length ts.length) us),aF (ku eB us ((List.range ts.length).map (gQ (ts.map bh)))),aF (sl du u ts),aF (aX ek ts)]) (fun a=>a≤b∧∀c,c<a→fp (ts.map bh) c b=false) (fun a=>b-a) 0 (aE.cons 3 rfl (aE.cons 4 rfl (aE.cons 7 rfl (aE.cons 40 rfl (aE.cons 41 rfl (aE.cons 44 rfl aE.nil)))))) ⟨Nat.zero_le _,fun c hc=>absurd hc (by omega)⟩ ?_;intro a dK;obtain⟨ha,oH⟩:=dK;refine St.sr ?_;refine St.ee Ev.dz ?_;refine St.nn (St.seq ?_);refine St.cond _ rfl (fun mV=> ?_) (fun mV=> ?_)
   ·try simp only[aC]at mV
    refine St.skip (St.aA (St.seq (St.block (St.sr ?_))));refine St.mv ?_;refine St.ar ?_;refine St.nn (St.sr ?_);refine St.ar ?_;refine St.nn (St.sr ?_);refine St.mv ?_;refine St.mv ?_;refine St.nn (St.block ?_);refine St.lH (ι:=Nat) (fun i T=>(49,iv i)::(9,iv (nO (ts.map bh) a b i))::T) (fun i=>[aF (sl cK (.slice (some ⟨nd,0,none⟩) ts.length ts.length) us),aF (ku eB us ((List.range ts.length).map (gQ (ts.map bh)))),aF (sl du u ts),aF (aX ek ts)]) (fun i=>i≤ts.length∧okL (ts.map bh) (uT (ts.map bh) a b i)) (fun i=>ts.length-i) 0 (aE.cons 3 rfl (aE.cons 4 rfl (aE.cons 7 rfl (aE.cons 8 rfl (aE.cons 40 rfl (aE.cons 41 rfl (aE.cons 44 rfl (aE.cons 45 rfl (aE.cons 48 rfl aE.nil))))))))) ⟨Nat.zero_le _,trivial⟩ ?_;intro i dK;obtain⟨hi,q8⟩:=dK;refine St.sr ?_;refine St.ee Ev.dz ?_;refine St.nn (St.seq ?_);refine St.cond _ rfl (fun G7=> ?_) (fun G7=> ?_)
    ·try simp only[aC]at G7
     obtain⟨ui,WU⟩:=aQ (show i<us.length by omega);refine St.ku (vs:=us) (l:=gQ (ts.map bh) i) i WU (by rw[List.getElem?_map,List.getElem?_range (show i<ts.length by omega)];rfl) ?_;refine St.skip (St.aA (St.seq (St.block (St.sr ?_))));refine St.mv ?_;refine St.ar ?_;refine St.nn (St.sr ?_);refine St.mv ?_;refine St.mv ?_;refine St.ee (Ev.aR (k:=i) (.mk rfl) (.mk rfl) vO tt (by omega) (by omega)) ?_;refine St.ee (Ev.fL (.mk rfl) WU fb trivial rfl) ?_;refine St.mv ?_;refine St.ee (Ev.aR (k:=a) (.mk rfl) (.mk rfl) fb q9 (by omega) (by rw[mH];omega)) ?_;refine St.ee (Ev.fL (.mk rfl) (nw (show a<(ts.map bh).length by omega)) uP trivial rfl) ?_;refine St.mv ?_;refine St.gt _ rfl rfl (fun hg=>Ev.move (.mk rfl)) rfl ?_;refine St.gt _ rfl rfl (fun hg=>Ev.move (.mk rfl)) rfl ?_;refine St.gt _ rfl rfl (fun hg=>Ev.aR (k:=i) (aL.gv rfl hg) (aL.gv rfl hg) vO tt (by first|omega|(simp only[aC]at hg;omega)) (by omega)) rfl ?_;refine St.gt _ rfl rfl (fun hg=>Ev.fL (aL.gv rfl hg) WU fb trivial rfl) rfl ?_;refine St.gt _ rfl rfl (fun hg=>Ev.move (.mk rfl)) rfl ?_;refine St.gt _ rfl rfl (fun hg=>Ev.aR (k:=b) (aL.gv rfl hg) (aL.gv rfl hg) fb q9 (by first|omega|(simp only[aC]at hg;omega)) (by rw[mH];omega)) rfl ?_;refine St.gt _ rfl rfl (fun hg=>Ev.fL (aL.gv rfl hg) (nw (show b<(ts.map bh).length by omega)) uP trivial rfl) rfl ?_;refine St.ee Ev.n0 ?_;refine St.nn ?_;refine St.cond _ rfl (fun h67=> ?_) (fun h67=> ?_)
     ·skip
      have hc:IA (ts.map bh) a b i=true:=h67
      refine St.sr ?_;refine St.mv ?_;refine St.ee Ev.dz ?_;refine St.nn ?_;refine St.cond _ rfl (fun H5=> ?_) (fun H5=> ?_)
      ·try simp only[aC]at H5
       have he:=IB H5
       refine St.rg ?_;refine St.mv ?_;refine St.ar ?_;refine St.nil (St.aO (St.aA (St.rg ?_)));refine St.ee Ev.a0 ?_;refine St.mv ?_;refine St.nn ?_;refine St.slot 9 (iv (nO (ts.map bh) a b (i+1))) rfl (congrArg iv (LI hc he).symm) ?_;refine St.aH (i+1) ⟨by omega,by rw[nu hc,he];exact fun x hx=>by cases hx⟩
      ·try simp only[aC]at H5
       obtain⟨m,r,he,hlm,hmi⟩:=IC (show ¬nO (ts.map bh) a b i<0 by omega);refine St.sr ?_;refine St.mv ?_;refine St.mv ?_;refine St.ee (Ev.aR (k:=i) (.mk rfl) (.mk rfl) vO tt (by omega) (by omega)) ?_;refine St.ee (Ev.fL (.mk rfl) WU fb trivial rfl) ?_;refine St.mv ?_;refine St.ee (Ev.aR (k:=m) (.mk rfl) (.mk rfl) fb q9 (by omega) (by rw[mH];omega)) ?_;refine St.ee (Ev.fL (.mk rfl) (nw (show m<(ts.map bh).length by omega)) uP trivial rfl) ?_;refine St.ee (Ev.not (.mk rfl)) ?_;refine St.nn ?_;refine St.cond _ rfl (fun zH=> ?_) (fun zH=> ?_)
       ·skip
        have hs:dx (ts.map bh) i m=false:=by simpa using zH
        have hw:=ER hc (show i<(ts.map bh).length by omega) he hs
        have od:=z8 (T:=(ts.map bh)) (show b<(ts.map bh).length by omega) (show a<b by omega) hw Ag
        refine St.sr ?_;refine St.mv ?_;refine St.ar ?_;refine St.nn (St.ab (St.aN (St.aB (St.aB (St.aN (St.aN (St.aB (St.aB (St.aN (St.aN (St.aB (St.aB (St.aN (St.aB ?_))))))))))))));refine St.rU [_] [] Tryz.results74 ?_;exact congrArg iv (by unfold LK;rw[od])
       ·skip
        have hs:dx (ts.map bh) i m=true:=by simpa using zH
        refine St.skip (St.aO (St.aA (St.rg ?_)));refine St.ee Ev.a0 ?_;refine St.mv ?_;refine St.nn ?_;refine St.slot 9 (iv (nO (ts.map bh) a b (i+1))) rfl (congrArg iv ((LJ hc he).trans hlm.symm).symm) ?_;refine St.aH (i+1) ⟨by omega,by rw[nu hc,he];rw[he]at q8;exact fun x hx=>by rcases List.mem_append.1 hx with hx|hx;exact q8 x hx;rw[List.mem_singleton.1 hx];exact hs⟩
     ·skip
      have hc:IA (ts.map bh) a b i=false:=by simpa[IA]using h67
      refine St.skip (St.aO (St.aA (St.rg ?_)));refine St.ee Ev.a0 ?_;refine St.mv ?_;refine St.nn ?_;refine St.slot 9 (iv (nO (ts.map bh) a b (i+1))) rfl (congrArg iv (ID hc).symm) ?_;refine St.aH (i+1) ⟨by omega,by rw[Bl hc];exact q8⟩
    ·try simp only[aC]at G7
     rw[show i=ts.length by omega]at q8;refine St.exit (St.aI (St.aI (St.bM (St.aO (St.aA (St.rg ?_))))));refine St.ee Ev.a0 ?_;refine St.mv ?_;refine St.nn ?_;refine St.aH (a+1) ⟨by omega,fun c hc=>by rcases Nat.lt_or_ge c a with h|h;exact oH c h;rw[show c=a by omega];exact Bm (by rw[rf];exact q8)⟩
   ·try simp only[aC]at mV
    rw[show a=b by omega]at oH;refine St.exit (St.aI (St.aI (St.bM (St.aO (St.aA (St.rg ?_))))));refine St.ee Ev.a0 ?_;refine St.mv ?_;refine St.nn ?_;refine St.aH (b+1) ⟨by omega,fun c hc=>by rcases Nat.lt_or_ge c b with h|h;exact Ag c h;rw[show c=b by omega];exact pU oH⟩
  ·try simp only[aC]at Kc
   have od:kP (ts.map bh)=none:=zA (fun c hc=>Ag c (by omega))
   refine St.exit (St.aI (St.aI (St.bM (St.aA (St.sr ?_)))));refine St.ar ?_;refine St.nn (St.ab ?_);refine St.rU [_] [] Tryz.results74 ?_;exact congrArg iv (by unfold LK;rw[od])
theorem LM {T:List dZ}(h:0≤LK T):∃b:Nat,kP T=some b∧LK T=b:=by
 unfold LK at h⊢
 cases e:kP T with
 |none=>rw[e]at h;exact absurd h (by decide)
 |some b=>exact⟨b,rfl,rfl⟩
theorem LN {T:List dZ}(h:¬0≤LK T):kP T=none:=by
 unfold LK at h
 cases e:kP T with
 |none=>rfl
 |some b=>rw[e]at h;exact absurd (show(0:Int)≤b by omega) h
set_option maxHeartbeats 2000000 in
theorem Bn (tv xv:cm)(ts:List ja)(fs:List eC):cz Tryz.prog 35 #[.agg #[tv.1,xv.1]] [sl du tv.1 ts,aX ek ts,sl bx xv.1 fs] (fv (fP (ts.map bh) (fs.map dL))):=by
 refine cz.Ez (args:=[.agg #[tv.1,xv.1]]) 87 Tryz.func35 rfl Tryz.ntmps35 rfl (fun c=> ?_);refine St.seq ?_
 have rf:(ts.map bh).length=ts.length:=List.length_map ..
 have E1:(fs.map dL).length=fs.length:=List.length_map ..
 refine St.wf tv.1 (fun pR Da=> ?_);refine St.wf xv.1 (fun Rm Xw=> ?_);refine St.rg ?_;refine St.cX (.mk rfl) rfl (fun b1=> ?_);refine St.alloc dC rfl (fun b2=> ?_);refine St.nn (St.seq (St.sr ?_));refine St.ee (Ev.aD (.mk rfl) jK) ?_;refine St.ee (Ev.l0 (.mk rfl) ib) ?_;refine St.ee (Ev.au (.mk rfl) ib) ?_;refine St.ee Ev.s5 ?_;refine St.nn ?_;refine St.cond _ rfl (fun PS=> ?_) (fun PS=> ?_)
 ·try simp only[aC]at PS
  have hf:fP (ts.map bh) (fs.map dL)=(2,-1):=vb (by omega)
  refine St.sr ?_;refine St.ee (Ev.build (ps:=[(0,(.const (.int .i64 2))),(1,(.const (.int .i64 (-1))))]) (aV.cons (aL.mk rfl) (aV.cons (aL.mk rfl) aV.nil)) (fun w=>bO rfl rfl w)) ?_;refine St.sA (.mk rfl) (.mk rfl) bC ?_;refine St.nn (St.ab (St.aB ?_));refine St.rU [_] [] Tryz.results35 ?_;exact congrArg fv hf.symm
 ·try simp only[aC]at PS
  have rF:¬40<(fs.map dL).length:=by omega
  refine St.skip (St.aA (St.seq (St.sr ?_)));refine St.ee (Ev.aD (.mk rfl) fX) ?_;refine St.ee (Ev.l0 (.mk rfl) eT) ?_;refine St.ee (Ev.call (zp tv.1 ts) aa8 (.cons (.mk rfl) .nil)) ?_;refine St.alloc dC rfl (fun b3=> ?_);refine St.sA (.mk rfl) (.mk rfl) bC ?_;refine St.nn (St.sr ?_);refine St.ee (Ev.aD (.mk rfl) cb) ?_;refine St.ee (Ev.l0 (.mk rfl) bP) ?_;refine St.ee Ev.jj ?_;refine St.nn ?_;refine St.cond _ rfl (fun gP=> ?_) (fun gP=> ?_)
  ·skip
   have hb:(q7 (ts.map bh)).1≠0:=by simpa using gP
   refine St.sr ?_;refine St.ee (Ev.bH (.mk rfl) gF trivial (by exact bC)) ?_;refine St.sA (.mk rfl) (.mk rfl) bC ?_;refine St.nn (St.ab (St.aB ?_));refine St.rU [_] [] Tryz.results35 ?_;exact congrArg fv (zB rF hb).symm
  ·skip
   have hb:¬(q7 (ts.map bh)).1≠0:=by simpa using gP
   have hT:=(B1 (Decidable.not_not.1 hb)).2.2
   have uh:=hT.len
   refine St.skip (St.aA (St.seq (St.sr ?_)));refine St.ee (Ev.aD (.mk rfl) fX) ?_;refine St.ee (Ev.l0 (.mk rfl) eT) ?_;refine St.ee (Ev.call (zq tv.1 ts hT) aa9 (.cons (.mk rfl) .nil)) ?_;refine St.ar ?_;refine St.nn (St.sr ?_);refine St.mv ?_;refine St.ee Ev.ra ?_;refine St.nn ?_;refine St.cond _ rfl (fun oJ=> ?_) (fun oJ=> ?_)
   ·try simp only[aC]at oJ
    obtain⟨ub,hub,hue⟩:=LM oJ
    have hf:=zC (Fs:=fs.map dL) rF hb hub
    refine St.sr ?_;refine St.mv ?_;refine St.ee (Ev.build (ps:=[(0,(.const (.int .i64 16))),(1,(.tmp 26))]) (aV.cons (aL.mk rfl) (aV.cons (aL.mk rfl) aV.nil)) (fun w=>bO rfl rfl w)) ?_;refine St.sA (.mk rfl) (.mk rfl) bC ?_;refine St.nn (St.ab (St.aB ?_));refine St.rU [_] [] Tryz.results35 ?_
    rw[hf,hue];rfl
   ·try simp only[aC]at oJ
    have Ag:=LN (show ¬0≤LK (ts.map bh) by omega)
    have OI:=zD (Fs:=fs.map dL) rF hb Ag
    rw[rf]at OI;refine St.skip (St.aA (St.seq (St.sr ?_)));refine St.ee (Ev.aD (.mk rfl) jK) ?_;refine St.ee (Ev.l0 (.mk rfl) ib) ?_;refine St.ee (Ev.au (.mk rfl) ib) ?_;refine St.mv ?_;refine St.nn (St.block ?_);refine St.lH (ι:=Nat) (fun k T=>(31,iv k)::T) (fun k=>[ae b2 (.cells [iv 0,iv 0].toArray 42 (0,0)),ae b1 (.cells [tv.1,xv.1].toArray 25 (0,0)),aF (sl du tv.1 ts),aF (aX ek ts),aF (sl bx xv.1 fs)]) (fun k=>k≤fs.length∧fP (ts.map bh) (fs.map dL)=jE ts.length ((fs.take k).map eC.name) k ((fs.map dL).drop k)) (fun k=>fs.length-k) 0 (aE.cons 1 rfl (aE.cons 2 rfl (aE.cons 29 rfl (aE.cons 30 rfl aE.nil)))) ⟨Nat.zero_le _,OI⟩ ?_;intro k dK;obtain⟨hk,hv⟩:=dK;refine St.sr ?_;refine St.ee Ev.dz ?_;refine St.nn (St.seq ?_);refine St.cond _ rfl (fun sF=> ?_) (fun sF=> ?_)
    ·try simp only[aC]at sF
     obtain⟨t,ht⟩:=aQ (show k<fs.length by omega)
     have lg:=List.mem_of_getElem? ht
     have cQ:=rE (n:=ts.length) (l:=fs.map dL) (k:=k) (t:=dL t) (by rw[List.getElem?_map,ht];rfl) ((fs.take k).map eC.name)
     rw[←hv]at cQ
     have yu:t.name.length≤9223372036854775807:=by have:=(Rm t lg).1;simp only[hP]at this;omega
     refine St.skip (St.aA (St.seq (St.block (St.sr ?_))));refine St.mv ?_;refine St.ee (Ev.aR (k:=k) (.mk rfl) (.mk rfl) ib j8 (by omega) (by omega)) ?_;refine St.ee (Ev.fg (.mk rfl) ht yc trivial j8 en.eq) ?_;refine St.alloc vQ rfl (fun b6=> ?_);refine St.ar ?_;refine St.sA (.mk rfl) (.mk rfl) j8 ?_ (h1:=(by simp only[List.all_cons,List.all_nil,Bool.and_true,Bool.and_eq_true];exact⟨rfl,rfl,rfl⟩));refine St.nn (St.seq (St.sr ?_));refine St.ee (Ev.aD (.mk rfl) nW) ?_;refine St.ee (Ev.l0 (.mk rfl) eG) ?_;refine St.ee (Ev.call (ot t.name yu) PF (.cons (.mk rfl) .nil)) ?_;refine St.ee (Ev.not (.mk rfl)) ?_;refine St.nn ?_;refine St.cond _ rfl (fun zG=> ?_) (fun zG=> ?_)
     ·try simp only[aC]at zG
      rw[if_pos (show isName (dL t).1=false from(by simpa using zG:isName t.name=false))]at cQ;refine St.sr ?_;refine St.mv ?_;refine St.ee (Ev.build (ps:=[(0,(.const (.int .i64 10))),(1,(.tmp 40))]) (aV.cons (aL.mk rfl) (aV.cons (aL.mk rfl) aV.nil)) (fun w=>bO rfl rfl w)) ?_;refine St.sA (.mk rfl) (.mk rfl) bC ?_;refine St.nn (St.ab (St.aB (St.aN (St.aB (St.aB (St.aN (St.aB ?_)))))));refine St.rU [_] [] Tryz.results35 ?_;exact congrArg fv cQ.symm
     ·try simp only[aC]at zG
      rw[if_neg (show ¬isName (dL t).1=false from(by simpa using zG:¬isName t.name=false))]at cQ;refine St.skip (St.aA (St.seq (St.sr ?_)));refine St.ee (Ev.aD (.mk rfl) jK) ?_;refine St.ee (Ev.l0 (.mk rfl) ib) ?_;refine St.mv ?_;refine St.ee (Ev.nR (h:=k) (.mk rfl) (.mk rfl) ib j8 (by omega) (by omega)) ?_;refine St.part (Rr:=bx) (xs:=fs) xv.1 0 k (Nat.zero_le _) (by omega) ?_;refine St.fo (sl bx (ou xv.1 bx.size 0 k) (fs.take k)) [sl bx (ou xv.1 bx.size 0 k) ((fs.drop 0).take (k-0))] (fun ρ h=>by simpa using h _ (List.mem_cons_self ..)) ?_
      have uN:(fs.take k).length=k:=by rw[List.length_take];omega
      refine St.ee (Ev.au (.mk rfl) ib) ?_;refine St.mv ?_;refine St.nn (St.block ?_);refine St.lH (ι:=Nat) (fun q T=>(47,iv q)::T) (fun q=>[aF (sl bx (ou xv.1 bx.size 0 k) (fs.take k)),ae b6 (.cells [sv t.name,iv t.mm,iv t.value].toArray 116 (0,0)),ae b2 (.cells [iv 0,iv 0].toArray 42 (0,0)),ae b1 (.cells [tv.1,xv.1].toArray 25 (0,0)),aF (sl du tv.1 ts),aF (aX ek ts),aF (sl bx xv.1 fs)]) (fun q=>q≤k∧t.name∉(fs.take q).map eC.name) (fun q=>k-q) 0 (aE.cons 1 rfl (aE.cons 2 rfl (aE.cons 5 rfl (aE.cons 6 rfl (aE.cons 29 rfl (aE.cons 30 rfl (aE.cons 31 rfl (aE.cons 45 rfl (aE.cons 46 rfl aE.nil))))))))) ⟨Nat.zero_le _,by simp⟩ ?_;intro q dK;obtain⟨hq,mL⟩:=dK;refine St.sr ?_;refine St.ee Ev.dz ?_;refine St.nn (St.seq ?_);refine St.cond _ rfl (fun pc=> ?_) (fun pc=> ?_)
      ·try simp only[aC]at pc
       obtain⟨y,hy⟩:=aQ (show q<fs.length by omega);refine St.skip (St.aA (St.seq (St.block (St.sr ?_))));refine St.ee (Ev.aR (k:=q) (.mk rfl) (.mk rfl) ib j8 (by omega) (by omega)) ?_;refine St.ee (Ev.fg (.mk rfl) (po hy (show q<k by omega)) yc trivial j8 en.eq) ?_;refine St.alloc vQ rfl (fun b8=> ?_);refine St.sA (.mk rfl) (.mk rfl) j8 ?_ (h1:=(by simp only[List.all_cons,List.all_nil,Bool.and_true,Bool.and_eq_true];exact⟨rfl,rfl,rfl⟩));refine St.nn (St.sr ?_);refine St.ee (Ev.aD (.mk rfl) nW) ?_;refine St.ee (Ev.l0 (.mk rfl) eG) ?_;refine St.ee (Ev.aD (.mk rfl) nW) ?_;refine St.ee (Ev.l0 (.mk rfl) eG) ?_;refine St.ee (Ev.j1 (.mk rfl) (.mk rfl)) ?_;refine St.nn ?_;refine St.cond _ rfl (fun zh=> ?_) (fun zh=> ?_)
       ·try simp only[aC]at zh
        have ux:=mG eC.name hy (show q<k by omega)
        rw[zh]at ux;rw[if_pos (show(dL t).1∈(fs.take k).map eC.name from ux)]at cQ;refine St.sr ?_;refine St.mv ?_;refine St.ee (Ev.build (ps:=[(0,(.const (.int .i64 7))),(1,(.tmp 56))]) (aV.cons (aL.mk rfl) (aV.cons (aL.mk rfl) aV.nil)) (fun w=>bO rfl rfl w)) ?_;refine St.sA (.mk rfl) (.mk rfl) bC ?_;refine St.nn (St.ab (St.aN (St.aB (St.aB (St.aN (St.aB (St.aN (St.aB (St.aB (St.aN (St.aB ?_)))))))))));refine St.rU [_] [] Tryz.results35 ?_;exact congrArg fv cQ.symm
       ·try simp only[aC]at zh
        refine St.skip (St.aO (St.aA (St.rg ?_)));refine St.ee Ev.a0 ?_;refine St.mv ?_;refine St.nn ?_;refine St.aH (q+1) ⟨by omega,by rw[cF eC.name hy];exact u7 mL zh⟩
      ·try simp only[aC]at pc
       rw[show q=k by omega]at mL;rw[if_neg (show ¬(dL t).1∈(fs.take k).map eC.name from mL)]at cQ;refine St.exit (St.aI (St.aI (St.bM (St.aA (St.sr ?_)))));refine St.ee (Ev.aD (.mk rfl) nX) ?_;refine St.ee (Ev.l0 (.mk rfl) bP) ?_;refine St.ee Ev.dz ?_;refine St.mv ?_;refine St.gf _ rfl rfl (fun hg=>Ev.aD (.mk rfl) nX) rfl ?_;refine St.gf _ rfl rfl (fun hg=>Ev.cS (aL.gv rfl hg) bP trivial (by rfl)) rfl ?_;refine St.gf _ rfl rfl (fun hg=>Ev.aD (.mk rfl) fX) rfl ?_;refine St.gf _ rfl rfl (fun hg=>Ev.cS (aL.gv rfl hg) eT trivial (by rfl)) rfl ?_;refine St.gf _ rfl rfl (fun hg=>Ev.au (aL.gv rfl hg) eT) rfl ?_;refine St.gf _ rfl rfl (fun hg=>Ev.geq (aL.gv rfl hg) (aL.gv rfl hg)) rfl ?_;refine St.ee Ev.o0 ?_;refine St.mv ?_;refine St.gf _ rfl rfl (fun hg=>Ev.aD (.mk rfl) nY) rfl ?_;refine St.gf _ rfl rfl (fun hg=>Ev.cS (aL.gv rfl hg) bP trivial (by rfl)) rfl ?_;refine St.gf _ rfl rfl (fun hg=>Ev.lss (aL.gv rfl hg) (.mk rfl)) rfl ?_;refine St.ee Ev.o0 ?_;refine St.mv ?_;refine St.gf _ rfl rfl (fun hg=>Ev.aD (.mk rfl) nY) rfl ?_;refine St.gf _ rfl rfl (fun hg=>Ev.cS (aL.gv rfl hg) bP trivial (by rfl)) rfl ?_;refine St.gf _ rfl rfl (fun hg=>Ev.aD (.mk rfl) fX) rfl ?_;refine St.gf _ rfl rfl (fun hg=>Ev.cS (aL.gv rfl hg) eT trivial (by rfl)) rfl ?_;refine St.gf _ rfl rfl (fun hg=>Ev.au (aL.gv rfl hg) eT) rfl ?_;refine St.gf _ rfl rfl (fun hg=>Ev.geq (aL.gv rfl hg) (aL.gv rfl hg)) rfl ?_;refine St.ee Ev.o0 ?_;refine St.nn ?_;refine St.cond _ rfl (fun PT=> ?_) (fun PT=> ?_)
       ·try simp only[aC]at PT
        rw[if_pos (show(dL t).2.1<0∨(ts.length:Int)≤(dL t).2.1∨(dL t).2.2<0∨(ts.length:Int)≤(dL t).2.2 from(by omega:t.mm<0∨(ts.length:Int)≤t.mm∨t.value<0∨(ts.length:Int)≤t.value))]at cQ;refine St.sr ?_;refine St.mv ?_;refine St.ee (Ev.build (ps:=[(0,(.const (.int .i64 3))),(1,(.tmp 83))]) (aV.cons (aL.mk rfl) (aV.cons (aL.mk rfl) aV.nil)) (fun w=>bO rfl rfl w)) ?_;refine St.sA (.mk rfl) (.mk rfl) bC ?_;refine St.nn (St.ab (St.aN (St.aB (St.aB (St.aN (St.aB ?_))))));refine St.rU [_] [] Tryz.results35 ?_;exact congrArg fv cQ.symm
       ·try simp only[aC]at PT
        rw[if_neg (show ¬((dL t).2.1<0∨(ts.length:Int)≤(dL t).2.1∨(dL t).2.2<0∨(ts.length:Int)≤(dL t).2.2)from(by omega:¬(t.mm<0∨(ts.length:Int)≤t.mm∨t.value<0∨(ts.length:Int)≤t.value)))]at cQ;refine St.skip (St.aO (St.aA (St.rg ?_)));refine St.ee Ev.a0 ?_;refine St.mv ?_;refine St.nn ?_;refine St.aH (k+1) ⟨by omega,by rw[cQ,cF eC.name ht];rfl⟩
    ·try simp only[aC]at sF
     rw[tL (by rw[List.length_map];omega)]at hv;refine St.exit (St.aI (St.aI (St.bM (St.aA (St.sr ?_)))));refine St.ee (Ev.build (ps:=[]) (aV.nil) (fun w=>fB w)) ?_;refine St.sA (.mk rfl) (.mk rfl) bC ?_;refine St.nn (St.ab ?_);refine St.rU [_] [] Tryz.results35 ?_;exact congrArg fv hv.symm
end Go.Proofs.YtolmidffiegkaaaGreatDoor
namespace Go.J
open Go
section
variable {P:Program}{n:Nat}{F:Fr}{c:Ctx}{H:List bQ}{ty t e:TypeId}{x:Operand}{v:Value}{m k:Nat}{α:Type}
theorem Ev.qm {R:Rp α}{l:List α}{g:α}{dd:TypeDesc}[hr:v7 v H e R.size m (rows R l)](hx:aL F x (e9 v R.size k 0))(hg:l[k]?=some g)(ht:P.underlying t=some dd)(lb:(match dd with| .struct _| .array _ _=>True|_=>False))
 (hs:(P.info? t).map (·.size)=some R.size) (hk:k<m):Ev P n F (Mm c H) (.load t x) ty (.agg (R.cells g).toArray):= .of_run fun a w ha hw=>by
 obtain⟨ρ,hm⟩:=hw.out
 have h0:(rows R l)[k*R.size+0]?=(R.cells g)[0]?:=jn R l k 0 g hg R.pos
 have SP:0<(R.cells g).length:=by rw[R.len];exact R.pos
 rw[List.getElem?_eq_getElem SP]at h0;obtain⟨b,e1,c1,o1,_⟩:=ma (hm.row hr) (off:=0) hk h0;rw[e1]at hx
 have h4:=eZ (P:=P) (w:=w) (b:=b) (off:=k*R.size+0) (L:=R.cells g) ht lb (by rw[hs,R.len]) (fun j u hj=>by
  have DQ:j<R.size:=by rw[←R.len g];exact(List.getElem?_eq_some_iff.1 hj).1
  have hj':(rows R l)[k*R.size+j]?=some u:=by rw[jn R l k j g hg DQ,hj]
  obtain⟨b',e2,c2,o2,_⟩:=ma (hm.row hr) (off:=j) hk hj'
  rw[o1]at o2;cases o2
  simpa using c2)
 simp at hx h4
 simp[execOp,hx.eval ha,Instr.loadAt,Instr.sureAddr,h4]
theorem wF (R:Rp α):∀(l:List α) (k:Nat),(rows R l).take (k*R.size)=rows R (l.take k)
 | [],k=>by simp[rows]
 |a::l,0=>by simp[rows]
 |a::l,k+1=>by
  have e:(k+1)*R.size=(R.cells a).length+k*R.size:=by rw[R.len,Nat.add_mul];omega
  show(R.cells a++rows R l).take _=R.cells a++rows R (l.take k)
  rw[e,List.take_length_add_append,wF R l k]
theorem pq (R:Rp α)(l:List α)(a:α):(rows R (l++ [a])).take (l.length*R.size)=rows R l:=by rw[wF,List.take_left' rfl]
theorem II (R:Rp α)(l:List α)(a b:α):rows R (l++ [a,b])=rows R l++(R.cells a++R.cells b):=by simp[rows]
end
end Go.J
namespace Go.Proofs.YtolmidffiegkaaaGreatDoor
open Go Go.J
abbrev QD:Rp (cT×Nat):=⟨3,by decide,fun p=>[sv p.1.base,p.1.av.1,iv (p.2:Nat)],fun _=>True,fun _=>rfl,fun p u h=>by
 simp only[List.mem_cons,List.not_mem_nil,or_false]at h
 rcases h with rfl|rfl|rfl
 ·rfl
 ·exact p.1.av.2
 ·rfl⟩
def NC (st:List (cT×Nat)):List (dU×Nat):=st.reverse.map fun p=>(bI p.1,p.2)
theorem IJ (s0:List (cT×Nat))(p:cT×Nat):NC (s0++ [p])=(bI p.1,p.2)::NC s0:=by unfold NC;rw[List.reverse_append];rfl
theorem LO (s0:List (cT×Nat))(a b:cT)(d:Nat):NC (s0++ [(b,d),(a,d)])=[bI a,bI b].map (fun y=>(y,d))++NC s0:=by unfold NC;rw[List.reverse_append];rfl
theorem wG (m:Nat):dN [] m=decide (m=2):=by unfold dN;simp[sE,sT]
theorem Bo {b:cV}(hb:¬b=[])(m:Nat):dN b m=((decide (b=sE)||decide (b=sT))&&decide (m=0)):=by unfold dN;simp[hb]
theorem IK {y a b:cT}(h:y.args=[a,b]):(bI y).args=[bI a,bI b]:=by rw[dA,h];rfl
theorem zr (x:cT):cz Tryz.prog 122 #[aP x] [bW x] (.bool (gr (bI x))):=by
 refine cz.iL (args:=[aP x]) 12 Tryz.func122 rfl Tryz.ntmps122 rfl (fun c=> ?_);refine St.sr ?_;refine St.cX (.mk rfl) rfl (fun b1=> ?_);refine St.ar ?_;refine St.nn (St.seq ?_);refine St.jb x ?_;refine St.rg ?_;refine St.ee (Ev.aD (.mk rfl) ij) ?_;refine St.ee (Ev.l0 (.mk rfl) eG) ?_;refine St.ee (Ev.j1 (.mk rfl) (.mk rfl)) ?_;refine St.mv ?_;refine St.gt _ rfl rfl (fun hg=>Ev.aD (.mk rfl) eY) rfl ?_;refine St.gt _ rfl rfl (fun hg=>Ev.cS (aL.gv rfl hg) dG trivial (by rfl)) rfl ?_;refine St.gt _ rfl rfl (fun hg=>Ev.au (aL.gv rfl hg) dG) rfl ?_;refine St.gt _ rfl rfl (fun hg=>Ev.eql (aL.gv rfl hg) (.mk rfl)) rfl ?_;refine St.ee Ev.n0 ?_;refine St.ar ?_;refine St.nn (St.ab ?_);refine St.rU [_] [] Tryz.results122 ?_;exact be (by rw[gr,fT,dA,List.length_map,Bool.eq_iff_iff];simp only[Bool.and_eq_true,beq_iff_eq,decide_eq_true_eq];exact⟨fun h=>⟨h.1,by have:=h.2;omega⟩,fun h=>⟨h.1,by have:=h.2;omega⟩⟩)
set_option maxHeartbeats 2000000 in
theorem y1 (x:cT):cz Tryz.prog 124 #[aP x] [bW x] (iv (jc (bI x))):=by
 refine cz.iL (args:=[aP x]) 79 Tryz.func124 rfl Tryz.ntmps124 rfl (fun c=> ?_);refine St.seq ?_;refine St.dX bW ?_;refine St.ei bW (xs:=[]) (x:=x) ?_;refine St.fo (aX bW (([(x,1)]:List (cT×Nat)).map Prod.fst)) [aX bW [x]] (fun ρ h=>h _ (List.mem_cons_self ..)) ?_;refine St.rg ?_;refine St.cX (.mk rfl) rfl (fun b1=> ?_);refine St.ar ?_;refine St.nn (St.sr ?_);refine St.ee (Ev.bH (.mk rfl) bX trivial (by exact bD)) ?_;refine St.ee (Ev.build (ps:=[(0,(.tmp 6)),(1,(.const (.int .i64 1)))]) (aV.cons (aL.mk rfl) (aV.cons (aL.mk rfl) aV.nil)) (fun w=>oq rfl w)) ?_;refine St.cn rfl (.cons (.mk rfl) .nil) r6 tu I1 rfl rfl (by simp[Value.cells]) rfl rfl (fun b8=> ?_);refine St.bB (.slice (some ⟨b8,0,none⟩) 1 1) (show _=([(x,1)]:List (cT×Nat)).length from rfl) (show _=rows QD [(x,1)]from rfl) ?_;refine St.ar ?_;refine St.nn (St.sr ?_);refine St.ar ?_;refine St.nn (St.seq (St.block ?_));refine St.my (ι:=Unit) (κ:=Value×List (cT×Nat)×Nat) (fun u z T=>(3,z.1)::(4,iv (z.2.2:Nat))::T) (fun u z=>[row z.1 214 3 (z.2.1).length (rows QD (z.2.1)),aF (aX bW ((z.2.1).map Prod.fst)),ae b1 (.cells [sv x.base,x.av.1].toArray 88 (0,0)),aF (bW x)]) (fun u z=>z.2.2≤200∧kW (NC z.2.1) z.2.2=jc (bI x)∧(∀p∈z.2.1,p.2≤41)∧z.2.1.length≤z.2.2+1) (fun u z=>201-z.2.2) () ((.slice (some ⟨b8,0,none⟩) 1 1),[(x,1)],0) (aE.nil) ⟨Nat.zero_le _,Dn (bI x),by simp,Nat.le_refl _⟩ ?_;rintro u ⟨vz,st,n⟩ ⟨hn,cQ,ND,uO⟩
 dsimp only at hn cQ ND uO⊢
 refine St.seq (St.sr ?_);refine St.mv ?_;refine St.ee (Ev.fl (.mk rfl) r6) ?_;refine St.ee Ev.s5 ?_;refine St.nn ?_;refine St.cond _ rfl (fun uS=> ?_) (fun uS=> ?_)
 ·try simp only[aC]at uS
  obtain⟨s0,p,rfl⟩:=xU (show 0<st.length by omega);obtain⟨y,d⟩:=p
  have VT:=ND (y,d) (by simp)
  replace VT:d≤41:=VT
  have Nd:(s0++ [(y,d)]).length=s0.length+1:=by rw[List.length_append];rfl
  rw[IJ]at cQ
  replace cQ:kW ((bI y,d)::NC s0) n=jc (bI x):=cQ
  refine St.cC bW ((s0++ [(y,d)]).map Prod.fst) (x:=y) (by simp) ?_;refine St.fo (aX bW (s0.map Prod.fst)) [aX bW ((s0++ [(y,d)]).map Prod.fst)] (fun ρ h z hz=>h _ (List.mem_cons_self ..) z (by rw[List.map_append];exact List.mem_append_left _ hz)) ?_;refine St.jb y ?_;refine St.skip (St.aA (St.block (St.sr ?_)));refine St.mv ?_;refine St.mv ?_;refine St.ee (Ev.fl (.mk rfl) r6) ?_;refine St.ee Ev.s0 ?_;refine St.ee (Ev.cN (k:=s0.length) (.mk rfl) (.mk rfl) r6 tu (by omega) (by omega)) ?_;refine St.ee (Ev.qm (R:=QD) (l:=s0++ [(y,d)]) (g:=(y,d)) (.mk rfl) (by simp) Tryz.underlying214 trivial tu (by omega)) ?_;refine St.alloc N7 rfl (fun b5=> ?_);refine St.sA (.mk rfl) (.mk rfl) tu ?_ (h1:=(by simp only[List.all_cons,List.all_nil,Bool.and_true,Bool.and_eq_true];exact⟨rfl,y.av.2,rfl⟩));refine St.nn (St.sr ?_);refine St.mv ?_;refine St.mv ?_;refine St.ee (Ev.fl (.mk rfl) r6) ?_;refine St.ee Ev.s0 ?_;refine St.ee (Ev.oS (h:=s0.length) (.mk rfl) (.mk rfl) r6 tu (by omega) (by omega)) ?_;refine St.Ad vz s0.length (by omega) ?_;refine St.bB (ou vz 3 0 s0.length) rfl (pq QD s0 (y,d)) ?_;refine St.ar ?_;refine St.nn (St.sr ?_);refine St.mv ?_;refine St.ee Ev.a0 ?_;refine St.slot 24 (iv ((n+1:Nat):Int)) rfl rfl ?_;refine St.ar ?_;refine St.nn (St.seq (St.sr ?_));refine St.mv ?_;refine St.ee Ev.s5 ?_;refine St.mv ?_;refine St.gf _ rfl rfl (fun hg=>Ev.aD (.mk rfl) xw) rfl ?_;refine St.gf _ rfl rfl (fun hg=>Ev.cS (aL.gv rfl hg) bP trivial (by rfl)) rfl ?_;refine St.gf _ rfl rfl (fun hg=>Ev.gtr (aL.gv rfl hg) (.mk rfl)) rfl ?_;refine St.ee Ev.o0 ?_;refine St.nn ?_;refine St.cond _ rfl (fun kE=> ?_) (fun kE=> ?_)
  ·try simp only[aC]at kE
   rw[Dp (by omega)]at cQ;refine St.sr ?_;refine St.ar ?_;refine St.nn (St.ab (St.aB (St.aN (St.aB (St.aN (St.aB ?_))))));refine St.rU [_] [] Tryz.results124 ?_;exact congrArg iv cQ
  ·try simp only[aC]at kE
   have D1:¬(200<n+1∨40<d):=by omega
   refine St.skip (St.aA (St.sr ?_));refine St.ee (Ev.aD (.mk rfl) mF) ?_;refine St.ee (Ev.wQ (.mk rfl) ij) ?_;refine St.ee (Ev.l0 (.mk rfl) eG) ?_;refine St.ee (Ev.j1 (.mk rfl) (.mk rfl)) ?_;refine St.nn ?_;refine St.cond _ rfl (fun yH=> ?_) (fun yH=> ?_)
   ·try simp only[aC]at yH
    have WV:(bI y).base=[]:=by rw[fT];exact yH
    refine St.seq (St.sr ?_);refine St.ee (Ev.aD (.mk rfl) mF) ?_;refine St.ee (Ev.wQ (.mk rfl) eY) ?_;refine St.ee (Ev.l0 (.mk rfl) dG) ?_;refine St.ee (Ev.au (.mk rfl) dG) ?_;refine St.ee Ev.jj ?_;refine St.nn ?_;refine St.cond _ rfl (fun rF=> ?_) (fun rF=> ?_)
    ·try simp only[aC]at rF
     have sD:dN (bI y).base (bI y).args.length=false:=by rw[WV,wG,dA,List.length_map];exact decide_eq_false (by omega)
     rw[vS D1 sD]at cQ;refine St.sr ?_;refine St.ar ?_;refine St.nn (St.ab (St.aB (St.aN (St.aB (St.aN (St.aB ?_))))));refine St.rU [_] [] Tryz.results124 ?_;exact congrArg iv cQ
    ·try simp only[aC]at rF
     obtain⟨a,b,rm⟩:=n8 (show y.args.length=2 by omega)
     have sD:dN (bI y).base (bI y).args.length=true:=by rw[WV,wG,dA,rm];rfl
     rw[yk D1 sD,IK rm,←LO]at cQ;refine St.cC bW y.args (x:=a) (by rw[rm];simp) ?_;refine St.cC bW y.args (x:=b) (by rw[rm];simp) ?_;refine St.fo (aX bW ((s0++ [(b,d+1),(a,d+1)]).map Prod.fst)) [aX bW (s0.map Prod.fst),bW a,bW b] (fun ρ h z hz=>by rw[List.map_append]at hz;rcases List.mem_append.1 hz with hz|hz;exact h _ (List.mem_cons_self ..) z hz;simp only[List.map_cons,List.map_nil,List.mem_cons,List.not_mem_nil,or_false]at hz;rcases hz with rfl|rfl;exact h _ (by simp);exact h _ (by simp)) ?_;refine St.skip (St.aA ?_);refine St.eK [row (ou vz 3 0 s0.length) 214 3 (s0).length (rows QD (s0))] mixed (fun np ns=> ?_);refine SW.dd 0 rfl (fun _=>Ev.move (.mk rfl)) ?_;refine SW.dd 1 rfl (fun _=>Ev.aD (.mk rfl) mF) ?_;refine SW.dd 2 rfl (fun _=>Ev.wQ (.mk rfl) eY) ?_;refine SW.dd 3 rfl (fun _=>Ev.cS (.mk rfl) dG trivial (by rfl)) ?_;refine SW.dd 4 rfl (fun _=>Ev.aR (k:=1) (.mk rfl) (.mk rfl) dG bD (by omega) (by rw[rm];simp)) ?_;refine SW.dd 5 rfl (fun _=>Ev.fg (.mk rfl) (show y.args[1]?=some b by rw[rm];rfl) bX trivial bD en.eq) ?_;refine SW.dd 6 rfl (fun _=>Ev.aD (.mk rfl) xw) ?_;refine SW.dd 7 rfl (fun _=>Ev.cS (.mk rfl) bP trivial (by rfl)) ?_;refine SW.dd 8 rfl (fun _=>Ev.a0) ?_;refine SW.slot 49 (iv ((d+1:Nat):Int)) rfl rfl ?_;refine SW.dd 9 rfl (fun _=>Ev.build (ps:=[(0,(.tmp 46)),(1,(.tmp 49))]) (aV.cons (aL.mk rfl) (aV.cons (aL.mk rfl) aV.nil)) (fun w=>oq rfl w)) ?_;refine SW.dd 10 rfl (fun _=>Ev.aD (.mk rfl) mF) ?_;refine SW.dd 11 rfl (fun _=>Ev.wQ (.mk rfl) eY) ?_;refine SW.dd 12 rfl (fun _=>Ev.cS (.mk rfl) dG trivial (by rfl)) ?_;refine SW.dd 13 rfl (fun _=>Ev.aR (k:=0) (.mk rfl) (.mk rfl) dG bD (by omega) (by rw[rm];simp)) ?_;refine SW.dd 14 rfl (fun _=>Ev.fg (.mk rfl) (show y.args[0]?=some a by rw[rm];rfl) bX trivial bD en.eq) ?_;refine SW.dd 15 rfl (fun _=>Ev.aD (.mk rfl) xw) ?_;refine SW.dd 16 rfl (fun _=>Ev.cS (.mk rfl) bP trivial (by rfl)) ?_;refine SW.dd 17 rfl (fun _=>Ev.a0) ?_;refine SW.slot 58 (iv ((d+1:Nat):Int)) rfl rfl ?_;refine SW.dd 18 rfl (fun _=>Ev.build (ps:=[(0,(.tmp 55)),(1,(.tmp 58))]) (aV.cons (aL.mk rfl) (aV.cons (aL.mk rfl) aV.nil)) (fun w=>oq rfl w)) ?_;refine SW.bG (i:=19) (by kernel_rfl) rfl ?_;refine St.cn rfl (.cons (.mk rfl) (.cons (.mk rfl) .nil)) r6 tu I1 rfl rfl (by simp[Value.cells]) rfl rfl (fun b60=> ?_);refine St.nn ?_;refine SW.go ?_;refine SW.bG (i:=20) (by kernel_rfl) rfl ?_;refine St.cL (.mk rfl) (.mk rfl) r6 tu I1 V3 (fun u hu=>by simp only[List.flatMap_cons,List.flatMap_nil,Value.cells,List.mem_append,List.mem_cons,List.not_mem_nil,or_false]at hu;rcases hu with(rfl|rfl|rfl)|(rfl|rfl|rfl);rfl;exact b.av.2;rfl;rfl;exact a.av.2;rfl) (by omega) (by omega) rfl rfl rfl rfl (fun Z1 adN=> ?_);refine St.bB Z1 (show _=(s0++ [(b,d+1),(a,d+1)]).length by rw[List.length_append];rfl) (show _=rows QD (s0++ [(b,d+1),(a,d+1)]) by rw[II];rfl) ?_;refine St.nn ?_;refine SW.go ?_;refine SW.dd 21 rfl (fun _=>Ev.assign (.mk rfl)) ?_;refine SW.done (by kernel_rfl) ?_;refine St.aO (St.aA ?_);refine St.ji () (Z1,s0++ [(b,d+1),(a,d+1)],n+1) ⟨by dsimp only;omega,cQ,fun p hp=>by rcases List.mem_append.1 hp with hp|hp;exact ND p (List.mem_append_left _ hp);simp only[List.mem_cons,List.not_mem_nil,or_false]at hp;rcases hp with rfl|rfl;show d+1≤41;omega;show d+1≤41;omega,by dsimp only;rw[List.length_append];simp only[List.length_cons,List.length_nil];omega⟩
   ·try simp only[aC]at yH
    have WV:¬(bI y).base=[]:=by rw[fT];exact yH
    have PU:=Bo WV (bI y).args.length
    rw[fT,dA,List.length_map]at PU;refine St.sr ?_;refine St.ee (Ev.aD (.mk rfl) mF) ?_;refine St.ee (Ev.wQ (.mk rfl) ij) ?_;refine St.ee (Ev.l0 (.mk rfl) eG) ?_;refine St.ee (Ev.oz (.mk rfl) (.mk rfl)) ?_;refine St.mv ?_;refine St.gt _ rfl rfl (fun hg=>Ev.aD (.mk rfl) mF) rfl ?_;refine St.gt _ rfl rfl (fun hg=>Ev.wQ (aL.gv rfl hg) ij) rfl ?_;refine St.gt _ rfl rfl (fun hg=>Ev.cS (aL.gv rfl hg) eG trivial (by rfl)) rfl ?_;refine St.gt _ rfl rfl (fun hg=>Ev.oz (aL.gv rfl hg) (.mk rfl)) rfl ?_;refine St.ee Ev.n0 ?_;refine St.mv ?_;refine St.gf _ rfl rfl (fun hg=>Ev.aD (.mk rfl) mF) rfl ?_;refine St.gf _ rfl rfl (fun hg=>Ev.wQ (aL.gv rfl hg) eY) rfl ?_;refine St.gf _ rfl rfl (fun hg=>Ev.cS (aL.gv rfl hg) dG trivial (by rfl)) rfl ?_;refine St.gf _ rfl rfl (fun hg=>Ev.au (aL.gv rfl hg) dG) rfl ?_;refine St.gf _ rfl rfl (fun hg=>Ev.neq (aL.gv rfl hg) (.mk rfl)) rfl ?_;refine St.ee Ev.o0 ?_;refine St.nn ?_;refine St.cond _ rfl (fun zH=> ?_) (fun zH=> ?_)
    ·try simp only[aC]at zH
     have sD:dN (bI y).base (bI y).args.length=false:=by rw[fT,dA,List.length_map,PU,Bool.and_eq_false_iff,Bool.or_eq_false_iff,decide_eq_false_iff_not,decide_eq_false_iff_not,decide_eq_false_iff_not];rcases zH with h|h;left;exact h;right;omega
     rw[vS D1 sD]at cQ;refine St.sr ?_;refine St.ar ?_;refine St.nn (St.ab (St.aN (St.aB (St.aN (St.aB ?_)))));refine St.rU [_] [] Tryz.results124 ?_;exact congrArg iv cQ
    ·try simp only[aC]at zH
     have Rj:y.args.length=0:=by omega
     have sD:dN (bI y).base (bI y).args.length=true:=by rw[fT,dA,List.length_map,PU,Bool.and_eq_true,Bool.or_eq_true,decide_eq_true_eq,decide_eq_true_eq,decide_eq_true_eq];refine⟨?_,Rj⟩;rcases zH.1 with h|h;left;exact h;right;exact h
     rw[yk D1 sD,dA,List.eq_nil_of_length_eq_zero Rj]at cQ;refine St.skip (St.aO (St.aA ?_));refine St.ji () (ou vz 3 0 s0.length,s0,n+1) ⟨by dsimp only;omega,cQ,fun p hp=>ND p (List.mem_append_left _ hp),by dsimp only;omega⟩
 ·try simp only[aC]at uS
  obtain rfl:st=[]:=List.eq_nil_of_length_eq_zero (by omega);refine St.exit (St.aI (St.aI (St.bM (St.aA (St.sr ?_)))));refine St.ar ?_;refine St.nn (St.ab ?_);refine St.rU [_] [] Tryz.results124 ?_;exact congrArg iv cQ
theorem gO.cases {x:cT}(h:gO (bI x)):((x.base=sE∨x.base=sT)∧yF (bI x)=x.base)∨(x.base=[]∧∃a b,x.args=[a,b]∧gO (bI a)∧gO (bI b)∧yF (bI x)=[40]++yF (bI a)++ [32]++yF (bI b)++ [41]∧r9 (bI x)=r9 (bI a)+r9 (bI b)+1):=by
 obtain⟨bs,av,args⟩:=x;rw[iy]at h⊢
 cases args with
 |nil=>
  cases h with
  |leaf hb=>left;exact⟨hb,by rcases hb with rfl|rfl<;>rfl⟩
 |cons a l=>
  cases l with
  |nil=>cases h
  |cons b l=>
   cases l with
   |nil=>
    cases h with
    |fn h1 h2=>right;exact⟨rfl,a,b,rfl,h1,h2,rfl,by simp only[List.map_cons,List.map_nil,r9,xI];omega⟩
   |cons c l=>cases h
set_option maxHeartbeats 1000000 in
theorem pr:∀(x:cT),gO (bI x)→r9 (bI x)≤1000000000→cz Tryz.prog 147 #[aP x] [bW x] (sv (yF (bI x))):=by
 intro x
 induction x using cT.ind
 rename_i x ih
 intro q8 fD;refine cz.iL (args:=[aP x]) 22 Tryz.func147 rfl Tryz.ntmps147 rfl (fun c=> ?_);refine St.seq ?_;refine St.jb x ?_
 have Da:=xM q8
 refine St.rg ?_;refine St.cX (.mk rfl) rfl (fun b1=> ?_);refine St.ar ?_;refine St.nn (St.seq (St.sr ?_));refine St.ee (Ev.aD (.mk rfl) ij) ?_;refine St.ee (Ev.l0 (.mk rfl) eG) ?_;refine St.ee (Ev.oz (.mk rfl) (.mk rfl)) ?_;refine St.nn ?_;refine St.cond _ rfl (fun h5=> ?_) (fun h5=> ?_)
 ·try simp only[aC]at h5
  rcases q8.cases with⟨hb,ht⟩|⟨hb,_⟩
  rotate_left
  exact absurd hb h5;refine St.sr ?_;refine St.ee (Ev.aD (.mk rfl) ij) ?_;refine St.ee (Ev.l0 (.mk rfl) eG) ?_;refine St.ar ?_;refine St.nn (St.ab (St.aB ?_));refine St.rU [_] [] Tryz.results147 ?_;exact congrArg sv ht.symm
 ·try simp only[aC]at h5
  rcases q8.cases with⟨hb,_⟩|⟨hb,a,b,rm,ha,Ek,ht,adO⟩
  exact absurd h5 (by rcases hb with h|h<;>rw[h]<;>decide)
  have OU:=xM ha
  have htb:=xM Ek
  refine St.cC bW x.args (x:=a) (by rw[rm];simp) ?_;refine St.cC bW x.args (x:=b) (by rw[rm];simp) ?_
  have iha:=ih a (by rw[rm];simp) ha (by omega)
  have ihb:=ih b (by rw[rm];simp) Ek (by omega)
  refine St.skip (St.aA (St.seq ?_));refine St.rq mixed (by kernel_rfl) (Mm.drawn _ _) ?_;refine Sq.ee (Ev.aD (.mk rfl) eY) ?_;refine Sq.ee (Ev.l0 (.mk rfl) dG) ?_;refine Sq.ee (Ev.aR (k:=0) (.mk rfl) (.mk rfl) dG bD (by omega) (by rw[rm];simp)) ?_;refine Sq.ee (Ev.fg (.mk rfl) (show x.args[0]?=some a by rw[rm];rfl) bX trivial bD en.eq) ?_;refine Sq.ee (Ev.call iha Cw (.cons (.mk rfl) .nil)) ?_;refine Sq.ee (Ev.ll (.mk rfl) (.mk rfl) (by simp;omega)) ?_;refine Sq.ee (Ev.ll (.mk rfl) (.mk rfl) (by simp;omega)) ?_;refine Sq.ee (Ev.aD (.mk rfl) eY) ?_;refine Sq.ee (Ev.l0 (.mk rfl) dG) ?_;refine Sq.ee (Ev.aR (k:=1) (.mk rfl) (.mk rfl) dG bD (by omega) (by rw[rm];simp)) ?_;refine Sq.ee (Ev.fg (.mk rfl) (show x.args[1]?=some b by rw[rm];rfl) bX trivial bD en.eq) ?_;refine Sq.ee (Ev.call ihb Cw (.cons (.mk rfl) .nil)) ?_;refine Sq.ee (Ev.ll (.mk rfl) (.mk rfl) (by simp;omega)) ?_;refine Sq.ee (Ev.ll (.mk rfl) (.mk rfl) (by simp;omega)) ?_;refine Sq.ee (Ev.assign (.mk rfl)) ?_;refine Sq.nil ?_;refine St.aA (St.ab ?_);refine St.rU [_] [] Tryz.results147 ?_;exact congrArg sv (by rw[ht])
theorem Bp (x y:cT)(hx:gO (bI x))(hy:gO (bI y))(h1:r9 (bI x)≤1000000000)(h2:r9 (bI y)≤1000000000):cz Tryz.prog 143 #[aP x,aP y] [bW x,bW y] (.bool (fZ (bI x) (bI y))):=by
 refine cz.o7 (args:=[aP x,aP y]) 10 Tryz.func143 rfl Tryz.ntmps143 rfl (fun c=> ?_);refine St.sr ?_;refine St.cX (.mk rfl) rfl (fun b2=> ?_);refine St.cX (.mk rfl) rfl (fun b3=> ?_);refine St.ar ?_;refine St.nn (St.seq ?_);refine St.rq mixed (by kernel_rfl) (Mm.drawn _ _) ?_;refine Sq.ee (Ev.bH (.mk rfl) bX trivial (by exact bD)) ?_;refine Sq.ee (Ev.call (pr x hx h1) Cw (.cons (.mk rfl) .nil)) ?_;refine Sq.ee (Ev.bH (.mk rfl) bX trivial (by exact bD)) ?_;refine Sq.ee (Ev.call (pr y hy h2) Cw (.cons (.mk rfl) .nil)) ?_;refine Sq.ee (Ev.j1 (.mk rfl) (.mk rfl)) ?_;refine Sq.ee (Ev.assign (.mk rfl)) ?_;refine Sq.nil ?_;refine St.aA (St.ab ?_);refine St.rU [_] [] Tryz.results143 ?_;exact be (G6 hx hy)
theorem LP (u1 u2:Value)(s1 s2:dU):fC Tryz.prog 142 #[u1,u2] ([aw s1 u1,aw s2 u2].map aF) (fun v H'=>H'=[aF (aw (.mk [] [s1,s2]) v)]):=by
 refine fC.body (args:=[u1,u2]) 9 Tryz.func142 rfl Tryz.ntmps142 rfl (fun c=> ?_);refine St.cast (H':=[aF (aw s1 u1),aF (aw s2 u2)]) rfl ?_;refine St.seq ?_;refine St.aw s1 u1 (fun x hx=> ?_);obtain⟨rfl,rfl,lX⟩:=hx;refine St.aw s2 u2 (fun y hy=> ?_);obtain⟨rfl,rfl,Jv⟩:=hy;refine St.rg ?_;refine St.cX (.mk rfl) rfl (fun b2=> ?_);refine St.cX (.mk rfl) rfl (fun b3=> ?_);refine St.alloc iA rfl (fun b4=> ?_);refine St.nn (St.sr ?_);refine St.ee (Ev.bH (.mk rfl) bX trivial (by exact bD)) ?_;refine St.ee (Ev.bH (.mk rfl) bX trivial (by exact bD)) ?_;refine St.cn rfl (.cons (.mk rfl) (.cons (.mk rfl) .nil)) dG bD Df rfl rfl (by simp[Value.cells]) rfl rfl (fun b7=> ?_);refine St.aU (.slice (some ⟨b7,0,none⟩) 2 2) gT [x,y] rfl rfl (tA lX Jv) ?_;refine St.dX bW ?_;refine St.ei bW (xs:=[]) (x:=y) ?_;refine St.ei bW (xs:=[y]) (x:=x) ?_;refine St.mM [] (.slice (some ⟨b7,0,none⟩) 2 2) rfl [x,y] ?_;refine St.ee (Ev.build (ps:=[(1,(.tmp 7))]) (aV.cons (aL.mk rfl) aV.nil) (fun w=>xH rfl w)) ?_;refine St.sA (.mk rfl) (.mk rfl) bD ?_;refine St.nn (St.ab ?_);refine St.ya (.mk [] ⟨(.slice (some ⟨b7,0,none⟩) 2 2),rfl⟩ [x,y]) (s:= .mk [] [bI x,bI y]) (aP (.mk [] ⟨(.slice (some ⟨b7,0,none⟩) 2 2),rfl⟩ [x,y])) rfl (iy _ _ _) (Nat.zero_le _) ?_;refine St.rT [_] [aF (aw (.mk [] [bI x,bI y]) (aP (.mk [] ⟨(.slice (some ⟨b7,0,none⟩) 2 2),rfl⟩ [x,y])))] Tryz.results142 ⟨⟨_,_,_,_,rfl,jm.mem,.inl ⟨⟨_,bX⟩,bD,rfl⟩⟩,trivial⟩ ?_;rfl
end Go.Proofs.YtolmidffiegkaaaGreatDoor
namespace Go.J
open Go
section
variable {P:Program}{n:Nat}{F:Fr}{c:Ctx}{A:World→Prop}{H R:List bQ}{ty t:TypeId}{x lo hi:Operand}{s:cV}{Q:Exit→Act→World→Prop}{ops:Array Oper}{rest:List Oper}{d:Nat}{pos:String}{after:Array Edge}
theorem zt (s:cV)(l h:Nat):Value.string ((⟨s.toArray⟩:ByteArray).extract l h)=sv ((s.take h).drop l):=by
 unfold sv
 congr 1
 apply ByteArray.ext
 simp[ByteArray.data_extract,List.drop_take]
theorem pt (s:cV):(⟨s.toArray⟩:ByteArray).size=s.length:=by simp[ByteArray.size]
theorem Ev.LQ {i:Int}{k:IntKind}{l:Nat}(hx:aL F x (sv s))(Ej:aL F lo (.int k i))(ht:P.underlying t=some .string)(hi:i=l)(hl:l≤s.length):Ev P n F A (.slice t x (some lo) none none) ty (sv (s.drop l)):= .of_run fun a w ha _=>by
 subst hi
 have:=run_slice_string_l (P:=P) w t ⟨s.toArray⟩ ht k l (by omega) (by rw[pt];omega)
 rw[Int.toNat_natCast,zt,pt,List.take_length]at this
 simp only[sv]at this⊢
 simp[execOp,hx.eval ha,Ej.eval ha,Instr.sliceAt,run_underlying ht,this,sv]
theorem St.IL (hx:aL F x (sv s))(ht:P.underlying t=some .string)(hd:Nat.ble (d+1) n=true)
 (h:∀b,St n ((d,.pointer (some ⟨b,0,none⟩))::F) (Mm c (ae b (.stringIter ⟨s.toArray⟩ 0)::H)) (wpList P ops Q rest)):
 St n F (Mm c H) (wpList P ops Q ({dst:=some d,op:= .range t x,type:=ty,pos:=pos,after:=after,guard:=none}::rest)):=by
 refine St.Eg (K:=fun u H'=>∃b,u= .pointer (some ⟨b,0,none⟩)∧H'=ae b (.stringIter ⟨s.toArray⟩ 0)::H) ?_ hd ?_
 ·intro a w ρ ha hm
  have hr:=run_range_string (P:=P) w t ⟨s.toArray⟩ ht
  exact⟨.value (.pointer (some ⟨w.heap.size,0,none⟩)),w.alloc (.stringIter ⟨s.toArray⟩ 0),ρ,_,by simp[execOp,hx.eval ha,sv,hr,World.iter],⟨_,.inl rfl,_,rfl,rfl⟩,hm.alloc _⟩
 ·rintro _ _ ⟨b,rfl,rfl⟩
  exact h b
theorem St.LR {b p:Nat}[tk:lK b H (.stringIter ⟨s.toArray⟩ p) R](hx:aL F x (.pointer (some ⟨b,0,none⟩)))(hd:Nat.ble (d+1) n=true)
 (h:∀u,(p<s.length→u= .tuple #[.bool true,iv (p:Nat),.int .i32 ((Utf8.decode ⟨s.toArray⟩ p).1:Nat)])→(¬p<s.length→u= .tuple #[.bool false])→
  St n ((d,u)::F) (Mm c (ae b (.stringIter ⟨s.toArray⟩ (p+if p<s.length then(Utf8.decode ⟨s.toArray⟩ p).2 else 0))::R)) (wpList P ops Q rest)):
 St n F (Mm c H) (wpList P ops Q ({dst:=some d,op:= .next x true,type:=ty,pos:=pos,after:=after,guard:=none}::rest)):=by
 refine St.Eg (K:=fun u H'=>(p<s.length→u= .tuple #[.bool true,iv (p:Nat),.int .i32 ((Utf8.decode ⟨s.toArray⟩ p).1:Nat)])∧(¬p<s.length→u= .tuple #[.bool false])∧H'=ae b (.stringIter ⟨s.toArray⟩ (p+if p<s.length then(Utf8.decode ⟨s.toArray⟩ p).2 else 0))::R) ?_ hd ?_
 ·intro a w ρ ha JK
  have hm:=JK.perm tk.perm
  have hg:=eO.1 (hm.dF _ (List.mem_cons_self ..))
  have hb:=(Array.getElem?_eq_some_iff.1 hg).1
  by_cases hp:p<s.length
  ·have WW:p<(⟨s.toArray⟩:ByteArray).size:=by rw[pt];exact hp
   refine⟨.value (.tuple #[.bool true,iv (p:Nat),.int .i32 ((Utf8.decode ⟨s.toArray⟩ p).1:Nat)]),{w with heap:=w.heap.setIfInBounds b (.stringIter ⟨s.toArray⟩ (p+(Utf8.decode ⟨s.toArray⟩ p).2))},ρ,_,?_,⟨_,.inl rfl,fun _=>rfl,fun h=>absurd hp h,rfl⟩,?_⟩
   ·simp only[execOp,hx.eval ha,Instr.next,getObj,setObj,Sem.run_bind,Sem.run,hg,Result.andThen,WW,if_true]
    simp[goInt,iv,Sem.run,hg,hb]
   ·rw[if_pos hp]
    refine hm.alter rfl ⟨rfl,Nat.le_refl _⟩ rfl (by simp) (fun k hk fj=> ?_) (eO.2 ?_) (fun b' iu=>by rw[fK]at iu⊢;exact .inl iu)
    ·rw[fK]at fj
     have:b≠k:=fun e=>fj (by rw[e])
     simp[Array.getElem?_setIfInBounds,this]
    ·simp[Array.getElem?_setIfInBounds,hb]
  ·have WW:¬p<(⟨s.toArray⟩:ByteArray).size:=by rw[pt];exact hp
   refine⟨.value (.tuple #[.bool false]),w,ρ,_,?_,⟨_,.inl rfl,fun h=>absurd h hp,fun _=>rfl,rfl⟩,?_⟩
   ·simp[execOp,hx.eval ha,Instr.next,getObj,Sem.run,hg,WW]
   ·rw[if_neg hp,Nat.add_zero];exact hm
 ·rintro u _ ⟨h1,h2,rfl⟩
  exact h u h1 h2
theorem Ev.IM {p:Nat}{u:Value}{tp:Value}{cs:Value}(hx:aL F x u)(h1:p<s.length→u= .tuple #[.bool true,tp,cs])(h2:¬p<s.length→u= .tuple #[.bool false]):Ev P n F A (.extract x 0) ty (.bool (decide (p<s.length))):=by
 by_cases hp:p<s.length
 ·rw[h1 hp]at hx;rw[decide_eq_true hp];exact Ev.extract hx rfl
 ·rw[h2 hp]at hx;rw[decide_eq_false hp];exact Ev.extract hx rfl
end
end Go.J
namespace Go.Proofs.YtolmidffiegkaaaGreatDoor
open Go Go.J
open Go.Lib
def ET (s:cV):Nat:=if hN (bt s 0)then 0 else if(List.range (more (bt s 0))).all (dW s 0)then more (bt s 0)+1 else 0
theorem LS {s:cV}(h:hN (bt s 0)=true):ET s=0:=by unfold ET;rw[if_pos h]
theorem u9 {s:cV}{k:Nat}(hk:k<more (bt s 0))(h:dW s 0 k=false):ET s=0:=by
 unfold ET
 split
 ·rfl
 ·rw[if_neg]
  rw[List.all_eq_true]
  intro hh;rw[hh k (List.mem_range.2 hk)]at h;cases h
theorem LU {s:cV}(h:bt s 0<128):ET s=1:=by
 have hm:=nT (bt s 0)
 have h0:more (bt s 0)=0:=by omega
 unfold ET
 rw[if_neg (by unfold hN;simp;omega),h0];rfl
theorem PV {s:cV}{m:Nat}(hm:more (bt s 0)=m)(h1:1≤m)(hl:m<s.length)(hc:∀i,i<m→128≤bt s (i+1)∧bt s (i+1)≤191):ET s=if Lz (bt s 0)≤bt s 1∧bt s 1≤M0 (bt s 0)then m+1 else 0:=by
 have Ej:=sc (bt s 0)
 have NT:=se (bt s 0)
 have Mi:=nT (bt s 0)
 by_cases e:Lz (bt s 0)≤bt s 1∧bt s 1≤M0 (bt s 0)
 ·rw[if_pos e]
  unfold ET;rw[if_neg (by unfold hN;simp;omega),hm,if_pos];rw[List.all_eq_true];intro i hi
  have hi:=List.mem_range.1 hi
  have:=hc i hi
  rw[show i+1=0+1+i by omega]at this;unfold dW;refine decide_eq_true ⟨by omega,?_,?_⟩
  ·split
   ·rename_i h0;subst h0;exact e.1
   ·exact this.1
  ·split
   ·rename_i h0;subst h0;exact e.2
   ·exact this.2
 ·rw[if_neg e]
  refine u9 (k:=0) (by omega) ?_;unfold dW;refine decide_eq_false ?_;rintro ⟨_,h2,h3⟩;exact e ⟨h2,h3⟩
def vF (s:cV)(v0:Int):Nat→Int
 |0=>v0
 |k+1=>64*vF s v0 k+(bt s (k+1):Int)-128
theorem LV {s:cV}{p:Nat}(hs:dt (s.getD p 0)=false):(ET (s.drop p)=0∧CD s p=none)∨∃w,ET (s.drop p)=w+1∧CD s p=some (w+1):=by
 have e0:∀i,bt (s.drop p) i=bt s (p+i):=fun i=>by unfold bt;rw[getD_dropU]
 have ec:∀k,dW (s.drop p) 0 k=dW s p k:=fun k=>by
  unfold dW;rw[e0,e0,List.length_drop,show p+0=p from rfl,show p+(0+1+k)=p+1+k by omega]
  have:(0+1+k<s.length-p)=(p+1+k<s.length):=propext (by omega)
  simp only[this]
 have ea:∀m,(List.range m).all (dW (s.drop p) 0)=(List.range m).all (dW s p):=fun m=>by congr 1;funext k;exact ec k
 unfold ET CD;rw[e0,Nat.add_zero,ea,hs]
 cases hN (bt s p)with
 |true=>left;exact⟨rfl,rfl⟩
 |false=>
  cases h:(List.range (more (bt s p))).all (dW s p)with
  |true=>right;exact⟨_,rfl,rfl⟩
  |false=>left;exact⟨rfl,rfl⟩
set_option maxHeartbeats 4000000 in
theorem y2 (s:cV)(h0:0<s.length)(hs:s.length≤9223372036854775807):cz Tryz.prog 102 #[sv s] [] (iv ((ET s:Nat):Int)):=by
 refine cz.kI (args:=[sv s]) 86 Tryz.func102 rfl Tryz.ntmps102 rfl (fun c=> ?_);refine St.sr ?_;refine St.ar ?_;refine St.nn (St.sr ?_);refine St.mv ?_;refine St.ee (Ev.gE (k:=0) (.mk rfl) (.mk rfl) eG (by omega) (by omega)) ?_
 have Y1:(s.getD 0 0).toNat=bt s 0:=rfl
 have ab8:=kM s 0
 have Mi:=nT (bt s 0)
 have Ej:=sc (bt s 0)
 have NT:=se (bt s 0)
 rw[Y1];refine St.ar ?_;refine St.nn (St.sr ?_);refine St.ar ?_;refine St.ar ?_;refine St.nn (St.sr ?_);refine St.ar ?_;refine St.nn ?_;refine St.join (ι:=Nat×Int×Int) (fun x T=>(4,iv ((x.1:Nat):Int))::(5,iv x.2.1)::(6,iv x.2.2)::T) (fun x=>[]) (fun x=>(x.1=2∧x.2.1=128∧x.2.2=(bt s 0:Int)-192∧more (bt s 0)=1)∨(x.1=3∧x.2.1=2048∧x.2.2=(bt s 0:Int)-224∧more (bt s 0)=2)∨(x.1=4∧x.2.1=65536∧x.2.2=(bt s 0:Int)-240∧more (bt s 0)=3)) (aE.cons 0 rfl aE.nil) ?_ ?_
 ·refine St.block (St.sr ?_)
  refine St.mv ?_;refine St.ee Ev.dz ?_;refine St.ar ?_;refine St.nn ?_;refine St.cond _ rfl (fun uR=> ?_) (fun uR=> ?_)
  ·try simp only[aC]at uR
   refine St.sr ?_;refine St.ar ?_;refine St.nn (St.ab (St.aN (St.aB ?_)));refine St.rU [_] [] Tryz.results102 ?_;exact congrArg iv (by rw[LU (by omega)];rfl)
  ·try simp only[aC]at uR
   refine St.sr ?_;refine St.mv ?_;refine St.ee Ev.ra ?_;refine St.mv ?_;refine St.gt _ rfl rfl (fun hg=>Ev.move (.mk rfl)) rfl ?_;refine St.gt _ rfl rfl (fun hg=>Ev.leq (aL.gv rfl hg) (.mk rfl)) rfl ?_;refine St.ee Ev.n0 ?_;refine St.ar ?_;refine St.nn ?_;refine St.cond _ rfl (fun PM=> ?_) (fun PM=> ?_)
   ·try simp only[aC]at PM
    refine St.rg ?_;refine St.mv ?_;refine St.ee (Ev.sa (.mk rfl) (by rw[CS];rfl) bP (by omega)) ?_;refine St.ee Ev.s0 ?_;refine St.ar ?_;refine St.ar ?_;refine St.ar ?_;refine St.nil (St.aO (St.aA ?_));refine St.mE (2,128,(bt s 0:Int)-192) (.inl ⟨rfl,rfl,rfl,by omega⟩)
   ·try simp only[aC]at PM
    refine St.sr ?_;refine St.mv ?_;refine St.ee Ev.ra ?_;refine St.mv ?_;refine St.gt _ rfl rfl (fun hg=>Ev.move (.mk rfl)) rfl ?_;refine St.gt _ rfl rfl (fun hg=>Ev.leq (aL.gv rfl hg) (.mk rfl)) rfl ?_;refine St.ee Ev.n0 ?_;refine St.ar ?_;refine St.nn ?_;refine St.cond _ rfl (fun xz=> ?_) (fun xz=> ?_)
    ·try simp only[aC]at xz
     refine St.rg ?_;refine St.mv ?_;refine St.ee (Ev.sa (.mk rfl) (by rw[CS];rfl) bP (by omega)) ?_;refine St.ee Ev.s0 ?_;refine St.ar ?_;refine St.ar ?_;refine St.ar ?_;refine St.nil (St.aO (St.aA ?_));refine St.mE (3,2048,(bt s 0:Int)-224) (.inr (.inl ⟨rfl,rfl,rfl,by omega⟩))
    ·try simp only[aC]at xz
     refine St.sr ?_;refine St.mv ?_;refine St.ee Ev.ra ?_;refine St.mv ?_;refine St.gt _ rfl rfl (fun hg=>Ev.move (.mk rfl)) rfl ?_;refine St.gt _ rfl rfl (fun hg=>Ev.leq (aL.gv rfl hg) (.mk rfl)) rfl ?_;refine St.ee Ev.n0 ?_;refine St.ar ?_;refine St.nn ?_;refine St.cond _ rfl (fun qA=> ?_) (fun qA=> ?_)
     ·try simp only[aC]at qA
      refine St.rg ?_;refine St.mv ?_;refine St.ee (Ev.sa (.mk rfl) (by rw[CS];rfl) bP (by omega)) ?_;refine St.ee Ev.s0 ?_;refine St.ar ?_;refine St.ar ?_;refine St.ar ?_;refine St.nil (St.aO (St.aA ?_));refine St.mE (4,65536,(bt s 0:Int)-240) (.inr (.inr ⟨rfl,rfl,rfl,by omega⟩))
     ·try simp only[aC]at qA
      refine St.sr ?_;refine St.ar ?_;refine St.nn (St.ab (St.aN (St.aB ?_)));refine St.rU [_] [] Tryz.results102 ?_;exact congrArg iv (by rw[LS (by unfold hN;exact decide_eq_true ⟨by omega,by omega⟩)];rfl)
 ·rintro ⟨m1,low,v0⟩ hx
  dsimp only at hx⊢
  obtain⟨m,rfl⟩:∃m,m1=m+1:=⟨m1-1,by omega⟩
  have sN:more (bt s 0)=m:=by omega
  refine St.seq (St.sr ?_);refine St.mv ?_;refine St.ee (Ev.ko (.mk rfl) eG) ?_;refine St.mv ?_;refine St.ee Ev.dz ?_;refine St.nn ?_;refine St.cond _ rfl (fun mV=> ?_) (fun mV=> ?_)
  ·try simp only[aC]at mV
   refine St.sr ?_;refine St.ar ?_;refine St.nn (St.ab (St.aB ?_));refine St.rU [_] [] Tryz.results102 ?_;exact congrArg iv (by rw[u9 (k:=m-1) (by omega) (by unfold dW;exact decide_eq_false (by omega))];rfl)
  ·try simp only[aC]at mV
   refine St.skip (St.aA (St.seq (St.sr ?_)));refine St.ar ?_;refine St.nn (St.block ?_);refine St.lS (ι:=Nat) (fun j T=>(7,iv ((j+1:Nat):Int))::(6,iv (vF s v0 j))::T) (fun j=>j≤m∧(∀i,i<j→128≤bt s (i+1)∧bt s (i+1)≤191)∧0≤vF s v0 j∧(j=0→vF s v0 j≤31)∧(j=1→vF s v0 j≤2047)∧(j=2→vF s v0 j≤131071)∧(j=3→vF s v0 j≤8388607)) (fun j=>m-j) 0 (aE.cons 0 rfl (aE.cons 4 rfl (aE.cons 5 rfl aE.nil))) ⟨Nat.zero_le _,fun i hi=>absurd hi (by omega),by show 0≤v0;omega,fun _=>by show v0≤31;omega,by omega,by omega,by omega⟩ ?_;intro j dK;obtain⟨hj,fE,hv0,zN,ng,hv3,hv4⟩:=dK;refine St.seq (St.sr ?_);refine St.mv ?_;refine St.mv ?_;refine St.ee Ev.dz ?_;refine St.nn ?_;refine St.cond _ rfl (fun PW=> ?_) (fun PW=> ?_)
   ·try simp only[aC]at PW
    have MA:(s.getD (j+1) 0).toNat=bt s (j+1):=rfl
    have abM:=kM s (j+1)
    have Er:vF s v0 (j+1)=64*vF s v0 j+(bt s (j+1):Int)-128:=rfl
    refine St.skip (St.aA (St.seq (St.block (St.seq (St.sr ?_)))));refine St.mv ?_;refine St.mv ?_;refine St.ee (Ev.gE (k:=(j+1)) (.mk rfl) (.mk rfl) eG (by omega) (by omega)) ?_;refine St.ee Ev.dz ?_;refine St.mv ?_;refine St.gf _ rfl rfl (fun hg=>Ev.move (.mk rfl)) rfl ?_;refine St.gf _ rfl rfl (fun hg=>Ev.move (.mk rfl)) rfl ?_;refine St.gf _ rfl rfl (fun hg=>Ev.gE (k:=(j+1)) (aL.gv rfl hg) (aL.gv rfl hg) eG (by omega) (by first|omega|(simp only[aC]at hg;omega))) rfl ?_;refine St.gf _ rfl rfl (fun hg=>Ev.gtr (aL.gv rfl hg) (.mk rfl)) rfl ?_;refine St.ee Ev.o0 ?_;refine St.nn ?_;refine St.cond _ rfl (fun GK=> ?_) (fun GK=> ?_)
    ·try simp only[aC]at GK
     refine St.sr ?_;refine St.ar ?_;refine St.nn (St.ab (St.aB (St.aN (St.aB (St.aB (St.aN (St.aB ?_)))))));refine St.rU [_] [] Tryz.results102 ?_;exact congrArg iv (by rw[u9 (k:=j) (by omega) (by unfold dW;rw[show 0+1+j=j+1 by omega];exact decide_eq_false (by rintro ⟨_,q1,q2⟩;split at q1<;>split at q2<;>omega))];rfl)
    ·try simp only[aC]at GK
     refine St.skip (St.aA (St.rg ?_));refine St.mv ?_;refine St.ee (Ev.mul (.mk rfl) (.mk rfl) (by omega)) ?_;refine St.mv ?_;refine St.mv ?_;refine St.ee (Ev.gE (k:=(j+1)) (.mk rfl) (.mk rfl) eG (by omega) (by omega)) ?_;refine St.ee (Ev.sa (.mk rfl) (by rw[CS];rfl) bP (by omega)) ?_;refine St.ee Ev.a0 ?_;refine St.ee Ev.s0 ?_;refine St.ar ?_;refine St.nil (St.aO (St.aA (St.rg ?_)));refine St.mv ?_;refine St.ee Ev.a0 ?_;refine St.ar ?_;refine St.nn ?_;refine St.slot 6 (iv (vF s v0 (j+1))) rfl (congrArg iv (by rw[Er,←MA])) ?_;refine St.slot 7 (iv ((j+1+1:Nat):Int)) rfl rfl ?_;refine St.aS (j+1) ⟨by omega,fun i hi=>by rcases Nat.lt_or_ge i j with h|h;exact fE i h;rw[show i=j by omega];omega,by rw[Er];omega,by omega,fun _=>by rw[Er];omega,fun _=>by rw[Er];omega,fun _=>by rw[Er];omega⟩
   ·try simp only[aC]at PW
    have hjm:j=m:=by omega
    subst hjm
    have WX:=PV sN (by omega) (by omega) fE
    refine St.exit (St.aI (St.aI (St.bM (St.aA (St.seq (St.sr ?_))))));refine St.mv ?_;refine St.mv ?_;refine St.ee Ev.dz ?_;refine St.mv ?_;refine St.gf _ rfl rfl (fun hg=>Ev.move (.mk rfl)) rfl ?_;refine St.gf _ rfl rfl (fun hg=>Ev.gtr (aL.gv rfl hg) (.mk rfl)) rfl ?_;refine St.ee Ev.o0 ?_;refine St.mv ?_;refine St.gf _ rfl rfl (fun hg=>Ev.move (.mk rfl)) rfl ?_;refine St.gf _ rfl rfl (fun hg=>Ev.geq (aL.gv rfl hg) (.mk rfl)) rfl ?_;refine St.gf _ rfl rfl (fun hg=>Ev.move (aL.gv rfl hg)) rfl ?_;refine St.yD _ rfl rfl (fun hg=>Ev.move (.mk rfl)) rfl ?_;refine St.yD _ rfl rfl (fun hg=>Ev.leq (aL.gv rfl hg) (.mk rfl)) rfl ?_;refine St.gf _ rfl rfl (fun hg=>Ev.and (aL.gv rfl hg) (fun hp=>aL.gv rfl (kH hg hp))) rfl ?_;refine St.ee Ev.o0 ?_;refine St.nn ?_
    have Ps:vF s v0 1=64*v0+(bt s 1:Int)-128:=rfl
    have Ek:vF s v0 2=64*vF s v0 1+(bt s 2:Int)-128:=rfl
    have Yf:vF s v0 3=64*vF s v0 2+(bt s 3:Int)-128:=rfl
    have WY:=fE 0
    have WZ:=fE 1
    have ha2:=fE 2
    have hjc:(j=1∧vF s v0 j=vF s v0 1)∨(j=2∧vF s v0 j=vF s v0 2)∨(j=3∧vF s v0 j=vF s v0 3):=by rcases(show j=1∨j=2∨j=3 by omega)with h|h|h;left;exact⟨h,by rw[h]⟩;right;left;exact⟨h,by rw[h]⟩;right;right;exact⟨h,by rw[h]⟩
    have adP:j=1∨(128≤bt s 2∧bt s 2≤191):=by rcases(show j=1∨1<j by omega)with h|h;left;exact h;right;exact WZ h
    have adQ:j≤2∨(128≤bt s 3∧bt s 3≤191):=by rcases(show j≤2∨2<j by omega)with h|h;left;exact h;right;exact ha2 h
    have adR:128≤bt s 1∧bt s 1≤191:=WY (by omega)
    clear WY WZ ha2 fE
    refine St.cond _ rfl (fun uQ=> ?_) (fun uQ=> ?_)
    ·try simp only[aC]at uQ
     rw[if_neg (by omega)]at WX;refine St.sr ?_;refine St.ar ?_;refine St.nn (St.ab (St.aB ?_));refine St.rU [_] [] Tryz.results102 ?_;exact congrArg iv (by rw[WX];rfl)
    ·try simp only[aC]at uQ
     rw[if_pos (by omega)]at WX;refine St.skip (St.aA (St.sr ?_));refine St.mv ?_;refine St.ar ?_;refine St.nn (St.ab ?_);refine St.rU [_] [] Tryz.results102 ?_;exact congrArg iv (by rw[WX])
theorem zu {s:cV}(h:runeCountL s<1∨30<runeCountL s):isWord s=false:=by
 rw[lO]
 have:(decide (1≤runeCountL s)&&decide (runeCountL s≤30))=false:=by
  rw[Bool.and_eq_false_iff,decide_eq_false_iff_not,decide_eq_false_iff_not];omega
 rw[this];rfl
theorem zw {s:cV}(h:s.any dt=true):isWord s=false:=by rw[lO,h];simp
theorem zx {s:cV}(h1:1≤runeCountL s)(h2:runeCountL s≤30)(h3:s.any dt=false):isWord s=(wc s 0).isSome:=by
 rw[lO,h3,decide_eq_true h1,decide_eq_true h2];unfold wc;rw[wg s (s.length-0) 0 (Nat.le_refl _),List.drop_zero,h3];unfold validD;rw[Nat.sub_zero]
 cases validGoD s.length s<;>rfl
theorem IP {s:cV}{f p:Nat}(hp:p<s.length):runeCountFrom ⟨s.toArray⟩ (f+1) p=1+runeCountFrom ⟨s.toArray⟩ f (p+(Utf8.decode ⟨s.toArray⟩ p).2):=by
 rw[runeCountFrom,if_pos (by show p<s.toArray.size;simpa using hp)]
theorem LW {s:cV}{f p:Nat}(hp:s.length≤p):runeCountFrom ⟨s.toArray⟩ f p=0:=runeCountFrom_end _ _ _ (by show ¬p<s.toArray.size;simp;omega)
theorem IQ (s:cV)(p:Nat):Utf8.decode ⟨s.toArray⟩ p=decodeL (s.drop p):=by
 have:=decodeL_drop ⟨s.toArray⟩ p
 simp only at this
 rw[←this]
theorem LX {s:cV}{p:Nat}(hp:p<s.length):dt (s.getD p 0)=true↔(decodeL (s.drop p)).1=32∨(decodeL (s.drop p)).1=9∨(decodeL (s.drop p)).1=10∨(decodeL (s.drop p)).1=40∨(decodeL (s.drop p)).1=41∨(decodeL (s.drop p)).1=91∨(decodeL (s.drop p)).1=93∨(decodeL (s.drop p)).1=44∨(decodeL (s.drop p)).1=59:=by
 obtain⟨_,_,h⟩:=gq hp
 rcases h with⟨h1,h2⟩|⟨h1,h2⟩
 ·rw[h2];exact vH
 ·have h3:=h2 0 (by have:=(gq hp).1;omega)
  rw[Nat.add_zero]at h3
  have h4:dt (s.getD p 0)=false:=sb h3
  rw[h4]
  constructor
  ·intro h;cases h
  ·intro h;omega
theorem IU {s:cV}(h:s.any dt=false)(p:Nat):dt (s.getD p 0)=false:=by
 rcases Nat.lt_or_ge p s.length with hp|hp
 ·have:=List.any_eq_false.1 h (s.getD p 0) (by rw[List.getD_eq_getElem?_getD,List.getElem?_eq_getElem hp];exact List.getElem_mem hp)
  simpa using this
 ·rw[List.getD_eq_getElem?_getD,List.getElem?_eq_none hp];decide
set_option maxHeartbeats 4000000 in
theorem Bq (s:cV)(hs:s.length<9223372036854775807):cz Tryz.prog 77 #[sv s] [] (.bool (isWord s)):=by
 refine cz.kI (args:=[sv s]) 68 Tryz.func77 rfl Tryz.ntmps77 rfl (fun c=> ?_);refine St.sr ?_;refine St.ar ?_;refine St.nn (St.sr ?_);refine St.ar ?_;refine St.nn (St.seq (St.sr ?_));refine St.mv ?_;refine St.IL (.mk rfl) eG rfl (fun b9=> ?_);refine St.nn (St.block ?_);refine St.lH (ι:=Nat×Nat) (fun x T=>(3,iv (x.1:Nat))::T) (fun x=>[ae b9 (.stringIter ⟨s.toArray⟩ x.2)]) (fun x=>x.2≤s.length∧x.1≤x.2∧s.any dt=(s.drop x.2).any dt∧∃f,s.length-x.2≤f∧runeCountL s=x.1+runeCountFrom ⟨s.toArray⟩ f x.2) (fun x=>s.length-x.2) (0,0) (aE.cons 0 rfl (aE.cons 9 rfl aE.nil)) ⟨Nat.zero_le _,Nat.le_refl _,rfl,s.length,Nat.le_refl _,by rw[Nat.zero_add];unfold runeCountL runeCount;rfl⟩ ?_;rintro ⟨n,p⟩ ⟨hp,hnp,Br,fu,Wa,Wb⟩
 dsimp only at hp hnp Br Wa Wb⊢
 refine St.sr ?_;refine St.LR (s:=s) (p:=p) (b:=b9) (.mk rfl) rfl (fun u10 NN hu2=> ?_);refine St.ee (Ev.IM (.mk rfl) NN hu2) ?_;refine St.nn (St.seq ?_);refine St.cond _ rfl (fun uS=> ?_) (fun uS=> ?_)
 ·try simp only[aC]at uS
  rw[if_pos uS];obtain rfl:=NN uS
  obtain⟨f,rfl⟩:∃f,fu=f+1:=⟨fu-1,by omega⟩
  rw[IP uS]at Wb;rw[IQ]at Wb⊢;obtain⟨zY,Om,_⟩:=gq uS
  have hsv:=LX uS
  refine St.skip (St.aA (St.block (St.sr ?_)));refine St.ee (Ev.extract (.mk rfl) rfl) ?_;refine St.ar ?_;refine St.nn (St.sr ?_);refine St.mv ?_;refine St.ee Ev.a0 ?_;refine St.ar ?_;refine St.nn (St.sr ?_);refine St.mv ?_;refine St.ee Ev.fa ?_;refine St.mv ?_;refine St.gf _ rfl rfl (fun hg=>Ev.move (.mk rfl)) rfl ?_;refine St.gf _ rfl rfl (fun hg=>Ev.eql (aL.gv rfl hg) (.mk rfl)) rfl ?_;refine St.ee Ev.o0 ?_;refine St.mv ?_;refine St.gf _ rfl rfl (fun hg=>Ev.move (.mk rfl)) rfl ?_;refine St.gf _ rfl rfl (fun hg=>Ev.eql (aL.gv rfl hg) (.mk rfl)) rfl ?_;refine St.ee Ev.o0 ?_;refine St.mv ?_;refine St.gf _ rfl rfl (fun hg=>Ev.move (.mk rfl)) rfl ?_;refine St.gf _ rfl rfl (fun hg=>Ev.eql (aL.gv rfl hg) (.mk rfl)) rfl ?_;refine St.ee Ev.o0 ?_;refine St.mv ?_;refine St.gf _ rfl rfl (fun hg=>Ev.move (.mk rfl)) rfl ?_;refine St.gf _ rfl rfl (fun hg=>Ev.eql (aL.gv rfl hg) (.mk rfl)) rfl ?_;refine St.ee Ev.o0 ?_;refine St.mv ?_;refine St.gf _ rfl rfl (fun hg=>Ev.move (.mk rfl)) rfl ?_;refine St.gf _ rfl rfl (fun hg=>Ev.eql (aL.gv rfl hg) (.mk rfl)) rfl ?_;refine St.ee Ev.o0 ?_;refine St.mv ?_;refine St.gf _ rfl rfl (fun hg=>Ev.move (.mk rfl)) rfl ?_;refine St.gf _ rfl rfl (fun hg=>Ev.eql (aL.gv rfl hg) (.mk rfl)) rfl ?_;refine St.ee Ev.o0 ?_;refine St.mv ?_;refine St.gf _ rfl rfl (fun hg=>Ev.move (.mk rfl)) rfl ?_;refine St.gf _ rfl rfl (fun hg=>Ev.eql (aL.gv rfl hg) (.mk rfl)) rfl ?_;refine St.ee Ev.o0 ?_;refine St.mv ?_;refine St.gf _ rfl rfl (fun hg=>Ev.move (.mk rfl)) rfl ?_;refine St.gf _ rfl rfl (fun hg=>Ev.eql (aL.gv rfl hg) (.mk rfl)) rfl ?_;refine St.ee Ev.o0 ?_;refine St.nn ?_;refine St.cond _ rfl (fun pc=> ?_) (fun pc=> ?_)
  ·try simp only[aC]at pc
   have hsp:dt (s.getD p 0)=true:=hsv.2 (by omega)
   have han:s.any dt=true:=by rw[Br,bf (jg 0 uS),List.any_cons,hsp];rfl
   refine St.sr ?_;refine St.ar ?_;refine St.nn (St.ab (St.aN (St.aB (St.aN (St.aB ?_)))));refine St.rU [_] [] Tryz.results77 ?_;exact be (zw han).symm
  ·try simp only[aC]at pc
   have hsp:dt (s.getD p 0)=false:=by cases e:dt (s.getD p 0)with|false=>rfl|true=>(have:=hsv.1 e;omega)
   rw[sf uS hsp]at Br;refine St.skip (St.aO (St.aA ?_));refine St.aH (n+1,p+(decodeL (s.drop p)).2) ⟨by dsimp only;omega,by dsimp only;omega,Br,f,by dsimp only;omega,by dsimp only;omega⟩
 ·try simp only[aC]at uS
  rw[LW (by omega)]at Wb;rw[List.drop_of_length_le (by omega)]at Br;refine St.exit (St.aI (St.aI (St.bM (St.aA (St.seq (St.sr ?_))))));refine St.mv ?_;refine St.ee Ev.dz ?_;refine St.mv ?_;refine St.gf _ rfl rfl (fun hg=>Ev.move (.mk rfl)) rfl ?_;refine St.gf _ rfl rfl (fun hg=>Ev.gtr (aL.gv rfl hg) (.mk rfl)) rfl ?_;refine St.ee Ev.o0 ?_;refine St.nn ?_;refine St.cond _ rfl (fun tD=> ?_) (fun tD=> ?_)
  ·try simp only[aC]at tD
   refine St.sr ?_;refine St.ar ?_;refine St.nn (St.ab (St.aB ?_));refine St.rU [_] [] Tryz.results77 ?_;exact be (zu (by omega)).symm
  ·try simp only[aC]at tD
   have VU:=zx (s:=s) (by omega) (by omega) Br
   refine St.skip (St.aA (St.seq (St.sr ?_)));refine St.ar ?_;refine St.nn (St.block ?_);refine St.lH (ι:=Nat) (fun i T=>(6,iv i)::T) (fun i=>[]) (fun i=>i≤s.length∧isWord s=(wc s i).isSome) (fun i=>s.length-i) 0 (aE.cons 0 rfl aE.nil) ⟨Nat.zero_le _,VU⟩ ?_;intro i dK;obtain⟨hi,PX⟩:=dK;refine St.seq (St.sr ?_);refine St.mv ?_;refine St.mv ?_;refine St.ee (Ev.ko (.mk rfl) eG) ?_;refine St.ee Ev.dz ?_;refine St.nn ?_;refine St.cond _ rfl (fun AN=> ?_) (fun AN=> ?_)
   ·try simp only[aC]at AN
    have Wc:i<s.length:=by omega
    have hdl:(s.drop i).length=s.length-i:=List.length_drop ..
    have hns:=IU (s:=s) (by rw[Br];rfl) i
    have MY:=LV (s:=s) (p:=i) hns
    refine St.skip (St.aA (St.block (St.sr ?_)));refine St.mv ?_;refine St.mv ?_;refine St.ee (Ev.LQ (l:=i) (.mk rfl) (.mk rfl) eG rfl (by omega)) ?_;refine St.ee (Ev.call (y2 (s.drop i) (by omega) (by omega)) V4 (.cons (.mk rfl) .nil)) ?_;refine St.ar ?_;refine St.nn (St.seq (St.sr ?_));refine St.mv ?_;refine St.ee Ev.fa ?_;refine St.nn ?_;refine St.cond _ rfl (fun sB=> ?_) (fun sB=> ?_)
    ·try simp only[aC]at sB
     rcases MY with⟨hr,QE⟩|⟨w,hr,QE⟩
     rotate_left
     exact absurd sB (by omega);rw[JI Wc QE]at PX;refine St.sr ?_;refine St.ar ?_;refine St.nn (St.ab (St.aB (St.aN (St.aB (St.aN (St.aB ?_))))));refine St.rU [_] [] Tryz.results77 ?_;exact be PX.symm
    ·try simp only[aC]at sB
     rcases MY with⟨hr,QE⟩|⟨w,hr,QE⟩
     exact absurd sB (by omega);rw[JJ Wc QE]at PX;obtain⟨hd1,hd2,_⟩:=gq Wc
     have Wd:=CF Wc hns
     rw[QE]at Wd
     have MU:i+(w+1)≤s.length:=by split at Wd;cases Wd;simp only[Option.some.injEq]at Wd;omega
     rw[Option.isSome_map]at PX
     have adS:((ET (s.drop i):Nat):Int)=((w+1:Nat):Int):=by rw[hr]
     refine St.skip (St.aA (St.rg ?_));refine St.mv ?_;refine St.mv ?_;refine St.ee Ev.a0 ?_;refine St.ar ?_;refine St.nil (St.aO (St.aA ?_));refine St.slot 6 (iv ((i+(w+1):Nat):Int)) rfl (congrArg iv (by omega)) ?_;refine St.aH (i+(w+1)) ⟨MU,PX⟩
   ·try simp only[aC]at AN
    rw[Ng (by omega)]at PX;refine St.exit (St.aI (St.aI (St.bM (St.aA (St.sr ?_)))));refine St.ar ?_;refine St.nn (St.ab ?_);refine St.rU [_] [] Tryz.results77 ?_;exact be PX.symm
end Go.Proofs.YtolmidffiegkaaaGreatDoor
