/-
  Laws of walks through programs, and facts on grammars, trees and queries.
  Conditions: none.
-/
import Derived.Test.YtolmidffiegkaaaGreatDoorGB3
import Derived.Test.YtolmidffiegkaaaGreatDoorGB2
import Derived.Laws.Small
set_option maxRecDepth 20000
set_option linter.unusedSimpArgs false
set_option linter.unusedVariables false
namespace Go.Proofs.YtolmidffiegkaaaGreatDoor
open Go Go.J
theorem z8 {T:List dZ}{q k:Nat}(hk:k<T.length)(hq:q<k)(h:fp T q k=true)(hb:∀b,b<k→(List.range b).any (fun a=>fp T a b)=false):kP T=some k:=by
 unfold kP;rw[List.find?_range_eq_some];refine⟨List.any_eq_true.2 ⟨q,List.mem_range.2 hq,h⟩,List.mem_range.2 hk,fun j hj=>by rw[hb j hj];rfl⟩
theorem zA {T:List dZ}(hb:∀b,b<T.length→(List.range b).any (fun a=>fp T a b)=false):kP T=none:=by
 unfold kP;rw[List.find?_eq_none]
 intro b h;rw[hb b (List.mem_range.1 h)];decide
theorem pU {p:Nat→Bool}{n:Nat}(h:∀a,a<n→p a=false):(List.range n).any p=false:=by
 rw[List.any_eq_false];intro a ha;rw[h a (List.mem_range.1 ha)];decide
theorem rE {n:Int}{l:List mS}{k:Nat}{t:mS}(ht:l[k]?=some t)(known:List cV):jE n known k (l.drop k)=if isName t.1=false then(10,(k:Int))else if t.1∈known then(7,(k:Int))else if t.2.1<0∨n≤t.2.1∨t.2.2<0∨n≤t.2.2 then(3,(k:Int))
 else jE n (known++ [t.1]) (k+1) (l.drop (k+1)):=by rw[bf ht,jE]
theorem tL {n:Int}{l:List mS}{k:Nat}(h:l.length≤k)(known:List cV):jE n known k (l.drop k)=(0,0):=by rw[List.drop_of_length_le h,jE]
theorem vb {T:List dZ}{Fs:List mS}(h:T.length=0∨60<T.length∨40<Fs.length):fP T Fs=(2,-1):=by
 unfold fP
 by_cases h1:40<Fs.length
 ·rw[if_pos h1]
 ·have e:q7 T=(2,-1):=by unfold q7;rw[if_pos (by omega)]
  rw[if_neg h1,e];rfl
theorem zB {T:List dZ}{Fs:List mS}(h:¬40<Fs.length)(h2:(q7 T).1≠0):fP T Fs=q7 T:=by unfold fP;rw[if_neg h,if_pos h2]
theorem zC {T:List dZ}{Fs:List mS}{b:Nat}(h:¬40<Fs.length)(h2:¬(q7 T).1≠0)(h3:kP T=some b):fP T Fs=(16,(b:Int)):=by unfold fP;rw[if_neg h,if_neg h2,h3]
theorem zD {T:List dZ}{Fs:List mS}(h:¬40<Fs.length)(h2:¬(q7 T).1≠0)(h3:kP T=none):fP T Fs=jE T.length [] 0 Fs:=by unfold fP;rw[if_neg h,if_neg h2,h3]
set_option maxHeartbeats 2000000 in
theorem xR (tv xv:cm)(ts:List ja)(fs:List eC):cz Tryz.prog 64 #[.agg #[tv.1,xv.1]] [sl du tv.1 ts,aX ek ts,sl bx xv.1 fs,tz] (fv (fP (ts.map bh) (fs.map dL))):=by
 refine cz.Lp (args:=[.agg #[tv.1,xv.1]]) 122 Tryz.func64 rfl Tryz.ntmps64 rfl (fun c=> ?_);refine St.seq ?_
 have rf:(ts.map bh).length=ts.length:=List.length_map ..
 have E1:(fs.map dL).length=fs.length:=List.length_map ..
 refine St.wf tv.1 (fun pR Da=> ?_);refine St.wf xv.1 (fun Rm Xw=> ?_);refine St.rg ?_;refine St.cX (.mk rfl) rfl (fun b1=> ?_);refine St.alloc dC rfl (fun b2=> ?_);refine St.nn (St.seq (St.sr ?_));refine St.ee (Ev.aD (.mk rfl) fX) ?_;refine St.ee (Ev.l0 (.mk rfl) eT) ?_;refine St.ee (Ev.au (.mk rfl) eT) ?_;refine St.ee Ev.fa ?_;refine St.mv ?_;refine St.gf _ rfl rfl (fun hg=>Ev.aD (.mk rfl) fX) rfl ?_;refine St.gf _ rfl rfl (fun hg=>Ev.cS (aL.gv rfl hg) eT trivial (by rfl)) rfl ?_;refine St.gf _ rfl rfl (fun hg=>Ev.au (aL.gv rfl hg) eT) rfl ?_;refine St.gf _ rfl rfl (fun hg=>Ev.gtr (aL.gv rfl hg) (.mk rfl)) rfl ?_;refine St.ee Ev.o0 ?_;refine St.mv ?_;refine St.gf _ rfl rfl (fun hg=>Ev.aD (.mk rfl) jK) rfl ?_;refine St.gf _ rfl rfl (fun hg=>Ev.cS (aL.gv rfl hg) ib trivial (by rfl)) rfl ?_;refine St.gf _ rfl rfl (fun hg=>Ev.au (aL.gv rfl hg) ib) rfl ?_;refine St.gf _ rfl rfl (fun hg=>Ev.gtr (aL.gv rfl hg) (.mk rfl)) rfl ?_;refine St.ee Ev.o0 ?_;refine St.nn ?_;refine St.cond _ rfl (fun qV=> ?_) (fun qV=> ?_)
 ·try simp only[aC]at qV
  have hf:fP (ts.map bh) (fs.map dL)=(2,-1):=vb (by omega)
  refine St.sr ?_;refine St.ee (Ev.call (cH 2 (-1)) sy (.cons (.mk rfl) (.cons (.mk rfl) .nil))) ?_;refine St.sA (.mk rfl) (.mk rfl) bC ?_;refine St.nn (St.ab (St.aB ?_));refine St.rU [_] [] Tryz.results64 ?_;exact congrArg fv hf.symm
 ·try simp only[aC]at qV
  have rF:¬40<(fs.map dL).length:=by omega
  refine St.skip (St.aA (St.seq (St.sr ?_)));refine St.ee (Ev.aD (.mk rfl) fX) ?_;refine St.ee (Ev.l0 (.mk rfl) eT) ?_;refine St.ee (Ev.call (B2 tv.1 ts) Xh (.cons (.mk rfl) .nil)) ?_;refine St.alloc dC rfl (fun b3=> ?_);refine St.sA (.mk rfl) (.mk rfl) bC ?_;refine St.nn (St.sr ?_);refine St.ee (Ev.aD (.mk rfl) cb) ?_;refine St.ee (Ev.l0 (.mk rfl) bP) ?_;refine St.ee Ev.jj ?_;refine St.nn ?_;refine St.cond _ rfl (fun yr=> ?_) (fun yr=> ?_)
  ·skip
   have hb:(q7 (ts.map bh)).1≠0:=by simpa using yr
   refine St.sr ?_;refine St.ee (Ev.bH (.mk rfl) gF trivial (by exact bC)) ?_;refine St.sA (.mk rfl) (.mk rfl) bC ?_;refine St.nn (St.ab (St.aB ?_));refine St.rU [_] [] Tryz.results64 ?_;exact congrArg fv (zB rF hb).symm
  ·skip
   have hb:¬(q7 (ts.map bh)).1≠0:=by simpa using yr
   have hT:=(B1 (Decidable.not_not.1 hb)).2.2
   have uh:=hT.len
   refine St.skip (St.aA (St.sr ?_));refine St.ee (Ev.aD (.mk rfl) fX) ?_;refine St.ee (Ev.l0 (.mk rfl) eT) ?_;refine St.ay (rD tv.1 ts hT) RP (.cons (.mk rfl) .nil) rfl ?_;rintro Xr _ ⟨w1,w2,rfl,rfl⟩;refine St.ca ?_;refine St.alloc pM rfl (fun b4=> ?_);refine St.sA (.mk rfl) (.mk rfl) iB ?_ (h1:=(by simp only[List.all_cons,List.all_nil,Bool.and_true,Bool.and_eq_true];exact⟨w1.2,w2.2⟩));refine St.nn (St.seq (St.sr ?_));refine St.ee (Ev.aD (.mk rfl) fX) ?_;refine St.ee (Ev.l0 (.mk rfl) eT) ?_;refine St.ee (Ev.au (.mk rfl) eT) ?_;refine St.mv ?_;refine St.nn (St.block ?_);refine St.lS (ι:=Nat) (fun k T=>(45,iv k)::T) (fun k=>k≤ts.length∧∀b,b<k→(List.range b).any (fun a=>fp (ts.map bh) a b)=false) (fun k=>ts.length-k) 0 (aE.cons 1 rfl (aE.cons 2 rfl (aE.cons 4 rfl (aE.cons 44 rfl aE.nil)))) ⟨Nat.zero_le _,fun b hb=>absurd hb (by omega)⟩ ?_;intro k dK;obtain⟨hk,Ag⟩:=dK;refine St.sr ?_;refine St.ee Ev.dz ?_;refine St.nn (St.seq ?_);refine St.cond _ rfl (fun mV=> ?_) (fun mV=> ?_)
   ·try simp only[aC]at mV
    refine St.skip (St.aA (St.seq (St.block (St.sr ?_))));refine St.mv ?_;refine St.ar ?_;refine St.nn (St.sr ?_);refine St.mv ?_;refine St.mv ?_;refine St.nn (St.block ?_);refine St.lS (ι:=Nat) (fun q T=>(49,iv q)::T) (fun q=>q≤k∧∀a,a<q→fp (ts.map bh) a k=false) (fun q=>k-q) 0 (aE.cons 1 rfl (aE.cons 2 rfl (aE.cons 4 rfl (aE.cons 5 rfl (aE.cons 44 rfl (aE.cons 45 rfl (aE.cons 48 rfl aE.nil))))))) ⟨Nat.zero_le _,fun a ha=>absurd ha (by omega)⟩ ?_;intro q dK;obtain⟨hq,oH⟩:=dK;refine St.sr ?_;refine St.ee Ev.dz ?_;refine St.nn (St.seq ?_);refine St.cond _ rfl (fun G7=> ?_) (fun G7=> ?_)
    ·try simp only[aC]at G7
     refine St.skip (St.aA (St.seq (St.block (St.sr ?_))));refine St.mv ?_;refine St.ar ?_;refine St.nn (St.sr ?_);refine St.ee (Ev.bH (.mk rfl) oA trivial (by exact iB)) ?_;refine St.mv ?_;refine St.mv ?_;refine St.ay (E0 w1 w2 (ts.map bh) hT q k (by omega) (by omega)) Xi (.cons (.mk rfl) (.cons (.mk rfl) (.cons (.mk rfl) .nil))) rfl ?_;rintro v56 _ ⟨mt,ok,rfl,rfl⟩;refine St.aJ ?_;refine St.mv ?_;refine St.ee (Ev.extract (.mk rfl) rfl) ?_;refine St.ee (Ev.extract (.mk rfl) rfl) ?_;refine St.ee (Ev.extract (.mk rfl) rfl) ?_;refine St.ar ?_;refine St.ar ?_;refine St.ar ?_;refine St.nn (St.sr ?_);refine St.mv ?_;refine St.nn ?_;refine St.cond _ rfl (fun OH=> ?_) (fun OH=> ?_)
     ·skip
      have hf:=zC (Fs:=fs.map dL) rF hb (z8 (by omega) (by omega) OH Ag)
      refine St.sr ?_;refine St.mv ?_;refine St.ee (Ev.call (cH 16 k) sy (.cons (.mk rfl) (.cons (.mk rfl) .nil))) ?_;refine St.sA (.mk rfl) (.mk rfl) bC ?_;refine St.nn (St.ab (St.aN (St.aB (St.aB (St.aN (St.aN (St.aB (St.aB (St.aN (St.aB ?_))))))))));refine St.rU [_] [] Tryz.results64 ?_;exact congrArg fv hf.symm
     ·skip
      refine St.skip (St.aO (St.aA (St.rg ?_)));refine St.ee Ev.a0 ?_;refine St.mv ?_;refine St.nn ?_;refine St.aS (q+1) ⟨by omega,fun a ha=>by rcases Nat.lt_or_ge a q with h|h;exact oH a h;rw[show a=q by omega];exact OH⟩
    ·try simp only[aC]at G7
     rw[show q=k by omega]at oH;refine St.exit (St.aI (St.aI (St.bM (St.aO (St.aA (St.rg ?_))))));refine St.ee Ev.a0 ?_;refine St.mv ?_;refine St.nn ?_;refine St.aS (k+1) ⟨by omega,fun b hb=>by rcases Nat.lt_or_ge b k with h|h;exact Ag b h;rw[show b=k by omega];exact pU oH⟩
   ·try simp only[aC]at mV
    have hkt:k=ts.length:=by omega
    have OI:=zD rF hb (zA (by rw[rf,←hkt];exact Ag))
    rw[rf]at OI;refine St.exit (St.aI (St.aI (St.bM (St.aA (St.sr ?_)))));refine St.makeMap mkStr rfl (fun Vz=> ?_);refine St.ar ?_;refine St.nn (St.seq (St.sr ?_));refine St.ee (Ev.aD (.mk rfl) jK) ?_;refine St.ee (Ev.l0 (.mk rfl) ib) ?_;refine St.ee (Ev.au (.mk rfl) ib) ?_;refine St.mv ?_;refine St.nn (St.block ?_);refine St.my (ι:=Nat) (κ:=List (cV×Value)) (fun k m T=>(69,iv k)::T) (fun k m=>[ae Vz (jq mkStr m),ae b2 (.cells [iv 0,iv 0].toArray 42 (0,0)),ae b1 (.cells [tv.1,xv.1].toArray 25 (0,0)),aF (sl du tv.1 ts),aF (aX ek ts),aF (sl bx xv.1 fs)]) (fun k m=>k≤fs.length∧fP (ts.map bh) (fs.map dL)=jE ts.length ((fs.take k).map eC.name) k ((fs.map dL).drop k)∧Dx m ((fs.take k).map eC.name)) (fun k m=>fs.length-k) 0 [] (aE.cons 1 rfl (aE.cons 2 rfl (aE.cons 10 rfl (aE.cons 67 rfl (aE.cons 68 rfl aE.nil))))) ⟨Nat.zero_le _,OI,Dx.nil⟩ ?_;rintro k m ⟨hk,hv,z6⟩;refine St.sr ?_;refine St.ee Ev.dz ?_;refine St.nn (St.seq ?_);refine St.cond _ rfl (fun re=> ?_) (fun re=> ?_)
    ·try simp only[aC]at re
     obtain⟨t,ht⟩:=aQ (show k<fs.length by omega)
     have lg:=List.mem_of_getElem? ht
     have cQ:=rE (n:=ts.length) (l:=fs.map dL) (k:=k) (t:=dL t) (by rw[List.getElem?_map,ht];rfl) ((fs.take k).map eC.name)
     rw[←hv]at cQ
     have yu:t.name.length≤9223372036854775807:=by have:=(Rm t lg).1;simp only[hP]at this;omega
     refine St.skip (St.aA (St.seq (St.block (St.sr ?_))));refine St.mv ?_;refine St.ee (Ev.aR (k:=k) (.mk rfl) (.mk rfl) ib j8 (by omega) (by omega)) ?_;refine St.ee (Ev.fg (.mk rfl) ht yc trivial j8 en.eq) ?_;refine St.alloc vQ rfl (fun B6=> ?_);refine St.ar ?_;refine St.sA (.mk rfl) (.mk rfl) j8 ?_ (h1:=(by simp only[List.all_cons,List.all_nil,Bool.and_true,Bool.and_eq_true];exact⟨rfl,rfl,rfl⟩));refine St.nn (St.seq (St.sr ?_));refine St.ee (Ev.aD (.mk rfl) nW) ?_;refine St.ee (Ev.l0 (.mk rfl) eG) ?_;refine St.ee (Ev.call (jl t.name yu) Dj (.cons (.mk rfl) .nil)) ?_;refine St.ee (Ev.not (.mk rfl)) ?_;refine St.nn ?_;refine St.cond _ rfl (fun B7=> ?_) (fun B7=> ?_)
     ·try simp only[aC]at B7
      rw[if_pos (show isName (dL t).1=false from(by simpa using B7:isName t.name=false))]at cQ;refine St.sr ?_;refine St.mv ?_;refine St.ee (Ev.call (cH 10 k) sy (.cons (.mk rfl) (.cons (.mk rfl) .nil))) ?_;refine St.sA (.mk rfl) (.mk rfl) bC ?_;refine St.nn (St.ab (St.aB (St.aN (St.aB (St.aB (St.aN (St.aB ?_)))))));refine St.rU [_] [] Tryz.results64 ?_;exact congrArg fv cQ.symm
     ·try simp only[aC]at B7
      rw[if_neg (show ¬isName (dL t).1=false from(by simpa using B7:¬isName t.name=false))]at cQ;refine St.skip (St.aA (St.seq (St.sr ?_)));refine St.mv ?_;refine St.ee (Ev.aD (.mk rfl) nW) ?_;refine St.ee (Ev.l0 (.mk rfl) eG) ?_;refine St.ee (Ev.ry mkStr (k:=t.name) (.mk rfl) (.mk rfl) yb (by exact eG) eE) ?_;refine St.mv ?_;refine St.ee (Ev.extract (.mk rfl) rfl) ?_;refine St.ee (Ev.extract (.mk rfl) rfl) ?_;refine St.slot 86 (.bool (decide (t.name∈(fs.take k).map eC.name))) rfl (congrArg Value.bool (z6 t.name)) ?_;refine St.ar ?_;refine St.ar ?_;refine St.nn (St.sr ?_);refine St.mv ?_;refine St.nn ?_;refine St.cond _ rfl (fun xS=> ?_) (fun xS=> ?_)
      ·try simp only[aC]at xS
       rw[if_pos (show(dL t).1∈(fs.take k).map eC.name from xS)]at cQ;refine St.sr ?_;refine St.mv ?_;refine St.ee (Ev.call (cH 7 k) sy (.cons (.mk rfl) (.cons (.mk rfl) .nil))) ?_;refine St.sA (.mk rfl) (.mk rfl) bC ?_;refine St.nn (St.ab (St.aB (St.aN (St.aB (St.aB (St.aN (St.aB ?_)))))));refine St.rU [_] [] Tryz.results64 ?_;exact congrArg fv cQ.symm
      ·try simp only[aC]at xS
       rw[if_neg (show ¬(dL t).1∈(fs.take k).map eC.name from xS)]at cQ;refine St.skip (St.aA (St.sr ?_));refine St.mv ?_;refine St.ee (Ev.aD (.mk rfl) nW) ?_;refine St.ee (Ev.l0 (.mk rfl) eG) ?_;refine St.mv ?_;refine St.mapUpdate mkStr (k:=t.name) (.mk rfl) (.mk rfl) (.mk rfl) yb (by exact eG) ?_;refine St.nn (St.sr ?_);refine St.ee (Ev.aD (.mk rfl) nX) ?_;refine St.ee (Ev.l0 (.mk rfl) bP) ?_;refine St.ee Ev.dz ?_;refine St.mv ?_;refine St.gf _ rfl rfl (fun hg=>Ev.aD (.mk rfl) nX) rfl ?_;refine St.gf _ rfl rfl (fun hg=>Ev.cS (aL.gv rfl hg) bP trivial (by rfl)) rfl ?_;refine St.gf _ rfl rfl (fun hg=>Ev.aD (.mk rfl) fX) rfl ?_;refine St.gf _ rfl rfl (fun hg=>Ev.cS (aL.gv rfl hg) eT trivial (by rfl)) rfl ?_;refine St.gf _ rfl rfl (fun hg=>Ev.au (aL.gv rfl hg) eT) rfl ?_;refine St.gf _ rfl rfl (fun hg=>Ev.geq (aL.gv rfl hg) (aL.gv rfl hg)) rfl ?_;refine St.ee Ev.o0 ?_;refine St.mv ?_;refine St.gf _ rfl rfl (fun hg=>Ev.aD (.mk rfl) nY) rfl ?_;refine St.gf _ rfl rfl (fun hg=>Ev.cS (aL.gv rfl hg) bP trivial (by rfl)) rfl ?_;refine St.gf _ rfl rfl (fun hg=>Ev.lss (aL.gv rfl hg) (.mk rfl)) rfl ?_;refine St.ee Ev.o0 ?_;refine St.mv ?_;refine St.gf _ rfl rfl (fun hg=>Ev.aD (.mk rfl) nY) rfl ?_;refine St.gf _ rfl rfl (fun hg=>Ev.cS (aL.gv rfl hg) bP trivial (by rfl)) rfl ?_;refine St.gf _ rfl rfl (fun hg=>Ev.aD (.mk rfl) fX) rfl ?_;refine St.gf _ rfl rfl (fun hg=>Ev.cS (aL.gv rfl hg) eT trivial (by rfl)) rfl ?_;refine St.gf _ rfl rfl (fun hg=>Ev.au (aL.gv rfl hg) eT) rfl ?_;refine St.gf _ rfl rfl (fun hg=>Ev.geq (aL.gv rfl hg) (aL.gv rfl hg)) rfl ?_;refine St.ee Ev.o0 ?_;refine St.nn ?_;refine St.cond _ rfl (fun B8=> ?_) (fun B8=> ?_)
       ·try simp only[aC]at B8
        rw[if_pos (show(dL t).2.1<0∨(ts.length:Int)≤(dL t).2.1∨(dL t).2.2<0∨(ts.length:Int)≤(dL t).2.2 from(by omega:t.mm<0∨(ts.length:Int)≤t.mm∨t.value<0∨(ts.length:Int)≤t.value))]at cQ;refine St.sr ?_;refine St.mv ?_;refine St.ee (Ev.call (cH 3 k) sy (.cons (.mk rfl) (.cons (.mk rfl) .nil))) ?_;refine St.sA (.mk rfl) (.mk rfl) bC ?_;refine St.nn (St.ab (St.aN (St.aB (St.aB (St.aN (St.aB ?_))))));refine St.rU [_] [] Tryz.results64 ?_;exact congrArg fv cQ.symm
       ·try simp only[aC]at B8
        rw[if_neg (show ¬((dL t).2.1<0∨(ts.length:Int)≤(dL t).2.1∨(dL t).2.2<0∨(ts.length:Int)≤(dL t).2.2)from(by omega:¬(t.mm<0∨(ts.length:Int)≤t.mm∨t.value<0∨(ts.length:Int)≤t.value)))]at cQ;refine St.skip (St.aO (St.aA (St.rg ?_)));refine St.ee Ev.a0 ?_;refine St.mv ?_;refine St.nn ?_;refine St.ji (k+1) (jZ m t.name (iv k)) ⟨by omega,by rw[cQ,cF eC.name ht];rfl,by rw[cF eC.name ht];exact z6.snoc _ _⟩
    ·try simp only[aC]at re
     rw[tL (by rw[List.length_map];omega)]at hv;refine St.exit (St.aI (St.aI (St.bM (St.aA (St.sr ?_)))));refine St.ee (Ev.build (ps:=[]) (aV.nil) (fun w=>fB w)) ?_;refine St.sA (.mk rfl) (.mk rfl) bC ?_;refine St.nn (St.ab ?_);refine St.rU [_] [] Tryz.results64 ?_;exact congrArg fv hv.symm
inductive Reach (g:gx):Nat→Prop where
 |root:Reach g 0
 |step {i:Nat} {x:Int×Int}:Reach g i→x∈(g.getD i sg).2→Reach g x.2.toNat
def kY (M N:List Bool):Prop:=M.length=N.length∧∀x:Nat,M[x]?=some true→N[x]?=some true
theorem kY.refl (M:List Bool):kY M M:=⟨rfl,fun _ h=>h⟩
theorem kY.trans {A B C:List Bool}(h:kY A B)(k:kY B C):kY A C:=⟨h.1.trans k.1,fun x hx=>k.2 x (h.2 x hx)⟩
theorem kY.Rn {A B:List Bool}(h:kY A B)(k:kY B A):A=B:=by
 refine List.ext_getElem? fun i=> ?_
 rcases Nat.lt_or_ge i A.length with hi|hi
 ·have Vl:i<B.length:=by rw[←h.1];exact hi
  rw[List.getElem?_eq_getElem hi,List.getElem?_eq_getElem Vl]
  have h1:=h.2 i
  have h2:=k.2 i
  rw[List.getElem?_eq_getElem hi,List.getElem?_eq_getElem Vl]at h1 h2
  cases e1:A[i]<;>cases e2:B[i]<;>simp_all
 ·rw[List.getElem?_eq_none hi,List.getElem?_eq_none (by rw[←h.1];exact hi)]
theorem kY.set (M:List Bool)(i:Nat):kY M (M.set i true):=⟨by rw[List.length_set],fun x hx=>by
 by_cases e:i=x
 ·subst e;rw[List.getElem?_set_self (cG hx)]
 ·rw[List.getElem?_set_ne e];exact hx⟩
theorem kY.mark (i:Nat)(M:List Bool)(x:Int×Int):kY M (iR i M x):=by
 unfold iR;split
 ·exact kY.set _ _
 ·exact kY.refl _
theorem kY.fold {γ:Type}{f:List Bool→γ→List Bool}(h:∀M c,kY M (f M c)):∀(l:List γ) (M:List Bool),kY M (l.foldl f M)
 | [],M=>kY.refl M
 |c::l,M=>(h M c).trans (kY.fold h l (f M c))
theorem tM {γ:Type}{f:List Bool→γ→List Bool}(h:∀M c,kY M (f M c)):∀(l:List γ) (M:List Bool),l.foldl f M=M→∀c∈l,f M c=M
 | [],_,_,c,hc=>by cases hc
 |c::l,M,he,d,hd=>by
  rw[List.foldl_cons]at he
  have h1:f M c=M:=kY.Rn (by have:=kY.fold h l (f M c);rw[he]at this;exact this) (h M c)
  rcases List.mem_cons.1 hd with rfl|hd
  ·exact h1
  ·rw[h1]at he;exact tM h l M he d hd
theorem kY.node (g:gx)(M:List Bool)(i:Nat):kY M (j4 g M i):=kY.fold (fun M x=>kY.mark i M x) _ M
theorem kY.pass (g:gx)(M:List Bool):kY M (pass g M):=kY.fold (fun M i=>kY.node g M i) _ M
def mU (M:List Bool):Nat:=M.countP fun b=>b
theorem GV:∀{A B:List Bool},kY A B→mU A≤mU B∧(mU B≤mU A→A=B)
 | [],[],_=>⟨Nat.le_refl _,fun _=>rfl⟩
 | [],_::_,h=>absurd h.1 (by simp)
 |_::_,[],h=>absurd h.1 (by simp)
 |a::A,b::B,h=>by
  have ht:kY A B:=⟨by simpa using h.1,fun x hx=>by have:=h.2 (x+1) (by simpa using hx);simpa using this⟩
  have h0:=h.2 0
  obtain⟨i1,i2⟩:=GV ht;unfold mU at*
  cases a<;>cases b<;>simp_all<;>omega
theorem xT (M:List Bool):mU M≤M.length:=List.countP_le_length
theorem il (g:gx):∀k,(cM g k).length=g.length
 |0=>by simp[cM]
 |k+1=>by rw[cM,←(kY.pass g _).1,il g k]
theorem tN {g:gx}(hg:0<g.length):∀k,pass g (cM g k)=cM g k∨k+1≤mU (cM g k)
 |0=>by
  refine .inr ?_
  obtain⟨n,hn⟩:∃n,g.length=n+1:=⟨g.length-1,by omega⟩
  simp[cM,mU,hn,List.replicate_succ]
 |k+1=>by
  rcases tN hg k with h|h
  ·left;rw[cM,h,h]
  ·by_cases e:pass g (cM g (k+1))=cM g (k+1)
   ·exact .inl e
   ·right
    have h1:=GV (kY.pass g (cM g k))
    rw[cM]
    rcases Nat.lt_or_ge (mU (cM g k)) (mU (pass g (cM g k)))with h2|h2
    ·omega
    ·have:=h1.2 h2
     exact absurd (by rw[cM,←this,←this]) e
theorem B9 {g:gx}(hg:0<g.length):pass g (cM g g.length)=cM g g.length:=by
 rcases tN hg g.length with h|h
 ·exact h
 ·have:=xT (cM g g.length)
  rw[il]at this;omega
theorem BA {g:gx}{M:List Bool}(hM:M.length=g.length)(h:pass g M=M){i:Nat}(hi:M[i]?=some true){x:Int×Int}(hx:x∈(g.getD i sg).2)(jA:x.2.toNat<g.length):M[x.2.toNat]?=some true:=by
 have h1:=tM (fun M i=>kY.node g M i) _ M h i (List.mem_range.2 (by rw[←hM];exact cG hi))
 have h2:=tM (fun M x=>kY.mark i M x) _ M h1 x hx
 unfold iR at h2;rw[if_pos (by rw[List.getD_eq_getElem?_getD,hi];rfl)]at h2;rw[←h2,List.getElem?_set_self (by rw[hM];exact jA)]
def uj (g:gx)(M:List Bool):Prop:=∀x:Nat,M[x]?=some true→Reach g x
theorem uj.set {g:gx}{M:List Bool}(h:uj g M){i:Nat}(hi:Reach g i):uj g (M.set i true):=fun x hx=>by
 by_cases e:i=x
 ·subst e;exact hi
 ·rw[List.getElem?_set_ne e]at hx;exact h x hx
theorem uj.fold {γ:Type}{g:gx}{f:List Bool→γ→List Bool}:∀(l:List γ) (M:List Bool),(∀M,∀c∈l,uj g M→uj g (f M c))→uj g M→uj g (l.foldl f M)
 | [],_,_,h=>h
 |c::l,M,hf,h=>uj.fold l _ (fun M d hd=>hf M d (List.mem_cons_of_mem _ hd)) (hf M c (List.mem_cons_self ..) h)
theorem uj.pass {g:gx}{M:List Bool}(h:uj g M):uj g (pass g M):=
 uj.fold _ _ (fun M i _ hM=>uj.fold _ _ (fun M x hx hM=>by
  unfold iR
  split
  ·rename_i hi
   refine hM.set (Reach.step (hM i ?_) hx);rw[List.getD_eq_getElem?_getD]at hi
   cases e:M[i]? with
   |none=>rw[e]at hi;cases hi
   |some b=>rw[e]at hi;simp at hi;rw[hi]
  ·exact hM) hM) h
theorem uj.cM (g:gx):∀k,uj g (cM g k)
 |0=>fun x hx=>by
  by_cases e:0=x
  ·subst e;exact Reach.root
  ·rw[Proofs.YtolmidffiegkaaaGreatDoor.cM,List.getElem?_set_ne e,List.getElem?_replicate]at hx
   split at hx<;>simp at hx
 |k+1=>(uj.cM g k).pass
def zE (g:gx):Prop:=0<g.length∧∀n∈g,∀x∈n.2,0≤x.1∧0≤x.2∧x.2.toNat<g.length
theorem zE.at_ {g:gx}(h:zE g){i:Nat}{x:Int×Int}(hx:x∈(g.getD i sg).2):0≤x.1∧0≤x.2∧x.2.toNat<g.length:=by
 rcases Nat.lt_or_ge i g.length with hi|hi
 ·refine h.2 _ (List.getElem_mem hi) x ?_
  rw[List.getD_eq_getElem?_getD,List.getElem?_eq_getElem hi]at hx;exact hx
 ·rw[List.getD_eq_getElem?_getD,List.getElem?_eq_none hi]at hx;cases hx
theorem kZ {g:gx}(h:0<g.length):∀k,(cM g k)[0]?=some true
 |0=>by rw[cM,List.getElem?_set_self (by simp;exact h)]
 |k+1=>(kY.pass g _).2 0 (kZ h k)
theorem pV {g:gx}(h:zE g){x:Nat}:Reach g x↔(cM g g.length)[x]?=some true:=by
 refine⟨fun hr=> ?_,uj.cM g _ x⟩
 induction hr with
 |root=>exact kZ h.1 _
 |step _ hx ih=>exact BA (il g _) (B9 h.1) ih hx (h.at_ hx).2.2
structure K9 (g:gx)(M:List Bool)(st:List Nat):Prop where
 len:M.length=g.length
 snd:uj g M
 root:M[0]?=some true
 OJ:∀i∈st,M[i]?=some true
 cls:∀i,M[i]?=some true→i∉st→∀x∈(g.getD i sg).2,M[x.2.toNat]?=some true
theorem K9.start {g:gx}(h:0<g.length):K9 g ((List.replicate g.length false).set 0 true) [0]:=by
 refine⟨by simp,uj.cM g 0,kZ h 0,fun i hi=>by rw[List.mem_singleton.1 hi];exact kZ h 0,fun i hm hi=> ?_⟩;rw[List.getElem?_set_ne (fun e=>hi (List.mem_singleton.2 e.symm)),List.getElem?_replicate]at hm
 split at hm<;>simp at hm
theorem K9.fin {g:gx}(hg:zE g){M:List Bool}(h:K9 g M []):M=cM g g.length:=by
 refine kY.Rn ⟨by rw[h.len,il],fun x hx=>(pV hg).1 (h.snd x hx)⟩ ⟨by rw[h.len,il],fun x hx=> ?_⟩
 have:=(pV hg).2 hx
 clear hx
 induction this with
 |root=>exact h.root
 |step _ hx ih=>exact h.cls _ ih (by simp) _ hx
structure oI (g:gx)(i k:Nat)(M:List Bool)(st:List Nat):Prop where
 len:M.length=g.length
 snd:uj g M
 root:M[0]?=some true
 me:M[i]?=some true
 OJ:∀j∈st,M[j]?=some true
 cls:∀j,M[j]?=some true→j≠i→j∉st→∀x∈(g.getD j sg).2,M[x.2.toNat]?=some true
 upto:∀x∈(g.getD i sg).2.take k,M[x.2.toNat]?=some true
theorem K9.pop {g:gx}{M:List Bool}{st:List Nat}{i:Nat}(h:K9 g M (st++ [i])):oI g i 0 M st:=
 ⟨h.len,h.snd,h.root,h.OJ i (by simp),fun j hj=>h.OJ j (by simp[hj]),fun j hm fj hj=>h.cls j hm (by simp[hj,fj]),fun x hx=>by simp at hx⟩
theorem oI.done {g:gx}{M:List Bool}{st:List Nat}{i:Nat}(h:oI g i (g.getD i sg).2.length M st):K9 g M st:=
 ⟨h.len,h.snd,h.root,h.OJ,fun j hm hj=>by
  by_cases e:j=i
  ·subst e;intro x hx;exact h.upto x (by rw[List.take_length];exact hx)
  ·exact h.cls j hm e hj⟩
theorem oI.AU {g:gx}{M:List Bool}{st:List Nat}{i k:Nat}{x:Int×Int}(h:oI g i k M st)(hx:(g.getD i sg).2[k]?=some x)(hm:M[x.2.toNat]?=some true):oI g i (k+1) M st:=
 ⟨h.len,h.snd,h.root,h.me,h.OJ,h.cls,fun y hy=>by
  rw[bJ hx]at hy
  rcases List.mem_append.1 hy with hy|hy
  ·exact h.upto y hy
  ·rw[List.mem_singleton.1 hy];exact hm⟩
theorem oI.new {g:gx}(hg:zE g){M:List Bool}{st:List Nat}{i k:Nat}{x:Int×Int}(h:oI g i k M st)(hx:(g.getD i sg).2[k]?=some x):oI g i (k+1) (M.set x.2.toNat true) (st++ [x.2.toNat]):=by
 have E2:=List.mem_of_getElem? hx
 have jA:=(hg.at_ E2).2.2
 have mono:=(kY.set M x.2.toNat).2
 have new:(M.set x.2.toNat true)[x.2.toNat]?=some true:=List.getElem?_set_self (by rw[h.len];exact jA)
 refine⟨by rw[List.length_set];exact h.len,h.snd.set (Reach.step (h.snd i h.me) E2),mono _ h.root,mono _ h.me,fun j hj=> ?_,fun j hm fj hj y hy=> ?_,fun y hy=> ?_⟩
 ·rcases List.mem_append.1 hj with hj|hj
  ·exact mono _ (h.OJ j hj)
  ·rw[List.mem_singleton.1 hj];exact new
 ·have hj2:j∉st∧j≠x.2.toNat:=by simpa using hj
  rw[List.getElem?_set_ne (fun e=>hj2.2 e.symm)]at hm;exact mono _ (h.cls j hm fj hj2.1 y hy)
 ·rw[bJ hx]at hy
  rcases List.mem_append.1 hy with hy|hy
  ·exact mono _ (h.upto y hy)
  ·rw[List.mem_singleton.1 hy];exact new
theorem KA {M:List Bool}{i:Nat}(h:M[i]?=some false):mU (M.set i true)=mU M+1:=by
 induction M generalizing i with
 |nil=>cases h
 |cons b M ih=>
  cases i with
  |zero=>simp at h;subst h;simp[mU]
  |succ i=>
   have:=ih (i:=i) (by simpa using h)
   unfold mU at*
   cases b<;>simp_all<;>omega
theorem tP {nt nf nn:Int}{l:gx}{k:Nat}{t:Qj}(ht:l[k]?=some t):dn nt nf nn k (l.drop k)=if t.1<0∨nt≤t.1 then(3,(k:Int))else if(vJ nf nn k (-1) t.2).1≠0 then vJ nf nn k (-1) t.2 else dn nt nf nn (k+1) (l.drop (k+1)):=by rw[bf ht,dn]
theorem vc {nt nf nn:Int}{l:gx}{k:Nat}(h:l.length≤k):dn nt nf nn k (l.drop k)=(0,0):=by rw[List.drop_of_length_le h,dn]
theorem zF {nf nn i z:Int}{l:List (Int×Int)}{q:Nat}{x:Int×Int}(hx:l[q]?=some x):vJ nf nn i z (l.drop q)=if x.1<0∨nf≤x.1∨x.2<0∨nn≤x.2 then(3,i)else if x.1≤z then(13,i)else vJ nf nn i x.1 (l.drop (q+1)):=by rw[bf hx,vJ]
theorem Cb {nf nn i z:Int}{l:List (Int×Int)}{q:Nat}(h:l.length≤q):vJ nf nn i z (l.drop q)=(0,0):=by rw[List.drop_of_length_le h,vJ]
theorem ke (g:eH):(dH g).length=g.nodes.length:=List.length_map ..
theorem iD {g:eH}{k:Nat}{t:jr}(h:g.nodes[k]?=some t):(dH g)[k]?=some (kN t):=by unfold dH;rw[List.getElem?_map,h];rfl
set_option maxHeartbeats 2000000 in
theorem BB (tv xv:cm)(ts:List ja)(fs:List eC)(g:eH):cz Tryz.prog 97 #[.agg #[tv.1,xv.1],dJ g] [sl du tv.1 ts,sl bx xv.1 fs,bU g] (fv (da ts.length fs.length (dH g))):=by
 refine cz.Ez (args:=[.agg #[tv.1,xv.1],dJ g]) 86 Tryz.func97 rfl Tryz.ntmps97 rfl (fun c=> ?_);refine St.seq ?_
 refine St.fI (bU g) (fun _:Unit=>l6 g) (fun ρ h=>⟨(),h⟩) fun _=> ?_
 refine St.cast (H':=[aF (sl ej g.nv.1 g.nodes),aF (aX dS g.nodes),aF (sl du tv.1 ts),aF (sl bx xv.1 fs),aF (bU g)]) rfl ?_;refine St.wf tv.1 (fun pR Da=> ?_);refine St.wf xv.1 (fun Rm Xw=> ?_);refine St.wf g.nv.1 (fun Rq yu=> ?_)
 have CC:=ke g
 refine St.rg ?_;refine St.cX (.mk rfl) rfl (fun b2=> ?_);refine St.cX (.mk rfl) rfl (fun b3=> ?_);refine St.alloc dC rfl (fun b4=> ?_);refine St.nn (St.seq (St.sr ?_));refine St.ee (Ev.aD (.mk rfl) eX) ?_;refine St.ee (Ev.l0 (.mk rfl) eM) ?_;refine St.ee (Ev.au (.mk rfl) eM) ?_;refine St.ee Ev.fa ?_;refine St.mv ?_;refine St.gf _ rfl rfl (fun hg=>Ev.aD (.mk rfl) eX) rfl ?_;refine St.gf _ rfl rfl (fun hg=>Ev.cS (aL.gv rfl hg) eM trivial (by rfl)) rfl ?_;refine St.gf _ rfl rfl (fun hg=>Ev.au (aL.gv rfl hg) eM) rfl ?_;refine St.gf _ rfl rfl (fun hg=>Ev.gtr (aL.gv rfl hg) (.mk rfl)) rfl ?_;refine St.ee Ev.o0 ?_;refine St.nn ?_;refine St.cond _ rfl (fun gP=> ?_) (fun gP=> ?_)
 ·try simp only[aC]at gP
  have hf:da ts.length fs.length (dH g)=(2,-2):=by unfold da;rw[if_pos (by omega)]
  refine St.sr ?_;refine St.ee (Ev.call (eb 2 (-2)) Dk (.cons (.mk rfl) (.cons (.mk rfl) .nil))) ?_;refine St.sA (.mk rfl) (.mk rfl) bC ?_;refine St.nn (St.ab (St.aB ?_));refine St.rU [_] [] Tryz.results97 ?_;exact congrArg fv hf.symm
 ·try simp only[aC]at gP
  have hf:da ts.length fs.length (dH g)=dn ts.length fs.length g.nodes.length 0 (dH g):=by unfold da;rw[if_neg (by omega),CC]
  refine St.skip (St.aA (St.seq (St.sr ?_)));refine St.ee (Ev.aD (.mk rfl) eX) ?_;refine St.ee (Ev.l0 (.mk rfl) eM) ?_;refine St.ee (Ev.au (.mk rfl) eM) ?_;refine St.mv ?_;refine St.nn (St.block ?_);refine St.lS (ι:=Nat) (fun k T=>(24,iv k)::T) (fun k=>k≤g.nodes.length∧da ts.length fs.length (dH g)=dn ts.length fs.length g.nodes.length k ((dH g).drop k)) (fun k=>g.nodes.length-k) 0 (aE.cons 2 rfl (aE.cons 3 rfl (aE.cons 4 rfl (aE.cons 22 rfl (aE.cons 23 rfl aE.nil))))) ⟨Nat.zero_le _,hf⟩ ?_;intro k dK;obtain⟨hk,hv⟩:=dK;refine St.sr ?_;refine St.ee Ev.dz ?_;refine St.nn (St.seq ?_);refine St.cond _ rfl (fun oJ=> ?_) (fun oJ=> ?_)
  ·try simp only[aC]at oJ
   obtain⟨t,ht⟩:=aQ (show k<g.nodes.length by omega)
   have lg:=List.mem_of_getElem? ht
   refine St.cC dS g.nodes (x:=t) lg ?_;refine St.fo (sl eu t.lv.1 t.aY) [dS t] (fun ρ h=>h _ (List.mem_cons_self ..)) ?_;refine St.wf t.lv.1 (fun KB qc=> ?_)
   have cQ:=tP (nt:=ts.length) (nf:=fs.length) (nn:=g.nodes.length) (iD ht)
   rw[←hv]at cQ;refine St.skip (St.aA (St.seq (St.block (St.sr ?_))));refine St.mv ?_;refine St.ee (Ev.aR (k:=k) (.mk rfl) (.mk rfl) eM fS (by omega) (by omega)) ?_;refine St.ee (Ev.fg (.mk rfl) ht vN trivial fS en.eq) ?_;refine St.alloc sx rfl (fun b6=> ?_);refine St.ar ?_;refine St.sA (.mk rfl) (.mk rfl) fS ?_ (h1:=(by simp only[List.all_cons,List.all_nil,Bool.and_true,Bool.and_eq_true];exact⟨rfl,t.lv.2⟩));refine St.nn (St.seq (St.sr ?_));refine St.ee (Ev.aD (.mk rfl) kV) ?_;refine St.ee (Ev.l0 (.mk rfl) bP) ?_;refine St.ee Ev.dz ?_;refine St.mv ?_;refine St.gf _ rfl rfl (fun hg=>Ev.aD (.mk rfl) kV) rfl ?_;refine St.gf _ rfl rfl (fun hg=>Ev.cS (aL.gv rfl hg) bP trivial (by rfl)) rfl ?_;refine St.gf _ rfl rfl (fun hg=>Ev.aD (.mk rfl) fX) rfl ?_;refine St.gf _ rfl rfl (fun hg=>Ev.cS (aL.gv rfl hg) eT trivial (by rfl)) rfl ?_;refine St.gf _ rfl rfl (fun hg=>Ev.au (aL.gv rfl hg) eT) rfl ?_;refine St.gf _ rfl rfl (fun hg=>Ev.geq (aL.gv rfl hg) (aL.gv rfl hg)) rfl ?_;refine St.ee Ev.o0 ?_;refine St.nn ?_;refine St.cond _ rfl (fun zG=> ?_) (fun zG=> ?_)
   ·try simp only[aC]at zG
    rw[if_pos (show(kN t).1<0∨(ts.length:Int)≤(kN t).1 from(by omega:t.type<0∨(ts.length:Int)≤t.type))]at cQ;refine St.sr ?_;refine St.mv ?_;refine St.ee (Ev.call (eb 3 k) Dk (.cons (.mk rfl) (.cons (.mk rfl) .nil))) ?_;refine St.sA (.mk rfl) (.mk rfl) bC ?_;refine St.nn (St.ab (St.aB (St.aN (St.aB (St.aB (St.aN (St.aB ?_)))))));refine St.rU [_] [] Tryz.results97 ?_;exact congrArg fv cQ.symm
   ·try simp only[aC]at zG
    rw[if_neg (show ¬((kN t).1<0∨(ts.length:Int)≤(kN t).1)from(by omega:¬(t.type<0∨(ts.length:Int)≤t.type)))]at cQ;refine St.skip (St.aA (St.sr ?_));refine St.ar ?_;refine St.nn (St.sr ?_);refine St.ee (Ev.aD (.mk rfl) gG) ?_;refine St.ee (Ev.l0 (.mk rfl) e6) ?_;refine St.ee (Ev.au (.mk rfl) e6) ?_;refine St.mv ?_;refine St.nn (St.block ?_);refine St.my (ι:=Nat) (κ:=Int) (fun q z T=>(45,iv q)::(7,iv z)::T) (fun q z=>[aF (sl eu t.lv.1 t.aY),ae b4 (.cells [iv 0,iv 0].toArray 42 (0,0)),ae b2 (.cells [tv.1,xv.1].toArray 25 (0,0)),ae b3 (.cells [g.nv.1].toArray 30 (0,0)),aF (sl ej g.nv.1 g.nodes),aF (aX dS g.nodes),aF (sl du tv.1 ts),aF (sl bx xv.1 fs),aF (bU g)]) (fun q z=>q≤t.aY.length∧vJ fs.length g.nodes.length k (-1) (kN t).2=vJ fs.length g.nodes.length k z ((t.aY.map gI).drop q)) (fun q z=>t.aY.length-q) 0 (-1) (aE.cons 2 rfl (aE.cons 3 rfl (aE.cons 4 rfl (aE.cons 5 rfl (aE.cons 22 rfl (aE.cons 23 rfl (aE.cons 24 rfl (aE.cons 43 rfl (aE.cons 44 rfl aE.nil))))))))) ⟨Nat.zero_le _,rfl⟩ ?_;rintro q z ⟨hq,tH⟩;refine St.sr ?_;refine St.ee Ev.dz ?_;refine St.nn (St.seq ?_);refine St.cond _ rfl (fun mV=> ?_) (fun mV=> ?_)
    ·try simp only[aC]at mV
     obtain⟨p,hp⟩:=aQ (show q<t.aY.length by omega)
     have oc:=zF (nf:=fs.length) (nn:=g.nodes.length) (i:=k) (z:=z) (l:=t.aY.map gI) (q:=q) (x:=gI p) (by rw[List.getElem?_map,hp];rfl)
     refine St.skip (St.aA (St.seq (St.block (St.sr ?_))));refine St.ee (Ev.aR (k:=q) (.mk rfl) (.mk rfl) e6 eV (by omega) (by omega)) ?_;refine St.ee (Ev.fg (.mk rfl) hp pK trivial eV en.eq) ?_;refine St.alloc r7 rfl (fun b9=> ?_);refine St.sA (.mk rfl) (.mk rfl) eV ?_ (h1:=(by simp only[List.all_cons,List.all_nil,Bool.and_true,Bool.and_eq_true];exact⟨rfl,rfl⟩));refine St.nn (St.seq (St.sr ?_));refine St.ee (Ev.aD (.mk rfl) gZ) ?_;refine St.ee (Ev.l0 (.mk rfl) bP) ?_;refine St.ee Ev.dz ?_;refine St.mv ?_;refine St.gf _ rfl rfl (fun hg=>Ev.aD (.mk rfl) gZ) rfl ?_;refine St.gf _ rfl rfl (fun hg=>Ev.cS (aL.gv rfl hg) bP trivial (by rfl)) rfl ?_;refine St.gf _ rfl rfl (fun hg=>Ev.aD (.mk rfl) jK) rfl ?_;refine St.gf _ rfl rfl (fun hg=>Ev.cS (aL.gv rfl hg) ib trivial (by rfl)) rfl ?_;refine St.gf _ rfl rfl (fun hg=>Ev.au (aL.gv rfl hg) ib) rfl ?_;refine St.gf _ rfl rfl (fun hg=>Ev.geq (aL.gv rfl hg) (aL.gv rfl hg)) rfl ?_;refine St.ee Ev.o0 ?_;refine St.mv ?_;refine St.gf _ rfl rfl (fun hg=>Ev.aD (.mk rfl) ga) rfl ?_;refine St.gf _ rfl rfl (fun hg=>Ev.cS (aL.gv rfl hg) bP trivial (by rfl)) rfl ?_;refine St.gf _ rfl rfl (fun hg=>Ev.lss (aL.gv rfl hg) (.mk rfl)) rfl ?_;refine St.ee Ev.o0 ?_;refine St.mv ?_;refine St.gf _ rfl rfl (fun hg=>Ev.aD (.mk rfl) ga) rfl ?_;refine St.gf _ rfl rfl (fun hg=>Ev.cS (aL.gv rfl hg) bP trivial (by rfl)) rfl ?_;refine St.gf _ rfl rfl (fun hg=>Ev.aD (.mk rfl) eX) rfl ?_;refine St.gf _ rfl rfl (fun hg=>Ev.cS (aL.gv rfl hg) eM trivial (by rfl)) rfl ?_;refine St.gf _ rfl rfl (fun hg=>Ev.au (aL.gv rfl hg) eM) rfl ?_;refine St.gf _ rfl rfl (fun hg=>Ev.geq (aL.gv rfl hg) (aL.gv rfl hg)) rfl ?_;refine St.ee Ev.o0 ?_;refine St.nn ?_;refine St.cond _ rfl (fun OK=> ?_) (fun OK=> ?_)
     ·try simp only[aC]at OK
      rw[if_pos (show(gI p).1<0∨(fs.length:Int)≤(gI p).1∨(gI p).2<0∨(g.nodes.length:Int)≤(gI p).2 from(by omega:p.dh<0∨(fs.length:Int)≤p.dh∨p.to<0∨(g.nodes.length:Int)≤p.to))]at oc;rw[tH,oc,if_pos (by show(3:Int)≠0;decide)]at cQ;refine St.sr ?_;refine St.mv ?_;refine St.ee (Ev.call (eb 3 k) Dk (.cons (.mk rfl) (.cons (.mk rfl) .nil))) ?_;refine St.sA (.mk rfl) (.mk rfl) bC ?_;refine St.nn (St.ab (St.aB (St.aN (St.aB (St.aB (St.aN (St.aN (St.aB (St.aB (St.aN (St.aB ?_)))))))))));refine St.rU [_] [] Tryz.results97 ?_;exact congrArg fv cQ.symm
     ·try simp only[aC]at OK
      rw[if_neg (show ¬((gI p).1<0∨(fs.length:Int)≤(gI p).1∨(gI p).2<0∨(g.nodes.length:Int)≤(gI p).2)from(by omega:¬(p.dh<0∨(fs.length:Int)≤p.dh∨p.to<0∨(g.nodes.length:Int)≤p.to)))]at oc;refine St.skip (St.aA (St.seq (St.sr ?_)));refine St.ee (Ev.aD (.mk rfl) gZ) ?_;refine St.ee (Ev.l0 (.mk rfl) bP) ?_;refine St.mv ?_;refine St.ee Ev.Iw ?_;refine St.nn ?_;refine St.cond _ rfl (fun zH=> ?_) (fun zH=> ?_)
      ·try simp only[aC]at zH
       rw[if_pos (show(gI p).1≤z from(by omega:p.dh≤z))]at oc;rw[tH,oc,if_pos (by show(13:Int)≠0;decide)]at cQ;refine St.sr ?_;refine St.mv ?_;refine St.ee (Ev.call (eb 13 k) Dk (.cons (.mk rfl) (.cons (.mk rfl) .nil))) ?_;refine St.sA (.mk rfl) (.mk rfl) bC ?_;refine St.nn (St.ab (St.aB (St.aN (St.aB (St.aB (St.aN (St.aN (St.aB (St.aB (St.aN (St.aB ?_)))))))))));refine St.rU [_] [] Tryz.results97 ?_;exact congrArg fv cQ.symm
      ·try simp only[aC]at zH
       rw[if_neg (show ¬(gI p).1≤z from(by omega:¬p.dh≤z))]at oc;refine St.skip (St.aA (St.rg ?_));refine St.ee (Ev.aD (.mk rfl) gZ) ?_;refine St.ee (Ev.l0 (.mk rfl) bP) ?_;refine St.ar ?_;refine St.nil (St.aO (St.aA (St.rg ?_)));refine St.ee Ev.a0 ?_;refine St.mv ?_;refine St.nn ?_;refine St.ji (q+1) p.dh ⟨by omega,by rw[tH,oc];rfl⟩
    ·try simp only[aC]at mV
     rw[Cb (by rw[List.length_map];omega)]at tH;rw[if_neg (by rw[tH];decide)]at cQ;refine St.exit (St.aI (St.aI (St.bM (St.aO (St.aA (St.rg ?_))))));refine St.ee Ev.a0 ?_;refine St.mv ?_;refine St.nn ?_;refine St.aS (k+1) ⟨by omega,by rw[cQ]⟩
  ·try simp only[aC]at oJ
   rw[vc (by omega)]at hv;refine St.exit (St.aI (St.aI (St.bM (St.aA (St.sr ?_)))));refine St.ee (Ev.build (ps:=[]) (aV.nil) (fun w=>fB w)) ?_;refine St.sA (.mk rfl) (.mk rfl) bC ?_;refine St.nn (St.ab ?_);refine St.rU [_] [] Tryz.results97 ?_;exact congrArg fv hv.symm
theorem vd {M:List Bool}{k:Nat}{b:Bool}(h:M[k]?=some b):lr (M.drop k)=if b=false then 0 else if lr (M.drop (k+1))<0 then-1 else lr (M.drop (k+1))+1:=by rw[bf h,lr]
theorem GW {M:List Bool}{k:Nat}(h:M.length≤k):lr (M.drop k)= -1:=by rw[List.drop_of_length_le h,lr]
def k8 (M:List Bool)(k:Nat):Prop:=lr M=if lr (M.drop k)<0 then-1 else lr (M.drop k)+k
theorem k8.nil (M:List Bool):k8 M 0:=by
 unfold k8;rw[List.drop_zero]
 have:∀M:List Bool,lr M= -1∨0≤lr M:=by
  intro M
  induction M with
  |nil=>left;rfl
  |cons b M ih=>
   rw[lr]
   split
   ·right;decide
   ·split
    ·left;rfl
    ·right;omega
 rcases this M with h|h
 ·rw[h];rfl
 ·rw[if_neg (by omega)];omega
theorem k8.step {M:List Bool}{k:Nat}(h:k8 M k)(hb:M[k]?=some true):k8 M (k+1):=by
 unfold k8 at h⊢
 have e1:=vd hb
 rw[if_neg (show ¬(true=false) by decide)]at e1
 by_cases e:lr (M.drop (k+1))<0
 ·rw[if_pos e]at e1⊢
  rw[h,e1];rfl
 ·rw[if_neg e]at e1⊢
  rw[h,e1,if_neg (by omega)];omega
theorem k8.hit {M:List Bool}{k:Nat}(h:k8 M k)(hb:M[k]?=some false):lr M=k:=by
 unfold k8 at h
 have e1:=vd hb
 rw[if_pos rfl]at e1
 rw[h,e1,if_neg (by decide)];omega
theorem k8.fin {M:List Bool}{k:Nat}(h:k8 M k)(hb:M.length≤k):lr M= -1:=by
 unfold k8 at h
 rw[h,GW hb];rfl
def eB:Rp Bool:=⟨1,by decide,fun a=>[.bool a],fun _=>True,fun _=>rfl,fun x u h=>by rw[List.mem_singleton.1 h];rfl⟩
theorem m9 (U:List Bool):rows eB U=U.map fun a=>Value.bool a:=by
 show U.flatMap (fun a=>[Value.bool a])=_
 induction U with
 |nil=>rfl
 |cons a U ih=>rw[List.flatMap_cons,ih];rfl
theorem pW {U:List Bool}{k:Nat}{a:Bool}(h:U[k]?=some a):(rows eB U)[k*1+0]?=some (.bool a):=by
 rw[m9,Nat.mul_one,Nat.add_zero,List.getElem?_map,h];rfl
theorem k9 {U:List Bool}{k:Nat}{a:Bool}:(rows eB U).set (k*1+0) (.bool a)=rows eB (U.set k a):=by
 rw[m9,m9,Nat.mul_one,Nat.add_zero,List.map_set]
theorem pX (n:Nat):List.replicate n (Value.bool false)=rows eB (List.replicate n false):=by rw[m9,List.map_replicate]
theorem tQ (u:Value)(M:List Bool):cz Tryz.prog 103 #[u,.bool false] [sl eB u M] (iv (lr M)):=by
 refine cz.iL (args:=[u,.bool false]) 19 Tryz.func103 rfl Tryz.ntmps103 rfl (fun c=> ?_);refine St.seq ?_;refine St.wf u (fun huw Eo=> ?_);refine St.rg ?_;refine St.ar ?_;refine St.nn (St.seq (St.sr ?_));refine St.mv ?_;refine St.ee (Ev.au (.mk rfl) fb) ?_;refine St.mv ?_;refine St.nn (St.block ?_);refine St.lS (ι:=Nat) (fun k T=>(8,iv k)::T) (fun k=>k≤M.length∧k8 M k) (fun k=>M.length-k) 0 (aE.cons 0 rfl (aE.cons 1 rfl (aE.cons 7 rfl aE.nil))) ⟨Nat.zero_le _,k8.nil M⟩ ?_;intro k dK;obtain⟨hk,Xx⟩:=dK;refine St.sr ?_;refine St.ee Ev.dz ?_;refine St.nn (St.seq ?_);refine St.cond _ rfl (fun h9=> ?_) (fun h9=> ?_)
 ·try simp only[aC]at h9
  obtain⟨b,hb⟩:=aQ (show k<M.length by omega);refine St.skip (St.aA (St.seq (St.block (St.sr ?_))));refine St.mv ?_;refine St.ar ?_;refine St.nn (St.sr ?_);refine St.mv ?_;refine St.mv ?_;refine St.mv ?_;refine St.ee (Ev.aR (k:=k) (.mk rfl) (.mk rfl) fb q9 (by omega) (by omega)) ?_;refine St.ee (Ev.fL (.mk rfl) hb uP trivial rfl) ?_;refine St.ee (Ev.J9 (.mk rfl) (.mk rfl) uP) ?_;refine St.nn ?_;refine St.cond _ rfl (fun pY=> ?_) (fun pY=> ?_)
  ·skip
   have OL:M[k]?=some false:=by rw[hb];cases b;rfl;cases pY
   refine St.sr ?_;refine St.mv ?_;refine St.ar ?_;refine St.nn (St.ab (St.aN (St.aB (St.aB (St.aN (St.aB ?_))))));refine St.rU [_] [] Tryz.results103 ?_;exact congrArg iv (Xx.hit OL).symm
  ·skip
   have OM:M[k]?=some true:=by rw[hb];cases b;cases pY;rfl
   refine St.skip (St.aO (St.aA (St.rg ?_)));refine St.ee Ev.a0 ?_;refine St.mv ?_;refine St.nn ?_;refine St.aS (k+1) ⟨by omega,Xx.step OM⟩
 ·try simp only[aC]at h9
  refine St.exit (St.aI (St.aI (St.bM (St.aA (St.sr ?_)))));refine St.ar ?_;refine St.nn (St.ab ?_);refine St.rU [_] [] Tryz.results103 ?_;exact congrArg iv (Xx.fin (by omega)).symm
abbrev kf (l:List Nat):List Int:=l.map fun i:Nat=>(i:Int)
theorem kA (U:List Int):rows aK U=U.map fun a=>iv a:=by
 show U.flatMap (fun a=>[iv a])=_
 induction U with
 |nil=>rfl
 |cons a U ih=>rw[List.flatMap_cons,ih];rfl
theorem E3 {l:List Nat}{i:Nat}:(rows aK (kf (l++ [i])))[l.length*1+0]?=some (iv (i:Nat)):=by
 rw[kA,Nat.mul_one,Nat.add_zero,kf,List.map_map,List.getElem?_map,List.getElem?_append_right (Nat.le_refl _),Nat.sub_self];rfl
theorem GX {l:List Nat}{i:Nat}:(rows aK (kf (l++ [i]))).take (l.length*1)=rows aK (kf l):=by
 rw[kA,kA,Nat.mul_one,kf,kf,List.map_append,List.map_append];exact List.take_left' (by simp)
theorem E4 {l:List Nat}{p:Int}(h:0≤p):rows aK (kf l)++ [iv p]=rows aK (kf (l++ [p.toNat])):=by
 rw[kA,kA,kf,kf,List.map_append,List.map_append,List.map_cons,List.map_nil,List.map_cons,List.map_nil,Int.toNat_of_nonneg h]
theorem xU {α:Type}{l:List α}(h:0<l.length):∃m x,l=m++ [x]:=by
 rcases List.eq_nil_or_concat l with rfl|⟨m,x,rfl⟩
 ·simp at h
 ·exact⟨m,x,by rw[List.concat_eq_append]⟩
set_option maxHeartbeats 2000000 in
theorem tR (g:eH)(hg:zE (dH g))(hn:g.nodes.length≤60):cz Tryz.prog 100 #[dJ g] [bU g] (iv (M7 (dH g))):=by
 refine cz.iL (args:=[dJ g]) 58 Tryz.func100 rfl Tryz.ntmps100 rfl (fun c=> ?_);refine St.seq ?_
 refine St.fI (bU g) (fun _:Unit=>l6 g) (fun ρ h=>⟨(),h⟩) fun _=> ?_
 refine St.cast (H':=[aF (sl ej g.nv.1 g.nodes),aF (aX dS g.nodes),aF (bU g)]) rfl ?_
 have CC:=ke g
 have mY:0<g.nodes.length:=by have:=hg.1;omega
 refine St.rg ?_;refine St.cX (.mk rfl) rfl (fun b1=> ?_);refine St.ar ?_;refine St.nn (St.sr ?_);refine St.ee (Ev.aD (.mk rfl) eX) ?_;refine St.ee (Ev.l0 (.mk rfl) eM) ?_;refine St.ee (Ev.au (.mk rfl) eM) ?_;refine St.gL (m:=g.nodes.length) (.mk rfl) (.mk rfl) fb q9 Vq Vr rfl rfl (by omega) rfl rfl (fun kX=> ?_);refine St.bB (.slice (some ⟨kX,0,none⟩) g.nodes.length g.nodes.length) rfl (pX _) ?_;refine St.ar ?_;refine St.nn (St.sr ?_);refine St.mv ?_;refine St.ee (Ev.cN (k:=0) (.mk rfl) (.mk rfl) fb q9 (by omega) (by omega)) ?_;refine St.dM (.mk rfl) (.mk rfl) q9 rfl (by omega) (by decide) ?_;refine St.bB (.slice (some ⟨kX,0,none⟩) g.nodes.length g.nodes.length) rfl k9 ?_;refine St.nn (St.seq (St.sr ?_));refine St.cn rfl (.cons (.mk rfl) .nil) bE cr eE rfl rfl (by simp[Value.cells]) rfl rfl (fun nd=> ?_);refine St.bB (.slice (some ⟨nd,0,none⟩) 1 1) (show _=([0]:List Nat).length from rfl) (show _=rows aK (kf [0])from rfl) ?_;refine St.ar ?_;refine St.nn (St.block ?_);refine St.my (ι:=Unit) (κ:=Value×List Nat×List Bool) (fun u z T=>(4,z.1)::T) (fun u z=>[row (.slice (some ⟨kX,0,none⟩) g.nodes.length g.nodes.length) 4 1 g.nodes.length (rows eB z.2.2),row z.1 3 1 (z.2.1).length (rows aK (kf (z.2.1))),ae b1 (.cells [g.nv.1].toArray 30 (0,0)),aF (sl ej g.nv.1 g.nodes),aF (aX dS g.nodes)]) (fun u z=>K9 (dH g) z.2.2 z.2.1∧g.nodes.length-mU z.2.2+z.2.1.length≤g.nodes.length+1) (fun u z=>g.nodes.length-mU z.2.2+z.2.1.length) () ((.slice (some ⟨nd,0,none⟩) 1 1),[0],(List.replicate g.nodes.length false).set 0 true) (aE.cons 1 rfl (aE.cons 2 rfl (aE.cons 3 rfl aE.nil))) ⟨by have:=K9.start hg.1;rw[CC]at this;exact this,by show _-_+1≤_;omega⟩ ?_;rintro u ⟨vz,st,M⟩ ⟨hd,hmu⟩
 dsimp only at hd hmu⊢
 have hML:=hd.len
 refine St.seq (St.sr ?_);refine St.mv ?_;refine St.ee (Ev.fl (.mk rfl) bE) ?_;refine St.ee Ev.s5 ?_;refine St.nn ?_;refine St.cond _ rfl (fun mW=> ?_) (fun mW=> ?_)
 ·try simp only[aC]at mW
  obtain⟨s0,i,rfl⟩:=xU (show 0<st.length by omega)
  have uO:(s0++ [i]).length=s0.length+1:=by rw[List.length_append];rfl
  have hiM:=cG (hd.OJ i (by simp))
  obtain⟨t,ht⟩:=aQ (show i<g.nodes.length by omega)
  have lg:=List.mem_of_getElem? ht
  have zI:(dH g).getD i sg=kN t:=by rw[List.getD_eq_getElem?_getD,iD ht];rfl
  have Vu:=hd.pop
  refine St.cC dS g.nodes (x:=t) lg ?_;refine St.fo (sl eu t.lv.1 t.aY) [dS t] (fun ρ h=>h _ (List.mem_cons_self ..)) ?_;refine St.wf t.lv.1 (fun KB qc=> ?_);refine St.skip (St.aA (St.block (St.sr ?_)));refine St.mv ?_;refine St.mv ?_;refine St.ee (Ev.fl (.mk rfl) bE) ?_;refine St.ee Ev.s0 ?_;refine St.ee (Ev.cN (k:=s0.length) (.mk rfl) (.mk rfl) bE cr (by omega) (by omega)) ?_;refine St.ee (Ev.j2 (.mk rfl) bP trivial (by omega) E3) ?_;refine St.ar ?_;refine St.nn (St.sr ?_);refine St.mv ?_;refine St.mv ?_;refine St.ee (Ev.fl (.mk rfl) bE) ?_;refine St.ee Ev.s0 ?_;refine St.ee (Ev.oS (h:=s0.length) (.mk rfl) (.mk rfl) bE cr (by omega) (by omega)) ?_;refine St.Ad vz s0.length (by omega) ?_;refine St.bB (ou vz 1 0 s0.length) rfl GX ?_;refine St.ar ?_;refine St.nn (St.sr ?_);refine St.ee (Ev.aD (.mk rfl) eX) ?_;refine St.ee (Ev.l0 (.mk rfl) eM) ?_;refine St.mv ?_;refine St.ee (Ev.aR (k:=i) (.mk rfl) (.mk rfl) eM fS (by omega) (by omega)) ?_;refine St.ee (Ev.eR (.mk rfl) (by omega) gG) ?_;refine St.ee (Ev.fL (.mk rfl) ht e6 trivial rfl) ?_;refine St.ee (Ev.au (.mk rfl) e6) ?_;refine St.mv ?_;refine St.nn (St.block ?_);refine St.my (ι:=Nat) (κ:=Value×List Nat×List Bool) (fun q z T=>(36,iv q)::(4,z.1)::T) (fun q z=>[row (.slice (some ⟨kX,0,none⟩) g.nodes.length g.nodes.length) 4 1 g.nodes.length (rows eB z.2.2),row z.1 3 1 (z.2.1).length (rows aK (kf (z.2.1))),ae b1 (.cells [g.nv.1].toArray 30 (0,0)),aF (sl eu t.lv.1 t.aY),aF (sl ej g.nv.1 g.nodes),aF (aX dS g.nodes)]) (fun q z=>q≤t.aY.length∧oI (dH g) i q z.2.2 z.2.1∧g.nodes.length-mU z.2.2+z.2.1.length=g.nodes.length-mU M+s0.length) (fun q z=>t.aY.length-q) 0 (ou vz 1 0 s0.length,s0,M) (aE.cons 1 rfl (aE.cons 2 rfl (aE.cons 3 rfl (aE.cons 34 rfl (aE.cons 35 rfl aE.nil))))) ⟨Nat.zero_le _,Vu,rfl⟩ ?_;rintro q ⟨wz,sw,W⟩ ⟨hq,oH,qJ⟩
  dsimp only at oH qJ⊢
  have hWL:=oH.len
  have hWm:=xT W
  refine St.sr ?_;refine St.ee Ev.dz ?_;refine St.nn (St.seq ?_);refine St.cond _ rfl (fun yr=> ?_) (fun yr=> ?_)
  ·try simp only[aC]at yr
   obtain⟨p,hp⟩:=aQ (show q<t.aY.length by omega)
   have xV:((dH g).getD i sg).2[q]?=some (gI p):=by rw[zI];show(t.aY.map gI)[q]?=_;rw[List.getElem?_map,hp];rfl
   obtain⟨_,Iy,Rs⟩:=hg.at_ (List.mem_of_getElem? xV)
   replace Iy:0≤p.to:=Iy
   replace Rs:p.to.toNat<(dH g).length:=Rs
   obtain⟨b,hb⟩:=aQ (show p.to.toNat<W.length by omega);refine St.skip (St.aA (St.seq (St.block (St.sr ?_))));refine St.ee (Ev.aR (k:=q) (.mk rfl) (.mk rfl) e6 eV (by omega) (by omega)) ?_;refine St.ee (Ev.fg (.mk rfl) hp pK trivial eV en.eq) ?_;refine St.alloc r7 rfl (fun b7=> ?_);refine St.sA (.mk rfl) (.mk rfl) eV ?_ (h1:=(by simp only[List.all_cons,List.all_nil,Bool.and_true,Bool.and_eq_true];exact⟨rfl,rfl⟩));refine St.nn (St.sr ?_);refine St.mv ?_;refine St.ee (Ev.aD (.mk rfl) ga) ?_;refine St.ee (Ev.l0 (.mk rfl) bP) ?_;refine St.ee (Ev.cN (k:=p.to.toNat) (.mk rfl) (.mk rfl) fb q9 (by omega) (by omega)) ?_;refine St.ee (Ev.j2 (.mk rfl) uP trivial (by omega) (pW hb)) ?_;refine St.ee (Ev.not (.mk rfl)) ?_;refine St.nn ?_;refine St.cond _ rfl (fun vW=> ?_) (fun vW=> ?_)
   ·skip
    have OL:W[p.to.toNat]?=some false:=by rw[hb];cases b;rfl;cases vW
    have hcn:=KA OL
    have hcm:=xT (W.set p.to.toNat true)
    rw[List.length_set]at hcm
    have JC:=oH.new hg xV
    refine St.sr ?_;refine St.mv ?_;refine St.ee (Ev.aD (.mk rfl) ga) ?_;refine St.ee (Ev.l0 (.mk rfl) bP) ?_;refine St.ee (Ev.cN (k:=p.to.toNat) (.mk rfl) (.mk rfl) fb q9 (by omega) (by omega)) ?_;refine St.dM (.mk rfl) (.mk rfl) q9 rfl (by omega) (by decide) ?_;refine St.bB (.slice (some ⟨kX,0,none⟩) g.nodes.length g.nodes.length) rfl k9 ?_;refine St.nn (St.rg ?_);refine St.mv ?_;refine St.ee (Ev.aD (.mk rfl) ga) ?_;refine St.ee (Ev.l0 (.mk rfl) bP) ?_;refine St.cn rfl (.cons (.mk rfl) .nil) bE cr eE rfl rfl (by simp[Value.cells]) rfl rfl (fun Xy=> ?_);refine St.cL (.mk rfl) (.mk rfl) bE cr eE Ix (by simp[Value.oneCell',Value.cells]) (by omega) (by omega) rfl rfl rfl rfl (fun Xz acI=> ?_);refine St.bB Xz (show _=(sw++ [p.to.toNat]).length from eg) (show _=rows aK (kf (sw++ [p.to.toNat]))from E4 Iy) ?_;refine St.ar ?_;refine St.nil (St.aO (St.aA (St.rg ?_)));refine St.ee Ev.a0 ?_;refine St.mv ?_;refine St.nn ?_;refine St.ji (q+1) (Xz,sw++ [p.to.toNat],W.set p.to.toNat true) ⟨by omega,JC,by rw[hcn,List.length_append];simp only[List.length_cons,List.length_nil];omega⟩
   ·skip
    have OM:W[p.to.toNat]?=some true:=by rw[hb];cases b;cases vW;rfl
    have hold:=oH.AU xV OM
    refine St.skip (St.aO (St.aA (St.rg ?_)));refine St.ee Ev.a0 ?_;refine St.mv ?_;refine St.nn ?_;refine St.ji (q+1) (wz,sw,W) ⟨by omega,hold,qJ⟩
  ·try simp only[aC]at yr
   obtain rfl:q=t.aY.length:=by omega
   refine St.exit (St.aI (St.aI (St.bM (St.aO (St.aA ?_)))));rw[show t.aY.length=((dH g).getD i sg).2.length by rw[zI];exact(List.length_map _).symm]at oH;refine St.C9 () (wz,sw,W) ⟨oH.done,by dsimp only;omega⟩ (by dsimp only;rw[List.length_append];simp only[List.length_cons,List.length_nil];omega) (by repeat(first|exact Sub.nil|refine Sub.cons (by first|rfl|exact congrArg (fun z=>some (iv z)) (by first|omega|(dsimp only;omega))|exact congrArg (fun z=>some (Value.bool z)) (by first|assumption|exact Eq.symm (by assumption))) ?_)) (fun _ hw=>hw.sub)
 ·try simp only[aC]at mW
  obtain rfl:st=[]:=List.eq_nil_of_length_eq_zero (by omega)
  have od:=hd.fin hg
  refine St.aU (.slice (some ⟨kX,0,none⟩) g.nodes.length g.nodes.length) eB M rfl (by omega) (fun _ _=>trivial) ?_;refine St.exit (St.aI (St.aI (St.bM (St.aA (St.sr ?_)))));refine St.mv ?_;refine St.ee (Ev.call (tQ (.slice (some ⟨kX,0,none⟩) g.nodes.length g.nodes.length) M) MM (.cons (.mk rfl) (.cons (.mk rfl) .nil))) ?_;refine St.ar ?_;refine St.nn (St.ab ?_);refine St.rU [_] [] Tryz.results100 ?_;exact congrArg iv (by rw[od];rfl)
theorem GY {nf nn i:Int}:∀{l:List (Int×Int)} {z:Int},(vJ nf nn i z l).1=0→∀x∈l,0≤x.1∧x.1<nf∧0≤x.2∧x.2<nn
 | [],_,_=>fun x hx=>by cases hx
 |y::l,z,h=>by
  rw[vJ]at h
  by_cases h1:y.1<0∨nf≤y.1∨y.2<0∨nn≤y.2
  ·rw[if_pos h1]at h;exact absurd h (by simp)
  rw[if_neg h1]at h
  by_cases h2:y.1≤z
  ·rw[if_pos h2]at h;exact absurd h (by simp)
  rw[if_neg h2]at h;intro x hx
  rcases List.mem_cons.1 hx with rfl|hx
  ·omega
  ·exact GY h x hx
theorem pZ {nt nf nn:Int}:∀{l:gx} {i:Nat},(dn nt nf nn i l).1=0→∀n∈l,(0≤n.1∧n.1<nt)∧∀x∈n.2,0≤x.1∧x.1<nf∧0≤x.2∧x.2<nn
 | [],_,_=>fun x hx=>by cases hx
 |y::l,i,h=>by
  rw[dn]at h
  by_cases h1:y.1<0∨nt≤y.1
  ·rw[if_pos h1]at h;exact absurd h (by simp)
  rw[if_neg h1]at h
  by_cases h2:(vJ nf nn i (-1) y.2).1≠0
  ·rw[if_pos h2]at h;exact absurd h h2
  rw[if_neg h2]at h;intro x hx
  rcases List.mem_cons.1 hx with rfl|hx
  ·exact⟨by omega,GY (Decidable.not_not.1 h2)⟩
  ·exact pZ h x hx
theorem nE {nt nf:Int}{g:gx}(h:(da nt nf g).1=0):0<g.length∧g.length≤60∧∀n∈g,(0≤n.1∧n.1<nt)∧∀x∈n.2,0≤x.1∧x.1<nf∧0≤x.2∧x.2<g.length:=by
 unfold da at h
 by_cases h1:g.length=0∨60<g.length
 ·rw[if_pos h1]at h;exact absurd h (by simp)
 rw[if_neg h1]at h;exact⟨by omega,by omega,pZ h⟩
theorem zJ {nt nf:Int}{g:gx}(h:(da nt nf g).1=0):zE g:=by
 obtain⟨h1,_,h3⟩:=nE h;exact⟨h1,fun n hn x hx=>by have:=(h3 n hn).2 x hx;omega⟩
theorem ve (w1 w2:cm)(T:List dZ)(hT:gz T)(i j:Int)(hi:0≤i∧i.toNat<T.length)(hj:0≤j∧j.toNat<T.length):cz Tryz.prog 98 #[tK w1 w2,iv i,iv j] [sl eA w1.1 (k6 T),sl eA w2.1 (k7 T)] (.bool (dx T i.toNat j.toNat)):=by
 have:=GU w1 w2 T hT i.toNat j.toNat hi.2 hj.2
 rw[Int.toNat_of_nonneg hi.1,Int.toNat_of_nonneg hj.1]at this;exact this
theorem zK {T:List dZ}{Fs:List mS}{G:gx}{k:Nat}(hk:k<G.length)(h:kQ T Fs G k=true)(hb:∀i,i<k→kQ T Fs G i=false):jt T Fs G=some k:=by
 unfold jt;rw[List.find?_range_eq_some]
 exact⟨h,List.mem_range.2 hk,fun j hj=>by rw[hb j hj];rfl⟩
theorem zL {T:List dZ}{Fs:List mS}{G:gx}(hb:∀i,i<G.length→kQ T Fs G i=false):jt T Fs G=none:=by
 unfold jt;rw[List.find?_eq_none]
 intro b h;rw[hb b (List.mem_range.1 h)];decide
theorem qd {T:List dZ}{Fs:List mS}{G:gx}(h:(da T.length Fs.length G).1≠0):cU T Fs G=da T.length Fs.length G:=by unfold cU;rw[if_pos h]
theorem vf {T:List dZ}{Fs:List mS}{G:gx}{i:Nat}(h:¬(da T.length Fs.length G).1≠0)(h2:jt T Fs G=some i):cU T Fs G=(12,(i:Int)):=by unfold cU;rw[if_neg h,h2]
theorem vg {T:List dZ}{Fs:List mS}{G:gx}(h:¬(da T.length Fs.length G).1≠0)(h2:jt T Fs G=none):cU T Fs G=if 0≤M7 G then(5,M7 G)else(0,0):=by unfold cU;rw[if_neg h,h2]
set_option maxHeartbeats 2000000 in
theorem nF (tv xv w1 w2:cm)(ts:List ja)(fs:List eC)(g:eH)(hT:gz (ts.map bh))(hF:∀f∈fs,0≤f.mm∧f.mm<ts.length∧0≤f.value∧f.value<ts.length):cz Tryz.prog 69 #[.agg #[tv.1,xv.1],tK w1 w2,dJ g] [sl du tv.1 ts,sl bx xv.1 fs,sl eA w1.1 (k6 (ts.map bh)),sl eA w2.1 (k7 (ts.map bh)),bU g] (fv (cU (ts.map bh) (fs.map dL) (dH g))):=by
 refine cz.Qd (args:=[.agg #[tv.1,xv.1],tK w1 w2,dJ g]) 74 Tryz.func69 rfl Tryz.ntmps69 rfl (fun c=> ?_);refine St.seq ?_
 refine St.fI (bU g) (fun _:Unit=>l6 g) (fun ρ h=>⟨(),h⟩) fun _=> ?_
 refine St.cast (H':=[aF (sl ej g.nv.1 g.nodes),aF (aX dS g.nodes),aF (sl du tv.1 ts),aF (sl bx xv.1 fs),aF (sl eA w1.1 (k6 (ts.map bh))),aF (sl eA w2.1 (k7 (ts.map bh))),aF (bU g)]) rfl ?_
 have CC:=ke g
 have rf:(ts.map bh).length=ts.length:=List.length_map ..
 have E1:(fs.map dL).length=fs.length:=List.length_map ..
 refine St.wf g.nv.1 (fun Rq yu=> ?_);refine St.rg ?_;refine St.cX (.mk rfl) rfl (fun b3=> ?_);refine St.cX (.mk rfl) rfl (fun b4=> ?_);refine St.cX (.mk rfl) rfl (fun b5=> ?_);refine St.alloc dC rfl (fun b6=> ?_);refine St.nn (St.seq (St.sr ?_));refine St.ee (Ev.bH (.mk rfl) mz trivial (by exact lV)) ?_;refine St.ee (Ev.bH (.mk rfl) oW trivial (by exact n5)) ?_;refine St.ee (Ev.call (BB tv xv ts fs g) Xj (.cons (.mk rfl) (.cons (.mk rfl) .nil))) ?_;refine St.alloc dC rfl (fun b7=> ?_);refine St.sA (.mk rfl) (.mk rfl) bC ?_;refine St.nn (St.sr ?_);refine St.ee (Ev.aD (.mk rfl) cb) ?_;refine St.ee (Ev.l0 (.mk rfl) bP) ?_;refine St.ee Ev.jj ?_;refine St.nn ?_;refine St.cond _ rfl (fun gP=> ?_) (fun gP=> ?_)
 ·skip
  have hb:(da (ts.map bh).length (fs.map dL).length (dH g)).1≠0:=by rw[rf,E1];simpa using gP
  have oQ:=qd hb
  rw[rf,E1]at oQ;refine St.sr ?_;refine St.ee (Ev.bH (.mk rfl) gF trivial (by exact bC)) ?_;refine St.sA (.mk rfl) (.mk rfl) bC ?_;refine St.nn (St.ab (St.aB ?_));refine St.rU [_] [] Tryz.results69 ?_;exact congrArg fv oQ.symm
 ·skip
  have hb:¬(da (ts.map bh).length (fs.map dL).length (dH g)).1≠0:=by rw[rf,E1];simpa using gP
  have xV:=zJ (Decidable.not_not.1 hb)
  obtain⟨JA,Y0,q8⟩:=nE (Decidable.not_not.1 hb);refine St.skip (St.aA (St.seq (St.sr ?_)));refine St.ee (Ev.aD (.mk rfl) eX) ?_;refine St.ee (Ev.l0 (.mk rfl) eM) ?_;refine St.ee (Ev.au (.mk rfl) eM) ?_;refine St.mv ?_;refine St.nn (St.block ?_);refine St.lS (ι:=Nat) (fun k T=>(24,iv k)::T) (fun k=>k≤g.nodes.length∧∀i,i<k→kQ (ts.map bh) (fs.map dL) (dH g) i=false) (fun k=>g.nodes.length-k) 0 (aE.cons 3 rfl (aE.cons 4 rfl (aE.cons 5 rfl (aE.cons 6 rfl (aE.cons 22 rfl (aE.cons 23 rfl aE.nil)))))) ⟨Nat.zero_le _,fun i hi=>absurd hi (by omega)⟩ ?_;intro k dK;obtain⟨hk,Dt⟩:=dK;refine St.sr ?_;refine St.ee Ev.dz ?_;refine St.nn (St.seq ?_);refine St.cond _ rfl (fun oJ=> ?_) (fun oJ=> ?_)
  ·try simp only[aC]at oJ
   obtain⟨t,ht⟩:=aQ (show k<g.nodes.length by omega)
   have lg:=List.mem_of_getElem? ht
   refine St.cC dS g.nodes (x:=t) lg ?_;refine St.fo (sl eu t.lv.1 t.aY) [dS t] (fun ρ h=>h _ (List.mem_cons_self ..)) ?_;refine St.wf t.lv.1 (fun KB qc=> ?_)
   have zI:(dH g).getD k sg=kN t:=by rw[List.getD_eq_getElem?_getD,iD ht];rfl
   obtain⟨uZ,OO⟩:=q8 (kN t) (List.mem_of_getElem? (iD ht))
   replace uZ:0≤t.type∧t.type<((ts.map bh).length:Int):=uZ
   refine St.skip (St.aA (St.seq (St.block (St.sr ?_))));refine St.mv ?_;refine St.ee (Ev.aR (k:=k) (.mk rfl) (.mk rfl) eM fS (by omega) (by omega)) ?_;refine St.ee (Ev.fg (.mk rfl) ht vN trivial fS en.eq) ?_;refine St.alloc sx rfl (fun b9=> ?_);refine St.ar ?_;refine St.sA (.mk rfl) (.mk rfl) fS ?_ (h1:=(by simp only[List.all_cons,List.all_nil,Bool.and_true,Bool.and_eq_true];exact⟨rfl,t.lv.2⟩));refine St.nn (St.sr ?_);refine St.ee (Ev.aD (.mk rfl) gG) ?_;refine St.ee (Ev.l0 (.mk rfl) e6) ?_;refine St.ee (Ev.au (.mk rfl) e6) ?_;refine St.mv ?_;refine St.nn (St.block ?_);refine St.lS (ι:=Nat) (fun q T=>(32,iv q)::T) (fun q=>q≤t.aY.length∧∀j,j<q→∀x,(kN t).2[j]?=some x→si (ts.map bh) (fs.map dL) (dH g) t.type x=false) (fun q=>t.aY.length-q) 0 (aE.cons 3 rfl (aE.cons 4 rfl (aE.cons 5 rfl (aE.cons 6 rfl (aE.cons 8 rfl (aE.cons 9 rfl (aE.cons 22 rfl (aE.cons 23 rfl (aE.cons 24 rfl (aE.cons 30 rfl (aE.cons 31 rfl aE.nil))))))))))) ⟨Nat.zero_le _,fun j hj=>absurd hj (by omega)⟩ ?_;intro q dK;obtain⟨hq,oH⟩:=dK;refine St.sr ?_;refine St.ee Ev.dz ?_;refine St.nn (St.seq ?_);refine St.cond _ rfl (fun qA=> ?_) (fun qA=> ?_)
   ·try simp only[aC]at qA
    obtain⟨p,hp⟩:=aQ (show q<t.aY.length by omega)
    have zM:(kN t).2[q]?=some (gI p):=by show(t.aY.map gI)[q]?=_;rw[List.getElem?_map,hp];rfl
    have Q0:=OO (gI p) (List.mem_of_getElem? zM)
    replace Q0:0≤p.dh∧p.dh<((fs.map dL).length:Int)∧0≤p.to∧p.to<((dH g).length:Int):=Q0
    obtain⟨fe,OP⟩:=aQ (show p.dh.toNat<fs.length by omega);obtain⟨u,hu⟩:=aQ (show p.to.toNat<g.nodes.length by omega)
    have hfo:=hF fe (List.mem_of_getElem? OP)
    have Rt:=(q8 (kN u) (List.mem_of_getElem? (iD hu))).1
    replace Rt:0≤u.type∧u.type<((ts.map bh).length:Int):=Rt
    have wq:(!dx (ts.map bh) t.type.toNat fe.mm.toNat|| !dx (ts.map bh) u.type.toNat fe.value.toNat)=si (ts.map bh) (fs.map dL) (dH g) t.type (gI p):=by
     unfold si
     rw[show(gI p).1=p.dh from rfl,show(gI p).2=p.to from rfl,List.getD_eq_getElem?_getD,List.getElem?_map,OP,List.getD_eq_getElem?_getD,iD hu];rfl
    refine St.skip (St.aA (St.seq (St.block (St.sr ?_))));refine St.ee (Ev.aR (k:=q) (.mk rfl) (.mk rfl) e6 eV (by omega) (by omega)) ?_;refine St.ee (Ev.fg (.mk rfl) hp pK trivial eV en.eq) ?_;refine St.alloc r7 rfl (fun kX=> ?_);refine St.sA (.mk rfl) (.mk rfl) eV ?_ (h1:=(by simp only[List.all_cons,List.all_nil,Bool.and_true,Bool.and_eq_true];exact⟨rfl,rfl⟩));refine St.nn (St.sr ?_);refine St.ee (Ev.aD (.mk rfl) jK) ?_;refine St.ee (Ev.l0 (.mk rfl) ib) ?_;refine St.ee (Ev.aD (.mk rfl) gZ) ?_;refine St.ee (Ev.l0 (.mk rfl) bP) ?_;refine St.ee (Ev.aR (k:=p.dh.toNat) (.mk rfl) (.mk rfl) ib j8 (by omega) (by omega)) ?_;refine St.ee (Ev.fg (.mk rfl) OP yc trivial j8 en.eq) ?_;refine St.alloc vQ rfl (fun B6=> ?_);refine St.sA (.mk rfl) (.mk rfl) j8 ?_ (h1:=(by simp only[List.all_cons,List.all_nil,Bool.and_true,Bool.and_eq_true];exact⟨rfl,rfl,rfl⟩));refine St.nn (St.seq ?_);refine St.rq mixed (by kernel_rfl) (Mm.drawn _ _) ?_;refine Sq.ee (Ev.bH (.mk rfl) oA trivial (by exact iB)) ?_;refine Sq.ee (Ev.aD (.mk rfl) kV) ?_;refine Sq.ee (Ev.l0 (.mk rfl) bP) ?_;refine Sq.ee (Ev.aD (.mk rfl) nX) ?_;refine Sq.ee (Ev.l0 (.mk rfl) bP) ?_;refine Sq.ee (Ev.call (ve w1 w2 (ts.map bh) hT t.type fe.mm ⟨by omega,by omega⟩ ⟨by omega,by omega⟩) RQ (.cons (.mk rfl) (.cons (.mk rfl) (.cons (.mk rfl) .nil)))) ?_;refine Sq.ee (Ev.not (.mk rfl)) ?_;refine Sq.ee (Ev.move (.mk rfl)) ?_;refine Sq.gf _ rfl rfl (fun hg=>Ev.bH (.mk rfl) oA trivial (by exact iB)) rfl ?_;refine Sq.gf _ rfl rfl (fun hg=>Ev.aD (.mk rfl) eX) rfl ?_;refine Sq.gf _ rfl rfl (fun hg=>Ev.cS (aL.gv rfl hg) eM trivial (by rfl)) rfl ?_;refine Sq.gf _ rfl rfl (fun hg=>Ev.aD (.mk rfl) ga) rfl ?_;refine Sq.gf _ rfl rfl (fun hg=>Ev.cS (aL.gv rfl hg) bP trivial (by rfl)) rfl ?_;refine Sq.gf _ rfl rfl (fun hg=>Ev.aR (k:=p.to.toNat) (aL.gv rfl hg) (aL.gv rfl hg) eM fS (by first|omega|(simp only[aC]at hg;omega)) (by first|omega|(simp only[aC]at hg;omega))) rfl ?_;refine Sq.gf _ rfl rfl (fun hg=>Ev.eR (aL.gv rfl hg) (by first|omega|(simp only[aC]at hg;omega)) kV) rfl ?_;refine Sq.gf _ rfl rfl (fun hg=>Ev.fL (aL.gv rfl hg) hu bP trivial rfl) rfl ?_;refine Sq.gf _ rfl rfl (fun hg=>Ev.aD (.mk rfl) nY) rfl ?_;refine Sq.gf _ rfl rfl (fun hg=>Ev.cS (aL.gv rfl hg) bP trivial (by rfl)) rfl ?_;refine Sq.gf _ rfl rfl (fun hg=>Ev.call (ve w1 w2 (ts.map bh) hT u.type fe.value ⟨by omega,by omega⟩ ⟨by omega,by omega⟩) RQ (.cons (aL.gv rfl hg) (.cons (aL.gv rfl hg) (.cons (aL.gv rfl hg) .nil)))) rfl ?_;refine Sq.gf _ rfl rfl (fun hg=>Ev.not (aL.gv rfl hg)) rfl ?_;refine Sq.ee Ev.o0 ?_;refine Sq.nil ?_;refine St.aA ?_;refine St.cond _ rfl (fun ox=> ?_) (fun ox=> ?_)
    ·skip
     rw[wq]at ox
     have OQ:kQ (ts.map bh) (fs.map dL) (dH g) k=true:=by unfold kQ;rw[zI,List.any_eq_true];exact⟨gI p,List.mem_of_getElem? zM,ox⟩
     have oQ:=vf hb (zK (by omega) OQ Dt)
     refine St.sr ?_;refine St.mv ?_;refine St.ee (Ev.call (eb 12 k) Dk (.cons (.mk rfl) (.cons (.mk rfl) .nil))) ?_;refine St.sA (.mk rfl) (.mk rfl) bC ?_;refine St.nn (St.ab (St.aN (St.aB (St.aB (St.aN (St.aN (St.aB (St.aB (St.aN (St.aB ?_))))))))));refine St.rU [_] [] Tryz.results69 ?_;exact congrArg fv oQ.symm
    ·skip
     rw[wq]at ox;refine St.skip (St.aO (St.aA (St.rg ?_)));refine St.ee Ev.a0 ?_;refine St.mv ?_;refine St.nn ?_;refine St.aS (q+1) ⟨by omega,fun j hj x hx=>by rcases Nat.lt_or_ge j q with h|h;exact oH j h x hx;rw[show j=q by omega,zM]at hx;cases hx;exact ox⟩
   ·try simp only[aC]at qA
    refine St.exit (St.aI (St.aI (St.bM (St.aO (St.aA (St.rg ?_))))));refine St.ee Ev.a0 ?_;refine St.mv ?_;refine St.nn ?_
    have OQ:kQ (ts.map bh) (fs.map dL) (dH g) k=false:=by
     unfold kQ;rw[zI,List.any_eq_false]
     intro x hx;obtain⟨j,hj⟩:=List.getElem?_of_mem hx
     rw[show(kN t).1=t.type from rfl,oH j (by have:=cG hj;rw[show(kN t).2.length=t.aY.length from List.length_map _]at this;omega) x hj];decide
    refine St.aS (k+1) ⟨by omega,fun i hi=>by rcases Nat.lt_or_ge i k with h|h;exact Dt i h;rw[show i=k by omega];exact OQ⟩
  ·try simp only[aC]at oJ
   have oQ:=vg hb (zL (by rw[CC];intro i hi;exact Dt i (by omega)))
   refine St.exit (St.aI (St.aI (St.bM (St.aA (St.seq (St.sr ?_))))));refine St.ee (Ev.bH (.mk rfl) oW trivial (by exact n5)) ?_;refine St.ee (Ev.call (tR g xV (by omega)) RR (.cons (.mk rfl) .nil)) ?_;refine St.ar ?_;refine St.nn (St.sr ?_);refine St.mv ?_;refine St.ee Ev.ra ?_;refine St.nn ?_;refine St.cond _ rfl (fun re=> ?_) (fun re=> ?_)
   ·try simp only[aC]at re
    rw[if_pos (by omega)]at oQ;refine St.sr ?_;refine St.mv ?_;refine St.ee (Ev.call (eb 5 (M7 (dH g))) Dk (.cons (.mk rfl) (.cons (.mk rfl) .nil))) ?_;refine St.sA (.mk rfl) (.mk rfl) bC ?_;refine St.nn (St.ab (St.aB ?_));refine St.rU [_] [] Tryz.results69 ?_;exact congrArg fv oQ.symm
   ·try simp only[aC]at re
    rw[if_neg (by omega)]at oQ;refine St.skip (St.aA (St.sr ?_));refine St.ee (Ev.build (ps:=[]) (aV.nil) (fun w=>fB w)) ?_;refine St.sA (.mk rfl) (.mk rfl) bC ?_;refine St.nn (St.ab ?_);refine St.rU [_] [] Tryz.results69 ?_;exact congrArg fv oQ.symm
def tS (a b:Int):Int:=if a<b then-1 else if b<a then 1 else 0
def Asc (l:List fO):Prop:=∀(i j:Nat) (x y:fO),i<j→l[i]?=some x→l[j]?=some y→x.dh<y.dh
def Ru (l:List fO)(k:Int)(v:Value):Prop:=∃(i:Nat) (b:Bool),v= .tuple #[iv i,.bool b]∧(b=true→∃x,l[i]?=some x∧x.dh=k)∧(b=false→∀x∈l,x.dh≠k)
theorem tT (x:Int):cz Tryz.prog 146 #[iv x] [] (.bool false):=by
 refine cz.kI (args:=[iv x]) 6 Tryz.func146 rfl Tryz.ntmps146 rfl (fun c=> ?_);refine St.sr ?_;refine St.ar ?_;refine St.nn (St.sr ?_);refine St.mv ?_;refine St.mv ?_;refine St.ee Ev.jj ?_;refine St.ar ?_;refine St.nn (St.ab ?_);refine St.rU [_] [] Tryz.results146 ?_;exact be (by simp)
theorem xW (x y:Int):cz Tryz.prog 137 #[iv x,iv y] [] (iv (tS x y)):=by
 refine cz.kI (args:=[iv x,iv y]) 20 Tryz.func137 rfl Tryz.ntmps137 rfl (fun c=> ?_);refine St.sr ?_;refine St.ar ?_;refine St.nn (St.sr ?_);refine St.mv ?_;refine St.ee (Ev.call (tT x) MN (.cons (.mk rfl) .nil)) ?_;refine St.ar ?_;refine St.nn (St.sr ?_);refine St.mv ?_;refine St.ee (Ev.call (tT y) MN (.cons (.mk rfl) .nil)) ?_;refine St.ar ?_;refine St.nn (St.seq (St.sr ?_));refine St.mv ?_;refine St.nn ?_;refine St.oy _ rfl rfl ?_;refine St.skip (St.aA (St.seq (St.sr ?_)));refine St.mv ?_;refine St.nn ?_;refine St.oy _ rfl rfl ?_;refine St.skip (St.aA (St.seq (St.sr ?_)));refine St.mv ?_;refine St.mv ?_;refine St.ee Ev.dz ?_;refine St.nn ?_;refine St.cond _ rfl (fun pY=> ?_) (fun pY=> ?_)
 ·try simp only[aC]at pY
  refine St.sr ?_;refine St.ar ?_;refine St.nn (St.ab (St.aB ?_));refine St.rU [_] [] Tryz.results137 ?_;exact ie (by unfold tS;rw[if_pos pY])
 ·try simp only[aC]at pY
  refine St.skip (St.aA (St.seq (St.sr ?_)));refine St.mv ?_;refine St.mv ?_;refine St.ee Ev.s5 ?_;refine St.nn ?_;refine St.cond _ rfl (fun gP=> ?_) (fun gP=> ?_)
  ·try simp only[aC]at gP
   refine St.sr ?_;refine St.ar ?_;refine St.nn (St.ab (St.aB ?_));refine St.rU [_] [] Tryz.results137 ?_;exact ie (by unfold tS;rw[if_neg (by omega),if_pos (by omega)])
  ·try simp only[aC]at gP
   refine St.skip (St.aA (St.sr ?_));refine St.ar ?_;refine St.nn (St.ab ?_);refine St.rU [_] [] Tryz.results137 ?_;exact ie (by unfold tS;rw[if_neg (by omega),if_neg (by omega)])
theorem pa (x:fO)(k:Int):cz Tryz.prog 136 ([Value.agg #[iv x.dh,iv x.to],iv k]++ []).toArray [] (iv (tS x.dh k)):=by
 refine cz.kI (args:=[Value.agg #[iv x.dh,iv x.to],iv k]++ []) 9 Tryz.func136 rfl Tryz.ntmps136 rfl (fun c=> ?_);refine St.sr ?_;refine St.cX (.mk rfl) rfl (fun b2=> ?_);refine St.ar ?_;refine St.nn (St.sr ?_);refine St.ee (Ev.aD (.mk rfl) gZ) ?_;refine St.ee (Ev.l0 (.mk rfl) bP) ?_;refine St.mv ?_;refine St.ee (Ev.call (xW x.dh k) RS (.cons (.mk rfl) (.cons (.mk rfl) .nil))) ?_;refine St.ar ?_;refine St.nn (St.ab ?_);refine St.rU [_] [] Tryz.results136 ?_;rfl
set_option maxHeartbeats 1000000 in
theorem GZ (u:Value)(l:List fO)(k:Int)(ha:Asc l)(hl:l.length≤1000000):fC Tryz.prog 135 #[u,iv k,.func (.func 136) #[] #[]] ([sl eu u l].map aF) (fun v H'=>Ru l k v∧H'=[]):=by
 refine fC.body (args:=[u,iv k,.func (.func 136) #[] #[]]) 49 Tryz.func135 rfl Tryz.ntmps135 rfl (fun c=> ?_);refine St.cast (H':=[aF (sl eu u l)]) rfl ?_;refine St.sr ?_;refine St.ar ?_;refine St.ar ?_;refine St.nn (St.sr ?_);refine St.mv ?_;refine St.ee (Ev.au (.mk rfl) e6) ?_;refine St.ar ?_;refine St.nn (St.sr ?_);refine St.mv ?_;refine St.ar ?_;refine St.ar ?_;refine St.nn (St.seq (St.block ?_));refine St.lS (ι:=Nat×Nat) (fun x T=>(9,iv x.1)::(10,iv x.2)::T) (fun x=>x.1≤x.2∧x.2≤l.length∧(∀j y,j<x.1→l[j]?=some y→y.dh<k)∧(∀j y,x.2≤j→l[j]?=some y→k≤y.dh)) (fun x=>x.2-x.1) (0,l.length) (aE.cons 0 rfl (aE.cons 1 rfl (aE.cons 2 rfl (aE.cons 6 rfl (aE.cons 7 rfl (aE.cons 8 rfl aE.nil)))))) ⟨Nat.zero_le _,Nat.le_refl _,fun j y hj=>absurd hj (Nat.not_lt_zero j),fun j y hj h=>by have:=cG h;omega⟩ ?_;rintro ⟨i,j⟩ ⟨lb,Eh,zN,ng⟩
 dsimp only at lb Eh zN ng⊢
 refine St.seq (St.sr ?_);refine St.mv ?_;refine St.mv ?_;refine St.ee Ev.dz ?_;refine St.nn ?_;refine St.cond _ rfl (fun mW=> ?_) (fun mW=> ?_)
 ·try simp only[aC]at mW
  have wV:i≤(i+j)/2:=by omega
  have qJ:(i+j)/2<j:=by omega
  obtain⟨y,hy⟩:=aQ (show(i+j)/2<l.length by omega);refine St.skip (St.aA (St.block (St.sr ?_)));refine St.mv ?_;refine St.mv ?_;refine St.ee Ev.a0 ?_;refine St.ee (Ev.Nb ((i+j)) (.mk rfl) (by rw[bP];rfl) ye (by omega)) ?_;refine St.ee (Ev.Na 1 2 (by decide) (.mk rfl) (.mk rfl) (by decide)) ?_;refine St.ee (Ev.sa (.mk rfl) (by rw[ye];rfl) bP (by omega)) ?_;refine St.ar ?_;refine St.nn (St.sr ?_);refine St.mv ?_;refine St.mv ?_;refine St.mv ?_;refine St.ee (Ev.aR (k:=((i+j)/2)) (.mk rfl) (.mk rfl) e6 eV (by omega) (by omega)) ?_;refine St.ee (Ev.fg (.mk rfl) hy pK trivial eV en.eq) ?_;refine St.mv ?_;refine St.ee (Ev.dR (pa y k) MO (.mk rfl) (.cons (.mk rfl) (.cons (.mk rfl) .nil))) ?_;refine St.ee Ev.dz ?_;refine St.nn ?_;refine St.cond _ rfl (fun kE=> ?_) (fun kE=> ?_)
  ·try simp only[aC]at kE
   have KC:y.dh<k:=by unfold tS at kE;split at kE<;>first|assumption|(split at kE<;>omega)
   refine St.rg ?_;refine St.mv ?_;refine St.ee Ev.a0 ?_;refine St.ar ?_;refine St.nil (St.aO (St.aA ?_));refine St.aS ((i+j)/2+1,j) ⟨by show(i+j)/2+1≤j;omega,Eh,fun q z hq hz=>by rcases Nat.lt_or_ge q ((i+j)/2)with g|g;exact Int.lt_trans (ha _ _ _ _ g hz hy) KC;rw[show q=(i+j)/2 from Nat.le_antisymm (Nat.le_of_lt_succ hq) g,hy]at hz;cases hz;exact KC,ng⟩
  ·try simp only[aC]at kE
   have KC:k≤y.dh:=by unfold tS at kE;split at kE<;>omega
   refine St.rg ?_;refine St.mv ?_;refine St.ar ?_;refine St.nil (St.aO (St.aA ?_));refine St.aS (i,(i+j)/2) ⟨wV,by show(i+j)/2≤l.length;omega,zN,fun q z hq hz=>by rcases Nat.lt_or_ge ((i+j)/2) q with g|g;exact Int.le_trans KC (Int.le_of_lt (ha _ _ _ _ g hy hz));rw[show q=(i+j)/2 from Nat.le_antisymm g hq,hy]at hz;cases hz;exact KC⟩
 ·try simp only[aC]at mW
  have NY:i=j:=by omega
  subst NY;refine St.exit (St.aI (St.aI (St.bM (St.aA (St.sr ?_)))));refine St.mv ?_;refine St.mv ?_;refine St.mv ?_;refine St.ee Ev.dz ?_;refine St.split 38 _ rfl (fun OS=> ?_) (fun OS=> ?_)
  ·have hiW:i<l.length:=by simpa using OS
   obtain⟨y,hy⟩:=aQ hiW;refine St.mv ?_;refine St.bz rfl rfl ?_;refine St.mv ?_;refine St.bz rfl rfl ?_;refine St.mv ?_;refine St.bz rfl rfl ?_;refine St.mv ?_;refine St.bz rfl rfl ?_;refine St.ee (Ev.aR (k:=i) (.mk rfl) (.mk rfl) e6 eV (by omega) (by omega)) ?_;refine St.bz rfl rfl ?_;refine St.ee (Ev.fg (.mk rfl) hy pK trivial eV en.eq) ?_;refine St.bz rfl rfl ?_;refine St.mv ?_;refine St.bz rfl rfl ?_;refine St.ee (Ev.dR (pa y k) MO (.mk rfl) (.cons (.mk rfl) (.cons (.mk rfl) .nil))) ?_;refine St.bz rfl rfl ?_;refine St.ee Ev.fa ?_;refine St.split 47 _ rfl (fun OT=> ?_) (fun OT=> ?_)
   ·refine St.ee (Ev.er (.mk rfl) rfl (.mk rfl)) ?_
    refine St.ar ?_;refine St.ar ?_;refine St.nn (St.ab ?_);refine St.rT [_,_] [] Tryz.results135 ⟨rfl,⟨rfl,trivial⟩⟩ ?_
    have hc:tS y.dh k=0:=by simpa using OT
    have KC:y.dh=k:=by unfold tS at hc;split at hc;cases hc;split at hc;cases hc;omega
    exact⟨⟨i,true,rfl,fun _=>⟨y,hy,KC⟩,fun h=>(by cases h)⟩,rfl⟩
   ·refine St.ee (Ev.er (.mk rfl) rfl (.mk rfl)) ?_
    refine St.ar ?_;refine St.ar ?_;refine St.nn (St.ab ?_);refine St.rT [_,_] [] Tryz.results135 ⟨rfl,⟨rfl,trivial⟩⟩ ?_
    have hc:tS y.dh k≠0:=by simpa using OT
    have KC:y.dh≠k:=fun e=>hc (by unfold tS;rw[if_neg (by omega),if_neg (by omega)])
    have Pz:=ng i y (Nat.le_refl _) hy
    exact⟨⟨i,false,rfl,fun h=>(by cases h),fun _ z hz=>by obtain⟨q,hq⟩:=List.getElem?_of_mem hz;rcases Nat.lt_trichotomy q i with g|g|g;have:=zN q z g hq;omega;rw[g,hy]at hq;cases hq;exact KC;have:=ha _ _ _ _ g hy hq;omega⟩,rfl⟩
  ·have hiW:l.length≤i:=by simpa using OS
   refine St.mv ?_;refine St.qx rfl rfl rfl ?_;refine St.qx rfl rfl rfl ?_;refine St.qx rfl rfl rfl ?_;refine St.qx rfl rfl rfl ?_;refine St.qx rfl rfl rfl ?_;refine St.qx rfl rfl rfl ?_;refine St.qx rfl rfl rfl ?_;refine St.qx rfl rfl rfl ?_;refine St.ee (Ev.iM (.mk rfl) rfl (.mk rfl)) ?_;refine St.ar ?_;refine St.ar ?_;refine St.nn (St.ab ?_);refine St.rT [_,_] [] Tryz.results135 ⟨rfl,⟨rfl,trivial⟩⟩ ?_;exact⟨⟨i,false,rfl,fun h=>(by cases h),fun _ z hz=>by obtain⟨q,hq⟩:=List.getElem?_of_mem hz;have h1:=cG hq;have h2:=zN q z (by omega) hq;omega⟩,rfl⟩
def Cc (G:gx)(i:Nat)(k:Int):Int:=match(G.getD i sg).2.find? fun x=>x.1==k with
 |some x=>x.2
 |none=> -1
theorem Ga (G:gx)(k:Int):Cc G 0 k=AG G k:=rfl
theorem KD {l:List fO}(ha:Asc l){j:Nat}{x:fO}{k:Int}(hx:l[j]?=some x)(hk:x.dh=k):(l.map gI).find? (fun y=>y.1==k)=some (gI x):=by
 cases h:(l.map gI).find? (fun y=>y.1==k)with
 |none=>
  rw[List.find?_eq_none]at h;exact absurd (show((gI x).1==k)=true by rw[beq_iff_eq];exact hk) (h (gI x) (List.mem_map_of_mem (List.mem_of_getElem? hx)))
 |some y=>
  have h1:=List.find?_some h
  obtain⟨z,hz,rfl⟩:=List.mem_map.1 (List.mem_of_find?_eq_some h)
  have hzk:z.dh=k:=by simpa[gI]using h1
  obtain⟨q,hq⟩:=List.getElem?_of_mem hz
  rcases Nat.lt_trichotomy q j with g|g|g
  ·have:=ha _ _ _ _ g hq hx;omega
  ·rw[g,hx]at hq;cases hq;rfl
  ·have:=ha _ _ _ _ g hx hq;omega
theorem Gb {l:List fO}{k:Int}(h:∀x∈l,x.dh≠k):(l.map gI).find? (fun y=>y.1==k)=none:=by
 rw[List.find?_eq_none];intro y hy;obtain⟨z,hz,rfl⟩:=List.mem_map.1 hy
 rw[beq_iff_eq];exact h z hz
theorem Cd {nf nn i:Int}:∀{l:List fO} {z:Int},(vJ nf nn i z (l.map gI)).1=0→(∀x∈l,z<x.dh)∧Asc l
 | [],_,_=>⟨fun x hx=>(by cases hx),fun i j x y _ hi=>(by simp at hi)⟩
 |y::l,z,h=>by
  rw[List.map_cons,vJ]at h
  by_cases h1:(gI y).1<0∨nf≤(gI y).1∨(gI y).2<0∨nn≤(gI y).2
  ·rw[if_pos h1]at h;exact absurd h (by simp)
  rw[if_neg h1]at h
  by_cases h2:(gI y).1≤z
  ·rw[if_pos h2]at h;exact absurd h (by simp)
  rw[if_neg h2]at h;obtain⟨k1,k2⟩:=Cd h
  replace k1:∀x∈l,y.dh<x.dh:=k1
  replace h2:¬y.dh≤z:=h2
  refine⟨fun x hx=> ?_,fun i j a b NY ha hb=> ?_⟩
  ·rcases List.mem_cons.1 hx with rfl|hx
   ·omega
   ·have:=k1 x hx;omega
  ·obtain⟨j,rfl⟩:∃j',j=j'+1:=⟨j-1,by omega⟩
   rw[List.getElem?_cons_succ]at hb
   cases i with
   |zero=>rw[List.getElem?_cons_zero]at ha;cases ha;exact k1 b (List.mem_of_getElem? hb)
   |succ i=>rw[List.getElem?_cons_succ]at ha;exact k2 i j a b (by omega) ha hb
theorem oK {nt nf nn:Int}:∀{l:List jr} {i:Nat},(dn nt nf nn i (l.map kN)).1=0→∀n∈l,Asc n.aY
 | [],_,_=>fun x hx=>by cases hx
 |y::l,i,h=>by
  rw[List.map_cons,dn]at h
  by_cases h1:(kN y).1<0∨nt≤(kN y).1
  ·rw[if_pos h1]at h;exact absurd h (by simp)
  rw[if_neg h1]at h
  by_cases h2:(vJ nf nn i (-1) (kN y).2).1≠0
  ·rw[if_pos h2]at h;exact absurd h h2
  rw[if_neg h2]at h;intro x hx
  rcases List.mem_cons.1 hx with rfl|hx
  ·exact(Cd (Decidable.not_not.1 h2)).2
  ·exact oK h x hx
theorem vh {nt nf:Int}{g:eH}(h:(da nt nf (dH g)).1=0):∀n∈g.nodes,Asc n.aY:=by
 unfold da at h
 by_cases h1:(dH g).length=0∨60<(dH g).length
 ·rw[if_pos h1]at h;exact absurd h (by simp)
 rw[if_neg h1]at h;exact oK h
set_option maxHeartbeats 1000000 in
theorem zO (g:eH)(i:Nat)(k:Int)(hi:i<g.nodes.length)(ha:∀n∈g.nodes,Asc n.aY∧n.aY.length≤1000000):cz Tryz.prog 116 #[dJ g,iv i,iv k] [bU g] (iv (Cc (dH g) i k)):=by
 refine cz.iL (args:=[dJ g,iv i,iv k]) 32 Tryz.func116 rfl Tryz.ntmps116 rfl (fun c=> ?_);refine St.seq ?_
 refine St.fI (bU g) (fun _:Unit=>l6 g) (fun ρ h=>⟨(),h⟩) fun _=> ?_
 refine St.cast (H':=[aF (sl ej g.nv.1 g.nodes),aF (aX dS g.nodes),aF (bU g)]) rfl ?_;obtain⟨t,ht⟩:=aQ hi
 have lg:=List.mem_of_getElem? ht
 refine St.cC dS g.nodes (x:=t) lg ?_;refine St.fo (sl eu t.lv.1 t.aY) [dS t] (fun ρ h=>h _ (List.mem_cons_self ..)) ?_
 have zI:(dH g).getD i sg=kN t:=by rw[List.getD_eq_getElem?_getD,iD ht];rfl
 have OU:Cc (dH g) i k=match(t.aY.map gI).find? (fun x=>x.1==k)with|some x=>x.2|none=> -1:=by unfold Cc;rw[zI];rfl
 obtain⟨Rv,Iz⟩:=ha t lg;refine St.rg ?_;refine St.cX (.mk rfl) rfl (fun b3=> ?_);refine St.ar ?_;refine St.nn (St.sr ?_);refine St.ee (Ev.aD (.mk rfl) eX) ?_;refine St.ee (Ev.l0 (.mk rfl) eM) ?_;refine St.mv ?_;refine St.ee (Ev.aR (k:=i) (.mk rfl) (.mk rfl) eM fS (by omega) (by omega)) ?_;refine St.ee (Ev.eR (.mk rfl) (by omega) gG) ?_;refine St.ee (Ev.fL (.mk rfl) ht e6 trivial rfl) ?_;refine St.mv ?_;refine St.ay (GZ t.lv.1 t.aY k Rv Iz) RT (.cons (.mk rfl) (.cons (.mk rfl) (.cons (.mk rfl) .nil))) rfl ?_;rintro v17 _ ⟨⟨j,b,rfl,OM,OL⟩,rfl⟩;refine St.aJ ?_;refine St.mv ?_;refine St.ee (Ev.extract (.mk rfl) rfl) ?_;refine St.ee (Ev.extract (.mk rfl) rfl) ?_;refine St.ar ?_;refine St.ar ?_;refine St.nn (St.seq (St.sr ?_));refine St.mv ?_;refine St.ee (Ev.not (.mk rfl)) ?_;refine St.nn ?_;refine St.cond _ rfl (fun qU=> ?_) (fun qU=> ?_)
 ·skip
  have Y1:b=false:=by simpa using qU
  rw[Gb (OL Y1)]at OU;refine St.sr ?_;refine St.ar ?_;refine St.nn (St.ab (St.aB ?_));refine St.rU [_] [] Tryz.results116 ?_;exact ie OU.symm
 ·skip
  have Ps:b=true:=by simpa using qU
  obtain⟨x,hx,hxk⟩:=OM Ps
  have DQ:=cG hx
  rw[KD Rv hx hxk]at OU;refine St.skip (St.aA (St.sr ?_));refine St.ee (Ev.aD (.mk rfl) eX) ?_;refine St.ee (Ev.l0 (.mk rfl) eM) ?_;refine St.mv ?_;refine St.ee (Ev.aR (k:=i) (.mk rfl) (.mk rfl) eM fS (by omega) (by omega)) ?_;refine St.ee (Ev.eR (.mk rfl) (by omega) gG) ?_;refine St.ee (Ev.fL (.mk rfl) ht e6 trivial rfl) ?_;refine St.mv ?_;refine St.ee (Ev.aR (k:=j) (.mk rfl) (.mk rfl) e6 eV (by omega) (by omega)) ?_;refine St.ee (Ev.eR (.mk rfl) (by omega) ga) ?_;refine St.ee (Ev.fL (.mk rfl) hx bP trivial rfl) ?_;refine St.ar ?_;refine St.nn (St.ab ?_);refine St.rU [_] [] Tryz.results116 ?_;exact ie OU.symm
theorem zP (g:eH)(kids:Int)(hn:0<g.nodes.length)(ha:∀n∈g.nodes,Asc n.aY∧n.aY.length≤1000000):cz Tryz.prog 95 #[dJ g,iv kids] [bU g] (.bool (kR (dH g) kids)):=by
 refine cz.iL (args:=[dJ g,iv kids]) 18 Tryz.func95 rfl Tryz.ntmps95 rfl (fun c=> ?_);refine St.sr ?_;refine St.cX (.mk rfl) rfl (fun b2=> ?_);refine St.ar ?_;refine St.nn (St.seq (St.sr ?_));refine St.mv ?_;refine St.nn (St.block ?_);refine St.lS (ι:=Nat) (fun k T=>(6,iv k)::T) (fun k=>k≤4∧∀j,j<k→(decide (0≤AG (dH g) (j:Nat))==decide (((j:Nat):Int)≤kids))=true) (fun k=>4-k) 0 (aE.cons 1 rfl (aE.cons 2 rfl aE.nil)) ⟨Nat.zero_le _,fun j hj=>absurd hj (by omega)⟩ ?_;intro k dK;obtain⟨hk,oH⟩:=dK;refine St.sr ?_;refine St.ee Ev.dz ?_;refine St.nn (St.seq ?_);refine St.cond _ rfl (fun h7=> ?_) (fun h7=> ?_)
 ·try simp only[aC]at h7
  refine St.skip (St.aA (St.seq (St.block (St.sr ?_))));refine St.mv ?_;refine St.ar ?_;refine St.nn (St.sr ?_);refine St.ee (Ev.bH (.mk rfl) oW trivial (by exact n5)) ?_;refine St.mv ?_;refine St.ee (Ev.call (zO g 0 k hn ha) RU (.cons (.mk rfl) (.cons (.mk rfl) (.cons (.mk rfl) .nil)))) ?_;refine St.ee Ev.ra ?_;refine St.mv ?_;refine St.mv ?_;refine St.ee Ev.Iw ?_;refine St.ee (Ev.rr (.mk rfl) (.mk rfl) uP) ?_;refine St.nn ?_;refine St.cond _ rfl (fun pY=> ?_) (fun pY=> ?_)
  ·skip
   have Y2:(decide (0≤AG (dH g) (k:Nat))==decide (((k:Nat):Int)≤kids))=false:=by rw[beq_eq_false_iff_ne];simp[Ga]at pY;exact pY
   refine St.sr ?_;refine St.ar ?_;refine St.nn (St.ab (St.aN (St.aB (St.aB (St.aN (St.aB ?_))))));refine St.rU [_] [] Tryz.results95 ?_;exact be (by unfold kR;symm;rw[List.all_eq_false];exact⟨k,List.mem_range.2 (by omega),by rw[Y2];decide⟩)
  ·skip
   have Y2:(decide (0≤AG (dH g) (k:Nat))==decide (((k:Nat):Int)≤kids))=true:=by rw[beq_iff_eq];simp[Ga]at pY;exact pY
   refine St.skip (St.aO (St.aA (St.rg ?_)));refine St.ee Ev.a0 ?_;refine St.mv ?_;refine St.nn ?_;refine St.aS (k+1) ⟨by omega,fun j hj=>by rcases Nat.lt_or_ge j k with h|h;exact oH j h;rw[show j=k by omega];exact Y2⟩
 ·try simp only[aC]at h7
  refine St.exit (St.aI (St.aI (St.bM (St.aA (St.sr ?_)))));refine St.ar ?_;refine St.nn (St.ab ?_);refine St.rU [_] [] Tryz.results95 ?_;exact be (by unfold kR;symm;rw[List.all_eq_true];intro j hj;exact oH j (by have:=List.mem_range.1 hj;omega))
theorem Gc {l:List fO}(ha:Asc l)(h0:∀x∈l,0≤x.dh):∀(i:Nat) (x:fO),l[i]?=some x→(i:Int)≤x.dh
 |0,x,hx=>h0 x (List.mem_of_getElem? hx)
 |i+1,x,hx=>by
  obtain⟨y,hy⟩:=aQ (show i<l.length by have:=cG hx;omega)
  have h1:=Gc ha h0 i y hy
  have h2:=ha i (i+1) y x (Nat.lt_succ_self i) hy hx
  omega
theorem KE {l:List fO}(ha:Asc l){nf:Nat}(h0:∀x∈l,0≤x.dh∧x.dh<nf):l.length≤nf:=by
 rcases Nat.eq_zero_or_pos l.length with h|h
 ·omega
 ·obtain⟨y,hy⟩:=aQ (show l.length-1<l.length by omega)
  have h1:=Gc ha (fun x hx=>(h0 x hx).1) _ y hy
  have h2:=(h0 y (List.mem_of_getElem? hy)).2
  omega
theorem vi {n:Int}:∀{l:List mS} {known:List cV} {i:Nat},(jE n known i l).1=0→∀f∈l,0≤f.2.1∧f.2.1<n∧0≤f.2.2∧f.2.2<n
 | [],_,_,_=>fun f hf=>by cases hf
 |t::l,known,i,h=>by
  rw[jE]at h
  by_cases h1:isName t.1=false
  ·rw[if_pos h1]at h;exact absurd h (by simp)
  rw[if_neg h1]at h
  by_cases h2:t.1∈known
  ·rw[if_pos h2]at h;exact absurd h (by simp)
  rw[if_neg h2]at h
  by_cases h3:t.2.1<0∨n≤t.2.1∨t.2.2<0∨n≤t.2.2
  ·rw[if_pos h3]at h;exact absurd h (by simp)
  rw[if_neg h3]at h;intro f hf
  rcases List.mem_cons.1 hf with rfl|hf
  ·omega
  ·exact vi h f hf
theorem Ce {T:List dZ}{Fs:List mS}(h:(fP T Fs).1=0):0<T.length∧gz T∧Fs.length≤40∧∀f∈Fs,0≤f.2.1∧f.2.1<T.length∧0≤f.2.2∧f.2.2<T.length:=by
 unfold fP at h
 by_cases h1:40<Fs.length
 ·rw[if_pos h1]at h;exact absurd h (by simp)
 rw[if_neg h1]at h
 by_cases h2:(q7 T).1≠0
 ·rw[if_pos h2]at h;exact absurd h h2
 rw[if_neg h2]at h;obtain⟨_,k1,k2⟩:=B1 (Decidable.not_not.1 h2)
 cases e:kP T with
 |some b=>rw[e]at h;exact absurd h (by simp)
 |none=>rw[e]at h;exact⟨k1,k2,by omega,vi h⟩
theorem vj:∀{vs:List dP} {known:List cV} {i:Nat},(fy known i vs).1=0→fy known i vs=(0,0)∧∀v∈vs,1≤v.kind∧v.kind≤4∧isName v.name=true∧(v.kind=2→isName v.label=true)∧(v.kind=3→isWord v.label=true)∧((v.kind=1∨v.kind=4)→v.label=[])
 | [],_,_,_=>by rw[fy];exact⟨rfl,fun v hv=>by cases hv⟩
 |v::vs,known,i,h=>by
  rw[fy]at h⊢
  by_cases h1:v.kind<1∨4<v.kind
  ·rw[if_pos h1]at h;exact absurd h (by simp)
  rw[if_neg h1]at h⊢
  by_cases h2:isName v.name=false∨(v.kind=2∧isName v.label=false)∨(v.kind=3∧isWord v.label=false)
  ·rw[if_pos h2]at h;exact absurd h (by simp)
  rw[if_neg h2]at h⊢
  by_cases h3:v.name∈known
  ·rw[if_pos h3]at h;exact absurd h (by simp)
  rw[if_neg h3]at h⊢
  by_cases h4:(v.kind=1∨v.kind=4)∧v.label≠ []
  ·rw[if_pos h4]at h;exact absurd h (by simp)
  rw[if_neg h4]at h⊢;obtain⟨k1,k2⟩:=vj h;refine⟨k1,fun u hu=> ?_⟩
  rcases List.mem_cons.1 hu with rfl|hu
  ·simp only[not_or,not_and,Bool.not_eq_false,ne_eq,Decidable.not_not]at h2 h4
   exact⟨by omega,by omega,h2.1,h2.2.1,h2.2.2,h4⟩
  ·exact k2 u hu
theorem vk {n:Int}:∀{ls:List eL} {i:Nat},(hY n i ls).1=0→hY n i ls=(0,0)∧∀l∈ls,1≤l.kind∧l.kind≤5∧0≤l.a∧l.a<n∧0≤l.b∧l.b<n∧l.a≠l.b
 | [],_,_=>by rw[hY];exact⟨rfl,fun v hv=>by cases hv⟩
 |l::ls,i,h=>by
  rw[hY]at h⊢
  by_cases h1:l.kind<1∨5<l.kind
  ·rw[if_pos h1]at h;exact absurd h (by simp)
  rw[if_neg h1]at h⊢
  by_cases h2:l.a<0∨n≤l.a∨l.b<0∨n≤l.b
  ·rw[if_pos h2]at h;exact absurd h (by simp)
  rw[if_neg h2]at h⊢
  by_cases h3:l.a=l.b
  ·rw[if_pos h3]at h;exact absurd h (by simp)
  rw[if_neg h3]at h⊢;obtain⟨k1,k2⟩:=vk h;refine⟨k1,fun u hu=> ?_⟩
  rcases List.mem_cons.1 hu with rfl|hu
  ·exact⟨by omega,by omega,by omega,by omega,by omega,by omega,h3⟩
  ·exact k2 u hu
structure rG (vs:List dP)(ks:List eL):Prop where
 pos:0<vs.length
 Rx:vs.length≤4
 aY:ks.length≤8
 var:∀v∈vs,1≤v.kind∧v.kind≤4∧isName v.name=true∧(v.kind=2→isName v.label=true)∧(v.kind=3→isWord v.label=true)∧((v.kind=1∨v.kind=4)→v.label=[])
 link:∀l∈ks,1≤l.kind∧l.kind≤5∧0≤l.a∧l.a<vs.length∧0≤l.b∧l.b<vs.length∧l.a≠l.b
theorem sC {vs:List dP}{ks:List eL}(h:(jw vs ks).1=0):jw vs ks=(0,0)∧rG vs ks:=by
 unfold jw at h⊢
 by_cases h1:4<vs.length∨8<ks.length
 ·rw[if_pos h1]at h;exact absurd h (by simp)
 rw[if_neg h1]at h⊢
 by_cases h2:vs.length=0
 ·rw[if_pos h2]at h;exact absurd h (by simp)
 rw[if_neg h2]at h⊢
 by_cases h3:(fy [] 0 vs).1≠0
 ·rw[if_pos h3]at h;exact absurd h h3
 rw[if_neg h3]at h⊢;obtain⟨k1,k2⟩:=vk h;exact⟨k1,by omega,by omega,by omega,(vj (Decidable.not_not.1 h3)).2,k2⟩
def ep (g:iw)(vs:List dP)(ks:List eL)(t:fF):List (List Nat):=lT (kG g t 0 (-1) 0) ks vs []
def oe (g:iw)(vs:List dP)(ks:List eL)(t:fF):List (List Nat)×(Int×Int):=
 if(oV g).1≠0 then([],oV g)else if(jw vs ks).1≠0 then([],jw vs ks)else if(ju g t).1≠0 then([],ju g t)
 else if 500<(ep g vs ks t).length then([],(17,0))else(ep g vs ks t,(0,0))
theorem vm {T:List dZ}{Fs:List mS}:∀{l:List pz} {known:List cV} {i:Nat},(ft T Fs known i l).1=0→∀r∈l,1≤r.kids∧r.kids≤3∧0≤r.weight∧isName r.name=true
 | [],_,_,_=>fun r hr=>by cases hr
 |r::l,known,i,h=>by
  rw[ft]at h
  by_cases h1:isName r.name=false
  ·rw[if_pos h1]at h;exact absurd h (by simp)
  rw[if_neg h1]at h
  by_cases h2:r.name∈known
  ·rw[if_pos h2]at h;exact absurd h (by simp)
  rw[if_neg h2]at h
  by_cases h3:kT T Fs r≠0
  ·rw[if_pos h3]at h;exact absurd h h3
  rw[if_neg h3]at h;intro u hu
  rcases List.mem_cons.1 hu with rfl|hu
  ·have h4:=Decidable.not_not.1 h3
   unfold kT at h4
   by_cases h5:u.kids<1∨3<u.kids∨u.weight<0∨1000000<u.weight
   ·rw[if_pos h5]at h4;exact absurd h4 (by simp)
   ·exact⟨by omega,by omega,by omega,by simpa using h1⟩
  ·exact vm h u hu
theorem vn {T:List dZ}{Fs:List mS}:∀{l:List Iu} {i:Nat},(fw T Fs i l).1=0→∀x∈l,isWord x.word=true
 | [],_,_=>fun r hr=>by cases hr
 |x::l,i,h=>by
  rw[fw]at h
  by_cases h3:pC T Fs x≠0
  ·rw[if_pos h3]at h;exact absurd h h3
  rw[if_neg h3]at h;intro u hu
  rcases List.mem_cons.1 hu with rfl|hu
  ·have h4:=Decidable.not_not.1 h3
   unfold pC at h4
   by_cases h5:isWord u.word=false
   ·rw[if_pos h5]at h4;exact absurd h4 (by simp)
   ·simpa using h5
  ·exact vn h u hu
structure Ry (g:iw):Prop where
 rules:g.rules.length≤40
 bA:g.bA.length≤100
 eD:∀r∈g.rules,1≤r.kids∧r.kids≤3∧0≤r.weight∧isName r.name=true
 word:∀x∈g.bA,isWord x.word=true
theorem Cf {g:iw}(h:(oV g).1=0):Ry g:=by
 unfold oV at h
 by_cases h1:(fP g.types g.bb).1≠0
 ·rw[if_pos h1]at h;exact absurd h h1
 rw[if_neg h1]at h
 by_cases h2:g.bb.length≤3
 ·rw[if_pos h2]at h;exact absurd h (by simp)
 rw[if_neg h2]at h
 by_cases h3:40<g.rules.length∨100<g.bA.length
 ·rw[if_pos h3]at h;exact absurd h (by simp)
 rw[if_neg h3]at h
 by_cases h4:(ft g.types g.bb [] 0 g.rules).1≠0
 ·rw[if_pos h4]at h;exact absurd h h4
 rw[if_neg h4]at h
 by_cases h5:(fw g.types g.bb 0 g.bA).1≠0
 ·rw[if_pos h5]at h;exact absurd h h5
 exact⟨by omega,by omega,vm (Decidable.not_not.1 h4),vn (Decidable.not_not.1 h5)⟩
structure OV (g:iw)(t:fF):Prop where
 tU:gU g.rules.length g.bA.length t
 size:o3 t≤200
 leaves:mN t≤12
theorem zQ {g:iw}{t:fF}(hg:(oV g).1=0)(h:(ju g t).1=0):OV g t:=by
 have hk:∀k∈g.rules.map pz.kids,1≤k:=fun k hk=>by
  obtain⟨r,hr,rfl⟩:=List.mem_map.1 hk;exact((Cf hg).eD r hr).1
 unfold ju at h
 by_cases h1:(iT (g.rules.map pz.kids) g.bA.length t 1 0 ⟨0,0⟩).2.1≠0
 ·rw[if_pos h1]at h;exact absurd h h1
 rw[if_neg h1]at h;obtain⟨k1,k2,k3,k4⟩:=FU hk t 1 0 ⟨0,0⟩ (Decidable.not_not.1 h1)
 by_cases h2:12<(iT (g.rules.map pz.kids) g.bA.length t 1 0 ⟨0,0⟩).1.leaves
 ·rw[if_pos h2]at h;exact absurd h (by simp)
 rw[List.length_map]at k1
 dsimp only at k2 k4
 exact⟨k1,by omega,by omega⟩
theorem xX:aq Tryz.prog 96 0=some 0:=by kernel_rfl
theorem Rz:aW Tryz.prog 26:=⟨_,Tryz.func26,rfl,by kernel_rfl⟩
theorem xY:aq Tryz.prog 96 2=some 2:=by kernel_rfl
theorem Gd:aq Tryz.prog 96 1=some 1:=by kernel_rfl
theorem OW:aW Tryz.prog 69:=⟨_,Tryz.func69,rfl,by kernel_rfl⟩
theorem Ge:aq Tryz.prog 96 3=some 3:=by kernel_rfl
theorem S1:aW Tryz.prog 96:=⟨_,Tryz.func96,rfl,by kernel_rfl⟩
theorem nG:aq Tryz.prog 93 2=some 2:=by kernel_rfl
theorem xZ:aq Tryz.prog 93 3=some 3:=by kernel_rfl
theorem xc:aq Tryz.prog 93 1=some 1:=by kernel_rfl
theorem Y3:aW Tryz.prog 95:=⟨_,Tryz.func95,rfl,by kernel_rfl⟩
theorem Gf:aq Tryz.prog 93 4=some 4:=by kernel_rfl
theorem Y4:aW Tryz.prog 64:=⟨_,Tryz.func64,rfl,by kernel_rfl⟩
theorem BC:aW Tryz.prog 65:=⟨_,Tryz.func65,rfl,by kernel_rfl⟩
theorem nH:aq Tryz.prog 93 0=some 0:=by kernel_rfl
theorem Y5:aW Tryz.prog 67:=⟨_,Tryz.func67,rfl,by kernel_rfl⟩
theorem Y6:aW Tryz.prog 68:=⟨_,Tryz.func68,rfl,by kernel_rfl⟩
theorem im:aq Tryz.prog 36 0=some 0:=by kernel_rfl
theorem kB:aq Tryz.prog 36 1=some 1:=by kernel_rfl
theorem uk:aW Tryz.prog 24:=⟨_,Tryz.func24,rfl,by kernel_rfl⟩
theorem tV:(Tryz.prog.info? 71).map (·.size)=some 3:=by kernel_rfl
theorem OX:(Tryz.prog.info? 71).bind (fun i=>i.zero.map Value.cells)=some #[.string ⟨#[]⟩,.int .i64 0,.string ⟨#[]⟩]:=by kernel_rfl
theorem qe:aq Tryz.prog 71 0=some 0:=by kernel_rfl
theorem nI:aq Tryz.prog 71 1=some 1:=by kernel_rfl
theorem qf:aq Tryz.prog 71 2=some 2:=by kernel_rfl
theorem mA:(Tryz.prog.info? 56).map (·.size)=some 3:=by kernel_rfl
theorem KF:(Tryz.prog.info? 56).bind (fun i=>i.zero.map Value.cells)=some #[.int .i64 0,.int .i64 0,.int .i64 0]:=by kernel_rfl
theorem tW:aq Tryz.prog 56 0=some 0:=by kernel_rfl
theorem mB:aq Tryz.prog 56 1=some 1:=by kernel_rfl
theorem mC:aq Tryz.prog 56 2=some 2:=by kernel_rfl
theorem E5:aW Tryz.prog 71:=⟨_,Tryz.func71,rfl,by kernel_rfl⟩
theorem gD:aq Tryz.prog 39 0=some 0:=by kernel_rfl
theorem nJ:aq Tryz.prog 39 1=some 1:=by kernel_rfl
theorem lD:aq Tryz.prog 39 2=some 2:=by kernel_rfl
theorem gH:(Tryz.prog.info? 39).map (·.size)=some 3:=by kernel_rfl
theorem zR:(Tryz.prog.info? 39).bind (fun i=>i.zero.map Value.cells)=some #[.int .i64 0,.int .i64 0,.slice none 0 0]:=by kernel_rfl
theorem S2:aW Tryz.prog 70:=⟨_,Tryz.func70,rfl,by kernel_rfl⟩
theorem S3:(Tryz.prog.info? 134).bind (fun i=>i.zero.map Value.cells)=some #[.nilFunc]:=by kernel_rfl
theorem S4:(Tryz.prog.info? 134).map (·.size)=some 1:=by kernel_rfl
theorem Y7 (w:World):ck Tryz.prog 83 w= .ok #[(0,1),(1,1),(2,1),(3,1),(4,1),(5,1)] w:=by kernel_rfl
theorem Y8:(Tryz.prog.info? 83).bind (fun i=>i.zero.map Value.cells)=some #[.bool false,.string ⟨#[]⟩,.int .i64 0,.int .i64 0,.int .i64 0,.int .i64 0]:=by kernel_rfl
theorem nK:(Tryz.prog.info? 83).map (·.size)=some 6:=by kernel_rfl
theorem S5:(Tryz.prog.info? 83).bind (·.zero)=some (Value.agg #[.bool false,.string ⟨#[]⟩,.int .i64 0,.int .i64 0,.int .i64 0,.int .i64 0]):=by kernel_rfl
theorem Y9:(Tryz.prog.info? 83).map (·.bytes)=some 56:=by kernel_rfl
theorem S6:(Tryz.prog.info? 78).map (·.size)=some 1:=by kernel_rfl
theorem xf:aq Tryz.prog 83 0=some 0:=by kernel_rfl
theorem xg:aq Tryz.prog 83 1=some 1:=by kernel_rfl
theorem S7:aW Tryz.prog 72:=⟨_,Tryz.func72,rfl,by kernel_rfl⟩
theorem Gg:aq Tryz.prog 83 3=some 3:=by kernel_rfl
theorem BD:aq Tryz.prog 83 5=some 5:=by kernel_rfl
theorem S8:(Tryz.prog.info? 78).bind (fun i=>i.zero.map Value.cells)=some #[.slice none 0 0]:=by kernel_rfl
theorem S9:(Tryz.prog.info? 135).bind (fun i=>i.zero.map Value.cells)=some #[.nilFunc]:=by kernel_rfl
theorem SA:(Tryz.prog.info? 135).map (·.size)=some 1:=by kernel_rfl
theorem BE:aq Tryz.prog 83 2=some 2:=by kernel_rfl
theorem Gh:aq Tryz.prog 83 4=some 4:=by kernel_rfl
theorem KG:(Tryz.prog.info? 57).map (·.bytes)=some 24:=by kernel_rfl
theorem KH:(Tryz.prog.info? 44).map (·.size)=some 1:=by kernel_rfl
theorem YA:aW Tryz.prog 33:=⟨_,Tryz.func33,rfl,by kernel_rfl⟩
theorem YB:aW Tryz.prog 34:=⟨_,Tryz.func34,rfl,by kernel_rfl⟩
theorem SB:aW Tryz.prog 32:=⟨_,Tryz.func32,rfl,by kernel_rfl⟩
theorem YC:aW Tryz.prog 29:=⟨_,Tryz.func29,rfl,by kernel_rfl⟩
theorem tX:(Tryz.prog.info? 36).map (·.size)=some 2:=by kernel_rfl
theorem cb7:aW Tryz.prog 7:=⟨_,Tryz.func7,rfl,by kernel_rfl⟩
theorem YD:aW Tryz.prog 30:=⟨_,Tryz.func30,rfl,by kernel_rfl⟩
theorem YE:aW Tryz.prog 31:=⟨_,Tryz.func31,rfl,by kernel_rfl⟩
theorem YF:(Tryz.prog.info? 44).bind (fun i=>i.zero.map Value.cells)=some #[.slice none 0 0]:=by kernel_rfl
theorem YG:(Tryz.prog.info? 57).bind (fun i=>i.zero.map Value.cells)=some #[.slice none 0 0]:=by kernel_rfl
theorem YH:(Tryz.prog.info? 80).bind (fun i=>i.zero.map Value.cells)=some #[.nilFunc]:=by kernel_rfl
theorem YI:(Tryz.prog.info? 80).map (·.size)=some 1:=by kernel_rfl
theorem Gi:aW Tryz.prog 16:=⟨_,Tryz.func16,rfl,by kernel_rfl⟩
theorem OY (w:World):ck Tryz.prog 39 w= .ok #[(0,1),(1,1),(2,1)] w:=by kernel_rfl
theorem SC:(Tryz.prog.info? 39).bind (·.zero)=some (Value.agg #[.int .i64 0,.int .i64 0,.slice none 0 0]):=by kernel_rfl
theorem E6 {u2 u4:Value}(h2:u2.oneCell'=true)(h4:u4.oneCell'=true)(w:World):(Instr.build 83 #[(2,u2),(4,u4)]).run Tryz.prog w= .ok (.agg #[.bool false,.string ⟨#[]⟩,u2,.int .i64 0,u4,.int .i64 0]) w:=
 bZ Y8 (Y7 w) (by simp[Instr.fill,J.bp,J.aG h2,J.aG h4])
theorem vp {u0 u1:Value}(h0:u0.oneCell'=true)(h1:u1.oneCell'=true)(w:World):(Instr.build 39 #[(0,u0),(1,u1)]).run Tryz.prog w= .ok (.agg #[u0,u1,.slice none 0 0]) w:=
 bZ zR (OY w) (by simp[Instr.fill,J.bp,J.aG h0,J.aG h1])
theorem E7 {u0 u2:Value}(h0:u0.oneCell'=true)(h2:u2.oneCell'=true)(w:World):(Instr.build 39 #[(0,u0),(2,u2)]).run Tryz.prog w= .ok (.agg #[u0,.int .i64 0,u2]) w:=
 bZ zR (OY w) (by simp[Instr.fill,J.bp,J.aG h0,J.aG h2])
theorem KI {u2:Value}(h2:u2.oneCell'=true)(w:World):(Instr.build 39 #[(2,u2)]).run Tryz.prog w= .ok (.agg #[.int .i64 0,.int .i64 0,u2]) w:=
 bZ zR (OY w) (by simp[Instr.fill,J.bp,J.aG h2])
mutual
theorem xh {rk:List Int}{nl:Nat}:∀(t:fF) (d ch:Nat) (s:yY),(iT rk nl t d ch s).2.1=0→s.leaves≤s.nodes→(iT rk nl t d ch s).1.nodes≤200∧(iT rk nl t d ch s).1.leaves≤(iT rk nl t d ch s).1.nodes
 | .mk r x l,d,ch,s,h,hs=>by
  rw[iT]at h⊢
  by_cases h1:200<s.nodes+1∨48<d
  ·rw[if_pos h1]at h;exact absurd h (by simp)
  rw[if_neg h1]at h⊢
  by_cases h2:r< -1∨rk.length≤r∨(r= -1∧(x<0∨nl≤x))
  ·rw[if_pos h2]at h;exact absurd h (by simp)
  rw[if_neg h2]at h⊢
  by_cases h3:0≤r∧x≠0
  ·rw[if_pos h3]at h;exact absurd h (by simp)
  rw[if_neg h3]at h⊢
  by_cases h4:(l.length:Int)≠(if 0≤r then rk.getD r.toNat 0 else 0)
  ·rw[if_pos h4]at h;exact absurd h (by simp)
  rw[if_neg h4]at h⊢
  by_cases h5:3<(if l.length=1 then ch+1 else 0)
  ·rw[if_pos h5]at h;exact absurd h (by simp)
  rw[if_neg h5]at h⊢;exact Cg l _ _ _ h (show s.nodes+1≤200 by omega) (by dsimp only;split<;>omega)
theorem Cg {rk:List Int}{nl:Nat}:∀(l:List fF) (d ch:Nat) (s:yY),(iI rk nl l d ch s).2.1=0→s.nodes≤200→s.leaves≤s.nodes→(iI rk nl l d ch s).1.nodes≤200∧(iI rk nl l d ch s).1.leaves≤(iI rk nl l d ch s).1.nodes
 | [],d,ch,s,_,hs,hl=>by rw[iI];exact⟨hs,hl⟩
 |x::l,d,ch,s,h,hs,hl=>by
  rw[iI]at h⊢
  by_cases h1:(iT rk nl x d ch s).2.1≠0
  ·rw[if_pos h1]at h;exact absurd h h1
  rw[if_neg h1]at h⊢;obtain⟨a1,a2⟩:=xh x d ch s (Decidable.not_not.1 h1) hl;exact Cg l d ch _ h a1 a2
end
mutual
theorem Gj {rk:List Int}{nl:Nat}:∀(t:fF) (d ch:Nat) (s:yY),(iT rk nl t d ch s).2.1=0→(iT rk nl t d ch s).2=(0,0)
 | .mk r x l,d,ch,s,h=>by
  rw[iT]at h⊢
  by_cases h1:200<s.nodes+1∨48<d
  ·rw[if_pos h1]at h;exact absurd h (by simp)
  rw[if_neg h1]at h⊢
  by_cases h2:r< -1∨rk.length≤r∨(r= -1∧(x<0∨nl≤x))
  ·rw[if_pos h2]at h;exact absurd h (by simp)
  rw[if_neg h2]at h⊢
  by_cases h3:0≤r∧x≠0
  ·rw[if_pos h3]at h;exact absurd h (by simp)
  rw[if_neg h3]at h⊢
  by_cases h4:(l.length:Int)≠(if 0≤r then rk.getD r.toNat 0 else 0)
  ·rw[if_pos h4]at h;exact absurd h (by simp)
  rw[if_neg h4]at h⊢
  by_cases h5:3<(if l.length=1 then ch+1 else 0)
  ·rw[if_pos h5]at h;exact absurd h (by simp)
  rw[if_neg h5]at h⊢;exact vq l _ _ _ h
theorem vq {rk:List Int}{nl:Nat}:∀(l:List fF) (d ch:Nat) (s:yY),(iI rk nl l d ch s).2.1=0→(iI rk nl l d ch s).2=(0,0)
 | [],d,ch,s,_=>by rw[iI]
 |x::l,d,ch,s,h=>by
  rw[iI]at h⊢
  by_cases h1:(iT rk nl x d ch s).2.1≠0
  ·rw[if_pos h1]at h;exact absurd h h1
  rw[if_neg h1]at h⊢;exact vq l d ch _ h
end
theorem MS (rk:List Int)(nl:Nat)(x:br)(d ch:Nat)(s:yY):iT rk nl (ah x) d ch s=
 if 200<s.nodes+1∨48<d then(⟨s.nodes+1,s.leaves⟩,1,(s.nodes:Int))
 else if x.eD< -1∨rk.length≤x.eD∨(x.eD= -1∧(x.lex<0∨nl≤x.lex))then(⟨s.nodes+1,s.leaves⟩,3,(s.nodes:Int))
 else if 0≤x.eD∧x.lex≠0 then(⟨s.nodes+1,s.leaves⟩,5,(s.nodes:Int))
 else if(x.kids.length:Int)≠(if 0≤x.eD then rk.getD x.eD.toNat 0 else 0)then(⟨s.nodes+1,if 0≤x.eD then s.leaves else s.leaves+1⟩,9,(s.nodes:Int))
 else if 3<(if x.kids.length=1 then ch+1 else 0)then(⟨s.nodes+1,if 0≤x.eD then s.leaves else s.leaves+1⟩,14,(s.nodes:Int))
 else iI rk nl (x.kids.map ah) (d+1) (if x.kids.length=1 then ch+1 else 0) ⟨s.nodes+1,if 0≤x.eD then s.leaves else s.leaves+1⟩:=by
 cases x with
 |mk r y v l=>rw[ah,gl,iT,List.length_map];rfl
theorem vt {rk:List Int}{nl:Nat}{l:List br}{k:Nat}{y:br}(h:l[k]?=some y)(d ch:Nat)(s:yY):iI rk nl ((l.map ah).drop k) d ch s=if(iT rk nl (ah y) d ch s).2.1≠0 then iT rk nl (ah y) d ch s else iI rk nl ((l.map ah).drop (k+1)) d ch (iT rk nl (ah y) d ch s).1:=by
 rw[bf (show(l.map ah)[k]?=some (ah y) by rw[List.getElem?_map,h];rfl),iI]
theorem zS {rk:List Int}{nl:Nat}{l:List br}{k:Nat}(h:l.length≤k)(d ch:Nat)(s:yY):iI rk nl ((l.map ah).drop k) d ch s=(s,0,0):=by
 rw[List.drop_of_length_le (by rw[List.length_map];exact h),iI]
theorem Ch (g:iG)(t:br):ju (fG g) (ah t)=if(iT (g.rules.map bV.kids) g.bA.length (ah t) 1 0 ⟨0,0⟩).2.1≠0 then(iT (g.rules.map bV.kids) g.bA.length (ah t) 1 0 ⟨0,0⟩).2
 else if 12<(iT (g.rules.map bV.kids) g.bA.length (ah t) 1 0 ⟨0,0⟩).1.leaves then(2,-2)else(0,0):=by
 have e1:(fG g).rules.map pz.kids=g.rules.map bV.kids:=by show(g.rules.map lq).map pz.kids=_;rw[List.map_map];rfl
 have e2:(fG g).bA.length=g.bA.length:=List.length_map ..
 unfold ju;rw[e1,e2]
set_option maxHeartbeats 4000000 in
theorem um (bn bg bl bw:Nat)(g:iG):∀(x:br) (d ch:Nat) (s:yY),dY.wf x→d≤100→ch≤100→s.nodes≤200→s.leaves≤s.nodes→fC Tryz.prog 70 ([eW x,iv (d:Nat),iv (ch:Nat)]++ [Value.pointer (some ⟨bn,0,none⟩),Value.pointer (some ⟨bg,0,none⟩),Value.pointer (some ⟨bl,0,none⟩),Value.pointer (some ⟨bw,0,none⟩)]).toArray [aF (cB x),ae bn (.cells [iv ((s.nodes:Nat):Int)].toArray 3 (0,0)),ae bg (.cells [g.tv.1,g.fv.1,g.rv.1,g.xv.1,g.start.nv.1].toArray 32 (0,0)),ae bl (.cells [iv ((s.leaves:Nat):Int)].toArray 3 (0,0)),ae bw (.cells [(.func (.func 70) #[] [Value.pointer (some ⟨bn,0,none⟩),Value.pointer (some ⟨bg,0,none⟩),Value.pointer (some ⟨bl,0,none⟩),Value.pointer (some ⟨bw,0,none⟩)].toArray)].toArray 134 (0,0)),aF (sl cA g.rv.1 g.rules),aF (sl cI g.xv.1 g.bA)] (fun v H'=>v=fv (iT (g.rules.map bV.kids) g.bA.length (ah x) d ch s).2∧H'=[ae bn (.cells [iv (((iT (g.rules.map bV.kids) g.bA.length (ah x) d ch s).1.nodes:Nat):Int)].toArray 3 (0,0)),ae bg (.cells [g.tv.1,g.fv.1,g.rv.1,g.xv.1,g.start.nv.1].toArray 32 (0,0)),ae bl (.cells [iv (((iT (g.rules.map bV.kids) g.bA.length (ah x) d ch s).1.leaves:Nat):Int)].toArray 3 (0,0)),ae bw (.cells [(.func (.func 70) #[] [Value.pointer (some ⟨bn,0,none⟩),Value.pointer (some ⟨bg,0,none⟩),Value.pointer (some ⟨bl,0,none⟩),Value.pointer (some ⟨bw,0,none⟩)].toArray)].toArray 134 (0,0))]):=by
 intro x
 induction x using br.ind
 rename_i x ih
 intro d ch s hw hd hch SD uO;refine fC.body (args:=[eW x,iv (d:Nat),iv (ch:Nat)]++ [Value.pointer (some ⟨bn,0,none⟩),Value.pointer (some ⟨bg,0,none⟩),Value.pointer (some ⟨bl,0,none⟩),Value.pointer (some ⟨bw,0,none⟩)]) 118 Tryz.func70 rfl Tryz.ntmps70 rfl (fun c=> ?_);refine St.seq ?_
 have cp:=MS (g.rules.map bV.kids) g.bA.length x d ch s
 have qc:(g.rules.map bV.kids).length=g.rules.length:=List.length_map ..
 refine St.mo x ?_;refine St.wf x.kv.1 (fun lX sO=> ?_);obtain⟨sn,qB⟩:=s
 dsimp only at cp SD uO⊢
 refine St.wf g.rv.1 (fun _ SE=> ?_);refine St.wf g.xv.1 (fun _ SF=> ?_)
 generalize z6:(if 0≤x.eD then(g.rules.map bV.kids).getD x.eD.toNat 0 else 0)=kn at cp
 generalize J0:(if 0≤x.eD then qB else qB+1)=lv at cp
 generalize uW:(if x.kids.length=1 then ch+1 else 0)=c2 at cp
 refine St.rg ?_;refine St.cX (.mk rfl) rfl (fun b7=> ?_);refine St.alloc dC rfl (fun jT=> ?_);refine St.nn (St.sr ?_);refine St.ee (Ev.l0 (.mk rfl) bP) ?_;refine St.ar ?_;refine St.nn (St.sr ?_);refine St.ee (Ev.l0 (.mk rfl) bP) ?_;refine St.ee Ev.a0 ?_;refine St.cR (.mk rfl) (.mk rfl) cr rfl (by rfl) ?_;refine St.gS bn (L':=[iv ((sn+1:Nat):Int)]) rfl ?_;refine St.nn (St.sr ?_);refine St.ar ?_;refine St.nn ?_;refine St.join (ι:=Unit) (fun u T=>(12,iv kn)::T) (fun u=>[ae b7 (.cells (js x).toArray 39 (0,0)),ae jT (.cells [iv 0,iv 0].toArray 42 (0,0)),ae bn (.cells [iv ((sn+1:Nat):Int)].toArray 3 (0,0)),ae bg (.cells [g.tv.1,g.fv.1,g.rv.1,g.xv.1,g.start.nv.1].toArray 32 (0,0)),ae bl (.cells [iv ((lv:Nat):Int)].toArray 3 (0,0)),ae bw (.cells [(.func (.func 70) #[] [Value.pointer (some ⟨bn,0,none⟩),Value.pointer (some ⟨bg,0,none⟩),Value.pointer (some ⟨bl,0,none⟩),Value.pointer (some ⟨bw,0,none⟩)].toArray)].toArray 134 (0,0)),aF (sl dY x.kv.1 x.kids),aF (aX cB x.kids),aF (sl cA g.rv.1 g.rules),aF (sl cI g.xv.1 g.bA)]) (fun u=>(iT (g.rules.map bV.kids) g.bA.length (ah x) d ch ⟨sn,qB⟩=if(x.kids.length:Int)≠kn then(⟨sn+1,lv⟩,9,(sn:Int))else if 3<c2 then(⟨sn+1,lv⟩,14,(sn:Int))else iI (g.rules.map bV.kids) g.bA.length (x.kids.map ah) (d+1) c2 ⟨sn+1,lv⟩)∧sn+1≤200∧d≤48) (aE.cons 1 rfl (aE.cons 2 rfl (aE.cons 6 rfl (aE.cons 7 rfl (aE.cons 10 rfl (aE.cons 11 rfl aE.nil)))))) ?_ ?_
 ·refine St.block (St.sr ?_)
  refine St.ee (Ev.l0 (.mk rfl) bP) ?_;refine St.ee Ev.s5 ?_;refine St.mv ?_;refine St.gf _ rfl rfl (fun hg=>Ev.move (.mk rfl)) rfl ?_;refine St.gf _ rfl rfl (fun hg=>Ev.gtr (aL.gv rfl hg) (.mk rfl)) rfl ?_;refine St.ee Ev.o0 ?_;refine St.ar ?_;refine St.nn ?_;refine St.cond _ rfl (fun qU=> ?_) (fun qU=> ?_)
  ·try simp only[aC]at qU
   rw[if_pos (by omega)]at cp;refine St.sr ?_;refine St.mv ?_;refine St.ee (Ev.call (eN 1 sn) E5 (.cons (.mk rfl) (.cons (.mk rfl) .nil))) ?_;refine St.sA (.mk rfl) (.mk rfl) bC ?_;refine St.nn (St.ab (St.aN (St.aB ?_)));refine St.rU [_] [ae bn (.cells [iv ((sn+1:Nat):Int)].toArray 3 (0,0)),ae bg (.cells [g.tv.1,g.fv.1,g.rv.1,g.xv.1,g.start.nv.1].toArray 32 (0,0)),ae bl (.cells [iv ((qB:Nat):Int)].toArray 3 (0,0)),ae bw (.cells [(.func (.func 70) #[] [Value.pointer (some ⟨bn,0,none⟩),Value.pointer (some ⟨bg,0,none⟩),Value.pointer (some ⟨bl,0,none⟩),Value.pointer (some ⟨bw,0,none⟩)].toArray)].toArray 134 (0,0))] Tryz.results70 ?_;rw[cp];exact⟨rfl,rfl⟩
  ·try simp only[aC]at qU
   rw[if_neg (by omega)]at cp;refine St.sr ?_;refine St.ee (Ev.aD (.mk rfl) gD) ?_;refine St.ee (Ev.l0 (.mk rfl) bP) ?_;refine St.ee Ev.dz ?_;refine St.mv ?_;refine St.gf _ rfl rfl (fun hg=>Ev.aD (.mk rfl) gD) rfl ?_;refine St.gf _ rfl rfl (fun hg=>Ev.cS (aL.gv rfl hg) bP trivial (by rfl)) rfl ?_;refine St.gf _ rfl rfl (fun hg=>Ev.aD (.mk rfl) jM) rfl ?_;refine St.gf _ rfl rfl (fun hg=>Ev.cS (aL.gv rfl hg) ic trivial (by rfl)) rfl ?_;refine St.gf _ rfl rfl (fun hg=>Ev.au (aL.gv rfl hg) ic) rfl ?_;refine St.gf _ rfl rfl (fun hg=>Ev.geq (aL.gv rfl hg) (aL.gv rfl hg)) rfl ?_;refine St.ee Ev.o0 ?_;refine St.mv ?_;refine St.gf _ rfl rfl (fun hg=>Ev.aD (.mk rfl) gD) rfl ?_;refine St.gf _ rfl rfl (fun hg=>Ev.cS (aL.gv rfl hg) bP trivial (by rfl)) rfl ?_;refine St.gf _ rfl rfl (fun hg=>Ev.eql (aL.gv rfl hg) (.mk rfl)) rfl ?_;refine St.gf _ rfl rfl (fun hg=>Ev.move (aL.gv rfl hg)) rfl ?_;refine St.yD _ rfl rfl (fun hg=>Ev.aD (.mk rfl) nJ) rfl ?_;refine St.yD _ rfl rfl (fun hg=>Ev.cS (aL.gv rfl hg) bP trivial (by rfl)) rfl ?_;refine St.yD _ rfl rfl (fun hg=>Ev.lss (aL.gv rfl hg) (.mk rfl)) rfl ?_;refine St.yD _ rfl rfl (fun hg=>Ev.move (aL.gv rfl hg)) rfl ?_;refine St.ny _ rfl rfl (fun hg=>Ev.aD (.mk rfl) nJ) rfl ?_;refine St.ny _ rfl rfl (fun hg=>Ev.cS (aL.gv rfl hg) bP trivial (by rfl)) rfl ?_;refine St.ny _ rfl rfl (fun hg=>Ev.aD (.mk rfl) jL) rfl ?_;refine St.ny _ rfl rfl (fun hg=>Ev.cS (aL.gv rfl hg) ig trivial (by rfl)) rfl ?_;refine St.ny _ rfl rfl (fun hg=>Ev.au (aL.gv rfl hg) ig) rfl ?_;refine St.ny _ rfl rfl (fun hg=>Ev.geq (aL.gv rfl hg) (aL.gv rfl hg)) rfl ?_;refine St.yD _ rfl rfl (fun hg=>Ev.or (aL.gv rfl hg) (fun hp=>aL.gv rfl (kH hg hp))) rfl ?_;refine St.gf _ rfl rfl (fun hg=>Ev.and (aL.gv rfl hg) (fun hp=>aL.gv rfl (kH hg hp))) rfl ?_;refine St.ee Ev.o0 ?_;refine St.ar ?_;refine St.nn ?_;refine St.cond _ rfl (fun qV=> ?_) (fun qV=> ?_)
   ·try simp only[aC]at qV
    rw[if_pos (by omega)]at cp;refine St.sr ?_;refine St.mv ?_;refine St.ee (Ev.call (eN 3 sn) E5 (.cons (.mk rfl) (.cons (.mk rfl) .nil))) ?_;refine St.sA (.mk rfl) (.mk rfl) bC ?_;refine St.nn (St.ab (St.aN (St.aB ?_)));refine St.rU [_] [ae bn (.cells [iv ((sn+1:Nat):Int)].toArray 3 (0,0)),ae bg (.cells [g.tv.1,g.fv.1,g.rv.1,g.xv.1,g.start.nv.1].toArray 32 (0,0)),ae bl (.cells [iv ((qB:Nat):Int)].toArray 3 (0,0)),ae bw (.cells [(.func (.func 70) #[] [Value.pointer (some ⟨bn,0,none⟩),Value.pointer (some ⟨bg,0,none⟩),Value.pointer (some ⟨bl,0,none⟩),Value.pointer (some ⟨bw,0,none⟩)].toArray)].toArray 134 (0,0))] Tryz.results70 ?_;rw[cp];exact⟨rfl,rfl⟩
   ·try simp only[aC]at qV
    rw[if_neg (by omega)]at cp;refine St.sr ?_;refine St.ee (Ev.aD (.mk rfl) gD) ?_;refine St.ee (Ev.l0 (.mk rfl) bP) ?_;refine St.ee Ev.ra ?_;refine St.mv ?_;refine St.gt _ rfl rfl (fun hg=>Ev.aD (.mk rfl) nJ) rfl ?_;refine St.gt _ rfl rfl (fun hg=>Ev.cS (aL.gv rfl hg) bP trivial (by rfl)) rfl ?_;refine St.gt _ rfl rfl (fun hg=>Ev.neq (aL.gv rfl hg) (.mk rfl)) rfl ?_;refine St.ee Ev.n0 ?_;refine St.ar ?_;refine St.nn ?_;refine St.cond _ rfl (fun ox=> ?_) (fun ox=> ?_)
    ·try simp only[aC]at ox
     rw[if_pos (by omega)]at cp;refine St.sr ?_;refine St.mv ?_;refine St.ee (Ev.call (eN 5 sn) E5 (.cons (.mk rfl) (.cons (.mk rfl) .nil))) ?_;refine St.sA (.mk rfl) (.mk rfl) bC ?_;refine St.nn (St.ab (St.aN (St.aB ?_)));refine St.rU [_] [ae bn (.cells [iv ((sn+1:Nat):Int)].toArray 3 (0,0)),ae bg (.cells [g.tv.1,g.fv.1,g.rv.1,g.xv.1,g.start.nv.1].toArray 32 (0,0)),ae bl (.cells [iv ((qB:Nat):Int)].toArray 3 (0,0)),ae bw (.cells [(.func (.func 70) #[] [Value.pointer (some ⟨bn,0,none⟩),Value.pointer (some ⟨bg,0,none⟩),Value.pointer (some ⟨bl,0,none⟩),Value.pointer (some ⟨bw,0,none⟩)].toArray)].toArray 134 (0,0))] Tryz.results70 ?_;rw[cp];exact⟨rfl,rfl⟩
    ·try simp only[aC]at ox
     rw[if_neg (by omega)]at cp;refine St.sr ?_;refine St.ee (Ev.aD (.mk rfl) gD) ?_;refine St.ee (Ev.l0 (.mk rfl) bP) ?_;refine St.ee Ev.ra ?_;refine St.ar ?_;refine St.nn ?_;refine St.cond _ rfl (fun zT=> ?_) (fun zT=> ?_)
     ·try simp only[aC]at zT
      obtain⟨ru,AK⟩:=aQ (show x.eD.toNat<g.rules.length by omega)
      have Gk:kn=ru.kids:=by rw[←z6,if_pos (by omega),List.getD_eq_getElem?_getD,List.getElem?_map,AK];rfl
      have Iz:lv=qB:=by rw[←J0,if_pos (by omega)]
      refine St.rg ?_;refine St.ee (Ev.aD (.mk rfl) jM) ?_;refine St.ee (Ev.l0 (.mk rfl) ic) ?_;refine St.ee (Ev.aD (.mk rfl) gD) ?_;refine St.ee (Ev.l0 (.mk rfl) bP) ?_;refine St.ee (Ev.aR (k:=x.eD.toNat) (.mk rfl) (.mk rfl) ic n7 (by omega) (by omega)) ?_;refine St.ee (Ev.eR (.mk rfl) (by omega) nG) ?_;refine St.ee (Ev.fL (.mk rfl) AK bP trivial rfl) ?_;refine St.slot 83 (iv kn) rfl (congrArg iv Gk.symm) ?_;refine St.gS bl (L':=[iv ((lv:Nat):Int)]) (by rw[Iz]) ?_;refine St.ar ?_;refine St.nil (St.aO (St.aA ?_));refine St.mE () ⟨cp,by omega,by omega⟩
     ·try simp only[aC]at zT
      have Gk:kn=0:=by rw[←z6,if_neg (by omega)]
      have Iz:lv=qB+1:=by rw[←J0,if_neg (by omega)]
      refine St.slot 12 (iv kn) rfl (congrArg iv Gk.symm) ?_;refine St.rg ?_;refine St.ee (Ev.l0 (.mk rfl) bP) ?_;refine St.ee Ev.a0 ?_;refine St.cR (.mk rfl) (.mk rfl) cr rfl (by rfl) ?_;refine St.gS bl (L':=[iv ((lv:Nat):Int)]) (by rw[Iz];rfl) ?_;refine St.nil (St.aO (St.aA ?_));refine St.mE () ⟨cp,by omega,by omega⟩
 ·rintro _ ⟨cp,YJ,YK⟩
  refine St.seq (St.sr ?_);refine St.ee (Ev.aD (.mk rfl) lD) ?_;refine St.ee (Ev.l0 (.mk rfl) jJ) ?_;refine St.ee (Ev.au (.mk rfl) jJ) ?_;refine St.mv ?_;refine St.ee Ev.jj ?_;refine St.nn ?_;refine St.cond _ rfl (fun BF=> ?_) (fun BF=> ?_)
  ·try simp only[aC]at BF
   rw[if_pos (by omega)]at cp;refine St.sr ?_;refine St.mv ?_;refine St.ee (Ev.call (eN 9 sn) E5 (.cons (.mk rfl) (.cons (.mk rfl) .nil))) ?_;refine St.sA (.mk rfl) (.mk rfl) bC ?_;refine St.nn (St.ab (St.aB ?_));refine St.rU [_] [ae bn (.cells [iv ((sn+1:Nat):Int)].toArray 3 (0,0)),ae bg (.cells [g.tv.1,g.fv.1,g.rv.1,g.xv.1,g.start.nv.1].toArray 32 (0,0)),ae bl (.cells [iv ((lv:Nat):Int)].toArray 3 (0,0)),ae bw (.cells [(.func (.func 70) #[] [Value.pointer (some ⟨bn,0,none⟩),Value.pointer (some ⟨bg,0,none⟩),Value.pointer (some ⟨bl,0,none⟩),Value.pointer (some ⟨bw,0,none⟩)].toArray)].toArray 134 (0,0))] Tryz.results70 ?_;rw[cp];exact⟨rfl,rfl⟩
  ·try simp only[aC]at BF
   rw[if_neg (by omega)]at cp;refine St.skip (St.aA ?_);refine St.join (ι:=Unit) (fun u T=>(2,iv (c2:Nat))::T) (fun u=>[ae b7 (.cells (js x).toArray 39 (0,0)),ae jT (.cells [iv 0,iv 0].toArray 42 (0,0)),ae bn (.cells [iv ((sn+1:Nat):Int)].toArray 3 (0,0)),ae bg (.cells [g.tv.1,g.fv.1,g.rv.1,g.xv.1,g.start.nv.1].toArray 32 (0,0)),ae bl (.cells [iv ((lv:Nat):Int)].toArray 3 (0,0)),ae bw (.cells [(.func (.func 70) #[] [Value.pointer (some ⟨bn,0,none⟩),Value.pointer (some ⟨bg,0,none⟩),Value.pointer (some ⟨bl,0,none⟩),Value.pointer (some ⟨bw,0,none⟩)].toArray)].toArray 134 (0,0)),aF (sl dY x.kv.1 x.kids),aF (aX cB x.kids),aF (sl cA g.rv.1 g.rules),aF (sl cI g.xv.1 g.bA)]) (fun u=>True) (aE.cons 1 rfl (aE.cons 6 rfl (aE.cons 7 rfl (aE.cons 10 rfl (aE.cons 11 rfl aE.nil))))) ?_ ?_
   ·refine St.sr ?_
    refine St.mv ?_;refine St.ee Ev.a0 ?_;refine St.ar ?_;refine St.nn (St.sr ?_);refine St.mv ?_;refine St.ee Ev.jj ?_;refine St.nn ?_;refine St.cond _ rfl (fun OZ=> ?_) (fun OZ=> ?_)
    ·try simp only[aC]at OZ
     have KJ:c2=0:=by rw[←uW,if_neg (by omega)]
     refine St.rg ?_;refine St.ar ?_;refine St.nn ?_;refine St.mE () trivial
    ·try simp only[aC]at OZ
     have KJ:c2=ch+1:=by rw[←uW,if_pos (by omega)]
     refine St.skip (St.aA ?_);refine St.mE () trivial
   ·intro _ _
    refine St.seq (St.sr ?_);refine St.mv ?_;refine St.ee Ev.s5 ?_;refine St.nn ?_;refine St.cond _ rfl (fun Ep=> ?_) (fun Ep=> ?_)
    ·try simp only[aC]at Ep
     rw[if_pos (by omega)]at cp;refine St.sr ?_;refine St.mv ?_;refine St.ee (Ev.call (eN 14 sn) E5 (.cons (.mk rfl) (.cons (.mk rfl) .nil))) ?_;refine St.sA (.mk rfl) (.mk rfl) bC ?_;refine St.nn (St.ab (St.aB ?_));refine St.rU [_] [ae bn (.cells [iv ((sn+1:Nat):Int)].toArray 3 (0,0)),ae bg (.cells [g.tv.1,g.fv.1,g.rv.1,g.xv.1,g.start.nv.1].toArray 32 (0,0)),ae bl (.cells [iv ((lv:Nat):Int)].toArray 3 (0,0)),ae bw (.cells [(.func (.func 70) #[] [Value.pointer (some ⟨bn,0,none⟩),Value.pointer (some ⟨bg,0,none⟩),Value.pointer (some ⟨bl,0,none⟩),Value.pointer (some ⟨bw,0,none⟩)].toArray)].toArray 134 (0,0))] Tryz.results70 ?_;rw[cp];exact⟨rfl,rfl⟩
    ·try simp only[aC]at Ep
     rw[if_neg (by omega)]at cp;refine St.skip (St.aA (St.seq (St.sr ?_)));refine St.ee (Ev.aD (.mk rfl) lD) ?_;refine St.ee (Ev.l0 (.mk rfl) jJ) ?_;refine St.ee (Ev.au (.mk rfl) jJ) ?_;refine St.mv ?_;refine St.nn (St.block ?_);refine St.my (ι:=Nat) (κ:=yY) (fun k z T=>(102,iv k)::T) (fun k z=>[ae jT (.cells [iv 0,iv 0].toArray 42 (0,0)),ae bn (.cells [iv ((z.nodes:Nat):Int)].toArray 3 (0,0)),ae bg (.cells [g.tv.1,g.fv.1,g.rv.1,g.xv.1,g.start.nv.1].toArray 32 (0,0)),ae bl (.cells [iv ((z.leaves:Nat):Int)].toArray 3 (0,0)),ae bw (.cells [(.func (.func 70) #[] [Value.pointer (some ⟨bn,0,none⟩),Value.pointer (some ⟨bg,0,none⟩),Value.pointer (some ⟨bl,0,none⟩),Value.pointer (some ⟨bw,0,none⟩)].toArray)].toArray 134 (0,0)),aF (sl dY x.kv.1 x.kids),aF (aX cB x.kids),aF (sl cA g.rv.1 g.rules),aF (sl cI g.xv.1 g.bA)]) (fun k z=>k≤x.kids.length∧iT (g.rules.map bV.kids) g.bA.length (ah x) d ch ⟨sn,qB⟩=iI (g.rules.map bV.kids) g.bA.length ((x.kids.map ah).drop k) (d+1) c2 z∧z.nodes≤200∧z.leaves≤z.nodes) (fun k z=>x.kids.length-k) 0 ⟨sn+1,lv⟩ (aE.cons 1 rfl (aE.cons 2 rfl (aE.cons 6 rfl (aE.cons 10 rfl (aE.cons 100 rfl (aE.cons 101 rfl aE.nil)))))) ⟨Nat.zero_le _,cp,by dsimp only;omega,by dsimp only;rw[←J0];split<;>omega⟩ ?_;rintro k ⟨zn,zl⟩ ⟨hk,E8,SG,J8⟩
     dsimp only at SG J8⊢
     refine St.sr ?_;refine St.ee Ev.dz ?_;refine St.nn (St.seq ?_);refine St.cond _ rfl (fun BG=> ?_) (fun BG=> ?_)
     ·try simp only[aC]at BG
      obtain⟨y,hy⟩:=aQ (show k<x.kids.length by omega)
      have lY:=List.mem_of_getElem? hy
      refine St.cC cB x.kids (x:=y) lY ?_
      have jB:=vt (rk:=(g.rules.map bV.kids)) (nl:=g.bA.length) hy (d+1) c2 ⟨zn,zl⟩
      refine St.skip (St.aA (St.seq (St.block (St.sr ?_))));refine St.ee (Ev.aR (k:=k) (.mk rfl) (.mk rfl) jJ gH (by omega) (by omega)) ?_;refine St.ee (Ev.fg (.mk rfl) hy l8 trivial gH en.eq) ?_;refine St.alloc zR rfl (fun nd=> ?_);refine St.sA (.mk rfl) (.mk rfl) gH ?_ (h1:=(by simp only[List.all_cons,List.all_nil,Bool.and_true,Bool.and_eq_true];exact⟨rfl,rfl,y.kv.2⟩));refine St.nn (St.seq ?_);refine St.dup (sl cA g.rv.1 g.rules) ?_;refine St.dup (sl cI g.xv.1 g.bA) ?_;refine St.rg ?_;refine St.ee (Ev.l0 (.mk rfl) Tryz.underlying134) ?_;refine St.ee (Ev.bH (.mk rfl) l8 trivial (by exact gH)) ?_;refine St.mv ?_;refine St.ee Ev.a0 ?_;refine St.slot 109 (iv ((d+1:Nat):Int)) rfl rfl ?_;refine St.mv ?_;refine St.dR (ih y lY (d+1) c2 ⟨zn,zl⟩ (lX y lY) (by omega) (by omega) SG J8) S2 (.mk rfl) (.cons (.mk rfl) (.cons (.mk rfl) (.cons (.mk rfl) .nil))) rfl ?_;rintro acJ _ ⟨rfl,rfl⟩;refine St.NK ?_;refine St.alloc dC rfl (fun b15=> ?_);refine St.sA (.mk rfl) (.mk rfl) bC ?_;refine St.nn (St.sr ?_);refine St.ee (Ev.aD (.mk rfl) cb) ?_;refine St.ee (Ev.l0 (.mk rfl) bP) ?_;refine St.ee Ev.jj ?_;refine St.nn ?_;refine St.cond _ rfl (fun Oa=> ?_) (fun Oa=> ?_)
      ·skip
       rw[if_pos (show(iT (g.rules.map bV.kids) g.bA.length (ah y) (d+1) c2 ⟨zn,zl⟩).2.1≠0 by simpa using Oa)]at jB;rw[jB]at E8;refine St.sr ?_;refine St.ee (Ev.bH (.mk rfl) gF trivial (by exact bC)) ?_;refine St.sA (.mk rfl) (.mk rfl) bC ?_;refine St.nn (St.ab (St.aN (St.aB (St.aB (St.aN (St.aB ?_))))));refine St.rU [_] [ae bn (.cells [iv (((iT (g.rules.map bV.kids) g.bA.length (ah y) (d+1) c2 ⟨zn,zl⟩).1.nodes:Nat):Int)].toArray 3 (0,0)),ae bg (.cells [g.tv.1,g.fv.1,g.rv.1,g.xv.1,g.start.nv.1].toArray 32 (0,0)),ae bl (.cells [iv (((iT (g.rules.map bV.kids) g.bA.length (ah y) (d+1) c2 ⟨zn,zl⟩).1.leaves:Nat):Int)].toArray 3 (0,0)),ae bw (.cells [(.func (.func 70) #[] [Value.pointer (some ⟨bn,0,none⟩),Value.pointer (some ⟨bg,0,none⟩),Value.pointer (some ⟨bl,0,none⟩),Value.pointer (some ⟨bw,0,none⟩)].toArray)].toArray 134 (0,0))] Tryz.results70 ?_
       rw[E8];exact⟨rfl,rfl⟩
      ·skip
       have qg:¬(iT (g.rules.map bV.kids) g.bA.length (ah y) (d+1) c2 ⟨zn,zl⟩).2.1≠0:=by simpa using Oa
       rw[if_neg qg]at jB
       have fD:=xh (ah y) (d+1) c2 ⟨zn,zl⟩ (Decidable.not_not.1 qg) J8
       refine St.skip (St.aO (St.aA (St.rg ?_)));refine St.ee Ev.a0 ?_;refine St.mv ?_;refine St.nn ?_;refine St.ji (k+1) (iT (g.rules.map bV.kids) g.bA.length (ah y) (d+1) c2 ⟨zn,zl⟩).1 ⟨by omega,E8.trans jB,fD.1,fD.2⟩
     ·try simp only[aC]at BG
      rw[zS (by omega)]at E8;refine St.exit (St.aI (St.aI (St.bM (St.aA (St.sr ?_)))));refine St.ee (Ev.build (ps:=[]) (aV.nil) (fun w=>fB w)) ?_;refine St.sA (.mk rfl) (.mk rfl) bC ?_;refine St.nn (St.ab ?_);refine St.rU [_] [ae bn (.cells [iv ((zn:Nat):Int)].toArray 3 (0,0)),ae bg (.cells [g.tv.1,g.fv.1,g.rv.1,g.xv.1,g.start.nv.1].toArray 32 (0,0)),ae bl (.cells [iv ((zl:Nat):Int)].toArray 3 (0,0)),ae bw (.cells [(.func (.func 70) #[] [Value.pointer (some ⟨bn,0,none⟩),Value.pointer (some ⟨bg,0,none⟩),Value.pointer (some ⟨bl,0,none⟩),Value.pointer (some ⟨bw,0,none⟩)].toArray)].toArray 134 (0,0))] Tryz.results70 ?_
      rw[E8];exact⟨rfl,rfl⟩
set_option maxHeartbeats 2000000 in
theorem E9 (g:iG)(t:br)(hw:dY.wf t):cz Tryz.prog 30 #[gm g,eW t] [dv g,cB t] (fv (ju (fG g) (ah t))):=by
 unfold cz;refine fC.body (args:=[gm g,eW t]) 21 Tryz.func30 rfl Tryz.ntmps30 rfl (fun c=> ?_);refine St.cast (H':=[aF (dv g),aF (cB t)]) rfl ?_;refine St.seq ?_
 refine St.fI (dv g) (fun _:Unit=>yX g) (fun ρ h=>⟨(),h⟩) fun _=> ?_
 refine St.cast (H':=[aF (sl du g.tv.1 g.types),aF (aX ek g.types),aF (sl bx g.fv.1 g.bb),aF (sl cA g.rv.1 g.rules),aF (aX cO g.rules),aF (sl cI g.xv.1 g.bA),aF (aX dT g.bA),aF (bU g.start),aF (dv g),aF (cB t)]) rfl ?_
 have cp:=Ch g t
 refine St.rg ?_;refine St.cX (.mk rfl) rfl (fun b2=> ?_);refine St.cX (.mk rfl) rfl (fun b3=> ?_);refine St.alloc dC rfl (fun b4=> ?_);refine St.nn (St.sr ?_);refine St.alloc MH rfl (fun b5=> ?_);refine St.alloc MH rfl (fun b6=> ?_);refine St.cR (.mk rfl) (.mk rfl) cr rfl (by rfl) ?_;refine St.gS b5 (L':=[iv ((0:Nat):Int)]) rfl ?_;refine St.cR (.mk rfl) (.mk rfl) cr rfl (by rfl) ?_;refine St.gS b6 (L':=[iv ((0:Nat):Int)]) rfl ?_;refine St.nn (St.sr ?_);refine St.alloc S3 rfl (fun b7=> ?_);refine St.nn (St.sr ?_);refine St.ee (Ev.func (.cons (.mk rfl) (.cons (.mk rfl) (.cons (.mk rfl) (.cons (.mk rfl) .nil))))) ?_;refine St.cR (.mk rfl) (.mk rfl) S4 rfl (by rfl) ?_;refine St.nn (St.seq (St.seq ?_));refine St.dup (sl cA g.rv.1 g.rules) ?_;refine St.dup (sl cI g.xv.1 g.bA) ?_;refine St.dup (cB t) ?_;refine St.rg ?_;refine St.ee (Ev.l0 (.mk rfl) Tryz.underlying134) ?_;refine St.ee (Ev.bH (.mk rfl) l8 trivial (by exact gH)) ?_;refine St.dR (um b5 b2 b6 b7 g t 1 0 ⟨0,0⟩ hw (by omega) (by omega) (by simp) (by simp)) S2 (.mk rfl) (.cons (.mk rfl) (.cons (.mk rfl) (.cons (.mk rfl) .nil))) rfl ?_;rintro v12 _ ⟨rfl,rfl⟩;refine St.NK ?_;refine St.alloc dC rfl (fun b8=> ?_);refine St.sA (.mk rfl) (.mk rfl) bC ?_;refine St.nn (St.sr ?_);refine St.ee (Ev.aD (.mk rfl) cb) ?_;refine St.ee (Ev.l0 (.mk rfl) bP) ?_;refine St.ee Ev.jj ?_;refine St.nn ?_;refine St.cond _ rfl (fun K2=> ?_) (fun K2=> ?_)
 ·skip
  rw[if_pos (show(iT (g.rules.map bV.kids) g.bA.length (ah t) 1 0 ⟨0,0⟩).2.1≠0 by simpa using K2)]at cp;refine St.sr ?_;refine St.ee (Ev.bH (.mk rfl) gF trivial (by exact bC)) ?_;refine St.sA (.mk rfl) (.mk rfl) bC ?_;refine St.nn (St.ab (St.aB ?_));refine St.rU [_] [] Tryz.results30 ?_;exact congrArg fv cp.symm
 ·skip
  have qg:¬(iT (g.rules.map bV.kids) g.bA.length (ah t) 1 0 ⟨0,0⟩).2.1≠0:=by simpa using K2
  rw[if_neg qg]at cp
  have fD:=xh (ah t) 1 0 ⟨0,0⟩ (Decidable.not_not.1 qg) (Nat.le_refl _)
  refine St.skip (St.aA (St.seq (St.sr ?_)));refine St.ee (Ev.l0 (.mk rfl) bP) ?_;refine St.ee Ev.s5 ?_;refine St.nn ?_;refine St.cond _ rfl (fun fM=> ?_) (fun fM=> ?_)
  ·try simp only[aC]at fM
   rw[if_pos (by omega)]at cp;refine St.sr ?_;refine St.ee (Ev.call (eN 2 (-2)) E5 (.cons (.mk rfl) (.cons (.mk rfl) .nil))) ?_;refine St.sA (.mk rfl) (.mk rfl) bC ?_;refine St.nn (St.ab (St.aB ?_));refine St.rU [_] [] Tryz.results30 ?_;exact congrArg fv cp.symm
  ·try simp only[aC]at fM
   rw[if_neg (by omega)]at cp;refine St.skip (St.aA (St.sr ?_));refine St.ee (Ev.build (ps:=[]) (aV.nil) (fun w=>fB w)) ?_;refine St.sA (.mk rfl) (.mk rfl) bC ?_;refine St.nn (St.ab ?_);refine St.rU [_] [] Tryz.results30 ?_;exact congrArg fv cp.symm
end Go.Proofs.YtolmidffiegkaaaGreatDoor
namespace Go.J
open Go
abbrev ints (l:List Nat):List Int:=l.map (fun i:Nat=>(i:Int))
theorem Gl (l:List Int)(k:Nat)(x:Int):(rows aK l).set (k*1+0) (iv x)=rows aK (l.set k x):=by
 rw[Nat.mul_one,Nat.add_zero,vC (Rr:=aK) rfl rfl]
theorem rH (l:List Nat):(ints l).length=l.length:=List.length_map _
section
variable {P:Program}{n:Nat}{F:Fr}{A:World→Prop}{x y:Operand}{ty:TypeId}
end
end Go.J
namespace Go.J
open Go Go.Proofs Go.Proofs.YtolmidffiegkaaaGreatDoor
section
variable {P:Program}{n:Nat}{F:Fr}{A:World→Prop}{c:Ctx}{H R:List bQ}{ty:TypeId}{x y:Operand}{v:Value}{Q:Exit→Act→World→Prop}{ops:Array Oper}{rest:List Oper}{d size:Nat}
 {pos:String} {after:Array Edge} {t e:TypeId} {m k:Nat} {cs:List Value}
theorem Ev.BH {off o i b o' cap:Nat}{s:TypeId}(hv:v= .slice (some ⟨b,o',none⟩) m cap)(hx:aL F x (e9 v size k off))(ho:aq P s i=some o):Ev P n F A (.fieldAddr s x i) ty (e9 v size k (off+o)):= .of_run fun a w ha _=>by
 subst hv;rw[eQ]at hx
 simp[execOp,hx.eval ha,kJ ho,eQ,Addr.add_lit,Nat.add_assoc]
theorem Ev.YL {a b:Int}{uV:Array TypeId}(hx:aL F x (iv a))(hy:aL F y (iv b)):
 Ev P n F A (.call {callee:= .builtin .max,args:= #[x,y],argTypes:=uV}) ty (iv (if b>a then b else a)):= .of_run fun a w ha _=>by
 simp[execOp,resolve,invoke,builtin,hx.eval ha,hy.eval ha,run_max_int2,iv]
theorem St.og {v2:Value}{m2:Nat}{news:List Value}{zv:Value}{vA:Nat}[t1:jR v H e size m cs R][r2:v7 v2 R e size m2 news]
 (hx:aL F x v) (hy:aL F y v2) (ht:P.underlying t=some (.slice e)) (hs:(P.info? e).map (·.size)=some size) (hz:(P.info? e).bind (·.zero)=some zv) (hb:(P.info? e).map (·.bytes)=some vA)
 (JB:∀u∈news,u.oneCell'=true) (hlen:m+m2≤9223372036854775807) (mK:(m+m2)*vA≤140737488355328) (Lu:zv.cells.size=size) (mY:Nat.ble 1 size=true) (fj:1≤m2) (hd:Nat.ble (d+1) n=true)
 (h:∀v',(v'= .slice none 0 0↔v= .slice none 0 0∧m2=0)→St n ((d,v')::F) (Mm c (row v' e size (m+m2) (cs++news)::R)) (wpList P ops Q rest)):
 St n F (Mm c H) (wpList P ops Q ({dst:=some d,op:= .call {callee:= .builtin .append,args:= #[x,y],argTypes:= #[t,t]},type:=ty,pos:=pos,after:=after,guard:=none}::rest)):=by
 refine St.Eg (K:=fun v' H'=>(v'= .slice none 0 0↔v= .slice none 0 0∧m2=0)∧H'=row v' e size (m+m2) (cs++news)::R) ?_ hd ?_
 ·intro a w ρ ha hm
  have qJ:=hm.perm t1.perm
  have hr:=eP.1 (qJ.dF _ (List.mem_cons_self ..))
  have Ei:=qJ.drop.row r2
  obtain⟨i,hi,fD⟩:=Option.map_eq_some_iff.1 hs;obtain⟨q1,q2,q3⟩:=mb hs hz hb hi
  rcases Ei.2 with⟨_,rfl⟩|⟨g2,Ac,QT,rfl,_,QU,yQ,uW,QV,F6⟩
  ·omega
  ·obtain⟨v',w',sP,how,F7,NR,Wz,jB⟩:=o8 (P:=P) (w:=w) t ty e ht hi q2 q1 q3 Lu (Nat.le_of_ble_eq_true mY) v m cs hr ⟨g2,0,none⟩ m2 Ac news Ei.1
    (fun j u hj=>by
     rw[Addr.add_lit,Nat.zero_add,cW QU];rw[←F6,List.getElem?_take]at hj
     split at hj
     ·simpa using hj
     ·simp at hj) JB (by unfold maxLen;omega) mK
   refine⟨.value v',w',ρ,_,?_,⟨_,.inl rfl,NR,rfl⟩,?_⟩
   ·simp[execOp,resolve,invoke,builtin,hx.eval ha,hy.eval ha,sP]
   ·refine qJ.alter F7.os ⟨F7.tape,jB⟩ F7.output F7.size (fun j hj fj=> ?_) (eP.2 how) (fun b' iu=> ?_)
    ·rw[ef]at fj;exact F7.block j hj (fun e=>fj e.symm)
    ·rw[ef]at iu⊢;exact Wz b' iu
 ·rintro _ _ ⟨h1,rfl⟩
  exact h _ h1
end
section
variable {n:Nat}{F:Fr}{c:Ctx}{R:List bQ}{T:Act→World→Prop}
theorem St.SH {a b d e f g h i:bQ}(k:St n F (Mm c (a::b::d::e::f::g::h::i::R)) T):St n F (Mm c ([a,b,d,e,f,g,h,i]++R)) T:=k
end
theorem tY {L:List Nq}{cs:List Value}{j:Nat}{u:Value}:(rows gV L++cs).set (L.length*6+j) u=rows gV L++cs.set j u:=by
 have hl:(rows gV L).length=L.length*6:=dw _ _
 rw[List.set_append,if_neg (by rw[hl];omega),hl,Nat.add_sub_cancel_left]
theorem KK {L K:List Nq}{x:Nq}:rows gV (L++x::K)=rows gV L++(gV.cells x++rows gV K):=by
 simp[rows]
end Go.J
namespace Go.Proofs.YtolmidffiegkaaaGreatDoor
open Go Go.J
theorem Gm (x:br):o3 (ah x)=1+ld (x.kids.map ah):=by cases x;rw[ah,gl,o3];rfl
theorem Gn (x:br):mN (ah x)=(if x.eD<0 then 1 else 0)+j6 (x.kids.map ah):=by cases x;rw[ah,gl,mN];rfl
theorem SI (G:iw)(x:br)(k:Nat)(up:Int)(w:Nat):kG G (ah x) k up w=⟨k,decide (x.eD<0),rZ G x.eD x.lex,up,k+(1+ld (x.kids.map ah)),w,w+((if x.eD<0 then 1 else 0)+j6 (x.kids.map ah))⟩::ow G (x.kids.map ah) (k+1) k (w+(if x.eD<0 then 1 else 0)):=by
 cases x;rw[ah,gl,kG];rfl
theorem vu {nr nl:Nat}:∀{l:List fF},lR nr nl l→∀t∈l,gU nr nl t
 | [],_,t,h=>by cases h
 |x::l,h,t,ht=>by
  rw[lR]at h
  rcases List.mem_cons.1 ht with rfl|ht
  ·exact h.1
  ·exact vu h.2 t ht
theorem xi {nr nl:Nat}(x:br)(h:gU nr nl (ah x)):(-1≤x.eD∧x.eD<nr)∧(x.eD<0→x.kids=[]∧0≤x.lex∧x.lex<nl)∧∀y∈x.kids,gU nr nl (ah y):=by
 cases x with
 |mk r y v l=>
  rw[ah,gl,gU]at h;refine⟨h.1,fun hr=> ?_,fun y hy=>vu h.2.2.2 _ (List.mem_map_of_mem hy)⟩;obtain⟨h1,h2,h3⟩:=h.2.1 hr;exact⟨List.map_eq_nil_iff.1 h1,h2,h3⟩
theorem Ci:∀l m:List fF,ld (l++m)=ld l+ld m
 | [],m=>by rw[List.nil_append,ld];omega
 |x::l,m=>by rw[List.cons_append,ld,Ci l,ld];omega
theorem xj:∀l m:List fF,j6 (l++m)=j6 l+j6 m
 | [],m=>by rw[List.nil_append,j6];omega
 |x::l,m=>by rw[List.cons_append,j6,xj l,j6];omega
theorem Cj (G:iw):∀(l m:List fF) (k:Nat) (up:Int) (w:Nat),ow G (l++m) k up w=ow G l k up w++ow G m (k+ld l) up (w+j6 l)
 | [],m,k,up,w=>by rw[List.nil_append,ow,ld,j6];rfl
 |x::l,m,k,up,w=>by rw[List.cons_append,ow,Cj G l,ow,ld,j6,List.append_assoc,Nat.add_assoc,Nat.add_assoc]
def AL (G:iw)(l:List fF)(n w k:Nat):List Nq:=ow G (l.take k) (n+1) n w
theorem zU (G:iw)(l:List fF)(n w:Nat):AL G l n w 0=[]:=by unfold AL;rw[List.take_zero,ow]
theorem zV (G:iw){l:List fF}{k:Nat}{t:fF}(h:l[k]?=some t)(n w:Nat):AL G l n w (k+1)=AL G l n w k++kG G t (n+1+ld (l.take k)) n (w+j6 (l.take k)):=by
 unfold AL;rw[bJ h,Cj,ow,ow,List.append_nil]
theorem KL (G:iw)(l:List fF)(n w k:Nat):(AL G l n w k).length=ld (l.take k):=wy ..
theorem Ck (G:iw)(l:List fF)(n w:Nat){k:Nat}(h:l.length≤k):AL G l n w k=ow G l (n+1) n w:=by unfold AL;rw[List.take_of_length_le h]
theorem zW {l:List fF}{k:Nat}{t:fF}(h:l[k]?=some t):ld (l.take k)+o3 t≤ld l:=by
 conv=>rhs;rw[←List.take_append_drop k l]
 rw[bf h,Ci,ld];omega
theorem tZ {l:List fF}{k:Nat}{t:fF}(h:l[k]?=some t):j6 (l.take (k+1))=j6 (l.take k)+mN t∧j6 (l.take k)+mN t≤j6 l:=by
 refine⟨by rw[bJ h,xj,j6,j6];omega,?_⟩
 conv=>rhs;rw[←List.take_append_drop k l]
 rw[bf h,xj,j6];omega
set_option maxHeartbeats 4000000 in
theorem tb (bl bw bg bk:Nat)(g:iG):∀(x:br) (up:Int) (L:List Nq) (w:Nat) (vl:Value),vl.oneCell'=true→dY.wf x→gU g.rules.length g.bA.length (ah x)→L.length+o3 (ah x)≤200→w+mN (ah x)≤200→fC Tryz.prog 72 ([eW x,iv up]++ [Value.pointer (some ⟨bl,0,none⟩),Value.pointer (some ⟨bw,0,none⟩),Value.pointer (some ⟨bg,0,none⟩),Value.pointer (some ⟨bk,0,none⟩)]).toArray [aF (cB x),ae bl (.cells [vl].toArray 78 (0,0)),row vl 83 6 (L).length (rows gV (L)),ae bw (.cells [iv ((w:Nat):Int)].toArray 3 (0,0)),ae bg (.cells [g.tv.1,g.fv.1,g.rv.1,g.xv.1,g.start.nv.1].toArray 32 (0,0)),ae bk (.cells [(.func (.func 72) #[] [Value.pointer (some ⟨bl,0,none⟩),Value.pointer (some ⟨bw,0,none⟩),Value.pointer (some ⟨bg,0,none⟩),Value.pointer (some ⟨bk,0,none⟩)].toArray)].toArray 135 (0,0)),aF (sl cA g.rv.1 g.rules),aF (sl cI g.xv.1 g.bA)] (fun v H'=>∃v2,v2.oneCell'=true∧H'=[ae bl (.cells [v2].toArray 78 (0,0)),row v2 83 6 (L++kG (fG g) (ah x) L.length up w).length (rows gV (L++kG (fG g) (ah x) L.length up w)),ae bw (.cells [iv ((w+mN (ah x):Nat):Int)].toArray 3 (0,0)),ae bg (.cells [g.tv.1,g.fv.1,g.rv.1,g.xv.1,g.start.nv.1].toArray 32 (0,0)),ae bk (.cells [(.func (.func 72) #[] [Value.pointer (some ⟨bl,0,none⟩),Value.pointer (some ⟨bw,0,none⟩),Value.pointer (some ⟨bg,0,none⟩),Value.pointer (some ⟨bk,0,none⟩)].toArray)].toArray 135 (0,0))]):=by
 intro x
 induction x using br.ind
 rename_i x ih
 intro up L w vl zX hw hg fD cp;refine fC.body (args:=[eW x,iv up]++ [Value.pointer (some ⟨bl,0,none⟩),Value.pointer (some ⟨bw,0,none⟩),Value.pointer (some ⟨bg,0,none⟩),Value.pointer (some ⟨bk,0,none⟩)]) 73 Tryz.func72 rfl Tryz.ntmps72 rfl (fun c=> ?_);refine St.seq ?_
 have hE:=SI (fG g) x L.length up w
 obtain⟨Q1,hle,Q2⟩:=xi x hg;rw[Gm]at fD
 have EA:=Gn x
 rw[EA]at cp;refine St.mo x ?_;refine St.wf x.kv.1 (fun lX sO=> ?_)
 have YM:(L++ [(⟨L.length,false,[],up,0,w,0⟩:Nq)]).length=L.length+1:=by rw[List.length_append];rfl
 obtain⟨w1,zY⟩:∃w1,w1=w+(if x.eD<0 then 1 else 0):=⟨_,rfl⟩
 obtain⟨lf,Ob⟩:∃lf,lf=decide (x.eD<0):=⟨_,rfl⟩
 obtain⟨jU,BI⟩:∃jU,jU=rZ (fG g) x.eD x.lex:=⟨_,rfl⟩
 have hL1:(L++ [(⟨L.length,lf,jU,up,0,w,0⟩:Nq)]).length=L.length+1:=by rw[List.length_append];rfl
 rw[←zY,←Ob,←BI]at hE
 have acK:w1≤w+(if x.eD<0 then 1 else 0):=by omega
 refine St.rg ?_;refine St.cX (.mk rfl) rfl (fun b6=> ?_);refine St.nn (St.sr ?_);refine St.ee (Ev.l0 (.mk rfl) gn) ?_;refine St.ee (Ev.fl (.mk rfl) gn) ?_;refine St.ar ?_;refine St.nn (St.sr ?_);refine St.ee (Ev.l0 (.mk rfl) gn) ?_;refine St.mv ?_;refine St.ee (Ev.l0 (.mk rfl) bP) ?_;refine St.ee (Ev.build (ps:=[(2,(.tmp 14)),(4,(.tmp 15))]) (aV.cons (aL.mk rfl) (aV.cons (aL.mk rfl) aV.nil)) (fun w=>E6 rfl rfl w)) ?_;refine St.cn rfl (.cons (.mk rfl) .nil) gn nK S5 rfl rfl (by simp[Value.cells]) rfl rfl (fun MT=> ?_);refine St.cL (.mk rfl) (.mk rfl) gn nK S5 Y9 (by simp[Value.oneCell',Value.cells]) (by omega) (by omega) rfl rfl rfl rfl (fun gw EB=> ?_);refine St.bB gw (show _=(L++ [(⟨L.length,false,[],up,0,w,0⟩:Nq)]).length from YM.symm) (show _=rows gV (L++ [(⟨L.length,false,[],up,0,w,0⟩:Nq)]) by rw[cl];rfl) ?_;refine St.dm gw (fun fM _=> ?_);refine St.sU gw (by omega) (fun bs cs sD=> ?_);refine St.cR (.mk rfl) (.mk rfl) S6 fM (by rfl) ?_;refine St.nn ?_;refine St.join (ι:=Unit) (fun u T=>T) (fun u=>[ae b6 (.cells (js x).toArray 39 (0,0)),ae bl (.cells [gw].toArray 78 (0,0)),row gw 83 6 (L++ [(⟨L.length,lf,jU,up,0,w,0⟩:Nq)]).length (rows gV (L++ [(⟨L.length,lf,jU,up,0,w,0⟩:Nq)])),ae bw (.cells [iv ((w1:Nat):Int)].toArray 3 (0,0)),ae bg (.cells [g.tv.1,g.fv.1,g.rv.1,g.xv.1,g.start.nv.1].toArray 32 (0,0)),ae bk (.cells [(.func (.func 72) #[] [Value.pointer (some ⟨bl,0,none⟩),Value.pointer (some ⟨bw,0,none⟩),Value.pointer (some ⟨bg,0,none⟩),Value.pointer (some ⟨bk,0,none⟩)].toArray)].toArray 135 (0,0)),aF (sl dY x.kv.1 x.kids),aF (aX cB x.kids),aF (sl cA g.rv.1 g.rules),aF (sl cI g.xv.1 g.bA)]) (fun u=>True) (aE.cons 2 rfl (aE.cons 3 rfl (aE.cons 5 rfl (aE.cons 6 rfl (aE.cons 8 rfl aE.nil))))) ?_ ?_
 ·refine St.sr ?_
  refine St.ee (Ev.aD (.mk rfl) gD) ?_;refine St.ee (Ev.l0 (.mk rfl) bP) ?_;refine St.ee Ev.dz ?_;refine St.nn ?_;refine St.cond _ rfl (fun qU=> ?_) (fun qU=> ?_)
  ·try simp only[aC]at qU
   obtain⟨Od,Pw,Q3⟩:=hle qU;obtain⟨lx,jO⟩:=aQ (show x.lex.toNat<g.bA.length by omega)
   have BJ:lf=true:=by rw[Ob];exact decide_eq_true qU
   have J1:jU=lx.word:=by rw[BI,rZ,if_pos qU,List.getD_eq_getElem?_getD,show(fG g).bA=g.bA.map jh from rfl,List.getElem?_map,jO];rfl
   have W0:w1=w+1:=by rw[zY,if_pos qU]
   subst BJ;subst J1
   refine St.seq ?_;refine St.eK [row gw 83 6 (L++ [(⟨L.length,false,[],up,0,w,0⟩:Nq)]).length (rows gV (L++ [(⟨L.length,false,[],up,0,w,0⟩:Nq)]))] mixed (fun np ns=> ?_);refine SW.dd 0 rfl (fun _=>Ev.cS (.mk rfl) gn trivial (by rfl)) ?_;refine SW.dd 1 rfl (fun _=>Ev.move (.mk rfl)) ?_;refine SW.dd 2 rfl (fun _=>Ev.cS (.mk rfl) gn trivial (by rfl)) ?_;refine SW.dd 3 rfl (fun _=>Ev.move (.mk rfl)) ?_;refine SW.dd 4 rfl (fun _=>Ev.aD (.mk rfl) jL) ?_;refine SW.dd 5 rfl (fun _=>Ev.cS (.mk rfl) ig trivial (by rfl)) ?_;refine SW.dd 6 rfl (fun _=>Ev.aD (.mk rfl) nJ) ?_;refine SW.dd 7 rfl (fun _=>Ev.cS (.mk rfl) bP trivial (by rfl)) ?_;refine SW.dd 8 rfl (fun _=>Ev.aR (k:=x.lex.toNat) (.mk rfl) (.mk rfl) ig o4 (by omega) (by omega)) ?_;refine SW.dd 9 rfl (fun _=>Ev.eR (.mk rfl) (by omega) xX) ?_;refine SW.dd 10 rfl (fun _=>Ev.fL (.mk rfl) jO eG trivial rfl) ?_;refine SW.dd 11 rfl (fun _=>Ev.kF (k:=L.length) sD (.mk rfl) (.mk rfl) gn nK (by omega) (by omega)) ?_;refine SW.dd 12 rfl (fun _=>Ev.BH sD (.mk rfl) xf) ?_;refine SW.bG (i:=13) (by kernel_rfl) rfl ?_;refine St.dM (.mk rfl) (.mk rfl) q9 rfl (by omega) (by decide) ?_;refine St.nn ?_;refine SW.go ?_;refine SW.dd 14 rfl (fun _=>Ev.kF (k:=L.length) sD (.mk rfl) (.mk rfl) gn nK (by omega) (by omega)) ?_;refine SW.dd 15 rfl (fun _=>Ev.BH sD (.mk rfl) xg) ?_;refine SW.bG (i:=16) (by kernel_rfl) rfl ?_;refine St.dM (.mk rfl) (.mk rfl) Dh rfl (by omega) (by decide) ?_;refine St.nn ?_;refine SW.go ?_;refine SW.done (by kernel_rfl) ?_;refine St.aA (St.rg ?_);refine St.ee (Ev.l0 (.mk rfl) bP) ?_;refine St.ee Ev.a0 ?_;refine St.cR (.mk rfl) (.mk rfl) cr rfl (by rfl) ?_;refine St.gS bw (L':=[iv ((w+1:Nat):Int)]) rfl ?_;refine St.nn ?_;refine St.bB gw (YM.trans hL1.symm) (show _=rows gV (L++ [(⟨L.length,true,lx.word,up,0,w,0⟩:Nq)])from(by simp only[cl,tY];rfl)) ?_;refine St.gS bw (L':=[iv ((w1:Nat):Int)]) (by rw[W0]) ?_;refine St.mE () trivial
  ·try simp only[aC]at qU
   obtain⟨ru,AK⟩:=aQ (show x.eD.toNat<g.rules.length by omega)
   have BJ:lf=false:=by rw[Ob];exact decide_eq_false (by omega)
   have J1:jU=ru.name:=by rw[BI,rZ,if_neg (by omega),List.getD_eq_getElem?_getD,show(fG g).rules=g.rules.map lq from rfl,List.getElem?_map,AK];rfl
   have W0:w1=w:=by rw[zY,if_neg (by omega)];rfl
   subst BJ;subst J1
   refine St.eK [row gw 83 6 (L++ [(⟨L.length,false,[],up,0,w,0⟩:Nq)]).length (rows gV (L++ [(⟨L.length,false,[],up,0,w,0⟩:Nq)]))] mixed (fun np ns=> ?_);refine SW.dd 0 rfl (fun _=>Ev.cS (.mk rfl) gn trivial (by rfl)) ?_;refine SW.dd 1 rfl (fun _=>Ev.move (.mk rfl)) ?_;refine SW.dd 2 rfl (fun _=>Ev.aD (.mk rfl) jM) ?_;refine SW.dd 3 rfl (fun _=>Ev.cS (.mk rfl) ic trivial (by rfl)) ?_;refine SW.dd 4 rfl (fun _=>Ev.aD (.mk rfl) gD) ?_;refine SW.dd 5 rfl (fun _=>Ev.cS (.mk rfl) bP trivial (by rfl)) ?_;refine SW.dd 6 rfl (fun _=>Ev.aR (k:=x.eD.toNat) (.mk rfl) (.mk rfl) ic n7 (by omega) (by omega)) ?_;refine SW.dd 7 rfl (fun _=>Ev.eR (.mk rfl) (by omega) nH) ?_;refine SW.dd 8 rfl (fun _=>Ev.fL (.mk rfl) AK eG trivial rfl) ?_;refine SW.dd 9 rfl (fun _=>Ev.kF (k:=L.length) sD (.mk rfl) (.mk rfl) gn nK (by omega) (by omega)) ?_;refine SW.dd 10 rfl (fun _=>Ev.BH sD (.mk rfl) xg) ?_;refine SW.bG (i:=11) (by kernel_rfl) rfl ?_;refine St.dM (.mk rfl) (.mk rfl) Dh rfl (by omega) (by decide) ?_;refine St.nn ?_;refine SW.go ?_;refine SW.done (by kernel_rfl) ?_;refine St.aA ?_;refine St.bB gw (YM.trans hL1.symm) (show _=rows gV (L++ [(⟨L.length,false,ru.name,up,0,w,0⟩:Nq)])from(by simp only[cl,tY];rfl)) ?_;refine St.gS bw (L':=[iv ((w1:Nat):Int)]) (by rw[W0]) ?_;refine St.mE () trivial
 ·intro _ _
  refine St.seq (St.sr ?_);refine St.ee (Ev.aD (.mk rfl) lD) ?_;refine St.ee (Ev.l0 (.mk rfl) jJ) ?_;refine St.ee (Ev.au (.mk rfl) jJ) ?_;refine St.mv ?_;refine St.nn (St.block ?_);refine St.bB gw (show _=(L++(⟨L.length,lf,jU,up,0,w,0⟩:Nq)::AL (fG g) (x.kids.map ah) L.length w1 0).length by rw[zU]) (show _=rows gV (L++(⟨L.length,lf,jU,up,0,w,0⟩:Nq)::AL (fG g) (x.kids.map ah) L.length w1 0) by rw[zU]) ?_;refine St.gS bw (L':=[iv ((w1+j6 ((x.kids.map ah).take 0):Nat):Int)]) (by rw[List.take_zero,j6];rfl) ?_;refine St.my (ι:=Nat) (κ:=Value) (fun k z T=>(53,iv k)::T) (fun k z=>[ae bl (.cells [z].toArray 78 (0,0)),row z 83 6 (L++(⟨L.length,lf,jU,up,0,w,0⟩:Nq)::AL (fG g) (x.kids.map ah) L.length w1 k).length (rows gV (L++(⟨L.length,lf,jU,up,0,w,0⟩:Nq)::AL (fG g) (x.kids.map ah) L.length w1 k)),ae bw (.cells [iv ((w1+j6 ((x.kids.map ah).take k):Nat):Int)].toArray 3 (0,0)),ae bg (.cells [g.tv.1,g.fv.1,g.rv.1,g.xv.1,g.start.nv.1].toArray 32 (0,0)),ae bk (.cells [(.func (.func 72) #[] [Value.pointer (some ⟨bl,0,none⟩),Value.pointer (some ⟨bw,0,none⟩),Value.pointer (some ⟨bg,0,none⟩),Value.pointer (some ⟨bk,0,none⟩)].toArray)].toArray 135 (0,0)),aF (sl dY x.kv.1 x.kids),aF (aX cB x.kids),aF (sl cA g.rv.1 g.rules),aF (sl cI g.xv.1 g.bA)]) (fun k z=>k≤x.kids.length∧z.oneCell'=true) (fun k z=>x.kids.length-k) 0 gw (aE.cons 2 rfl (aE.cons 3 rfl (aE.cons 5 rfl (aE.cons 8 rfl (aE.cons 51 rfl (aE.cons 52 rfl aE.nil)))))) ⟨Nat.zero_le _,fM⟩ ?_;rintro k z ⟨hk,YN⟩
  have W1:(L++(⟨L.length,lf,jU,up,0,w,0⟩:Nq)::AL (fG g) (x.kids.map ah) L.length w1 k).length=L.length+1+ld ((x.kids.map ah).take k):=by rw[List.length_append,List.length_cons,KL];omega
  refine St.sr ?_;refine St.ee Ev.dz ?_;refine St.nn (St.seq ?_);refine St.cond _ rfl (fun tD=> ?_) (fun tD=> ?_)
  ·try simp only[aC]at tD
   obtain⟨y,hy⟩:=aQ (show k<x.kids.length by omega)
   have lY:=List.mem_of_getElem? hy
   have pb:(x.kids.map ah)[k]?=some (ah y):=by rw[List.getElem?_map,hy];rfl
   refine St.cC cB x.kids (x:=y) lY ?_
   have hnt:=zW pb
   obtain⟨J2,Py⟩:=tZ pb;refine St.skip (St.aA (St.seq (St.block (St.sr ?_))));refine St.ee (Ev.aR (k:=k) (.mk rfl) (.mk rfl) jJ gH (by omega) (by omega)) ?_;refine St.ee (Ev.fg (.mk rfl) hy l8 trivial gH en.eq) ?_;refine St.alloc zR rfl (fun jT=> ?_);refine St.sA (.mk rfl) (.mk rfl) gH ?_ (h1:=(by simp only[List.all_cons,List.all_nil,Bool.and_true,Bool.and_eq_true];exact⟨rfl,rfl,y.kv.2⟩));refine St.nn ?_;refine St.dup (sl cA g.rv.1 g.rules) ?_;refine St.dup (sl cI g.xv.1 g.bA) ?_;refine St.rg ?_;refine St.ee (Ev.l0 (.mk rfl) Tryz.underlying135) ?_;refine St.ee (Ev.bH (.mk rfl) l8 trivial (by exact gH)) ?_;refine St.mv ?_;refine St.dR (ih y lY (L.length:Nat) (L++(⟨L.length,lf,jU,up,0,w,0⟩:Nq)::AL (fG g) (x.kids.map ah) L.length w1 k) (w1+j6 ((x.kids.map ah).take k)) z YN (lX y lY) (Q2 y lY) (by omega) (by omega)) S7 (.mk rfl) (.cons (.mk rfl) (.cons (.mk rfl) .nil)) rfl ?_;rintro v60 _ ⟨vl2,ng,rfl⟩;refine St.Db ?_;refine St.bB vl2 (show _=(L++(⟨L.length,lf,jU,up,0,w,0⟩:Nq)::AL (fG g) (x.kids.map ah) L.length w1 (k+1)).length by rw[W1,zV _ pb,List.append_assoc];rfl) (show _=rows gV (L++(⟨L.length,lf,jU,up,0,w,0⟩:Nq)::AL (fG g) (x.kids.map ah) L.length w1 (k+1)) by rw[W1,zV _ pb,List.append_assoc];rfl) ?_;refine St.gS bw (L':=[iv ((w1+j6 ((x.kids.map ah).take (k+1)):Nat):Int)]) (by rw[J2,Nat.add_assoc]) ?_;refine St.nil (St.aO (St.aA (St.rg ?_)));refine St.ee Ev.a0 ?_;refine St.mv ?_;refine St.nn ?_;refine St.ji (k+1) vl2 ⟨by omega,ng⟩
  ·try simp only[aC]at tD
   have qc:(x.kids.map ah).length≤k:=by rw[List.length_map];omega
   rw[Ck _ _ _ _ qc,List.take_of_length_le qc];rw[Ck _ _ _ _ qc,List.take_of_length_le qc]at W1;refine St.sU z (by omega) (fun bs cs sD=> ?_);refine St.exit (St.aI (St.aI (St.bM (St.aA ?_))));refine St.eK [row z 83 6 (L++(⟨L.length,lf,jU,up,0,w,0⟩:Nq)::ow (fG g) (x.kids.map ah) (L.length+1) L.length w1).length (rows gV (L++(⟨L.length,lf,jU,up,0,w,0⟩:Nq)::ow (fG g) (x.kids.map ah) (L.length+1) L.length w1))] mixed (fun np ns=> ?_);refine SW.dd 0 rfl (fun _=>Ev.cS (.mk rfl) gn trivial (by rfl)) ?_;refine SW.dd 1 rfl (fun _=>Ev.move (.mk rfl)) ?_;refine SW.dd 2 rfl (fun _=>Ev.cS (.mk rfl) gn trivial (by rfl)) ?_;refine SW.dd 3 rfl (fun _=>Ev.move (.mk rfl)) ?_;refine SW.dd 4 rfl (fun _=>Ev.cS (.mk rfl) gn trivial (by rfl)) ?_;refine SW.dd 6 rfl (fun _=>Ev.cS (.mk rfl) bP trivial (by rfl)) ?_;refine SW.slot 68 (iv ((w+((if x.eD<0 then 1 else 0)+j6 (x.kids.map ah)):Nat):Int)) rfl (congrArg iv (by rw[zY];omega)) ?_;refine SW.bG (i:=5) (by kernel_rfl) rfl ?_;refine St.ee (Ev.fl (.mk rfl) gn) ?_;refine St.slot 67 (iv ((L.length+(1+ld (x.kids.map ah)):Nat):Int)) rfl (congrArg iv (by rw[W1];omega)) ?_;refine St.nn ?_;refine SW.go ?_;refine SW.dd 7 rfl (fun _=>Ev.kF (k:=L.length) sD (.mk rfl) (.mk rfl) gn nK (by omega) (by omega)) ?_;refine SW.dd 8 rfl (fun _=>Ev.BH sD (.mk rfl) Gg) ?_;refine SW.bG (i:=9) (by kernel_rfl) rfl ?_;refine St.dM (.mk rfl) (.mk rfl) cr rfl (by omega) (by decide) ?_;refine St.nn ?_;refine SW.go ?_;refine SW.dd 10 rfl (fun _=>Ev.kF (k:=L.length) sD (.mk rfl) (.mk rfl) gn nK (by omega) (by omega)) ?_;refine SW.dd 11 rfl (fun _=>Ev.BH sD (.mk rfl) BD) ?_;refine SW.bG (i:=12) (by kernel_rfl) rfl ?_;refine St.dM (.mk rfl) (.mk rfl) cr rfl (by omega) (by decide) ?_;refine St.nn ?_;refine SW.go ?_;refine SW.done (by kernel_rfl) ?_;refine St.j0 ?_;refine St.bB z (show _=(L++kG (fG g) (ah x) L.length up w).length by rw[hE,List.length_append,List.length_append];rfl) (show _=rows gV (L++kG (fG g) (ah x) L.length up w) by rw[hE];simp only[KK,tY];rfl) ?_;refine St.gS bw (L':=[iv ((w+mN (ah x):Nat):Int)]) (by rw[EA,zY,Nat.add_assoc]) ?_;refine St.rT [] [ae bl (.cells [z].toArray 78 (0,0)),row z 83 6 (L++kG (fG g) (ah x) L.length up w).length (rows gV (L++kG (fG g) (ah x) L.length up w)),ae bw (.cells [iv ((w+mN (ah x):Nat):Int)].toArray 3 (0,0)),ae bg (.cells [g.tv.1,g.fv.1,g.rv.1,g.xv.1,g.start.nv.1].toArray 32 (0,0)),ae bk (.cells [(.func (.func 72) #[] [Value.pointer (some ⟨bl,0,none⟩),Value.pointer (some ⟨bw,0,none⟩),Value.pointer (some ⟨bg,0,none⟩),Value.pointer (some ⟨bk,0,none⟩)].toArray)].toArray 135 (0,0))] Tryz.results72 trivial ?_;exact⟨z,YN,rfl⟩
set_option maxHeartbeats 2000000 in
theorem BK (g:iG)(t:br)(hw:dY.wf t)(hg:gU g.rules.length g.bA.length (ah t))(fD:o3 (ah t)≤200)(J0:mN (ah t)≤200):fC Tryz.prog 31 #[gm g,eW t] ([dv g,cB t].map aF) (fun v H'=>v.oneCell'=true∧H'=[aF (sl gV v (kG (fG g) (ah t) 0 (-1) 0))]):=by
 refine fC.body (args:=[gm g,eW t]) 13 Tryz.func31 rfl Tryz.ntmps31 rfl (fun c=> ?_);refine St.cast (H':=[aF (dv g),aF (cB t)]) rfl ?_;refine St.seq ?_
 refine St.fI (dv g) (fun _:Unit=>yX g) (fun ρ h=>⟨(),h⟩) fun _=> ?_
 refine St.cast (H':=[aF (sl du g.tv.1 g.types),aF (aX ek g.types),aF (sl bx g.fv.1 g.bb),aF (sl cA g.rv.1 g.rules),aF (aX cO g.rules),aF (sl cI g.xv.1 g.bA),aF (aX dT g.bA),aF (bU g.start),aF (dv g),aF (cB t)]) rfl ?_;refine St.rg ?_;refine St.cX (.mk rfl) rfl (fun b2=> ?_);refine St.cX (.mk rfl) rfl (fun b3=> ?_);refine St.ar ?_;refine St.nn (St.sr ?_);refine St.alloc S8 rfl (fun b5=> ?_);refine St.nn (St.sr ?_);refine St.alloc MH rfl (fun b6=> ?_);refine St.cR (.mk rfl) (.mk rfl) cr rfl (by rfl) ?_;refine St.gS b6 (L':=[iv ((0:Nat):Int)]) rfl ?_;refine St.nn (St.sr ?_);refine St.alloc S9 rfl (fun b7=> ?_);refine St.nn (St.sr ?_);refine St.ee (Ev.func (.cons (.mk rfl) (.cons (.mk rfl) (.cons (.mk rfl) (.cons (.mk rfl) .nil))))) ?_;refine St.cR (.mk rfl) (.mk rfl) SA rfl (by rfl) ?_;refine St.nn (St.seq ?_);refine St.dup (sl cA g.rv.1 g.rules) ?_;refine St.dup (sl cI g.xv.1 g.bA) ?_;refine St.dup (cB t) ?_;refine St.jD 83 6 ?_;refine St.bB (.slice none 0 0) (show _=([]:List Nq).length from rfl) (show _=rows gV []from rfl) ?_;refine St.rg ?_;refine St.ee (Ev.l0 (.mk rfl) Tryz.underlying135) ?_;refine St.ee (Ev.bH (.mk rfl) l8 trivial (by exact gH)) ?_;refine St.dR (tb b5 b6 b2 b7 g t (-1) [] 0 (.slice none 0 0) rfl hw hg (by simpa using fD) (by simpa using J0)) S7 (.mk rfl) (.cons (.mk rfl) (.cons (.mk rfl) .nil)) rfl ?_;rintro v11 _ ⟨v2,ng,rfl⟩;refine St.Db ?_;refine St.nn (St.sr ?_);refine St.ee (Ev.l0 (.mk rfl) gn) ?_;refine St.ar ?_;refine St.nn (St.ab ?_);refine St.bB v2 (show _=(kG (fG g) (ah t) 0 (-1) 0).length from rfl) (show _=rows gV (kG (fG g) (ah t) 0 (-1) 0)from rfl) ?_;refine St.aU v2 gV (kG (fG g) (ah t) 0 (-1) 0) rfl rfl (fun _ _=>trivial) ?_;refine St.rU [_] [aF (sl gV v2 (kG (fG g) (ah t) 0 (-1) 0))] Tryz.results31 ?_;exact⟨ng,rfl⟩
theorem EC (va:dP)(x:Nq):cz Tryz.prog 33 #[.agg #[sv va.name,iv va.kind,sv va.label],.agg #[.bool x.leaf,sv x.label,iv x.up,iv (x.fin:Int),iv (x.ov:Int),iv (x.to:Int)]] [] (.bool (mu va x)):=by
 refine cz.kI (args:=[.agg #[sv va.name,iv va.kind,sv va.label],.agg #[.bool x.leaf,sv x.label,iv x.up,iv (x.fin:Int),iv (x.ov:Int),iv (x.to:Int)]]) 34 Tryz.func33 rfl Tryz.ntmps33 rfl (fun c=> ?_);refine St.sr ?_;refine St.cX (.mk rfl) rfl (fun b2=> ?_);refine St.cX (.mk rfl) rfl (fun b3=> ?_);refine St.ar ?_;refine St.nn (St.seq (St.sr ?_));refine St.ee (Ev.aD (.mk rfl) nI) ?_;refine St.ee (Ev.l0 (.mk rfl) bP) ?_;refine St.nn (St.block (St.sr ?_));refine St.ee Ev.fa ?_;refine St.ar ?_;refine St.nn ?_;refine St.cond _ rfl (fun h7=> ?_) (fun h7=> ?_)
 ·try simp only[aC]at h7
  refine St.sr ?_;refine St.ee (Ev.aD (.mk rfl) xf) ?_;refine St.ee (Ev.l0 (.mk rfl) uP) ?_;refine St.ee (Ev.not (.mk rfl)) ?_;refine St.mv ?_;refine St.gt _ rfl rfl (fun hg=>Ev.aD (.mk rfl) xg) rfl ?_;refine St.gt _ rfl rfl (fun hg=>Ev.cS (aL.gv rfl hg) eG trivial (by rfl)) rfl ?_;refine St.gt _ rfl rfl (fun hg=>Ev.aD (.mk rfl) qf) rfl ?_;refine St.gt _ rfl rfl (fun hg=>Ev.cS (aL.gv rfl hg) eG trivial (by rfl)) rfl ?_;refine St.gt _ rfl rfl (fun hg=>Ev.j1 (aL.gv rfl hg) (aL.gv rfl hg)) rfl ?_;refine St.ee Ev.n0 ?_;refine St.ar ?_;refine St.nn (St.ab (St.aN (St.aB ?_)));refine St.rU [_] [] Tryz.results33 ?_;exact be (by unfold mu;rw[if_pos h7];congr 1;rw[Bool.eq_iff_iff,beq_iff_eq,decide_eq_true_eq])
 ·try simp only[aC]at h7
  refine St.sr ?_;refine St.ee Ev.fa ?_;refine St.ar ?_;refine St.nn ?_;refine St.cond _ rfl (fun gP=> ?_) (fun gP=> ?_)
  ·try simp only[aC]at gP
   refine St.sr ?_;refine St.ee (Ev.aD (.mk rfl) xf) ?_;refine St.ee (Ev.l0 (.mk rfl) uP) ?_;refine St.mv ?_;refine St.gt _ rfl rfl (fun hg=>Ev.aD (.mk rfl) xg) rfl ?_;refine St.gt _ rfl rfl (fun hg=>Ev.cS (aL.gv rfl hg) eG trivial (by rfl)) rfl ?_;refine St.gt _ rfl rfl (fun hg=>Ev.aD (.mk rfl) qf) rfl ?_;refine St.gt _ rfl rfl (fun hg=>Ev.cS (aL.gv rfl hg) eG trivial (by rfl)) rfl ?_;refine St.gt _ rfl rfl (fun hg=>Ev.j1 (aL.gv rfl hg) (aL.gv rfl hg)) rfl ?_;refine St.ee Ev.n0 ?_;refine St.ar ?_;refine St.nn (St.ab (St.aN (St.aB ?_)));refine St.rU [_] [] Tryz.results33 ?_;exact be (by unfold mu;rw[if_neg h7,if_pos gP];congr 1;rw[Bool.eq_iff_iff,beq_iff_eq,decide_eq_true_eq])
  ·try simp only[aC]at gP
   refine St.sr ?_;refine St.ee Ev.fa ?_;refine St.ar ?_;refine St.nn ?_;refine St.cond _ rfl (fun qV=> ?_) (fun qV=> ?_)
   ·try simp only[aC]at qV
    refine St.sr ?_;refine St.ee (Ev.aD (.mk rfl) xf) ?_;refine St.ee (Ev.l0 (.mk rfl) uP) ?_;refine St.ar ?_;refine St.nn (St.ab (St.aN (St.aB ?_)));refine St.rU [_] [] Tryz.results33 ?_;exact be (by unfold mu;rw[if_neg h7,if_neg gP,if_pos qV])
   ·try simp only[aC]at qV
    refine St.skip (St.aO (St.aA (St.sr ?_)));refine St.ar ?_;refine St.nn (St.ab ?_);refine St.rU [_] [] Tryz.results33 ?_;exact be (by unfold mu;rw[if_neg h7,if_neg gP,if_neg qV])
theorem zZ (v:Value)(L:List Nq)(k:Int)(a b:Nat)(ha:a<L.length)(hb:b<L.length):cz Tryz.prog 34 #[v,iv k,iv a,iv b] [sl gV v L] (.bool (j7 L k a b)):=by
 refine cz.iL (args:=[v,iv k,iv a,iv b]) 75 Tryz.func34 rfl Tryz.ntmps34 rfl (fun c=> ?_);refine St.seq ?_
 have Oe:=getD_some ha
 have SJ:=getD_some hb
 refine St.wf v (fun _ zX=> ?_)
 generalize W3:L.getD a so=A at Oe
 generalize W4:L.getD b so=B at SJ
 refine St.rg ?_;refine St.ar ?_;refine St.nn (St.seq (St.sr ?_));refine St.mv ?_;refine St.nn (St.block (St.sr ?_));refine St.ee Ev.fa ?_;refine St.ar ?_;refine St.nn ?_;refine St.cond _ rfl (fun uR=> ?_) (fun uR=> ?_)
 ·try simp only[aC]at uR
  refine St.sr ?_;refine St.mv ?_;refine St.mv ?_;refine St.ee (Ev.aR (k:=b) (.mk rfl) (.mk rfl) gn nK (by omega) (by omega)) ?_;refine St.ee (Ev.eR (.mk rfl) (by omega) BE) ?_;refine St.ee (Ev.fL (.mk rfl) SJ bP trivial rfl) ?_;refine St.mv ?_;refine St.ee Ev.fa ?_;refine St.ar ?_;refine St.nn (St.ab (St.aN (St.aB ?_)));refine St.rU [_] [] Tryz.results34 ?_;exact be (by unfold j7;rw[if_pos uR,W4])
 ·try simp only[aC]at uR
  refine St.sr ?_;refine St.ee Ev.fa ?_;refine St.ar ?_;refine St.nn ?_;refine St.cond _ rfl (fun gP=> ?_) (fun gP=> ?_)
  ·try simp only[aC]at gP
   refine St.sr ?_;refine St.mv ?_;refine St.mv ?_;refine St.ee Ev.dz ?_;refine St.mv ?_;refine St.gt _ rfl rfl (fun hg=>Ev.move (.mk rfl)) rfl ?_;refine St.gt _ rfl rfl (fun hg=>Ev.move (.mk rfl)) rfl ?_;refine St.gt _ rfl rfl (fun hg=>Ev.move (.mk rfl)) rfl ?_;refine St.gt _ rfl rfl (fun hg=>Ev.aR (k:=a) (aL.gv rfl hg) (aL.gv rfl hg) gn nK (by first|omega|(simp only[aC]at hg;omega)) (by omega)) rfl ?_;refine St.gt _ rfl rfl (fun hg=>Ev.eR (aL.gv rfl hg) (by first|omega|(simp only[aC]at hg;omega)) Gg) rfl ?_;refine St.gt _ rfl rfl (fun hg=>Ev.fL (aL.gv rfl hg) Oe bP trivial rfl) rfl ?_;refine St.gt _ rfl rfl (fun hg=>Ev.lss (aL.gv rfl hg) (aL.gv rfl hg)) rfl ?_;refine St.ee Ev.n0 ?_;refine St.ar ?_;refine St.nn (St.ab (St.aN (St.aB ?_)));refine St.rU [_] [] Tryz.results34 ?_;exact be (by unfold j7;rw[if_neg uR,if_pos gP,W3];congr 1<;>exact decide_eq_decide.2 (by omega))
  ·try simp only[aC]at gP
   refine St.sr ?_;refine St.ee Ev.fa ?_;refine St.ar ?_;refine St.nn ?_;refine St.cond _ rfl (fun qA=> ?_) (fun qA=> ?_)
   ·try simp only[aC]at qA
    refine St.seq ?_;refine St.rq mixed (by kernel_rfl) (Mm.drawn _ _) ?_;refine Sq.ee (Ev.move (.mk rfl)) ?_;refine Sq.ee (Ev.move (.mk rfl)) ?_;refine Sq.ee (Ev.aR (k:=a) (.mk rfl) (.mk rfl) gn nK (by omega) (by omega)) ?_;refine Sq.ee (Ev.eR (.mk rfl) (by omega) BD) ?_;refine Sq.ee (Ev.fL (.mk rfl) Oe bP trivial rfl) ?_;refine Sq.ee (Ev.move (.mk rfl)) ?_;refine Sq.ee (Ev.move (.mk rfl)) ?_;refine Sq.ee (Ev.aR (k:=b) (.mk rfl) (.mk rfl) gn nK (by omega) (by omega)) ?_;refine Sq.ee (Ev.eR (.mk rfl) (by omega) Gh) ?_;refine Sq.ee (Ev.fL (.mk rfl) SJ bP trivial rfl) ?_;refine Sq.ee Ev.Iw ?_;refine Sq.ee (Ev.assign (.mk rfl)) ?_;refine Sq.nil ?_;refine St.aA (St.ab (St.aN (St.aB ?_)));refine St.rU [_] [] Tryz.results34 ?_;exact be (by unfold j7;rw[if_neg uR,if_neg gP,if_pos qA,W3,W4];exact decide_eq_decide.2 (by omega))
   ·try simp only[aC]at qA
    refine St.sr ?_;refine St.ee Ev.fa ?_;refine St.ar ?_;refine St.nn ?_;refine St.cond _ rfl (fun mV=> ?_) (fun mV=> ?_)
    ·try simp only[aC]at mV
     refine St.seq ?_;refine St.rq mixed (by kernel_rfl) (Mm.drawn _ _) ?_;refine Sq.ee (Ev.move (.mk rfl)) ?_;refine Sq.ee (Ev.move (.mk rfl)) ?_;refine Sq.ee (Ev.aR (k:=a) (.mk rfl) (.mk rfl) gn nK (by omega) (by omega)) ?_;refine Sq.ee (Ev.eR (.mk rfl) (by omega) BD) ?_;refine Sq.ee (Ev.fL (.mk rfl) Oe bP trivial rfl) ?_;refine Sq.ee (Ev.move (.mk rfl)) ?_;refine Sq.ee (Ev.move (.mk rfl)) ?_;refine Sq.ee (Ev.aR (k:=b) (.mk rfl) (.mk rfl) gn nK (by omega) (by omega)) ?_;refine Sq.ee (Ev.eR (.mk rfl) (by omega) Gh) ?_;refine Sq.ee (Ev.fL (.mk rfl) SJ bP trivial rfl) ?_;refine Sq.ee Ev.fa ?_;refine Sq.ee (Ev.assign (.mk rfl)) ?_;refine Sq.nil ?_;refine St.aA (St.ab (St.aN (St.aB ?_)));refine St.rU [_] [] Tryz.results34 ?_;exact be (by unfold j7;rw[if_neg uR,if_neg gP,if_neg qA,if_pos mV,W3,W4];exact decide_eq_decide.2 (by omega))
    ·try simp only[aC]at mV
     refine St.skip (St.aO (St.aA (St.seq ?_)));refine St.rq mixed (by kernel_rfl) (Mm.drawn _ _) ?_;refine Sq.ee (Ev.move (.mk rfl)) ?_;refine Sq.ee (Ev.move (.mk rfl)) ?_;refine Sq.ee Ev.jj ?_;refine Sq.ee (Ev.move (.mk rfl)) ?_;refine Sq.gt _ rfl rfl (fun hg=>Ev.move (.mk rfl)) rfl ?_;refine Sq.gt _ rfl rfl (fun hg=>Ev.move (.mk rfl)) rfl ?_;refine Sq.gt _ rfl rfl (fun hg=>Ev.aR (k:=a) (aL.gv rfl hg) (aL.gv rfl hg) gn nK (by first|omega|(simp only[aC]at hg;omega)) (by first|omega|(simp only[aC]at hg;omega))) rfl ?_;refine Sq.gt _ rfl rfl (fun hg=>Ev.eR (aL.gv rfl hg) (by first|omega|(simp only[aC]at hg;omega)) BE) rfl ?_;refine Sq.gt _ rfl rfl (fun hg=>Ev.fL (aL.gv rfl hg) Oe bP trivial rfl) rfl ?_;refine Sq.gt _ rfl rfl (fun hg=>Ev.move (.mk rfl)) rfl ?_;refine Sq.gt _ rfl rfl (fun hg=>Ev.move (.mk rfl)) rfl ?_;refine Sq.gt _ rfl rfl (fun hg=>Ev.aR (k:=b) (aL.gv rfl hg) (aL.gv rfl hg) gn nK (by first|omega|(simp only[aC]at hg;omega)) (by first|omega|(simp only[aC]at hg;omega))) rfl ?_;refine Sq.gt _ rfl rfl (fun hg=>Ev.eR (aL.gv rfl hg) (by first|omega|(simp only[aC]at hg;omega)) BE) rfl ?_;refine Sq.gt _ rfl rfl (fun hg=>Ev.fL (aL.gv rfl hg) SJ bP trivial rfl) rfl ?_;refine Sq.gt _ rfl rfl (fun hg=>Ev.eql (aL.gv rfl hg) (aL.gv rfl hg)) rfl ?_;refine Sq.ee Ev.n0 ?_;refine Sq.ee (Ev.assign (.mk rfl)) ?_;refine Sq.nil ?_;refine St.aA (St.ab ?_);refine St.rU [_] [] Tryz.results34 ?_;exact be (by unfold j7;rw[if_neg uR,if_neg gP,if_neg qA,if_neg mV,W3,W4];rw[Bool.eq_iff_iff];simp only[Bool.and_eq_true,decide_eq_true_eq,bne_iff_ne,beq_iff_eq,ne_eq,Int.ofNat_inj,Int.natCast_inj,Bool.not_eq_true',decide_eq_false_iff_not])
end Go.Proofs.YtolmidffiegkaaaGreatDoor
