/-
  Laws of walks through programs, and facts on grammars, trees and queries.
  Conditions: none.
-/
import Derived.Test.YtolmidffiegkaaaGreatDoorGA3
import Derived.Test.YtolmidffiegkaaaGreatDoorGA2
import Derived.Laws.Small
set_option maxRecDepth 20000
set_option linter.unusedSimpArgs false
set_option linter.unusedVariables false
namespace Go.Proofs.YtolmidffiegkaaaGreatDoor
open Go Go.J
theorem A0 {T:List dc}{q k:Nat}(hk:k<T.length)(hq:q<k)(h:gE T q k=true)(hb:∀b,b<k→(List.range b).any (fun a=>gE T a b)=false):kZ T=some k:=by
 unfold kZ;rw[List.find?_range_eq_some];refine⟨List.any_eq_true.2 ⟨q,List.mem_range.2 hq,h⟩,List.mem_range.2 hk,fun j hj=>by rw[hb j hj];rfl⟩
theorem A1 {T:List dc}(hb:∀b,b<T.length→(List.range b).any (fun a=>gE T a b)=false):kZ T=none:=by
 unfold kZ;rw[List.find?_eq_none]
 intro b h;rw[hb b (List.mem_range.1 h)];decide
theorem pt {p:Nat→Bool}{n:Nat}(h:∀a,a<n→p a=false):(List.range n).any p=false:=by
 rw[List.any_eq_false];intro a ha;rw[h a (List.mem_range.1 ha)];decide
theorem rh {n:Int}{l:List mm}{k:Nat}{t:mm}(ht:l[k]?=some t)(known:List cQ):jM n known k (l.drop k)=if isName t.1=false then(10,(k:Int))else if t.1∈known then(7,(k:Int))else if t.2.1<0∨n≤t.2.1∨t.2.2<0∨n≤t.2.2 then(3,(k:Int))
 else jM n (known++ [t.1]) (k+1) (l.drop (k+1)):=by rw[bz ht,jM]
theorem u6 {n:Int}{l:List mm}{k:Nat}(h:l.length≤k)(known:List cQ):jM n known k (l.drop k)=(0,0):=by rw[List.drop_of_length_le h,jM]
theorem wT {T:List dc}{Fs:List mm}(h:T.length=0∨60<T.length∨40<Fs.length):fZ T Fs=(2,-1):=by
 unfold fZ
 by_cases h1:40<Fs.length
 ·rw[if_pos h1]
 ·have e:qU T=(2,-1):=by unfold qU;rw[if_pos (by omega)]
  rw[if_neg h1,e];rfl
theorem A3 {T:List dc}{Fs:List mm}(h:¬40<Fs.length)(h2:(qU T).1≠0):fZ T Fs=qU T:=by unfold fZ;rw[if_neg h,if_pos h2]
theorem A4 {T:List dc}{Fs:List mm}{b:Nat}(h:¬40<Fs.length)(h2:¬(qU T).1≠0)(h3:kZ T=some b):fZ T Fs=(16,(b:Int)):=by unfold fZ;rw[if_neg h,if_neg h2,h3]
theorem A5 {T:List dc}{Fs:List mm}(h:¬40<Fs.length)(h2:¬(qU T).1≠0)(h3:kZ T=none):fZ T Fs=jM T.length [] 0 Fs:=by unfold fZ;rw[if_neg h,if_neg h2,h3]
set_option maxHeartbeats 2000000 in
theorem yJ (tv xv:ck)(ts:List jj)(fs:List eF):ct Tryz.prog 64 #[.agg #[tv.1,xv.1]] [sl e6 tv.1 ts,aY ew ts,sl bu xv.1 fs,tz] (fv (fZ (ts.map bf) (fs.map dR))):=by
 refine ct.Mq (args:=[.agg #[tv.1,xv.1]]) 122 Tryz.func64 rfl Tryz.ntmps64 rfl (fun c=> ?_);refine St.seq ?_
 have sO:(ts.map bf).length=ts.length:=List.length_map ..
 have Et:(fs.map dR).length=fs.length:=List.length_map ..
 refine St.wf tv.1 (fun qY ER=> ?_);refine St.wf xv.1 (fun Sp Yq=> ?_);refine St.rg ?_;refine St.cV (.mk rfl) rfl (fun b1=> ?_);refine St.alloc dF rfl (fun b2=> ?_);refine St.nn (St.seq (St.sr ?_));refine St.ee (Ev.aD (.mk rfl) fm) ?_;refine St.ee (Ev.l0 (.mk rfl) eW) ?_;refine St.ee (Ev.ao (.mk rfl) eW) ?_;refine St.ee Ev.ey ?_;refine St.mv ?_;refine St.gf _ rfl rfl (fun hg=>Ev.aD (.mk rfl) fm) rfl ?_;refine St.gf _ rfl rfl (fun hg=>Ev.cN (aL.gv rfl hg) eW trivial (by rfl)) rfl ?_;refine St.gf _ rfl rfl (fun hg=>Ev.ao (aL.gv rfl hg) eW) rfl ?_;refine St.gf _ rfl rfl (fun hg=>Ev.gtr (aL.gv rfl hg) (.mk rfl)) rfl ?_;refine St.ee Ev.o0 ?_;refine St.mv ?_;refine St.gf _ rfl rfl (fun hg=>Ev.aD (.mk rfl) jQ) rfl ?_;refine St.gf _ rfl rfl (fun hg=>Ev.cN (aL.gv rfl hg) iz trivial (by rfl)) rfl ?_;refine St.gf _ rfl rfl (fun hg=>Ev.ao (aL.gv rfl hg) iz) rfl ?_;refine St.gf _ rfl rfl (fun hg=>Ev.gtr (aL.gv rfl hg) (.mk rfl)) rfl ?_;refine St.ee Ev.o0 ?_;refine St.nn ?_;refine St.cond _ rfl (fun qt=> ?_) (fun qt=> ?_)
 ·try simp only[aC]at qt
  have hf:fZ (ts.map bf) (fs.map dR)=(2,-1):=wT (by omega)
  refine St.sr ?_;refine St.ee (Ev.call (cH 2 (-1)) tc (.cons (.mk rfl) (.cons (.mk rfl) .nil))) ?_;refine St.sA (.mk rfl) (.mk rfl) ay ?_;refine St.nn (St.aX (St.aB ?_));refine St.rU [_] [] Tryz.results64 ?_;exact congrArg fv hf.symm
 ·try simp only[aC]at qt
  have wU:¬40<(fs.map dR).length:=by omega
  refine St.skip (St.aA (St.seq (St.sr ?_)));refine St.ee (Ev.aD (.mk rfl) fm) ?_;refine St.ee (Ev.l0 (.mk rfl) eW) ?_;refine St.ee (Ev.call (Bu tv.1 ts) Ya (.cons (.mk rfl) .nil)) ?_;refine St.alloc dF rfl (fun b3=> ?_);refine St.sA (.mk rfl) (.mk rfl) ay ?_;refine St.nn (St.sr ?_);refine St.ee (Ev.aD (.mk rfl) cX) ?_;refine St.ee (Ev.l0 (.mk rfl) bP) ?_;refine St.ee Ev.k9 ?_;refine St.nn ?_;refine St.cond _ rfl (fun tg=> ?_) (fun tg=> ?_)
  ·skip
   have hb:(qU (ts.map bf)).1≠0:=by simpa using tg
   refine St.sr ?_;refine St.ee (Ev.bF (.mk rfl) fl trivial (by exact ay)) ?_;refine St.sA (.mk rfl) (.mk rfl) ay ?_;refine St.nn (St.aX (St.aB ?_));refine St.rU [_] [] Tryz.results64 ?_;exact congrArg fv (A3 wU hb).symm
  ·skip
   have hb:¬(qU (ts.map bf)).1≠0:=by simpa using tg
   have hT:=(Bt (Decidable.not_not.1 hb)).2.2
   have vT:=hT.len
   refine St.skip (St.aA (St.sr ?_));refine St.ee (Ev.aD (.mk rfl) fm) ?_;refine St.ee (Ev.l0 (.mk rfl) eW) ?_;refine St.aw (rf tv.1 ts hT) SR (.cons (.mk rfl) .nil) rfl ?_;rintro Yk _ ⟨w1,w2,rfl,rfl⟩;refine St.cb ?_;refine St.alloc pg rfl (fun b4=> ?_);refine St.sA (.mk rfl) (.mk rfl) iQ ?_ (h1:=(by simp only[List.all_cons,List.all_nil,Bool.and_true,Bool.and_eq_true];exact⟨w1.2,w2.2⟩));refine St.nn (St.seq (St.sr ?_));refine St.ee (Ev.aD (.mk rfl) fm) ?_;refine St.ee (Ev.l0 (.mk rfl) eW) ?_;refine St.ee (Ev.ao (.mk rfl) eW) ?_;refine St.mv ?_;refine St.nn (St.block ?_);refine St.lS (ι:=Nat) (fun k T=>(45,iv k)::T) (fun k=>k≤ts.length∧∀b,b<k→(List.range b).any (fun a=>gE (ts.map bf) a b)=false) (fun k=>ts.length-k) 0 (aE.cons 1 rfl (aE.cons 2 rfl (aE.cons 4 rfl (aE.cons 44 rfl aE.nil)))) ⟨Nat.zero_le _,fun b hb=>absurd hb (by omega)⟩ ?_;intro k dA;obtain⟨hk,BX⟩:=dA;refine St.sr ?_;refine St.ee Ev.dn ?_;refine St.nn (St.seq ?_);refine St.cond _ rfl (fun pw=> ?_) (fun pw=> ?_)
   ·try simp only[aC]at pw
    refine St.skip (St.aA (St.seq (St.block (St.sr ?_))));refine St.mv ?_;refine St.ak ?_;refine St.nn (St.sr ?_);refine St.mv ?_;refine St.mv ?_;refine St.nn (St.block ?_);refine St.lS (ι:=Nat) (fun q T=>(49,iv q)::T) (fun q=>q≤k∧∀a,a<q→gE (ts.map bf) a k=false) (fun q=>k-q) 0 (aE.cons 1 rfl (aE.cons 2 rfl (aE.cons 4 rfl (aE.cons 5 rfl (aE.cons 44 rfl (aE.cons 45 rfl (aE.cons 48 rfl aE.nil))))))) ⟨Nat.zero_le _,fun a ha=>absurd ha (by omega)⟩ ?_;intro q dA;obtain⟨hq,oC⟩:=dA;refine St.sr ?_;refine St.ee Ev.dn ?_;refine St.nn (St.seq ?_);refine St.cond _ rfl (fun Bm=> ?_) (fun Bm=> ?_)
    ·try simp only[aC]at Bm
     refine St.skip (St.aA (St.seq (St.block (St.sr ?_))));refine St.mv ?_;refine St.ak ?_;refine St.nn (St.sr ?_);refine St.ee (Ev.bF (.mk rfl) og trivial (by exact iQ)) ?_;refine St.mv ?_;refine St.mv ?_;refine St.aw (Er w1 w2 (ts.map bf) hT q k (by omega) (by omega)) Yb (.cons (.mk rfl) (.cons (.mk rfl) (.cons (.mk rfl) .nil))) rfl ?_;rintro v56 _ ⟨mt,ok,rfl,rfl⟩;refine St.aJ ?_;refine St.mv ?_;refine St.ee (Ev.extract (.mk rfl) rfl) ?_;refine St.ee (Ev.extract (.mk rfl) rfl) ?_;refine St.ee (Ev.extract (.mk rfl) rfl) ?_;refine St.ak ?_;refine St.ak ?_;refine St.ak ?_;refine St.nn (St.sr ?_);refine St.mv ?_;refine St.nn ?_;refine St.cond _ rfl (fun PM=> ?_) (fun PM=> ?_)
     ·skip
      have hf:=A4 (Fs:=fs.map dR) wU hb (A0 (by omega) (by omega) PM BX)
      refine St.sr ?_;refine St.mv ?_;refine St.ee (Ev.call (cH 16 k) tc (.cons (.mk rfl) (.cons (.mk rfl) .nil))) ?_;refine St.sA (.mk rfl) (.mk rfl) ay ?_;refine St.nn (St.aX (St.aM (St.aB (St.aB (St.aM (St.aM (St.aB (St.aB (St.aM (St.aB ?_))))))))));refine St.rU [_] [] Tryz.results64 ?_;exact congrArg fv hf.symm
     ·skip
      refine St.skip (St.aN (St.aA (St.rg ?_)));refine St.ee Ev.a0 ?_;refine St.mv ?_;refine St.nn ?_;refine St.aS (q+1) ⟨by omega,fun a ha=>by rcases Nat.lt_or_ge a q with h|h;exact oC a h;rw[show a=q by omega];exact PM⟩
    ·try simp only[aC]at Bm
     rw[show q=k by omega]at oC;refine St.exit (St.aF (St.aF (St.bH (St.aN (St.aA (St.rg ?_))))));refine St.ee Ev.a0 ?_;refine St.mv ?_;refine St.nn ?_;refine St.aS (k+1) ⟨by omega,fun b hb=>by rcases Nat.lt_or_ge b k with h|h;exact BX b h;rw[show b=k by omega];exact pt oC⟩
   ·try simp only[aC]at pw
    have hkt:k=ts.length:=by omega
    have PN:=A5 wU hb (A1 (by rw[sO,←hkt];exact BX))
    rw[sO]at PN;refine St.exit (St.aF (St.aF (St.bH (St.aA (St.sr ?_)))));refine St.makeMap mkStr rfl (fun Wy=> ?_);refine St.ak ?_;refine St.nn (St.seq (St.sr ?_));refine St.ee (Ev.aD (.mk rfl) jQ) ?_;refine St.ee (Ev.l0 (.mk rfl) iz) ?_;refine St.ee (Ev.ao (.mk rfl) iz) ?_;refine St.mv ?_;refine St.nn (St.block ?_);refine St.mf (ι:=Nat) (κ:=List (cQ×Value)) (fun k m T=>(69,iv k)::T) (fun k m=>[ae Wy (jy mkStr m),ae b2 (.cells [iv 0,iv 0].toArray 42 (0,0)),ae b1 (.cells [tv.1,xv.1].toArray 25 (0,0)),aG (sl e6 tv.1 ts),aG (aY ew ts),aG (sl bu xv.1 fs)]) (fun k m=>k≤fs.length∧fZ (ts.map bf) (fs.map dR)=jM ts.length ((fs.take k).map eF.name) k ((fs.map dR).drop k)∧En m ((fs.take k).map eF.name)) (fun k m=>fs.length-k) 0 [] (aE.cons 1 rfl (aE.cons 2 rfl (aE.cons 10 rfl (aE.cons 67 rfl (aE.cons 68 rfl aE.nil))))) ⟨Nat.zero_le _,PN,En.nil⟩ ?_;rintro k m ⟨hk,hv,zy⟩;refine St.sr ?_;refine St.ee Ev.dn ?_;refine St.nn (St.seq ?_);refine St.cond _ rfl (fun sN=> ?_) (fun sN=> ?_)
    ·try simp only[aC]at sN
     obtain⟨t,ht⟩:=aO (show k<fs.length by omega)
     have lU:=List.mem_of_getElem? ht
     have cE:=rh (n:=ts.length) (l:=fs.map dR) (k:=k) (t:=dR t) (by rw[List.getElem?_map,ht];rfl) ((fs.take k).map eF.name)
     rw[←hv]at cE
     have zr:t.name.length≤9223372036854775807:=by have:=(Sp t lU).1;simp only[iL]at this;omega
     refine St.skip (St.aA (St.seq (St.block (St.sr ?_))));refine St.mv ?_;refine St.ee (Ev.aR (k:=k) (.mk rfl) (.mk rfl) iz jH (by omega) (by omega)) ?_;refine St.ee (Ev.fg (.mk rfl) ht zZ trivial jH ei.eq) ?_;refine St.alloc wJ rfl (fun DS=> ?_);refine St.ak ?_;refine St.sA (.mk rfl) (.mk rfl) jH ?_ (h1:=(by simp only[List.all_cons,List.all_nil,Bool.and_true,Bool.and_eq_true];exact⟨rfl,rfl,rfl⟩));refine St.nn (St.seq (St.sr ?_));refine St.ee (Ev.aD (.mk rfl) o4) ?_;refine St.ee (Ev.l0 (.mk rfl) df) ?_;refine St.ee (Ev.call (jt t.name zr) Ea (.cons (.mk rfl) .nil)) ?_;refine St.ee (Ev.not (.mk rfl)) ?_;refine St.nn ?_;refine St.cond _ rfl (fun yK=> ?_) (fun yK=> ?_)
     ·try simp only[aC]at yK
      rw[if_pos (show isName (dR t).1=false from(by simpa using yK:isName t.name=false))]at cE;refine St.sr ?_;refine St.mv ?_;refine St.ee (Ev.call (cH 10 k) tc (.cons (.mk rfl) (.cons (.mk rfl) .nil))) ?_;refine St.sA (.mk rfl) (.mk rfl) ay ?_;refine St.nn (St.aX (St.aB (St.aM (St.aB (St.aB (St.aM (St.aB ?_)))))));refine St.rU [_] [] Tryz.results64 ?_;exact congrArg fv cE.symm
     ·try simp only[aC]at yK
      rw[if_neg (show ¬isName (dR t).1=false from(by simpa using yK:¬isName t.name=false))]at cE;refine St.skip (St.aA (St.seq (St.sr ?_)));refine St.mv ?_;refine St.ee (Ev.aD (.mk rfl) o4) ?_;refine St.ee (Ev.l0 (.mk rfl) df) ?_;refine St.ee (Ev.sZ mkStr (k:=t.name) (.mk rfl) (.mk rfl) zY (by exact df) eJ) ?_;refine St.mv ?_;refine St.ee (Ev.extract (.mk rfl) rfl) ?_;refine St.ee (Ev.extract (.mk rfl) rfl) ?_;refine St.slot 86 (.bool (decide (t.name∈(fs.take k).map eF.name))) rfl (congrArg Value.bool (zy t.name)) ?_;refine St.ak ?_;refine St.ak ?_;refine St.nn (St.sr ?_);refine St.mv ?_;refine St.nn ?_;refine St.cond _ rfl (fun vU=> ?_) (fun vU=> ?_)
      ·try simp only[aC]at vU
       rw[if_pos (show(dR t).1∈(fs.take k).map eF.name from vU)]at cE;refine St.sr ?_;refine St.mv ?_;refine St.ee (Ev.call (cH 7 k) tc (.cons (.mk rfl) (.cons (.mk rfl) .nil))) ?_;refine St.sA (.mk rfl) (.mk rfl) ay ?_;refine St.nn (St.aX (St.aB (St.aM (St.aB (St.aB (St.aM (St.aB ?_)))))));refine St.rU [_] [] Tryz.results64 ?_;exact congrArg fv cE.symm
      ·try simp only[aC]at vU
       rw[if_neg (show ¬(dR t).1∈(fs.take k).map eF.name from vU)]at cE;refine St.skip (St.aA (St.sr ?_));refine St.mv ?_;refine St.ee (Ev.aD (.mk rfl) o4) ?_;refine St.ee (Ev.l0 (.mk rfl) df) ?_;refine St.mv ?_;refine St.mapUpdate mkStr (k:=t.name) (.mk rfl) (.mk rfl) (.mk rfl) zY (by exact df) ?_;refine St.nn (St.sr ?_);refine St.ee (Ev.aD (.mk rfl) o5) ?_;refine St.ee (Ev.l0 (.mk rfl) bP) ?_;refine St.ee Ev.dn ?_;refine St.mv ?_;refine St.gf _ rfl rfl (fun hg=>Ev.aD (.mk rfl) o5) rfl ?_;refine St.gf _ rfl rfl (fun hg=>Ev.cN (aL.gv rfl hg) bP trivial (by rfl)) rfl ?_;refine St.gf _ rfl rfl (fun hg=>Ev.aD (.mk rfl) fm) rfl ?_;refine St.gf _ rfl rfl (fun hg=>Ev.cN (aL.gv rfl hg) eW trivial (by rfl)) rfl ?_;refine St.gf _ rfl rfl (fun hg=>Ev.ao (aL.gv rfl hg) eW) rfl ?_;refine St.gf _ rfl rfl (fun hg=>Ev.geq (aL.gv rfl hg) (aL.gv rfl hg)) rfl ?_;refine St.ee Ev.o0 ?_;refine St.mv ?_;refine St.gf _ rfl rfl (fun hg=>Ev.aD (.mk rfl) o6) rfl ?_;refine St.gf _ rfl rfl (fun hg=>Ev.cN (aL.gv rfl hg) bP trivial (by rfl)) rfl ?_;refine St.gf _ rfl rfl (fun hg=>Ev.lss (aL.gv rfl hg) (.mk rfl)) rfl ?_;refine St.ee Ev.o0 ?_;refine St.mv ?_;refine St.gf _ rfl rfl (fun hg=>Ev.aD (.mk rfl) o6) rfl ?_;refine St.gf _ rfl rfl (fun hg=>Ev.cN (aL.gv rfl hg) bP trivial (by rfl)) rfl ?_;refine St.gf _ rfl rfl (fun hg=>Ev.aD (.mk rfl) fm) rfl ?_;refine St.gf _ rfl rfl (fun hg=>Ev.cN (aL.gv rfl hg) eW trivial (by rfl)) rfl ?_;refine St.gf _ rfl rfl (fun hg=>Ev.ao (aL.gv rfl hg) eW) rfl ?_;refine St.gf _ rfl rfl (fun hg=>Ev.geq (aL.gv rfl hg) (aL.gv rfl hg)) rfl ?_;refine St.ee Ev.o0 ?_;refine St.nn ?_;refine St.cond _ rfl (fun Bz=> ?_) (fun Bz=> ?_)
       ·try simp only[aC]at Bz
        rw[if_pos (show(dR t).2.1<0∨(ts.length:Int)≤(dR t).2.1∨(dR t).2.2<0∨(ts.length:Int)≤(dR t).2.2 from(by omega:t.nC<0∨(ts.length:Int)≤t.nC∨t.value<0∨(ts.length:Int)≤t.value))]at cE;refine St.sr ?_;refine St.mv ?_;refine St.ee (Ev.call (cH 3 k) tc (.cons (.mk rfl) (.cons (.mk rfl) .nil))) ?_;refine St.sA (.mk rfl) (.mk rfl) ay ?_;refine St.nn (St.aX (St.aM (St.aB (St.aB (St.aM (St.aB ?_))))));refine St.rU [_] [] Tryz.results64 ?_;exact congrArg fv cE.symm
       ·try simp only[aC]at Bz
        rw[if_neg (show ¬((dR t).2.1<0∨(ts.length:Int)≤(dR t).2.1∨(dR t).2.2<0∨(ts.length:Int)≤(dR t).2.2)from(by omega:¬(t.nC<0∨(ts.length:Int)≤t.nC∨t.value<0∨(ts.length:Int)≤t.value)))]at cE;refine St.skip (St.aN (St.aA (St.rg ?_)));refine St.ee Ev.a0 ?_;refine St.mv ?_;refine St.nn ?_;refine St.jb (k+1) (ji m t.name (iv k)) ⟨by omega,by rw[cE,bx eF.name ht];rfl,by rw[bx eF.name ht];exact zy.snoc _ _⟩
    ·try simp only[aC]at sN
     rw[u6 (by rw[List.length_map];omega)]at hv;refine St.exit (St.aF (St.aF (St.bH (St.aA (St.sr ?_)))));refine St.ee (Ev.build (ps:=[]) (aU.nil) (fun w=>fA w)) ?_;refine St.sA (.mk rfl) (.mk rfl) ay ?_;refine St.nn (St.aX ?_);refine St.rU [_] [] Tryz.results64 ?_;exact congrArg fv hv.symm
inductive Reach (g:iE):Nat→Prop where
 |root:Reach g 0
 |step {i:Nat} {x:Int×Int}:Reach g i→x∈(g.getD i tS).2→Reach g x.2.toNat
def kq (M N:List Bool):Prop:=M.length=N.length∧∀x:Nat,M[x]?=some true→N[x]?=some true
theorem kq.refl (M:List Bool):kq M M:=⟨rfl,fun _ h=>h⟩
theorem kq.trans {A B C:List Bool}(h:kq A B)(k:kq B C):kq A C:=⟨h.1.trans k.1,fun x hx=>k.2 x (h.2 x hx)⟩
theorem kq.Sr {A B:List Bool}(h:kq A B)(k:kq B A):A=B:=by
 refine List.ext_getElem? fun i=> ?_
 rcases Nat.lt_or_ge i A.length with hi|hi
 ·have RU:i<B.length:=by rw[←h.1];exact hi
  rw[List.getElem?_eq_getElem hi,List.getElem?_eq_getElem RU]
  have h1:=h.2 i
  have h2:=k.2 i
  rw[List.getElem?_eq_getElem hi,List.getElem?_eq_getElem RU]at h1 h2
  cases e1:A[i]<;>cases e2:B[i]<;>simp_all
 ·rw[List.getElem?_eq_none hi,List.getElem?_eq_none (by rw[←h.1];exact hi)]
theorem kq.set (M:List Bool)(i:Nat):kq M (M.set i true):=⟨by rw[List.length_set],fun x hx=>by
 by_cases e:i=x
 ·subst e;rw[List.getElem?_set_self (cL hx)]
 ·rw[List.getElem?_set_ne e];exact hx⟩
theorem kq.mark (i:Nat)(M:List Bool)(x:Int×Int):kq M (ij i M x):=by
 unfold ij;split
 ·exact kq.set _ _
 ·exact kq.refl _
theorem kq.fold {γ:Type}{f:List Bool→γ→List Bool}(h:∀M c,kq M (f M c)):∀(l:List γ) (M:List Bool),kq M (l.foldl f M)
 | [],M=>kq.refl M
 |c::l,M=>(h M c).trans (kq.fold h l (f M c))
theorem u7 {γ:Type}{f:List Bool→γ→List Bool}(h:∀M c,kq M (f M c)):∀(l:List γ) (M:List Bool),l.foldl f M=M→∀c∈l,f M c=M
 | [],_,_,c,hc=>by cases hc
 |c::l,M,he,d,hd=>by
  rw[List.foldl_cons]at he
  have h1:f M c=M:=kq.Sr (by have:=kq.fold h l (f M c);rw[he]at this;exact this) (h M c)
  rcases List.mem_cons.1 hd with rfl|hd
  ·exact h1
  ·rw[h1]at he;exact u7 h l M he d hd
theorem kq.node (g:iE)(M:List Bool)(i:Nat):kq M (jD g M i):=kq.fold (fun M x=>kq.mark i M x) _ M
theorem kq.pass (g:iE)(M:List Bool):kq M (pass g M):=kq.fold (fun M i=>kq.node g M i) _ M
def mo (M:List Bool):Nat:=M.countP fun b=>b
theorem HO:∀{A B:List Bool},kq A B→mo A≤mo B∧(mo B≤mo A→A=B)
 | [],[],_=>⟨Nat.le_refl _,fun _=>rfl⟩
 | [],_::_,h=>absurd h.1 (by simp)
 |_::_,[],h=>absurd h.1 (by simp)
 |a::A,b::B,h=>by
  have ht:kq A B:=⟨by simpa using h.1,fun x hx=>by have:=h.2 (x+1) (by simpa using hx);simpa using this⟩
  have h0:=h.2 0
  obtain⟨i1,i2⟩:=HO ht;unfold mo at*
  cases a<;>cases b<;>simp_all<;>omega
theorem yL (M:List Bool):mo M≤M.length:=List.countP_le_length
theorem j4 (g:iE):∀k,(cM g k).length=g.length
 |0=>by simp[cM]
 |k+1=>by rw[cM,←(kq.pass g _).1,j4 g k]
theorem u9 {g:iE}(hg:0<g.length):∀k,pass g (cM g k)=cM g k∨k+1≤mo (cM g k)
 |0=>by
  refine .inr ?_
  obtain⟨n,hn⟩:∃n,g.length=n+1:=⟨g.length-1,by omega⟩
  simp[cM,mo,hn,List.replicate_succ]
 |k+1=>by
  rcases u9 hg k with h|h
  ·left;rw[cM,h,h]
  ·by_cases e:pass g (cM g (k+1))=cM g (k+1)
   ·exact .inl e
   ·right
    have h1:=HO (kq.pass g (cM g k))
    rw[cM]
    rcases Nat.lt_or_ge (mo (cM g k)) (mo (pass g (cM g k)))with h2|h2
    ·omega
    ·have:=h1.2 h2
     exact absurd (by rw[cM,←this,←this]) e
theorem C0 {g:iE}(hg:0<g.length):pass g (cM g g.length)=cM g g.length:=by
 rcases u9 hg g.length with h|h
 ·exact h
 ·have:=yL (cM g g.length)
  rw[j4]at this;omega
theorem C1 {g:iE}{M:List Bool}(hM:M.length=g.length)(h:pass g M=M){i:Nat}(hi:M[i]?=some true){x:Int×Int}(hx:x∈(g.getD i tS).2)(iW:x.2.toNat<g.length):M[x.2.toNat]?=some true:=by
 have h1:=u7 (fun M i=>kq.node g M i) _ M h i (List.mem_range.2 (by rw[←hM];exact cL hi))
 have h2:=u7 (fun M x=>kq.mark i M x) _ M h1 x hx
 unfold ij at h2;rw[if_pos (by rw[List.getD_eq_getElem?_getD,hi];rfl)]at h2;rw[←h2,List.getElem?_set_self (by rw[hM];exact iW)]
def vV (g:iE)(M:List Bool):Prop:=∀x:Nat,M[x]?=some true→Reach g x
theorem vV.set {g:iE}{M:List Bool}(h:vV g M){i:Nat}(hi:Reach g i):vV g (M.set i true):=fun x hx=>by
 by_cases e:i=x
 ·subst e;exact hi
 ·rw[List.getElem?_set_ne e]at hx;exact h x hx
theorem vV.fold {γ:Type}{g:iE}{f:List Bool→γ→List Bool}:∀(l:List γ) (M:List Bool),(∀M,∀c∈l,vV g M→vV g (f M c))→vV g M→vV g (l.foldl f M)
 | [],_,_,h=>h
 |c::l,M,hf,h=>vV.fold l _ (fun M d hd=>hf M d (List.mem_cons_of_mem _ hd)) (hf M c (List.mem_cons_self ..) h)
theorem vV.pass {g:iE}{M:List Bool}(h:vV g M):vV g (pass g M):=
 vV.fold _ _ (fun M i _ hM=>vV.fold _ _ (fun M x hx hM=>by
  unfold ij
  split
  ·rename_i hi
   refine hM.set (Reach.step (hM i ?_) hx);rw[List.getD_eq_getElem?_getD]at hi
   cases e:M[i]? with
   |none=>rw[e]at hi;cases hi
   |some b=>rw[e]at hi;simp at hi;rw[hi]
  ·exact hM) hM) h
theorem vV.cM (g:iE):∀k,vV g (cM g k)
 |0=>fun x hx=>by
  by_cases e:0=x
  ·subst e;exact Reach.root
  ·rw[Proofs.YtolmidffiegkaaaGreatDoor.cM,List.getElem?_set_ne e,List.getElem?_replicate]at hx
   split at hx<;>simp at hx
 |k+1=>(vV.cM g k).pass
def A6 (g:iE):Prop:=0<g.length∧∀n∈g,∀x∈n.2,0≤x.1∧0≤x.2∧x.2.toNat<g.length
theorem A6.at_ {g:iE}(h:A6 g){i:Nat}{x:Int×Int}(hx:x∈(g.getD i tS).2):0≤x.1∧0≤x.2∧x.2.toNat<g.length:=by
 rcases Nat.lt_or_ge i g.length with hi|hi
 ·refine h.2 _ (List.getElem_mem hi) x ?_
  rw[List.getD_eq_getElem?_getD,List.getElem?_eq_getElem hi]at hx;exact hx
 ·rw[List.getD_eq_getElem?_getD,List.getElem?_eq_none hi]at hx;cases hx
theorem kr {g:iE}(h:0<g.length):∀k,(cM g k)[0]?=some true
 |0=>by rw[cM,List.getElem?_set_self (by simp;exact h)]
 |k+1=>(kq.pass g _).2 0 (kr h k)
theorem px {g:iE}(h:A6 g){x:Nat}:Reach g x↔(cM g g.length)[x]?=some true:=by
 refine⟨fun hr=> ?_,vV.cM g _ x⟩
 induction hr with
 |root=>exact kr h.1 _
 |step _ hx ih=>exact C1 (j4 g _) (C0 h.1) ih hx (h.at_ hx).2.2
structure L5 (g:iE)(M:List Bool)(st:List Nat):Prop where
 len:M.length=g.length
 snd:vV g M
 root:M[0]?=some true
 PO:∀i∈st,M[i]?=some true
 cls:∀i,M[i]?=some true→i∉st→∀x∈(g.getD i tS).2,M[x.2.toNat]?=some true
theorem L5.start {g:iE}(h:0<g.length):L5 g ((List.replicate g.length false).set 0 true) [0]:=by
 refine⟨by simp,vV.cM g 0,kr h 0,fun i hi=>by rw[List.mem_singleton.1 hi];exact kr h 0,fun i hm hi=> ?_⟩;rw[List.getElem?_set_ne (fun e=>hi (List.mem_singleton.2 e.symm)),List.getElem?_replicate]at hm
 split at hm<;>simp at hm
theorem L5.fin {g:iE}(hg:A6 g){M:List Bool}(h:L5 g M []):M=cM g g.length:=by
 refine kq.Sr ⟨by rw[h.len,j4],fun x hx=>(px hg).1 (h.snd x hx)⟩ ⟨by rw[h.len,j4],fun x hx=> ?_⟩
 have:=(px hg).2 hx
 clear hx
 induction this with
 |root=>exact h.root
 |step _ hx ih=>exact h.cls _ ih (by simp) _ hx
structure ou (g:iE)(i k:Nat)(M:List Bool)(st:List Nat):Prop where
 len:M.length=g.length
 snd:vV g M
 root:M[0]?=some true
 me:M[i]?=some true
 PO:∀j∈st,M[j]?=some true
 cls:∀j,M[j]?=some true→j≠i→j∉st→∀x∈(g.getD j tS).2,M[x.2.toNat]?=some true
 upto:∀x∈(g.getD i tS).2.take k,M[x.2.toNat]?=some true
theorem L5.pop {g:iE}{M:List Bool}{st:List Nat}{i:Nat}(h:L5 g M (st++ [i])):ou g i 0 M st:=
 ⟨h.len,h.snd,h.root,h.PO i (by simp),fun j hj=>h.PO j (by simp[hj]),fun j hm fz hj=>h.cls j hm (by simp[hj,fz]),fun x hx=>by simp at hx⟩
theorem ou.done {g:iE}{M:List Bool}{st:List Nat}{i:Nat}(h:ou g i (g.getD i tS).2.length M st):L5 g M st:=
 ⟨h.len,h.snd,h.root,h.PO,fun j hm hj=>by
  by_cases e:j=i
  ·subst e;intro x hx;exact h.upto x (by rw[List.take_length];exact hx)
  ·exact h.cls j hm e hj⟩
theorem ou.BL {g:iE}{M:List Bool}{st:List Nat}{i k:Nat}{x:Int×Int}(h:ou g i k M st)(hx:(g.getD i tS).2[k]?=some x)(hm:M[x.2.toNat]?=some true):ou g i (k+1) M st:=
 ⟨h.len,h.snd,h.root,h.me,h.PO,h.cls,fun y hy=>by
  rw[bI hx]at hy
  rcases List.mem_append.1 hy with hy|hy
  ·exact h.upto y hy
  ·rw[List.mem_singleton.1 hy];exact hm⟩
theorem ou.new {g:iE}(hg:A6 g){M:List Bool}{st:List Nat}{i k:Nat}{x:Int×Int}(h:ou g i k M st)(hx:(g.getD i tS).2[k]?=some x):ou g i (k+1) (M.set x.2.toNat true) (st++ [x.2.toNat]):=by
 have Eu:=List.mem_of_getElem? hx
 have iW:=(hg.at_ Eu).2.2
 have mono:=(kq.set M x.2.toNat).2
 have new:(M.set x.2.toNat true)[x.2.toNat]?=some true:=List.getElem?_set_self (by rw[h.len];exact iW)
 refine⟨by rw[List.length_set];exact h.len,h.snd.set (Reach.step (h.snd i h.me) Eu),mono _ h.root,mono _ h.me,fun j hj=> ?_,fun j hm fz hj y hy=> ?_,fun y hy=> ?_⟩
 ·rcases List.mem_append.1 hj with hj|hj
  ·exact mono _ (h.PO j hj)
  ·rw[List.mem_singleton.1 hj];exact new
 ·have hj2:j∉st∧j≠x.2.toNat:=by simpa using hj
  rw[List.getElem?_set_ne (fun e=>hj2.2 e.symm)]at hm;exact mono _ (h.cls j hm fz hj2.1 y hy)
 ·rw[bI hx]at hy
  rcases List.mem_append.1 hy with hy|hy
  ·exact mono _ (h.upto y hy)
  ·rw[List.mem_singleton.1 hy];exact new
theorem L6 {M:List Bool}{i:Nat}(h:M[i]?=some false):mo (M.set i true)=mo M+1:=by
 induction M generalizing i with
 |nil=>cases h
 |cons b M ih=>
  cases i with
  |zero=>simp at h;subst h;simp[mo]
  |succ i=>
   have:=ih (i:=i) (by simpa using h)
   unfold mo at*
   cases b<;>simp_all<;>omega
theorem uA {nt nf nn:Int}{l:iE}{k:Nat}{t:Ri}(ht:l[k]?=some t):dx nt nf nn k (l.drop k)=if t.1<0∨nt≤t.1 then(3,(k:Int))else if(wC nf nn k (-1) t.2).1≠0 then wC nf nn k (-1) t.2 else dx nt nf nn (k+1) (l.drop (k+1)):=by rw[bz ht,dx]
theorem wV {nt nf nn:Int}{l:iE}{k:Nat}(h:l.length≤k):dx nt nf nn k (l.drop k)=(0,0):=by rw[List.drop_of_length_le h,dx]
theorem A7 {nf nn i z:Int}{l:List (Int×Int)}{q:Nat}{x:Int×Int}(hx:l[q]?=some x):wC nf nn i z (l.drop q)=if x.1<0∨nf≤x.1∨x.2<0∨nn≤x.2 then(3,i)else if x.1≤z then(13,i)else wC nf nn i x.1 (l.drop (q+1)):=by rw[bz hx,wC]
theorem DT {nf nn i z:Int}{l:List (Int×Int)}{q:Nat}(h:l.length≤q):wC nf nn i z (l.drop q)=(0,0):=by rw[List.drop_of_length_le h,wC]
theorem ku (g:eM):(dN g).length=g.nodes.length:=List.length_map ..
theorem iT {g:eM}{k:Nat}{t:k5}(h:g.nodes[k]?=some t):(dN g)[k]?=some (kX t):=by unfold dN;rw[List.getElem?_map,h];rfl
set_option maxHeartbeats 2000000 in
theorem C5 (tv xv:ck)(ts:List jj)(fs:List eF)(g:eM):ct Tryz.prog 97 #[.agg #[tv.1,xv.1],dQ g] [sl e6 tv.1 ts,sl bu xv.1 fs,bU g] (fv (de ts.length fs.length (dN g))):=by
 refine ct.G1 (args:=[.agg #[tv.1,xv.1],dQ g]) 86 Tryz.func97 rfl Tryz.ntmps97 rfl (fun c=> ?_);refine St.seq ?_
 refine St.fI (bU g) (fun _:Unit=>lE g) (fun ρ h=>⟨(),h⟩) fun _=> ?_
 refine St.cast (H':=[aG (sl ep g.nv.1 g.nodes),aG (aY dW g.nodes),aG (sl e6 tv.1 ts),aG (sl bu xv.1 fs),aG (bU g)]) rfl ?_;refine St.wf tv.1 (fun qY ER=> ?_);refine St.wf xv.1 (fun Sp Yq=> ?_);refine St.wf g.nv.1 (fun Ss zr=> ?_)
 have D0:=ku g
 refine St.rg ?_;refine St.cV (.mk rfl) rfl (fun b2=> ?_);refine St.cV (.mk rfl) rfl (fun b3=> ?_);refine St.alloc dF rfl (fun b4=> ?_);refine St.nn (St.seq (St.sr ?_));refine St.ee (Ev.aD (.mk rfl) eb) ?_;refine St.ee (Ev.l0 (.mk rfl) eQ) ?_;refine St.ee (Ev.ao (.mk rfl) eQ) ?_;refine St.ee Ev.ey ?_;refine St.mv ?_;refine St.gf _ rfl rfl (fun hg=>Ev.aD (.mk rfl) eb) rfl ?_;refine St.gf _ rfl rfl (fun hg=>Ev.cN (aL.gv rfl hg) eQ trivial (by rfl)) rfl ?_;refine St.gf _ rfl rfl (fun hg=>Ev.ao (aL.gv rfl hg) eQ) rfl ?_;refine St.gf _ rfl rfl (fun hg=>Ev.gtr (aL.gv rfl hg) (.mk rfl)) rfl ?_;refine St.ee Ev.o0 ?_;refine St.nn ?_;refine St.cond _ rfl (fun gY=> ?_) (fun gY=> ?_)
 ·try simp only[aC]at gY
  have hf:de ts.length fs.length (dN g)=(2,-2):=by unfold de;rw[if_pos (by omega)]
  refine St.sr ?_;refine St.ee (Ev.call (ej 2 (-2)) Eb (.cons (.mk rfl) (.cons (.mk rfl) .nil))) ?_;refine St.sA (.mk rfl) (.mk rfl) ay ?_;refine St.nn (St.aX (St.aB ?_));refine St.rU [_] [] Tryz.results97 ?_;exact congrArg fv hf.symm
 ·try simp only[aC]at gY
  have hf:de ts.length fs.length (dN g)=dx ts.length fs.length g.nodes.length 0 (dN g):=by unfold de;rw[if_neg (by omega),D0]
  refine St.skip (St.aA (St.seq (St.sr ?_)));refine St.ee (Ev.aD (.mk rfl) eb) ?_;refine St.ee (Ev.l0 (.mk rfl) eQ) ?_;refine St.ee (Ev.ao (.mk rfl) eQ) ?_;refine St.mv ?_;refine St.nn (St.block ?_);refine St.lS (ι:=Nat) (fun k T=>(24,iv k)::T) (fun k=>k≤g.nodes.length∧de ts.length fs.length (dN g)=dx ts.length fs.length g.nodes.length k ((dN g).drop k)) (fun k=>g.nodes.length-k) 0 (aE.cons 2 rfl (aE.cons 3 rfl (aE.cons 4 rfl (aE.cons 22 rfl (aE.cons 23 rfl aE.nil))))) ⟨Nat.zero_le _,hf⟩ ?_;intro k dA;obtain⟨hk,hv⟩:=dA;refine St.sr ?_;refine St.ee Ev.dn ?_;refine St.nn (St.seq ?_);refine St.cond _ rfl (fun ov=> ?_) (fun ov=> ?_)
  ·try simp only[aC]at ov
   obtain⟨t,ht⟩:=aO (show k<g.nodes.length by omega)
   have lU:=List.mem_of_getElem? ht
   refine St.cD dW g.nodes (x:=t) lU ?_;refine St.gQ (sl fC t.lv.1 t.aZ) [dW t] (fun ρ h=>h _ (List.mem_cons_self ..)) ?_;refine St.wf t.lv.1 (fun NN qa=> ?_)
   have cE:=uA (nt:=ts.length) (nf:=fs.length) (nn:=g.nodes.length) (iT ht)
   rw[←hv]at cE;refine St.skip (St.aA (St.seq (St.block (St.sr ?_))));refine St.mv ?_;refine St.ee (Ev.aR (k:=k) (.mk rfl) (.mk rfl) eQ fc (by omega) (by omega)) ?_;refine St.ee (Ev.fg (.mk rfl) ht wG trivial fc ei.eq) ?_;refine St.alloc tb rfl (fun b6=> ?_);refine St.ak ?_;refine St.sA (.mk rfl) (.mk rfl) fc ?_ (h1:=(by simp only[List.all_cons,List.all_nil,Bool.and_true,Bool.and_eq_true];exact⟨rfl,t.lv.2⟩));refine St.nn (St.seq (St.sr ?_));refine St.ee (Ev.aD (.mk rfl) km) ?_;refine St.ee (Ev.l0 (.mk rfl) bP) ?_;refine St.ee Ev.dn ?_;refine St.mv ?_;refine St.gf _ rfl rfl (fun hg=>Ev.aD (.mk rfl) km) rfl ?_;refine St.gf _ rfl rfl (fun hg=>Ev.cN (aL.gv rfl hg) bP trivial (by rfl)) rfl ?_;refine St.gf _ rfl rfl (fun hg=>Ev.aD (.mk rfl) fm) rfl ?_;refine St.gf _ rfl rfl (fun hg=>Ev.cN (aL.gv rfl hg) eW trivial (by rfl)) rfl ?_;refine St.gf _ rfl rfl (fun hg=>Ev.ao (aL.gv rfl hg) eW) rfl ?_;refine St.gf _ rfl rfl (fun hg=>Ev.geq (aL.gv rfl hg) (aL.gv rfl hg)) rfl ?_;refine St.ee Ev.o0 ?_;refine St.nn ?_;refine St.cond _ rfl (fun A8=> ?_) (fun A8=> ?_)
   ·try simp only[aC]at A8
    rw[if_pos (show(kX t).1<0∨(ts.length:Int)≤(kX t).1 from(by omega:t.type<0∨(ts.length:Int)≤t.type))]at cE;refine St.sr ?_;refine St.mv ?_;refine St.ee (Ev.call (ej 3 k) Eb (.cons (.mk rfl) (.cons (.mk rfl) .nil))) ?_;refine St.sA (.mk rfl) (.mk rfl) ay ?_;refine St.nn (St.aX (St.aB (St.aM (St.aB (St.aB (St.aM (St.aB ?_)))))));refine St.rU [_] [] Tryz.results97 ?_;exact congrArg fv cE.symm
   ·try simp only[aC]at A8
    rw[if_neg (show ¬((kX t).1<0∨(ts.length:Int)≤(kX t).1)from(by omega:¬(t.type<0∨(ts.length:Int)≤t.type)))]at cE;refine St.skip (St.aA (St.sr ?_));refine St.ak ?_;refine St.nn (St.sr ?_);refine St.ee (Ev.aD (.mk rfl) gR) ?_;refine St.ee (Ev.l0 (.mk rfl) eA) ?_;refine St.ee (Ev.ao (.mk rfl) eA) ?_;refine St.mv ?_;refine St.nn (St.block ?_);refine St.mf (ι:=Nat) (κ:=Int) (fun q z T=>(45,iv q)::(7,iv z)::T) (fun q z=>[aG (sl fC t.lv.1 t.aZ),ae b4 (.cells [iv 0,iv 0].toArray 42 (0,0)),ae b2 (.cells [tv.1,xv.1].toArray 25 (0,0)),ae b3 (.cells [g.nv.1].toArray 30 (0,0)),aG (sl ep g.nv.1 g.nodes),aG (aY dW g.nodes),aG (sl e6 tv.1 ts),aG (sl bu xv.1 fs),aG (bU g)]) (fun q z=>q≤t.aZ.length∧wC fs.length g.nodes.length k (-1) (kX t).2=wC fs.length g.nodes.length k z ((t.aZ.map gS).drop q)) (fun q z=>t.aZ.length-q) 0 (-1) (aE.cons 2 rfl (aE.cons 3 rfl (aE.cons 4 rfl (aE.cons 5 rfl (aE.cons 22 rfl (aE.cons 23 rfl (aE.cons 24 rfl (aE.cons 43 rfl (aE.cons 44 rfl aE.nil))))))))) ⟨Nat.zero_le _,rfl⟩ ?_;rintro q z ⟨hq,tr⟩;refine St.sr ?_;refine St.ee Ev.dn ?_;refine St.nn (St.seq ?_);refine St.cond _ rfl (fun pw=> ?_) (fun pw=> ?_)
    ·try simp only[aC]at pw
     obtain⟨p,hp⟩:=aO (show q<t.aZ.length by omega)
     have pG:=A7 (nf:=fs.length) (nn:=g.nodes.length) (i:=k) (z:=z) (l:=t.aZ.map gS) (q:=q) (x:=gS p) (by rw[List.getElem?_map,hp];rfl)
     refine St.skip (St.aA (St.seq (St.block (St.sr ?_))));refine St.ee (Ev.aR (k:=q) (.mk rfl) (.mk rfl) eA eZ (by omega) (by omega)) ?_;refine St.ee (Ev.fg (.mk rfl) hp pf trivial eZ ei.eq) ?_;refine St.alloc rV rfl (fun b9=> ?_);refine St.sA (.mk rfl) (.mk rfl) eZ ?_ (h1:=(by simp only[List.all_cons,List.all_nil,Bool.and_true,Bool.and_eq_true];exact⟨rfl,rfl⟩));refine St.nn (St.seq (St.sr ?_));refine St.ee (Ev.aD (.mk rfl) gn) ?_;refine St.ee (Ev.l0 (.mk rfl) bP) ?_;refine St.ee Ev.dn ?_;refine St.mv ?_;refine St.gf _ rfl rfl (fun hg=>Ev.aD (.mk rfl) gn) rfl ?_;refine St.gf _ rfl rfl (fun hg=>Ev.cN (aL.gv rfl hg) bP trivial (by rfl)) rfl ?_;refine St.gf _ rfl rfl (fun hg=>Ev.aD (.mk rfl) jQ) rfl ?_;refine St.gf _ rfl rfl (fun hg=>Ev.cN (aL.gv rfl hg) iz trivial (by rfl)) rfl ?_;refine St.gf _ rfl rfl (fun hg=>Ev.ao (aL.gv rfl hg) iz) rfl ?_;refine St.gf _ rfl rfl (fun hg=>Ev.geq (aL.gv rfl hg) (aL.gv rfl hg)) rfl ?_;refine St.ee Ev.o0 ?_;refine St.mv ?_;refine St.gf _ rfl rfl (fun hg=>Ev.aD (.mk rfl) gp) rfl ?_;refine St.gf _ rfl rfl (fun hg=>Ev.cN (aL.gv rfl hg) bP trivial (by rfl)) rfl ?_;refine St.gf _ rfl rfl (fun hg=>Ev.lss (aL.gv rfl hg) (.mk rfl)) rfl ?_;refine St.ee Ev.o0 ?_;refine St.mv ?_;refine St.gf _ rfl rfl (fun hg=>Ev.aD (.mk rfl) gp) rfl ?_;refine St.gf _ rfl rfl (fun hg=>Ev.cN (aL.gv rfl hg) bP trivial (by rfl)) rfl ?_;refine St.gf _ rfl rfl (fun hg=>Ev.aD (.mk rfl) eb) rfl ?_;refine St.gf _ rfl rfl (fun hg=>Ev.cN (aL.gv rfl hg) eQ trivial (by rfl)) rfl ?_;refine St.gf _ rfl rfl (fun hg=>Ev.ao (aL.gv rfl hg) eQ) rfl ?_;refine St.gf _ rfl rfl (fun hg=>Ev.geq (aL.gv rfl hg) (aL.gv rfl hg)) rfl ?_;refine St.ee Ev.o0 ?_;refine St.nn ?_;refine St.cond _ rfl (fun BD=> ?_) (fun BD=> ?_)
     ·try simp only[aC]at BD
      rw[if_pos (show(gS p).1<0∨(fs.length:Int)≤(gS p).1∨(gS p).2<0∨(g.nodes.length:Int)≤(gS p).2 from(by omega:p.dq<0∨(fs.length:Int)≤p.dq∨p.to<0∨(g.nodes.length:Int)≤p.to))]at pG;rw[tr,pG,if_pos (by show(3:Int)≠0;decide)]at cE;refine St.sr ?_;refine St.mv ?_;refine St.ee (Ev.call (ej 3 k) Eb (.cons (.mk rfl) (.cons (.mk rfl) .nil))) ?_;refine St.sA (.mk rfl) (.mk rfl) ay ?_;refine St.nn (St.aX (St.aB (St.aM (St.aB (St.aB (St.aM (St.aM (St.aB (St.aB (St.aM (St.aB ?_)))))))))));refine St.rU [_] [] Tryz.results97 ?_;exact congrArg fv cE.symm
     ·try simp only[aC]at BD
      rw[if_neg (show ¬((gS p).1<0∨(fs.length:Int)≤(gS p).1∨(gS p).2<0∨(g.nodes.length:Int)≤(gS p).2)from(by omega:¬(p.dq<0∨(fs.length:Int)≤p.dq∨p.to<0∨(g.nodes.length:Int)≤p.to)))]at pG;refine St.skip (St.aA (St.seq (St.sr ?_)));refine St.ee (Ev.aD (.mk rfl) gn) ?_;refine St.ee (Ev.l0 (.mk rfl) bP) ?_;refine St.mv ?_;refine St.ee Ev.Jm ?_;refine St.nn ?_;refine St.cond _ rfl (fun vW=> ?_) (fun vW=> ?_)
      ·try simp only[aC]at vW
       rw[if_pos (show(gS p).1≤z from(by omega:p.dq≤z))]at pG;rw[tr,pG,if_pos (by show(13:Int)≠0;decide)]at cE;refine St.sr ?_;refine St.mv ?_;refine St.ee (Ev.call (ej 13 k) Eb (.cons (.mk rfl) (.cons (.mk rfl) .nil))) ?_;refine St.sA (.mk rfl) (.mk rfl) ay ?_;refine St.nn (St.aX (St.aB (St.aM (St.aB (St.aB (St.aM (St.aM (St.aB (St.aB (St.aM (St.aB ?_)))))))))));refine St.rU [_] [] Tryz.results97 ?_;exact congrArg fv cE.symm
      ·try simp only[aC]at vW
       rw[if_neg (show ¬(gS p).1≤z from(by omega:¬p.dq≤z))]at pG;refine St.skip (St.aA (St.rg ?_));refine St.ee (Ev.aD (.mk rfl) gn) ?_;refine St.ee (Ev.l0 (.mk rfl) bP) ?_;refine St.ak ?_;refine St.nil (St.aN (St.aA (St.rg ?_)));refine St.ee Ev.a0 ?_;refine St.mv ?_;refine St.nn ?_;refine St.jb (q+1) p.dq ⟨by omega,by rw[tr,pG];rfl⟩
    ·try simp only[aC]at pw
     rw[DT (by rw[List.length_map];omega)]at tr;rw[if_neg (by rw[tr];decide)]at cE;refine St.exit (St.aF (St.aF (St.bH (St.aN (St.aA (St.rg ?_))))));refine St.ee Ev.a0 ?_;refine St.mv ?_;refine St.nn ?_;refine St.aS (k+1) ⟨by omega,by rw[cE]⟩
  ·try simp only[aC]at ov
   rw[wV (by omega)]at hv;refine St.exit (St.aF (St.aF (St.bH (St.aA (St.sr ?_)))));refine St.ee (Ev.build (ps:=[]) (aU.nil) (fun w=>fA w)) ?_;refine St.sA (.mk rfl) (.mk rfl) ay ?_;refine St.nn (St.aX ?_);refine St.rU [_] [] Tryz.results97 ?_;exact congrArg fv hv.symm
theorem wW {M:List Bool}{k:Nat}{b:Bool}(h:M[k]?=some b):mI (M.drop k)=if b=false then 0 else if mI (M.drop (k+1))<0 then-1 else mI (M.drop (k+1))+1:=by rw[bz h,mI]
theorem HP {M:List Bool}{k:Nat}(h:M.length≤k):mI (M.drop k)= -1:=by rw[List.drop_of_length_le h,mI]
def kF (M:List Bool)(k:Nat):Prop:=mI M=if mI (M.drop k)<0 then-1 else mI (M.drop k)+k
theorem kF.nil (M:List Bool):kF M 0:=by
 unfold kF;rw[List.drop_zero]
 have:∀M:List Bool,mI M= -1∨0≤mI M:=by
  intro M
  induction M with
  |nil=>left;rfl
  |cons b M ih=>
   rw[mI]
   split
   ·right;decide
   ·split
    ·left;rfl
    ·right;omega
 rcases this M with h|h
 ·rw[h];rfl
 ·rw[if_neg (by omega)];omega
theorem kF.step {M:List Bool}{k:Nat}(h:kF M k)(hb:M[k]?=some true):kF M (k+1):=by
 unfold kF at h⊢
 have e1:=wW hb
 rw[if_neg (show ¬(true=false) by decide)]at e1
 by_cases e:mI (M.drop (k+1))<0
 ·rw[if_pos e]at e1⊢
  rw[h,e1];rfl
 ·rw[if_neg e]at e1⊢
  rw[h,e1,if_neg (by omega)];omega
theorem kF.hit {M:List Bool}{k:Nat}(h:kF M k)(hb:M[k]?=some false):mI M=k:=by
 unfold kF at h
 have e1:=wW hb
 rw[if_pos rfl]at e1
 rw[h,e1,if_neg (by decide)];omega
theorem kF.fin {M:List Bool}{k:Nat}(h:kF M k)(hb:M.length≤k):mI M= -1:=by
 unfold kF at h
 rw[h,HP hb];rfl
def eE:Rp Bool:=⟨1,by decide,fun a=>[.bool a],fun _=>True,fun _=>rfl,fun x u h=>by rw[List.mem_singleton.1 h];rfl⟩
theorem mQ (U:List Bool):rows eE U=U.map fun a=>Value.bool a:=by
 show U.flatMap (fun a=>[Value.bool a])=_
 induction U with
 |nil=>rfl
 |cons a U ih=>rw[List.flatMap_cons,ih];rfl
theorem py {U:List Bool}{k:Nat}{a:Bool}(h:U[k]?=some a):(rows eE U)[k*1+0]?=some (.bool a):=by
 rw[mQ,Nat.mul_one,Nat.add_zero,List.getElem?_map,h];rfl
theorem kG {U:List Bool}{k:Nat}{a:Bool}:(rows eE U).set (k*1+0) (.bool a)=rows eE (U.set k a):=by
 rw[mQ,mQ,Nat.mul_one,Nat.add_zero,List.map_set]
theorem pz (n:Nat):List.replicate n (Value.bool false)=rows eE (List.replicate n false):=by rw[mQ,List.map_replicate]
theorem uB (u:Value)(M:List Bool):ct Tryz.prog 103 #[u,.bool false] [sl eE u M] (iv (mI M)):=by
 refine ct.ic (args:=[u,.bool false]) 19 Tryz.func103 rfl Tryz.ntmps103 rfl (fun c=> ?_);refine St.seq ?_;refine St.wf u (fun huw DR=> ?_);refine St.rg ?_;refine St.ak ?_;refine St.nn (St.seq (St.sr ?_));refine St.mv ?_;refine St.ee (Ev.ao (.mk rfl) ft) ?_;refine St.mv ?_;refine St.nn (St.block ?_);refine St.lS (ι:=Nat) (fun k T=>(8,iv k)::T) (fun k=>k≤M.length∧kF M k) (fun k=>M.length-k) 0 (aE.cons 0 rfl (aE.cons 1 rfl (aE.cons 7 rfl aE.nil))) ⟨Nat.zero_le _,kF.nil M⟩ ?_;intro k dA;obtain⟨hk,Yr⟩:=dA;refine St.sr ?_;refine St.ee Ev.dn ?_;refine St.nn (St.seq ?_);refine St.cond _ rfl (fun h9=> ?_) (fun h9=> ?_)
 ·try simp only[aC]at h9
  obtain⟨b,hb⟩:=aO (show k<M.length by omega);refine St.skip (St.aA (St.seq (St.block (St.sr ?_))));refine St.mv ?_;refine St.ak ?_;refine St.nn (St.sr ?_);refine St.mv ?_;refine St.mv ?_;refine St.mv ?_;refine St.ee (Ev.aR (k:=k) (.mk rfl) (.mk rfl) ft qW (by omega) (by omega)) ?_;refine St.ee (Ev.ff (.mk rfl) hb sJ trivial rfl) ?_;refine St.ee (Ev.K1 (.mk rfl) (.mk rfl) sJ) ?_;refine St.nn ?_;refine St.cond _ rfl (fun q7=> ?_) (fun q7=> ?_)
  ·skip
   have PQ:M[k]?=some false:=by rw[hb];cases b;rfl;cases q7
   refine St.sr ?_;refine St.mv ?_;refine St.ak ?_;refine St.nn (St.aX (St.aM (St.aB (St.aB (St.aM (St.aB ?_))))));refine St.rU [_] [] Tryz.results103 ?_;exact congrArg iv (Yr.hit PQ).symm
  ·skip
   have Jn:M[k]?=some true:=by rw[hb];cases b;cases q7;rfl
   refine St.skip (St.aN (St.aA (St.rg ?_)));refine St.ee Ev.a0 ?_;refine St.mv ?_;refine St.nn ?_;refine St.aS (k+1) ⟨by omega,Yr.step Jn⟩
 ·try simp only[aC]at h9
  refine St.exit (St.aF (St.aF (St.bH (St.aA (St.sr ?_)))));refine St.ak ?_;refine St.nn (St.aX ?_);refine St.rU [_] [] Tryz.results103 ?_;exact congrArg iv (Yr.fin (by omega)).symm
abbrev kz (l:List Nat):List Int:=l.map fun i:Nat=>(i:Int)
theorem kH (U:List Int):rows aK U=U.map fun a=>iv a:=by
 show U.flatMap (fun a=>[iv a])=_
 induction U with
 |nil=>rfl
 |cons a U ih=>rw[List.flatMap_cons,ih];rfl
theorem Ew {l:List Nat}{i:Nat}:(rows aK (kz (l++ [i])))[l.length*1+0]?=some (iv (i:Nat)):=by
 rw[kH,Nat.mul_one,Nat.add_zero,kz,List.map_map,List.getElem?_map,List.getElem?_append_right (Nat.le_refl _),Nat.sub_self];rfl
theorem HQ {l:List Nat}{i:Nat}:(rows aK (kz (l++ [i]))).take (l.length*1)=rows aK (kz l):=by
 rw[kH,kH,Nat.mul_one,kz,kz,List.map_append,List.map_append];exact List.take_left' (by simp)
theorem Ex {l:List Nat}{p:Int}(h:0≤p):rows aK (kz l)++ [iv p]=rows aK (kz (l++ [p.toNat])):=by
 rw[kH,kH,kz,kz,List.map_append,List.map_append,List.map_cons,List.map_nil,List.map_cons,List.map_nil,Int.toNat_of_nonneg h]
theorem yM {α:Type}{l:List α}(h:0<l.length):∃m x,l=m++ [x]:=by
 rcases List.eq_nil_or_concat l with rfl|⟨m,x,rfl⟩
 ·simp at h
 ·exact⟨m,x,by rw[List.concat_eq_append]⟩
set_option maxHeartbeats 2000000 in
theorem uC (g:eM)(hg:A6 (dN g))(hn:g.nodes.length≤60):ct Tryz.prog 100 #[dQ g] [bU g] (iv (N3 (dN g))):=by
 refine ct.ic (args:=[dQ g]) 58 Tryz.func100 rfl Tryz.ntmps100 rfl (fun c=> ?_);refine St.seq ?_
 refine St.fI (bU g) (fun _:Unit=>lE g) (fun ρ h=>⟨(),h⟩) fun _=> ?_
 refine St.cast (H':=[aG (sl ep g.nv.1 g.nodes),aG (aY dW g.nodes),aG (bU g)]) rfl ?_
 have D0:=ku g
 have mD:0<g.nodes.length:=by have:=hg.1;omega
 refine St.rg ?_;refine St.cV (.mk rfl) rfl (fun b1=> ?_);refine St.ak ?_;refine St.nn (St.sr ?_);refine St.ee (Ev.aD (.mk rfl) eb) ?_;refine St.ee (Ev.l0 (.mk rfl) eQ) ?_;refine St.ee (Ev.ao (.mk rfl) eQ) ?_;refine St.gB (m:=g.nodes.length) (.mk rfl) (.mk rfl) ft qW Wr Ws rfl rfl (by omega) rfl rfl (fun kp=> ?_);refine St.bB (.slice (some ⟨kp,0,none⟩) g.nodes.length g.nodes.length) rfl (pz _) ?_;refine St.ak ?_;refine St.nn (St.sr ?_);refine St.mv ?_;refine St.ee (Ev.cK (k:=0) (.mk rfl) (.mk rfl) ft qW (by omega) (by omega)) ?_;refine St.dH (.mk rfl) (.mk rfl) qW rfl (by omega) (by decide) ?_;refine St.bB (.slice (some ⟨kp,0,none⟩) g.nodes.length g.nodes.length) rfl kG ?_;refine St.nn (St.seq (St.sr ?_));refine St.cn rfl (.cons (.mk rfl) .nil) bE cr eJ rfl rfl (by simp[Value.cells]) rfl rfl (fun oU=> ?_);refine St.bB (.slice (some ⟨oU,0,none⟩) 1 1) (show _=([0]:List Nat).length from rfl) (show _=rows aK (kz [0])from rfl) ?_;refine St.ak ?_;refine St.nn (St.block ?_);refine St.mf (ι:=Unit) (κ:=Value×List Nat×List Bool) (fun u z T=>(4,z.1)::T) (fun u z=>[row (.slice (some ⟨kp,0,none⟩) g.nodes.length g.nodes.length) 4 1 g.nodes.length (rows eE z.2.2),row z.1 3 1 (z.2.1).length (rows aK (kz (z.2.1))),ae b1 (.cells [g.nv.1].toArray 30 (0,0)),aG (sl ep g.nv.1 g.nodes),aG (aY dW g.nodes)]) (fun u z=>L5 (dN g) z.2.2 z.2.1∧g.nodes.length-mo z.2.2+z.2.1.length≤g.nodes.length+1) (fun u z=>g.nodes.length-mo z.2.2+z.2.1.length) () ((.slice (some ⟨oU,0,none⟩) 1 1),[0],(List.replicate g.nodes.length false).set 0 true) (aE.cons 1 rfl (aE.cons 2 rfl (aE.cons 3 rfl aE.nil))) ⟨by have:=L5.start hg.1;rw[D0]at this;exact this,by show _-_+1≤_;omega⟩ ?_;rintro u ⟨vz,st,M⟩ ⟨hd,hmu⟩
 dsimp only at hd hmu⊢
 have hML:=hd.len
 refine St.seq (St.sr ?_);refine St.mv ?_;refine St.ee (Ev.fS (.mk rfl) bE) ?_;refine St.ee Ev.qn ?_;refine St.nn ?_;refine St.cond _ rfl (fun m8=> ?_) (fun m8=> ?_)
 ·try simp only[aC]at m8
  obtain⟨s0,i,rfl⟩:=yM (show 0<st.length by omega)
  have sc:(s0++ [i]).length=s0.length+1:=by rw[List.length_append];rfl
  have hiM:=cL (hd.PO i (by simp))
  obtain⟨t,ht⟩:=aO (show i<g.nodes.length by omega)
  have lU:=List.mem_of_getElem? ht
  have A9:(dN g).getD i tS=kX t:=by rw[List.getD_eq_getElem?_getD,iT ht];rfl
  have Qu:=hd.pop
  refine St.cD dW g.nodes (x:=t) lU ?_;refine St.gQ (sl fC t.lv.1 t.aZ) [dW t] (fun ρ h=>h _ (List.mem_cons_self ..)) ?_;refine St.wf t.lv.1 (fun NN qa=> ?_);refine St.skip (St.aA (St.block (St.sr ?_)));refine St.mv ?_;refine St.mv ?_;refine St.ee (Ev.fS (.mk rfl) bE) ?_;refine St.ee Ev.s0 ?_;refine St.ee (Ev.cK (k:=s0.length) (.mk rfl) (.mk rfl) bE cr (by omega) (by omega)) ?_;refine St.ee (Ev.hS (.mk rfl) bP trivial (by omega) Ew) ?_;refine St.ak ?_;refine St.nn (St.sr ?_);refine St.mv ?_;refine St.mv ?_;refine St.ee (Ev.fS (.mk rfl) bE) ?_;refine St.ee Ev.s0 ?_;refine St.ee (Ev.p6 (h:=s0.length) (.mk rfl) (.mk rfl) bE cr (by omega) (by omega)) ?_;refine St.BU vz s0.length (by omega) ?_;refine St.bB (pO vz 1 0 s0.length) rfl HQ ?_;refine St.ak ?_;refine St.nn (St.sr ?_);refine St.ee (Ev.aD (.mk rfl) eb) ?_;refine St.ee (Ev.l0 (.mk rfl) eQ) ?_;refine St.mv ?_;refine St.ee (Ev.aR (k:=i) (.mk rfl) (.mk rfl) eQ fc (by omega) (by omega)) ?_;refine St.ee (Ev.e8 (.mk rfl) (by omega) gR) ?_;refine St.ee (Ev.ff (.mk rfl) ht eA trivial rfl) ?_;refine St.ee (Ev.ao (.mk rfl) eA) ?_;refine St.mv ?_;refine St.nn (St.block ?_);refine St.mf (ι:=Nat) (κ:=Value×List Nat×List Bool) (fun q z T=>(36,iv q)::(4,z.1)::T) (fun q z=>[row (.slice (some ⟨kp,0,none⟩) g.nodes.length g.nodes.length) 4 1 g.nodes.length (rows eE z.2.2),row z.1 3 1 (z.2.1).length (rows aK (kz (z.2.1))),ae b1 (.cells [g.nv.1].toArray 30 (0,0)),aG (sl fC t.lv.1 t.aZ),aG (sl ep g.nv.1 g.nodes),aG (aY dW g.nodes)]) (fun q z=>q≤t.aZ.length∧ou (dN g) i q z.2.2 z.2.1∧g.nodes.length-mo z.2.2+z.2.1.length=g.nodes.length-mo M+s0.length) (fun q z=>t.aZ.length-q) 0 (pO vz 1 0 s0.length,s0,M) (aE.cons 1 rfl (aE.cons 2 rfl (aE.cons 3 rfl (aE.cons 34 rfl (aE.cons 35 rfl aE.nil))))) ⟨Nat.zero_le _,Qu,rfl⟩ ?_;rintro q ⟨wz,sw,W⟩ ⟨hq,oC,tD⟩
  dsimp only at oC tD⊢
  have hWL:=oC.len
  have hWm:=yL W
  refine St.sr ?_;refine St.ee Ev.dn ?_;refine St.nn (St.seq ?_);refine St.cond _ rfl (fun tg=> ?_) (fun tg=> ?_)
  ·try simp only[aC]at tg
   obtain⟨p,hp⟩:=aO (show q<t.aZ.length by omega)
   have C6:((dN g).getD i tS).2[q]?=some (gS p):=by rw[A9];show(t.aZ.map gS)[q]?=_;rw[List.getElem?_map,hp];rfl
   obtain⟨_,Jo,Su⟩:=hg.at_ (List.mem_of_getElem? C6)
   replace Jo:0≤p.to:=Jo
   replace Su:p.to.toNat<(dN g).length:=Su
   obtain⟨b,hb⟩:=aO (show p.to.toNat<W.length by omega);refine St.skip (St.aA (St.seq (St.block (St.sr ?_))));refine St.ee (Ev.aR (k:=q) (.mk rfl) (.mk rfl) eA eZ (by omega) (by omega)) ?_;refine St.ee (Ev.fg (.mk rfl) hp pf trivial eZ ei.eq) ?_;refine St.alloc rV rfl (fun b7=> ?_);refine St.sA (.mk rfl) (.mk rfl) eZ ?_ (h1:=(by simp only[List.all_cons,List.all_nil,Bool.and_true,Bool.and_eq_true];exact⟨rfl,rfl⟩));refine St.nn (St.sr ?_);refine St.mv ?_;refine St.ee (Ev.aD (.mk rfl) gp) ?_;refine St.ee (Ev.l0 (.mk rfl) bP) ?_;refine St.ee (Ev.cK (k:=p.to.toNat) (.mk rfl) (.mk rfl) ft qW (by omega) (by omega)) ?_;refine St.ee (Ev.hS (.mk rfl) sJ trivial (by omega) (py hb)) ?_;refine St.ee (Ev.not (.mk rfl)) ?_;refine St.nn ?_;refine St.cond _ rfl (fun wP=> ?_) (fun wP=> ?_)
   ·skip
    have PQ:W[p.to.toNat]?=some false:=by rw[hb];cases b;rfl;cases wP
    have hcn:=L6 PQ
    have hcm:=yL (W.set p.to.toNat true)
    rw[List.length_set]at hcm
    have K3:=oC.new hg C6
    refine St.sr ?_;refine St.mv ?_;refine St.ee (Ev.aD (.mk rfl) gp) ?_;refine St.ee (Ev.l0 (.mk rfl) bP) ?_;refine St.ee (Ev.cK (k:=p.to.toNat) (.mk rfl) (.mk rfl) ft qW (by omega) (by omega)) ?_;refine St.dH (.mk rfl) (.mk rfl) qW rfl (by omega) (by decide) ?_;refine St.bB (.slice (some ⟨kp,0,none⟩) g.nodes.length g.nodes.length) rfl kG ?_;refine St.nn (St.rg ?_);refine St.mv ?_;refine St.ee (Ev.aD (.mk rfl) gp) ?_;refine St.ee (Ev.l0 (.mk rfl) bP) ?_;refine St.cn rfl (.cons (.mk rfl) .nil) bE cr eJ rfl rfl (by simp[Value.cells]) rfl rfl (fun Ys=> ?_);refine St.cS (.mk rfl) (.mk rfl) bE cr eJ Gh (by simp[Value.oneCell',Value.cells]) (by omega) (by omega) rfl rfl rfl rfl (fun Yt adY=> ?_);refine St.bB Yt (show _=(sw++ [p.to.toNat]).length from fX) (show _=rows aK (kz (sw++ [p.to.toNat]))from Ex Jo) ?_;refine St.ak ?_;refine St.nil (St.aN (St.aA (St.rg ?_)));refine St.ee Ev.a0 ?_;refine St.mv ?_;refine St.nn ?_;refine St.jb (q+1) (Yt,sw++ [p.to.toNat],W.set p.to.toNat true) ⟨by omega,K3,by rw[hcn,List.length_append];simp only[List.length_cons,List.length_nil];omega⟩
   ·skip
    have Jn:W[p.to.toNat]?=some true:=by rw[hb];cases b;cases wP;rfl
    have hold:=oC.BL C6 Jn
    refine St.skip (St.aN (St.aA (St.rg ?_)));refine St.ee Ev.a0 ?_;refine St.mv ?_;refine St.nn ?_;refine St.jb (q+1) (wz,sw,W) ⟨by omega,hold,tD⟩
  ·try simp only[aC]at tg
   obtain rfl:q=t.aZ.length:=by omega
   refine St.exit (St.aF (St.aF (St.bH (St.aN (St.aA ?_)))));rw[show t.aZ.length=((dN g).getD i tS).2.length by rw[A9];exact(List.length_map _).symm]at oC;refine St.Cx () (wz,sw,W) ⟨oC.done,by dsimp only;omega⟩ (by dsimp only;rw[List.length_append];simp only[List.length_cons,List.length_nil];omega) (by repeat(first|exact Sub.nil|refine Sub.cons (by first|rfl|exact congrArg (fun z=>some (iv z)) (by first|omega|(dsimp only;omega))|exact congrArg (fun z=>some (Value.bool z)) (by first|assumption|exact Eq.symm (by assumption))) ?_)) (fun _ hw=>hw.sub)
 ·try simp only[aC]at m8
  obtain rfl:st=[]:=List.eq_nil_of_length_eq_zero (by omega)
  have nS:=hd.fin hg
  refine St.aV (.slice (some ⟨kp,0,none⟩) g.nodes.length g.nodes.length) eE M rfl (by omega) (fun _ _=>trivial) ?_;refine St.exit (St.aF (St.aF (St.bH (St.aA (St.sr ?_)))));refine St.mv ?_;refine St.ee (Ev.call (uB (.slice (some ⟨kp,0,none⟩) g.nodes.length g.nodes.length) M) NI (.cons (.mk rfl) (.cons (.mk rfl) .nil))) ?_;refine St.ak ?_;refine St.nn (St.aX ?_);refine St.rU [_] [] Tryz.results100 ?_;exact congrArg iv (by rw[nS];rfl)
theorem HR {nf nn i:Int}:∀{l:List (Int×Int)} {z:Int},(wC nf nn i z l).1=0→∀x∈l,0≤x.1∧x.1<nf∧0≤x.2∧x.2<nn
 | [],_,_=>fun x hx=>by cases hx
 |y::l,z,h=>by
  rw[wC]at h
  by_cases h1:y.1<0∨nf≤y.1∨y.2<0∨nn≤y.2
  ·rw[if_pos h1]at h;exact absurd h (by simp)
  rw[if_neg h1]at h
  by_cases h2:y.1≤z
  ·rw[if_pos h2]at h;exact absurd h (by simp)
  rw[if_neg h2]at h;intro x hx
  rcases List.mem_cons.1 hx with rfl|hx
  ·omega
  ·exact HR h x hx
theorem q8 {nt nf nn:Int}:∀{l:iE} {i:Nat},(dx nt nf nn i l).1=0→∀n∈l,(0≤n.1∧n.1<nt)∧∀x∈n.2,0≤x.1∧x.1<nf∧0≤x.2∧x.2<nn
 | [],_,_=>fun x hx=>by cases hx
 |y::l,i,h=>by
  rw[dx]at h
  by_cases h1:y.1<0∨nt≤y.1
  ·rw[if_pos h1]at h;exact absurd h (by simp)
  rw[if_neg h1]at h
  by_cases h2:(wC nf nn i (-1) y.2).1≠0
  ·rw[if_pos h2]at h;exact absurd h h2
  rw[if_neg h2]at h;intro x hx
  rcases List.mem_cons.1 hx with rfl|hx
  ·exact⟨by omega,HR (Decidable.not_not.1 h2)⟩
  ·exact q8 h x hx
theorem nT {nt nf:Int}{g:iE}(h:(de nt nf g).1=0):0<g.length∧g.length≤60∧∀n∈g,(0≤n.1∧n.1<nt)∧∀x∈n.2,0≤x.1∧x.1<nf∧0≤x.2∧x.2<g.length:=by
 unfold de at h
 by_cases h1:g.length=0∨60<g.length
 ·rw[if_pos h1]at h;exact absurd h (by simp)
 rw[if_neg h1]at h;exact⟨by omega,by omega,q8 h⟩
theorem AA {nt nf:Int}{g:iE}(h:(de nt nf g).1=0):A6 g:=by
 obtain⟨h1,_,h3⟩:=nT h;exact⟨h1,fun n hn x hx=>by have:=(h3 n hn).2 x hx;omega⟩
theorem wX (w1 w2:ck)(T:List dc)(hT:iJ T)(i j:Int)(hi:0≤i∧i.toNat<T.length)(hj:0≤j∧j.toNat<T.length):ct Tryz.prog 98 #[tx w1 w2,iv i,iv j] [sl eD w1.1 (kD T),sl eD w2.1 (kE T)] (.bool (e9 T i.toNat j.toNat)):=by
 have:=HM w1 w2 T hT i.toNat j.toNat hi.2 hj.2
 rw[Int.toNat_of_nonneg hi.1,Int.toNat_of_nonneg hj.1]at this;exact this
theorem AB {T:List dc}{Fs:List mm}{G:iE}{k:Nat}(hk:k<G.length)(h:ke T Fs G k=true)(hb:∀i,i<k→ke T Fs G i=false):k7 T Fs G=some k:=by
 unfold k7;rw[List.find?_range_eq_some]
 exact⟨h,List.mem_range.2 hk,fun j hj=>by rw[hb j hj];rfl⟩
theorem AD {T:List dc}{Fs:List mm}{G:iE}(hb:∀i,i<G.length→ke T Fs G i=false):k7 T Fs G=none:=by
 unfold k7;rw[List.find?_eq_none]
 intro b h;rw[hb b (List.mem_range.1 h)];decide
theorem qz {T:List dc}{Fs:List mm}{G:iE}(h:(de T.length Fs.length G).1≠0):cU T Fs G=de T.length Fs.length G:=by unfold cU;rw[if_pos h]
theorem wY {T:List dc}{Fs:List mm}{G:iE}{i:Nat}(h:¬(de T.length Fs.length G).1≠0)(h2:k7 T Fs G=some i):cU T Fs G=(12,(i:Int)):=by unfold cU;rw[if_neg h,h2]
theorem wZ {T:List dc}{Fs:List mm}{G:iE}(h:¬(de T.length Fs.length G).1≠0)(h2:k7 T Fs G=none):cU T Fs G=if 0≤N3 G then(5,N3 G)else(0,0):=by unfold cU;rw[if_neg h,h2]
set_option maxHeartbeats 2000000 in
theorem nU (tv xv w1 w2:ck)(ts:List jj)(fs:List eF)(g:eM)(hT:iJ (ts.map bf))(hF:∀f∈fs,0≤f.nC∧f.nC<ts.length∧0≤f.value∧f.value<ts.length):ct Tryz.prog 69 #[.agg #[tv.1,xv.1],tx w1 w2,dQ g] [sl e6 tv.1 ts,sl bu xv.1 fs,sl eD w1.1 (kD (ts.map bf)),sl eD w2.1 (kE (ts.map bf)),bU g] (fv (cU (ts.map bf) (fs.map dR) (dN g))):=by
 refine ct.Rc (args:=[.agg #[tv.1,xv.1],tx w1 w2,dQ g]) 74 Tryz.func69 rfl Tryz.ntmps69 rfl (fun c=> ?_);refine St.seq ?_
 refine St.fI (bU g) (fun _:Unit=>lE g) (fun ρ h=>⟨(),h⟩) fun _=> ?_
 refine St.cast (H':=[aG (sl ep g.nv.1 g.nodes),aG (aY dW g.nodes),aG (sl e6 tv.1 ts),aG (sl bu xv.1 fs),aG (sl eD w1.1 (kD (ts.map bf))),aG (sl eD w2.1 (kE (ts.map bf))),aG (bU g)]) rfl ?_
 have D0:=ku g
 have sO:(ts.map bf).length=ts.length:=List.length_map ..
 have Et:(fs.map dR).length=fs.length:=List.length_map ..
 refine St.wf g.nv.1 (fun Ss zr=> ?_);refine St.rg ?_;refine St.cV (.mk rfl) rfl (fun b3=> ?_);refine St.cV (.mk rfl) rfl (fun b4=> ?_);refine St.cV (.mk rfl) rfl (fun b5=> ?_);refine St.alloc dF rfl (fun b6=> ?_);refine St.nn (St.seq (St.sr ?_));refine St.ee (Ev.bF (.mk rfl) nI trivial (by exact ln)) ?_;refine St.ee (Ev.bF (.mk rfl) p9 trivial (by exact nK)) ?_;refine St.ee (Ev.call (C5 tv xv ts fs g) Yc (.cons (.mk rfl) (.cons (.mk rfl) .nil))) ?_;refine St.alloc dF rfl (fun b7=> ?_);refine St.sA (.mk rfl) (.mk rfl) ay ?_;refine St.nn (St.sr ?_);refine St.ee (Ev.aD (.mk rfl) cX) ?_;refine St.ee (Ev.l0 (.mk rfl) bP) ?_;refine St.ee Ev.k9 ?_;refine St.nn ?_;refine St.cond _ rfl (fun gY=> ?_) (fun gY=> ?_)
 ·skip
  have hb:(de (ts.map bf).length (fs.map dR).length (dN g)).1≠0:=by rw[sO,Et];simpa using gY
  have p5:=qz hb
  rw[sO,Et]at p5;refine St.sr ?_;refine St.ee (Ev.bF (.mk rfl) fl trivial (by exact ay)) ?_;refine St.sA (.mk rfl) (.mk rfl) ay ?_;refine St.nn (St.aX (St.aB ?_));refine St.rU [_] [] Tryz.results69 ?_;exact congrArg fv p5.symm
 ·skip
  have hb:¬(de (ts.map bf).length (fs.map dR).length (dN g)).1≠0:=by rw[sO,Et];simpa using gY
  have C6:=AA (Decidable.not_not.1 hb)
  obtain⟨RO,Yu,pP⟩:=nT (Decidable.not_not.1 hb);refine St.skip (St.aA (St.seq (St.sr ?_)));refine St.ee (Ev.aD (.mk rfl) eb) ?_;refine St.ee (Ev.l0 (.mk rfl) eQ) ?_;refine St.ee (Ev.ao (.mk rfl) eQ) ?_;refine St.mv ?_;refine St.nn (St.block ?_);refine St.lS (ι:=Nat) (fun k T=>(24,iv k)::T) (fun k=>k≤g.nodes.length∧∀i,i<k→ke (ts.map bf) (fs.map dR) (dN g) i=false) (fun k=>g.nodes.length-k) 0 (aE.cons 3 rfl (aE.cons 4 rfl (aE.cons 5 rfl (aE.cons 6 rfl (aE.cons 22 rfl (aE.cons 23 rfl aE.nil)))))) ⟨Nat.zero_le _,fun i hi=>absurd hi (by omega)⟩ ?_;intro k dA;obtain⟨hk,Ej⟩:=dA;refine St.sr ?_;refine St.ee Ev.dn ?_;refine St.nn (St.seq ?_);refine St.cond _ rfl (fun ov=> ?_) (fun ov=> ?_)
  ·try simp only[aC]at ov
   obtain⟨t,ht⟩:=aO (show k<g.nodes.length by omega)
   have lU:=List.mem_of_getElem? ht
   refine St.cD dW g.nodes (x:=t) lU ?_;refine St.gQ (sl fC t.lv.1 t.aZ) [dW t] (fun ρ h=>h _ (List.mem_cons_self ..)) ?_;refine St.wf t.lv.1 (fun NN qa=> ?_)
   have A9:(dN g).getD k tS=kX t:=by rw[List.getD_eq_getElem?_getD,iT ht];rfl
   obtain⟨vM,PR⟩:=pP (kX t) (List.mem_of_getElem? (iT ht))
   replace vM:0≤t.type∧t.type<((ts.map bf).length:Int):=vM
   refine St.skip (St.aA (St.seq (St.block (St.sr ?_))));refine St.mv ?_;refine St.ee (Ev.aR (k:=k) (.mk rfl) (.mk rfl) eQ fc (by omega) (by omega)) ?_;refine St.ee (Ev.fg (.mk rfl) ht wG trivial fc ei.eq) ?_;refine St.alloc tb rfl (fun b9=> ?_);refine St.ak ?_;refine St.sA (.mk rfl) (.mk rfl) fc ?_ (h1:=(by simp only[List.all_cons,List.all_nil,Bool.and_true,Bool.and_eq_true];exact⟨rfl,t.lv.2⟩));refine St.nn (St.sr ?_);refine St.ee (Ev.aD (.mk rfl) gR) ?_;refine St.ee (Ev.l0 (.mk rfl) eA) ?_;refine St.ee (Ev.ao (.mk rfl) eA) ?_;refine St.mv ?_;refine St.nn (St.block ?_);refine St.lS (ι:=Nat) (fun q T=>(32,iv q)::T) (fun q=>q≤t.aZ.length∧∀j,j<q→∀x,(kX t).2[j]?=some x→tT (ts.map bf) (fs.map dR) (dN g) t.type x=false) (fun q=>t.aZ.length-q) 0 (aE.cons 3 rfl (aE.cons 4 rfl (aE.cons 5 rfl (aE.cons 6 rfl (aE.cons 8 rfl (aE.cons 9 rfl (aE.cons 22 rfl (aE.cons 23 rfl (aE.cons 24 rfl (aE.cons 30 rfl (aE.cons 31 rfl aE.nil))))))))))) ⟨Nat.zero_le _,fun j hj=>absurd hj (by omega)⟩ ?_;intro q dA;obtain⟨hq,oC⟩:=dA;refine St.sr ?_;refine St.ee Ev.dn ?_;refine St.nn (St.seq ?_);refine St.cond _ rfl (fun qZ=> ?_) (fun qZ=> ?_)
   ·try simp only[aC]at qZ
    obtain⟨p,hp⟩:=aO (show q<t.aZ.length by omega)
    have C7:(kX t).2[q]?=some (gS p):=by show(t.aZ.map gS)[q]?=_;rw[List.getElem?_map,hp];rfl
    have PS:=PR (gS p) (List.mem_of_getElem? C7)
    replace PS:0≤p.dq∧p.dq<((fs.map dR).length:Int)∧0≤p.to∧p.to<((dN g).length:Int):=PS
    obtain⟨fe,PT⟩:=aO (show p.dq.toNat<fs.length by omega);obtain⟨u,hu⟩:=aO (show p.to.toNat<g.nodes.length by omega)
    have hfo:=hF fe (List.mem_of_getElem? PT)
    have Sv:=(pP (kX u) (List.mem_of_getElem? (iT hu))).1
    replace Sv:0≤u.type∧u.type<((ts.map bf).length:Int):=Sv
    have xx:(!e9 (ts.map bf) t.type.toNat fe.nC.toNat|| !e9 (ts.map bf) u.type.toNat fe.value.toNat)=tT (ts.map bf) (fs.map dR) (dN g) t.type (gS p):=by
     unfold tT
     rw[show(gS p).1=p.dq from rfl,show(gS p).2=p.to from rfl,List.getD_eq_getElem?_getD,List.getElem?_map,PT,List.getD_eq_getElem?_getD,iT hu];rfl
    refine St.skip (St.aA (St.seq (St.block (St.sr ?_))));refine St.ee (Ev.aR (k:=q) (.mk rfl) (.mk rfl) eA eZ (by omega) (by omega)) ?_;refine St.ee (Ev.fg (.mk rfl) hp pf trivial eZ ei.eq) ?_;refine St.alloc rV rfl (fun kp=> ?_);refine St.sA (.mk rfl) (.mk rfl) eZ ?_ (h1:=(by simp only[List.all_cons,List.all_nil,Bool.and_true,Bool.and_eq_true];exact⟨rfl,rfl⟩));refine St.nn (St.sr ?_);refine St.ee (Ev.aD (.mk rfl) jQ) ?_;refine St.ee (Ev.l0 (.mk rfl) iz) ?_;refine St.ee (Ev.aD (.mk rfl) gn) ?_;refine St.ee (Ev.l0 (.mk rfl) bP) ?_;refine St.ee (Ev.aR (k:=p.dq.toNat) (.mk rfl) (.mk rfl) iz jH (by omega) (by omega)) ?_;refine St.ee (Ev.fg (.mk rfl) PT zZ trivial jH ei.eq) ?_;refine St.alloc wJ rfl (fun DS=> ?_);refine St.sA (.mk rfl) (.mk rfl) jH ?_ (h1:=(by simp only[List.all_cons,List.all_nil,Bool.and_true,Bool.and_eq_true];exact⟨rfl,rfl,rfl⟩));refine St.nn (St.seq ?_);refine St.rq mixed (by kernel_rfl) (Mm.drawn _ _) ?_;refine Sq.ee (Ev.bF (.mk rfl) og trivial (by exact iQ)) ?_;refine Sq.ee (Ev.aD (.mk rfl) km) ?_;refine Sq.ee (Ev.l0 (.mk rfl) bP) ?_;refine Sq.ee (Ev.aD (.mk rfl) o5) ?_;refine Sq.ee (Ev.l0 (.mk rfl) bP) ?_;refine Sq.ee (Ev.call (wX w1 w2 (ts.map bf) hT t.type fe.nC ⟨by omega,by omega⟩ ⟨by omega,by omega⟩) SS (.cons (.mk rfl) (.cons (.mk rfl) (.cons (.mk rfl) .nil)))) ?_;refine Sq.ee (Ev.not (.mk rfl)) ?_;refine Sq.ee (Ev.move (.mk rfl)) ?_;refine Sq.gf _ rfl rfl (fun hg=>Ev.bF (.mk rfl) og trivial (by exact iQ)) rfl ?_;refine Sq.gf _ rfl rfl (fun hg=>Ev.aD (.mk rfl) eb) rfl ?_;refine Sq.gf _ rfl rfl (fun hg=>Ev.cN (aL.gv rfl hg) eQ trivial (by rfl)) rfl ?_;refine Sq.gf _ rfl rfl (fun hg=>Ev.aD (.mk rfl) gp) rfl ?_;refine Sq.gf _ rfl rfl (fun hg=>Ev.cN (aL.gv rfl hg) bP trivial (by rfl)) rfl ?_;refine Sq.gf _ rfl rfl (fun hg=>Ev.aR (k:=p.to.toNat) (aL.gv rfl hg) (aL.gv rfl hg) eQ fc (by first|omega|(simp only[aC]at hg;omega)) (by first|omega|(simp only[aC]at hg;omega))) rfl ?_;refine Sq.gf _ rfl rfl (fun hg=>Ev.e8 (aL.gv rfl hg) (by first|omega|(simp only[aC]at hg;omega)) km) rfl ?_;refine Sq.gf _ rfl rfl (fun hg=>Ev.ff (aL.gv rfl hg) hu bP trivial rfl) rfl ?_;refine Sq.gf _ rfl rfl (fun hg=>Ev.aD (.mk rfl) o6) rfl ?_;refine Sq.gf _ rfl rfl (fun hg=>Ev.cN (aL.gv rfl hg) bP trivial (by rfl)) rfl ?_;refine Sq.gf _ rfl rfl (fun hg=>Ev.call (wX w1 w2 (ts.map bf) hT u.type fe.value ⟨by omega,by omega⟩ ⟨by omega,by omega⟩) SS (.cons (aL.gv rfl hg) (.cons (aL.gv rfl hg) (.cons (aL.gv rfl hg) .nil)))) rfl ?_;refine Sq.gf _ rfl rfl (fun hg=>Ev.not (aL.gv rfl hg)) rfl ?_;refine Sq.ee Ev.o0 ?_;refine Sq.nil ?_;refine St.aA ?_;refine St.cond _ rfl (fun oB=> ?_) (fun oB=> ?_)
    ·skip
     rw[xx]at oB
     have NO:ke (ts.map bf) (fs.map dR) (dN g) k=true:=by unfold ke;rw[A9,List.any_eq_true];exact⟨gS p,List.mem_of_getElem? C7,oB⟩
     have p5:=wY hb (AB (by omega) NO Ej)
     refine St.sr ?_;refine St.mv ?_;refine St.ee (Ev.call (ej 12 k) Eb (.cons (.mk rfl) (.cons (.mk rfl) .nil))) ?_;refine St.sA (.mk rfl) (.mk rfl) ay ?_;refine St.nn (St.aX (St.aM (St.aB (St.aB (St.aM (St.aM (St.aB (St.aB (St.aM (St.aB ?_))))))))));refine St.rU [_] [] Tryz.results69 ?_;exact congrArg fv p5.symm
    ·skip
     rw[xx]at oB;refine St.skip (St.aN (St.aA (St.rg ?_)));refine St.ee Ev.a0 ?_;refine St.mv ?_;refine St.nn ?_;refine St.aS (q+1) ⟨by omega,fun j hj x hx=>by rcases Nat.lt_or_ge j q with h|h;exact oC j h x hx;rw[show j=q by omega,C7]at hx;cases hx;exact oB⟩
   ·try simp only[aC]at qZ
    refine St.exit (St.aF (St.aF (St.bH (St.aN (St.aA (St.rg ?_))))));refine St.ee Ev.a0 ?_;refine St.mv ?_;refine St.nn ?_
    have NO:ke (ts.map bf) (fs.map dR) (dN g) k=false:=by
     unfold ke;rw[A9,List.any_eq_false]
     intro x hx;obtain⟨j,hj⟩:=List.getElem?_of_mem hx
     rw[show(kX t).1=t.type from rfl,oC j (by have:=cL hj;rw[show(kX t).2.length=t.aZ.length from List.length_map _]at this;omega) x hj];decide
    refine St.aS (k+1) ⟨by omega,fun i hi=>by rcases Nat.lt_or_ge i k with h|h;exact Ej i h;rw[show i=k by omega];exact NO⟩
  ·try simp only[aC]at ov
   have p5:=wZ hb (AD (by rw[D0];intro i hi;exact Ej i (by omega)))
   refine St.exit (St.aF (St.aF (St.bH (St.aA (St.seq (St.sr ?_))))));refine St.ee (Ev.bF (.mk rfl) p9 trivial (by exact nK)) ?_;refine St.ee (Ev.call (uC g C6 (by omega)) SU (.cons (.mk rfl) .nil)) ?_;refine St.ak ?_;refine St.nn (St.sr ?_);refine St.mv ?_;refine St.ee Ev.qV ?_;refine St.nn ?_;refine St.cond _ rfl (fun sN=> ?_) (fun sN=> ?_)
   ·try simp only[aC]at sN
    rw[if_pos (by omega)]at p5;refine St.sr ?_;refine St.mv ?_;refine St.ee (Ev.call (ej 5 (N3 (dN g))) Eb (.cons (.mk rfl) (.cons (.mk rfl) .nil))) ?_;refine St.sA (.mk rfl) (.mk rfl) ay ?_;refine St.nn (St.aX (St.aB ?_));refine St.rU [_] [] Tryz.results69 ?_;exact congrArg fv p5.symm
   ·try simp only[aC]at sN
    rw[if_neg (by omega)]at p5;refine St.skip (St.aA (St.sr ?_));refine St.ee (Ev.build (ps:=[]) (aU.nil) (fun w=>fA w)) ?_;refine St.sA (.mk rfl) (.mk rfl) ay ?_;refine St.nn (St.aX ?_);refine St.rU [_] [] Tryz.results69 ?_;exact congrArg fv p5.symm
def uD (a b:Int):Int:=if a<b then-1 else if b<a then 1 else 0
def Asc (l:List fY):Prop:=∀(i j:Nat) (x y:fY),i<j→l[i]?=some x→l[j]?=some y→x.dq<y.dq
def Sw (l:List fY)(k:Int)(v:Value):Prop:=∃(i:Nat) (b:Bool),v= .tuple #[iv i,.bool b]∧(b=true→∃x,l[i]?=some x∧x.dq=k)∧(b=false→∀x∈l,x.dq≠k)
theorem uE (x:Int):ct Tryz.prog 146 #[iv x] [] (.bool false):=by
 refine ct.jA (args:=[iv x]) 6 Tryz.func146 rfl Tryz.ntmps146 rfl (fun c=> ?_);refine St.sr ?_;refine St.ak ?_;refine St.nn (St.sr ?_);refine St.mv ?_;refine St.mv ?_;refine St.ee Ev.k9 ?_;refine St.ak ?_;refine St.nn (St.aX ?_);refine St.rU [_] [] Tryz.results146 ?_;exact be (by simp)
theorem yN (x y:Int):ct Tryz.prog 137 #[iv x,iv y] [] (iv (uD x y)):=by
 refine ct.jA (args:=[iv x,iv y]) 20 Tryz.func137 rfl Tryz.ntmps137 rfl (fun c=> ?_);refine St.sr ?_;refine St.ak ?_;refine St.nn (St.sr ?_);refine St.mv ?_;refine St.ee (Ev.call (uE x) NJ (.cons (.mk rfl) .nil)) ?_;refine St.ak ?_;refine St.nn (St.sr ?_);refine St.mv ?_;refine St.ee (Ev.call (uE y) NJ (.cons (.mk rfl) .nil)) ?_;refine St.ak ?_;refine St.nn (St.seq (St.sr ?_));refine St.mv ?_;refine St.nn ?_;refine St.zA _ rfl rfl ?_;refine St.skip (St.aA (St.seq (St.sr ?_)));refine St.mv ?_;refine St.nn ?_;refine St.zA _ rfl rfl ?_;refine St.skip (St.aA (St.seq (St.sr ?_)));refine St.mv ?_;refine St.mv ?_;refine St.ee Ev.dn ?_;refine St.nn ?_;refine St.cond _ rfl (fun q7=> ?_) (fun q7=> ?_)
 ·try simp only[aC]at q7
  refine St.sr ?_;refine St.ak ?_;refine St.nn (St.aX (St.aB ?_));refine St.rU [_] [] Tryz.results137 ?_;exact ie (by unfold uD;rw[if_pos q7])
 ·try simp only[aC]at q7
  refine St.skip (St.aA (St.seq (St.sr ?_)));refine St.mv ?_;refine St.mv ?_;refine St.ee Ev.qn ?_;refine St.nn ?_;refine St.cond _ rfl (fun gY=> ?_) (fun gY=> ?_)
  ·try simp only[aC]at gY
   refine St.sr ?_;refine St.ak ?_;refine St.nn (St.aX (St.aB ?_));refine St.rU [_] [] Tryz.results137 ?_;exact ie (by unfold uD;rw[if_neg (by omega),if_pos (by omega)])
  ·try simp only[aC]at gY
   refine St.skip (St.aA (St.sr ?_));refine St.ak ?_;refine St.nn (St.aX ?_);refine St.rU [_] [] Tryz.results137 ?_;exact ie (by unfold uD;rw[if_neg (by omega),if_neg (by omega)])
theorem q9 (x:fY)(k:Int):ct Tryz.prog 136 ([Value.agg #[iv x.dq,iv x.to],iv k]++ []).toArray [] (iv (uD x.dq k)):=by
 refine ct.jA (args:=[Value.agg #[iv x.dq,iv x.to],iv k]++ []) 9 Tryz.func136 rfl Tryz.ntmps136 rfl (fun c=> ?_);refine St.sr ?_;refine St.cV (.mk rfl) rfl (fun b2=> ?_);refine St.ak ?_;refine St.nn (St.sr ?_);refine St.ee (Ev.aD (.mk rfl) gn) ?_;refine St.ee (Ev.l0 (.mk rfl) bP) ?_;refine St.mv ?_;refine St.ee (Ev.call (yN x.dq k) SV (.cons (.mk rfl) (.cons (.mk rfl) .nil))) ?_;refine St.ak ?_;refine St.nn (St.aX ?_);refine St.rU [_] [] Tryz.results136 ?_;rfl
set_option maxHeartbeats 1000000 in
theorem HS (u:Value)(l:List fY)(k:Int)(ha:Asc l)(hl:l.length≤1000000):fF Tryz.prog 135 #[u,iv k,.func (.func 136) #[] #[]] ([sl fC u l].map aG) (fun v H'=>Sw l k v∧H'=[]):=by
 refine fF.body (args:=[u,iv k,.func (.func 136) #[] #[]]) 49 Tryz.func135 rfl Tryz.ntmps135 rfl (fun c=> ?_);refine St.cast (H':=[aG (sl fC u l)]) rfl ?_;refine St.sr ?_;refine St.ak ?_;refine St.ak ?_;refine St.nn (St.sr ?_);refine St.mv ?_;refine St.ee (Ev.ao (.mk rfl) eA) ?_;refine St.ak ?_;refine St.nn (St.sr ?_);refine St.mv ?_;refine St.ak ?_;refine St.ak ?_;refine St.nn (St.seq (St.block ?_));refine St.lS (ι:=Nat×Nat) (fun x T=>(9,iv x.1)::(10,iv x.2)::T) (fun x=>x.1≤x.2∧x.2≤l.length∧(∀j y,j<x.1→l[j]?=some y→y.dq<k)∧(∀j y,x.2≤j→l[j]?=some y→k≤y.dq)) (fun x=>x.2-x.1) (0,l.length) (aE.cons 0 rfl (aE.cons 1 rfl (aE.cons 2 rfl (aE.cons 6 rfl (aE.cons 7 rfl (aE.cons 8 rfl aE.nil)))))) ⟨Nat.zero_le _,Nat.le_refl _,fun j y hj=>absurd hj (Nat.not_lt_zero j),fun j y hj h=>by have:=cL h;omega⟩ ?_;rintro ⟨i,j⟩ ⟨lz,Fk,wa,mR⟩
 dsimp only at lz Fk wa mR⊢
 refine St.seq (St.sr ?_);refine St.mv ?_;refine St.mv ?_;refine St.ee Ev.dn ?_;refine St.nn ?_;refine St.cond _ rfl (fun m8=> ?_) (fun m8=> ?_)
 ·try simp only[aC]at m8
  have B8:i≤(i+j)/2:=by omega
  have tD:(i+j)/2<j:=by omega
  obtain⟨y,hy⟩:=aO (show(i+j)/2<l.length by omega);refine St.skip (St.aA (St.block (St.sr ?_)));refine St.mv ?_;refine St.mv ?_;refine St.ee Ev.a0 ?_;refine St.ee (Ev.Oh ((i+j)) (.mk rfl) (by rw[bP];rfl) zb (by omega)) ?_;refine St.ee (Ev.Og 1 2 (by decide) (.mk rfl) (.mk rfl) (by decide)) ?_;refine St.ee (Ev.tP (.mk rfl) (by rw[zb];rfl) bP (by omega)) ?_;refine St.ak ?_;refine St.nn (St.sr ?_);refine St.mv ?_;refine St.mv ?_;refine St.mv ?_;refine St.ee (Ev.aR (k:=((i+j)/2)) (.mk rfl) (.mk rfl) eA eZ (by omega) (by omega)) ?_;refine St.ee (Ev.fg (.mk rfl) hy pf trivial eZ ei.eq) ?_;refine St.mv ?_;refine St.ee (Ev.dU (q9 y k) NK (.mk rfl) (.cons (.mk rfl) (.cons (.mk rfl) .nil))) ?_;refine St.ee Ev.dn ?_;refine St.nn ?_;refine St.cond _ rfl (fun kO=> ?_) (fun kO=> ?_)
  ·try simp only[aC]at kO
   have L7:y.dq<k:=by unfold uD at kO;split at kO<;>first|assumption|(split at kO<;>omega)
   refine St.rg ?_;refine St.mv ?_;refine St.ee Ev.a0 ?_;refine St.ak ?_;refine St.nil (St.aN (St.aA ?_));refine St.aS ((i+j)/2+1,j) ⟨by show(i+j)/2+1≤j;omega,Fk,fun q z hq hz=>by rcases Nat.lt_or_ge q ((i+j)/2)with g|g;exact Int.lt_trans (ha _ _ _ _ g hz hy) L7;rw[show q=(i+j)/2 from Nat.le_antisymm (Nat.le_of_lt_succ hq) g,hy]at hz;cases hz;exact L7,mR⟩
  ·try simp only[aC]at kO
   have L7:k≤y.dq:=by unfold uD at kO;split at kO<;>omega
   refine St.rg ?_;refine St.mv ?_;refine St.ak ?_;refine St.nil (St.aN (St.aA ?_));refine St.aS (i,(i+j)/2) ⟨B8,by show(i+j)/2≤l.length;omega,wa,fun q z hq hz=>by rcases Nat.lt_or_ge ((i+j)/2) q with g|g;exact Int.le_trans L7 (Int.le_of_lt (ha _ _ _ _ g hy hz));rw[show q=(i+j)/2 from Nat.le_antisymm g hq,hy]at hz;cases hz;exact L7⟩
 ·try simp only[aC]at m8
  have Od:i=j:=by omega
  subst Od;refine St.exit (St.aF (St.aF (St.bH (St.aA (St.sr ?_)))));refine St.mv ?_;refine St.mv ?_;refine St.mv ?_;refine St.ee Ev.dn ?_;refine St.split 38 _ rfl (fun PU=> ?_) (fun PU=> ?_)
  ·have hiW:i<l.length:=by simpa using PU
   obtain⟨y,hy⟩:=aO hiW;refine St.mv ?_;refine St.cR rfl rfl ?_;refine St.mv ?_;refine St.cR rfl rfl ?_;refine St.mv ?_;refine St.cR rfl rfl ?_;refine St.mv ?_;refine St.cR rfl rfl ?_;refine St.ee (Ev.aR (k:=i) (.mk rfl) (.mk rfl) eA eZ (by omega) (by omega)) ?_;refine St.cR rfl rfl ?_;refine St.ee (Ev.fg (.mk rfl) hy pf trivial eZ ei.eq) ?_;refine St.cR rfl rfl ?_;refine St.mv ?_;refine St.cR rfl rfl ?_;refine St.ee (Ev.dU (q9 y k) NK (.mk rfl) (.cons (.mk rfl) (.cons (.mk rfl) .nil))) ?_;refine St.cR rfl rfl ?_;refine St.ee Ev.ey ?_;refine St.split 47 _ rfl (fun PV=> ?_) (fun PV=> ?_)
   ·refine St.ee (Ev.fB (.mk rfl) rfl (.mk rfl)) ?_
    refine St.ak ?_;refine St.ak ?_;refine St.nn (St.aX ?_);refine St.rT [_,_] [] Tryz.results135 ⟨rfl,⟨rfl,trivial⟩⟩ ?_
    have hc:uD y.dq k=0:=by simpa using PV
    have L7:y.dq=k:=by unfold uD at hc;split at hc;cases hc;split at hc;cases hc;omega
    exact⟨⟨i,true,rfl,fun _=>⟨y,hy,L7⟩,fun h=>(by cases h)⟩,rfl⟩
   ·refine St.ee (Ev.fB (.mk rfl) rfl (.mk rfl)) ?_
    refine St.ak ?_;refine St.ak ?_;refine St.nn (St.aX ?_);refine St.rT [_,_] [] Tryz.results135 ⟨rfl,⟨rfl,trivial⟩⟩ ?_
    have hc:uD y.dq k≠0:=by simpa using PV
    have L7:y.dq≠k:=fun e=>hc (by unfold uD;rw[if_neg (by omega),if_neg (by omega)])
    have Qt:=mR i y (Nat.le_refl _) hy
    exact⟨⟨i,false,rfl,fun h=>(by cases h),fun _ z hz=>by obtain⟨q,hq⟩:=List.getElem?_of_mem hz;rcases Nat.lt_trichotomy q i with g|g|g;have:=wa q z g hq;omega;rw[g,hy]at hq;cases hq;exact L7;have:=ha _ _ _ _ g hy hq;omega⟩,rfl⟩
  ·have hiW:l.length≤i:=by simpa using PU
   refine St.mv ?_;refine St.rN rfl rfl rfl ?_;refine St.rN rfl rfl rfl ?_;refine St.rN rfl rfl rfl ?_;refine St.rN rfl rfl rfl ?_;refine St.rN rfl rfl rfl ?_;refine St.rN rfl rfl rfl ?_;refine St.rN rfl rfl rfl ?_;refine St.rN rfl rfl rfl ?_;refine St.ee (Ev.oc (.mk rfl) rfl (.mk rfl)) ?_;refine St.ak ?_;refine St.ak ?_;refine St.nn (St.aX ?_);refine St.rT [_,_] [] Tryz.results135 ⟨rfl,⟨rfl,trivial⟩⟩ ?_;exact⟨⟨i,false,rfl,fun h=>(by cases h),fun _ z hz=>by obtain⟨q,hq⟩:=List.getElem?_of_mem hz;have h1:=cL hq;have h2:=wa q z (by omega) hq;omega⟩,rfl⟩
def DU (G:iE)(i:Nat)(k:Int):Int:=match(G.getD i tS).2.find? fun x=>x.1==k with
 |some x=>x.2
 |none=> -1
theorem HT (G:iE)(k:Int):DU G 0 k=B9 G k:=rfl
theorem L8 {l:List fY}(ha:Asc l){j:Nat}{x:fY}{k:Int}(hx:l[j]?=some x)(hk:x.dq=k):(l.map gS).find? (fun y=>y.1==k)=some (gS x):=by
 cases h:(l.map gS).find? (fun y=>y.1==k)with
 |none=>
  rw[List.find?_eq_none]at h;exact absurd (show((gS x).1==k)=true by rw[beq_iff_eq];exact hk) (h (gS x) (List.mem_map_of_mem (List.mem_of_getElem? hx)))
 |some y=>
  have h1:=List.find?_some h
  obtain⟨z,hz,rfl⟩:=List.mem_map.1 (List.mem_of_find?_eq_some h)
  have hzk:z.dq=k:=by simpa[gS]using h1
  obtain⟨q,hq⟩:=List.getElem?_of_mem hz
  rcases Nat.lt_trichotomy q j with g|g|g
  ·have:=ha _ _ _ _ g hq hx;omega
  ·rw[g,hx]at hq;cases hq;rfl
  ·have:=ha _ _ _ _ g hx hq;omega
theorem HU {l:List fY}{k:Int}(h:∀x∈l,x.dq≠k):(l.map gS).find? (fun y=>y.1==k)=none:=by
 rw[List.find?_eq_none];intro y hy;obtain⟨z,hz,rfl⟩:=List.mem_map.1 hy
 rw[beq_iff_eq];exact h z hz
theorem DV {nf nn i:Int}:∀{l:List fY} {z:Int},(wC nf nn i z (l.map gS)).1=0→(∀x∈l,z<x.dq)∧Asc l
 | [],_,_=>⟨fun x hx=>(by cases hx),fun i j x y _ hi=>(by simp at hi)⟩
 |y::l,z,h=>by
  rw[List.map_cons,wC]at h
  by_cases h1:(gS y).1<0∨nf≤(gS y).1∨(gS y).2<0∨nn≤(gS y).2
  ·rw[if_pos h1]at h;exact absurd h (by simp)
  rw[if_neg h1]at h
  by_cases h2:(gS y).1≤z
  ·rw[if_pos h2]at h;exact absurd h (by simp)
  rw[if_neg h2]at h;obtain⟨k1,k2⟩:=DV h
  replace k1:∀x∈l,y.dq<x.dq:=k1
  replace h2:¬y.dq≤z:=h2
  refine⟨fun x hx=> ?_,fun i j a b Od ha hb=> ?_⟩
  ·rcases List.mem_cons.1 hx with rfl|hx
   ·omega
   ·have:=k1 x hx;omega
  ·obtain⟨j,rfl⟩:∃j',j=j'+1:=⟨j-1,by omega⟩
   rw[List.getElem?_cons_succ]at hb
   cases i with
   |zero=>rw[List.getElem?_cons_zero]at ha;cases ha;exact k1 b (List.mem_of_getElem? hb)
   |succ i=>rw[List.getElem?_cons_succ]at ha;exact k2 i j a b (by omega) ha hb
theorem ow {nt nf nn:Int}:∀{l:List k5} {i:Nat},(dx nt nf nn i (l.map kX)).1=0→∀n∈l,Asc n.aZ
 | [],_,_=>fun x hx=>by cases hx
 |y::l,i,h=>by
  rw[List.map_cons,dx]at h
  by_cases h1:(kX y).1<0∨nt≤(kX y).1
  ·rw[if_pos h1]at h;exact absurd h (by simp)
  rw[if_neg h1]at h
  by_cases h2:(wC nf nn i (-1) (kX y).2).1≠0
  ·rw[if_pos h2]at h;exact absurd h h2
  rw[if_neg h2]at h;intro x hx
  rcases List.mem_cons.1 hx with rfl|hx
  ·exact(DV (Decidable.not_not.1 h2)).2
  ·exact ow h x hx
theorem wb {nt nf:Int}{g:eM}(h:(de nt nf (dN g)).1=0):∀n∈g.nodes,Asc n.aZ:=by
 unfold de at h
 by_cases h1:(dN g).length=0∨60<(dN g).length
 ·rw[if_pos h1]at h;exact absurd h (by simp)
 rw[if_neg h1]at h;exact ow h
set_option maxHeartbeats 1000000 in
theorem AE (g:eM)(i:Nat)(k:Int)(hi:i<g.nodes.length)(ha:∀n∈g.nodes,Asc n.aZ∧n.aZ.length≤1000000):ct Tryz.prog 116 #[dQ g,iv i,iv k] [bU g] (iv (DU (dN g) i k)):=by
 refine ct.ic (args:=[dQ g,iv i,iv k]) 32 Tryz.func116 rfl Tryz.ntmps116 rfl (fun c=> ?_);refine St.seq ?_
 refine St.fI (bU g) (fun _:Unit=>lE g) (fun ρ h=>⟨(),h⟩) fun _=> ?_
 refine St.cast (H':=[aG (sl ep g.nv.1 g.nodes),aG (aY dW g.nodes),aG (bU g)]) rfl ?_;obtain⟨t,ht⟩:=aO hi
 have lU:=List.mem_of_getElem? ht
 refine St.cD dW g.nodes (x:=t) lU ?_;refine St.gQ (sl fC t.lv.1 t.aZ) [dW t] (fun ρ h=>h _ (List.mem_cons_self ..)) ?_
 have A9:(dN g).getD i tS=kX t:=by rw[List.getD_eq_getElem?_getD,iT ht];rfl
 have PW:DU (dN g) i k=match(t.aZ.map gS).find? (fun x=>x.1==k)with|some x=>x.2|none=> -1:=by unfold DU;rw[A9];rfl
 obtain⟨Sy,Jp⟩:=ha t lU;refine St.rg ?_;refine St.cV (.mk rfl) rfl (fun b3=> ?_);refine St.ak ?_;refine St.nn (St.sr ?_);refine St.ee (Ev.aD (.mk rfl) eb) ?_;refine St.ee (Ev.l0 (.mk rfl) eQ) ?_;refine St.mv ?_;refine St.ee (Ev.aR (k:=i) (.mk rfl) (.mk rfl) eQ fc (by omega) (by omega)) ?_;refine St.ee (Ev.e8 (.mk rfl) (by omega) gR) ?_;refine St.ee (Ev.ff (.mk rfl) ht eA trivial rfl) ?_;refine St.mv ?_;refine St.aw (HS t.lv.1 t.aZ k Sy Jp) SX (.cons (.mk rfl) (.cons (.mk rfl) (.cons (.mk rfl) .nil))) rfl ?_;rintro v17 _ ⟨⟨j,b,rfl,Jn,PQ⟩,rfl⟩;refine St.aJ ?_;refine St.mv ?_;refine St.ee (Ev.extract (.mk rfl) rfl) ?_;refine St.ee (Ev.extract (.mk rfl) rfl) ?_;refine St.ak ?_;refine St.ak ?_;refine St.nn (St.seq (St.sr ?_));refine St.mv ?_;refine St.ee (Ev.not (.mk rfl)) ?_;refine St.nn ?_;refine St.cond _ rfl (fun qs=> ?_) (fun qs=> ?_)
 ·skip
  have Qw:b=false:=by simpa using qs
  rw[HU (PQ Qw)]at PW;refine St.sr ?_;refine St.ak ?_;refine St.nn (St.aX (St.aB ?_));refine St.rU [_] [] Tryz.results116 ?_;exact ie PW.symm
 ·skip
  have Qn:b=true:=by simpa using qs
  obtain⟨x,hx,hxk⟩:=Jn Qn
  have EE:=cL hx
  rw[L8 Sy hx hxk]at PW;refine St.skip (St.aA (St.sr ?_));refine St.ee (Ev.aD (.mk rfl) eb) ?_;refine St.ee (Ev.l0 (.mk rfl) eQ) ?_;refine St.mv ?_;refine St.ee (Ev.aR (k:=i) (.mk rfl) (.mk rfl) eQ fc (by omega) (by omega)) ?_;refine St.ee (Ev.e8 (.mk rfl) (by omega) gR) ?_;refine St.ee (Ev.ff (.mk rfl) ht eA trivial rfl) ?_;refine St.mv ?_;refine St.ee (Ev.aR (k:=j) (.mk rfl) (.mk rfl) eA eZ (by omega) (by omega)) ?_;refine St.ee (Ev.e8 (.mk rfl) (by omega) gp) ?_;refine St.ee (Ev.ff (.mk rfl) hx bP trivial rfl) ?_;refine St.ak ?_;refine St.nn (St.aX ?_);refine St.rU [_] [] Tryz.results116 ?_;exact ie PW.symm
theorem AF (g:eM)(kids:Int)(hn:0<g.nodes.length)(ha:∀n∈g.nodes,Asc n.aZ∧n.aZ.length≤1000000):ct Tryz.prog 95 #[dQ g,iv kids] [bU g] (.bool (kf (dN g) kids)):=by
 refine ct.ic (args:=[dQ g,iv kids]) 18 Tryz.func95 rfl Tryz.ntmps95 rfl (fun c=> ?_);refine St.sr ?_;refine St.cV (.mk rfl) rfl (fun b2=> ?_);refine St.ak ?_;refine St.nn (St.seq (St.sr ?_));refine St.mv ?_;refine St.nn (St.block ?_);refine St.lS (ι:=Nat) (fun k T=>(6,iv k)::T) (fun k=>k≤4∧∀j,j<k→(decide (0≤B9 (dN g) (j:Nat))==decide (((j:Nat):Int)≤kids))=true) (fun k=>4-k) 0 (aE.cons 1 rfl (aE.cons 2 rfl aE.nil)) ⟨Nat.zero_le _,fun j hj=>absurd hj (by omega)⟩ ?_;intro k dA;obtain⟨hk,oC⟩:=dA;refine St.sr ?_;refine St.ee Ev.dn ?_;refine St.nn (St.seq ?_);refine St.cond _ rfl (fun h7=> ?_) (fun h7=> ?_)
 ·try simp only[aC]at h7
  refine St.skip (St.aA (St.seq (St.block (St.sr ?_))));refine St.mv ?_;refine St.ak ?_;refine St.nn (St.sr ?_);refine St.ee (Ev.bF (.mk rfl) p9 trivial (by exact nK)) ?_;refine St.mv ?_;refine St.ee (Ev.call (AE g 0 k hn ha) SY (.cons (.mk rfl) (.cons (.mk rfl) (.cons (.mk rfl) .nil)))) ?_;refine St.ee Ev.qV ?_;refine St.mv ?_;refine St.mv ?_;refine St.ee Ev.Jm ?_;refine St.ee (Ev.sY (.mk rfl) (.mk rfl) sJ) ?_;refine St.nn ?_;refine St.cond _ rfl (fun q7=> ?_) (fun q7=> ?_)
  ·skip
   have Yv:(decide (0≤B9 (dN g) (k:Nat))==decide (((k:Nat):Int)≤kids))=false:=by rw[beq_eq_false_iff_ne];simp[HT]at q7;exact q7
   refine St.sr ?_;refine St.ak ?_;refine St.nn (St.aX (St.aM (St.aB (St.aB (St.aM (St.aB ?_))))));refine St.rU [_] [] Tryz.results95 ?_;exact be (by unfold kf;symm;rw[List.all_eq_false];exact⟨k,List.mem_range.2 (by omega),by rw[Yv];decide⟩)
  ·skip
   have Yv:(decide (0≤B9 (dN g) (k:Nat))==decide (((k:Nat):Int)≤kids))=true:=by rw[beq_iff_eq];simp[HT]at q7;exact q7
   refine St.skip (St.aN (St.aA (St.rg ?_)));refine St.ee Ev.a0 ?_;refine St.mv ?_;refine St.nn ?_;refine St.aS (k+1) ⟨by omega,fun j hj=>by rcases Nat.lt_or_ge j k with h|h;exact oC j h;rw[show j=k by omega];exact Yv⟩
 ·try simp only[aC]at h7
  refine St.exit (St.aF (St.aF (St.bH (St.aA (St.sr ?_)))));refine St.ak ?_;refine St.nn (St.aX ?_);refine St.rU [_] [] Tryz.results95 ?_;exact be (by unfold kf;symm;rw[List.all_eq_true];intro j hj;exact oC j (by have:=List.mem_range.1 hj;omega))
theorem HV {l:List fY}(ha:Asc l)(h0:∀x∈l,0≤x.dq):∀(i:Nat) (x:fY),l[i]?=some x→(i:Int)≤x.dq
 |0,x,hx=>h0 x (List.mem_of_getElem? hx)
 |i+1,x,hx=>by
  obtain⟨y,hy⟩:=aO (show i<l.length by have:=cL hx;omega)
  have h1:=HV ha h0 i y hy
  have h2:=ha i (i+1) y x (Nat.lt_succ_self i) hy hx
  omega
theorem L9 {l:List fY}(ha:Asc l){nf:Nat}(h0:∀x∈l,0≤x.dq∧x.dq<nf):l.length≤nf:=by
 rcases Nat.eq_zero_or_pos l.length with h|h
 ·omega
 ·obtain⟨y,hy⟩:=aO (show l.length-1<l.length by omega)
  have h1:=HV ha (fun x hx=>(h0 x hx).1) _ y hy
  have h2:=(h0 y (List.mem_of_getElem? hy)).2
  omega
theorem we {n:Int}:∀{l:List mm} {known:List cQ} {i:Nat},(jM n known i l).1=0→∀f∈l,0≤f.2.1∧f.2.1<n∧0≤f.2.2∧f.2.2<n
 | [],_,_,_=>fun f hf=>by cases hf
 |t::l,known,i,h=>by
  rw[jM]at h
  by_cases h1:isName t.1=false
  ·rw[if_pos h1]at h;exact absurd h (by simp)
  rw[if_neg h1]at h
  by_cases h2:t.1∈known
  ·rw[if_pos h2]at h;exact absurd h (by simp)
  rw[if_neg h2]at h
  by_cases h3:t.2.1<0∨n≤t.2.1∨t.2.2<0∨n≤t.2.2
  ·rw[if_pos h3]at h;exact absurd h (by simp)
  rw[if_neg h3]at h;intro f hf
  rcases List.mem_cons.1 hf with rfl|hf
  ·omega
  ·exact we h f hf
theorem DW {T:List dc}{Fs:List mm}(h:(fZ T Fs).1=0):0<T.length∧iJ T∧Fs.length≤40∧∀f∈Fs,0≤f.2.1∧f.2.1<T.length∧0≤f.2.2∧f.2.2<T.length:=by
 unfold fZ at h
 by_cases h1:40<Fs.length
 ·rw[if_pos h1]at h;exact absurd h (by simp)
 rw[if_neg h1]at h
 by_cases h2:(qU T).1≠0
 ·rw[if_pos h2]at h;exact absurd h h2
 rw[if_neg h2]at h;obtain⟨_,k1,k2⟩:=Bt (Decidable.not_not.1 h2)
 cases e:kZ T with
 |some b=>rw[e]at h;exact absurd h (by simp)
 |none=>rw[e]at h;exact⟨k1,k2,by omega,we h⟩
theorem wg:∀{vs:List cj} {known:List cQ} {i:Nat},(fT known i vs).1=0→fT known i vs=(0,0)∧∀v∈vs,1≤v.kind∧v.kind≤4∧isName v.name=true∧(v.kind=2→isName v.label=true)∧(v.kind=3→isWord v.label=true)∧((v.kind=1∨v.kind=4)→v.label=[])
 | [],_,_,_=>by rw[fT];exact⟨rfl,fun v hv=>by cases hv⟩
 |v::vs,known,i,h=>by
  rw[fT]at h⊢
  by_cases h1:v.kind<1∨4<v.kind
  ·rw[if_pos h1]at h;exact absurd h (by simp)
  rw[if_neg h1]at h⊢
  by_cases h2:isName v.name=false∨(v.kind=2∧isName v.label=false)∨(v.kind=3∧isWord v.label=false)
  ·rw[if_pos h2]at h;exact absurd h (by simp)
  rw[if_neg h2]at h⊢
  by_cases h3:v.name∈known
  ·rw[if_pos h3]at h;exact absurd h (by simp)
  rw[if_neg h3]at h⊢
  by_cases h4:(v.kind=1∨v.kind=4)∧v.label≠ []
  ·rw[if_pos h4]at h;exact absurd h (by simp)
  rw[if_neg h4]at h⊢;obtain⟨k1,k2⟩:=wg h;refine⟨k1,fun u hu=> ?_⟩
  rcases List.mem_cons.1 hu with rfl|hu
  ·simp only[not_or,not_and,Bool.not_eq_false,ne_eq,Decidable.not_not]at h2 h4
   exact⟨by omega,by omega,h2.1,h2.2.1,h2.2.2,h4⟩
  ·exact k2 u hu
theorem wh {n:Int}:∀{ls:List eH} {i:Nat},(gV n i ls).1=0→gV n i ls=(0,0)∧∀l∈ls,1≤l.kind∧l.kind≤5∧0≤l.a∧l.a<n∧0≤l.b∧l.b<n∧l.a≠l.b
 | [],_,_=>by rw[gV];exact⟨rfl,fun v hv=>by cases hv⟩
 |l::ls,i,h=>by
  rw[gV]at h⊢
  by_cases h1:l.kind<1∨5<l.kind
  ·rw[if_pos h1]at h;exact absurd h (by simp)
  rw[if_neg h1]at h⊢
  by_cases h2:l.a<0∨n≤l.a∨l.b<0∨n≤l.b
  ·rw[if_pos h2]at h;exact absurd h (by simp)
  rw[if_neg h2]at h⊢
  by_cases h3:l.a=l.b
  ·rw[if_pos h3]at h;exact absurd h (by simp)
  rw[if_neg h3]at h⊢;obtain⟨k1,k2⟩:=wh h;refine⟨k1,fun u hu=> ?_⟩
  rcases List.mem_cons.1 hu with rfl|hu
  ·exact⟨by omega,by omega,by omega,by omega,by omega,by omega,h3⟩
  ·exact k2 u hu
structure uF (vs:List cj)(ks:List eH):Prop where
 pos:0<vs.length
 Sz:vs.length≤4
 aZ:ks.length≤8
 var:∀v∈vs,1≤v.kind∧v.kind≤4∧isName v.name=true∧(v.kind=2→isName v.label=true)∧(v.kind=3→isWord v.label=true)∧((v.kind=1∨v.kind=4)→v.label=[])
 link:∀l∈ks,1≤l.kind∧l.kind≤5∧0≤l.a∧l.a<vs.length∧0≤l.b∧l.b<vs.length∧l.a≠l.b
theorem yO {vs:List cj}{ks:List eH}(h:(iy vs ks).1=0):iy vs ks=(0,0)∧uF vs ks:=by
 unfold iy at h⊢
 by_cases h1:4<vs.length∨8<ks.length
 ·rw[if_pos h1]at h;exact absurd h (by simp)
 rw[if_neg h1]at h⊢
 by_cases h2:vs.length=0
 ·rw[if_pos h2]at h;exact absurd h (by simp)
 rw[if_neg h2]at h⊢
 by_cases h3:(fT [] 0 vs).1≠0
 ·rw[if_pos h3]at h;exact absurd h h3
 rw[if_neg h3]at h⊢;obtain⟨k1,k2⟩:=wh h;exact⟨k1,by omega,by omega,by omega,(wg (Decidable.not_not.1 h3)).2,k2⟩
def kI (g:iV)(vs:List cj)(ks:List eH)(t:fG):List (List Nat):=lj (m7 g t 0 (-1) 0) ks vs []
def vX (g:iV)(vs:List cj)(ks:List eH)(t:fG):List (List Nat)×(Int×Int):=
 if(kP g).1≠0 then([],kP g)else if(iy vs ks).1≠0 then([],iy vs ks)else if(ja g t).1≠0 then([],ja g t)
 else if 500<(kI g vs ks t).length then([],(17,0))else(kI g vs ks t,(0,0))
theorem wi {T:List dc}{Fs:List mm}:∀{l:List qT} {known:List cQ} {i:Nat},(gG T Fs known i l).1=0→∀r∈l,1≤r.kids∧r.kids≤3∧0≤r.weight∧isName r.name=true
 | [],_,_,_=>fun r hr=>by cases hr
 |r::l,known,i,h=>by
  rw[gG]at h
  by_cases h1:isName r.name=false
  ·rw[if_pos h1]at h;exact absurd h (by simp)
  rw[if_neg h1]at h
  by_cases h2:r.name∈known
  ·rw[if_pos h2]at h;exact absurd h (by simp)
  rw[if_neg h2]at h
  by_cases h3:kh T Fs r≠0
  ·rw[if_pos h3]at h;exact absurd h h3
  rw[if_neg h3]at h;intro u hu
  rcases List.mem_cons.1 hu with rfl|hu
  ·have h4:=Decidable.not_not.1 h3
   unfold kh at h4
   by_cases h5:u.kids<1∨3<u.kids∨u.weight<0∨1000000<u.weight
   ·rw[if_pos h5]at h4;exact absurd h4 (by simp)
   ·exact⟨by omega,by omega,by omega,by simpa using h1⟩
  ·exact wi h u hu
theorem wj {T:List dc}{Fs:List mm}:∀{l:List Jk} {i:Nat},(gH T Fs i l).1=0→∀x∈l,isWord x.word=true
 | [],_,_=>fun r hr=>by cases hr
 |x::l,i,h=>by
  rw[gH]at h
  by_cases h3:pZ T Fs x≠0
  ·rw[if_pos h3]at h;exact absurd h h3
  rw[if_neg h3]at h;intro u hu
  rcases List.mem_cons.1 hu with rfl|hu
  ·have h4:=Decidable.not_not.1 h3
   unfold pZ at h4
   by_cases h5:isWord u.word=false
   ·rw[if_pos h5]at h4;exact absurd h4 (by simp)
   ·simpa using h5
  ·exact wj h u hu
structure T0 (g:iV):Prop where
 rules:g.rules.length≤40
 bA:g.bA.length≤100
 eK:∀r∈g.rules,1≤r.kids∧r.kids≤3∧0≤r.weight∧isName r.name=true
 word:∀x∈g.bA,isWord x.word=true
theorem DX {g:iV}(h:(kP g).1=0):T0 g:=by
 unfold kP at h
 by_cases h1:(fZ g.types g.bZ).1≠0
 ·rw[if_pos h1]at h;exact absurd h h1
 rw[if_neg h1]at h
 by_cases h2:g.bZ.length≤3
 ·rw[if_pos h2]at h;exact absurd h (by simp)
 rw[if_neg h2]at h
 by_cases h3:40<g.rules.length∨100<g.bA.length
 ·rw[if_pos h3]at h;exact absurd h (by simp)
 rw[if_neg h3]at h
 by_cases h4:(gG g.types g.bZ [] 0 g.rules).1≠0
 ·rw[if_pos h4]at h;exact absurd h h4
 rw[if_neg h4]at h
 by_cases h5:(gH g.types g.bZ 0 g.bA).1≠0
 ·rw[if_pos h5]at h;exact absurd h h5
 exact⟨by omega,by omega,wi (Decidable.not_not.1 h4),wj (Decidable.not_not.1 h5)⟩
structure PX (g:iV)(t:fG):Prop where
 uG:fq g.rules.length g.bA.length t
 size:oP t≤200
 leaves:mc t≤12
theorem AG {g:iV}{t:fG}(hg:(kP g).1=0)(h:(ja g t).1=0):PX g t:=by
 have hk:∀k∈g.rules.map qT.kids,1≤k:=fun k hk=>by
  obtain⟨r,hr,rfl⟩:=List.mem_map.1 hk;exact((DX hg).eK r hr).1
 unfold ja at h
 by_cases h1:(ik (g.rules.map qT.kids) g.bA.length t 1 0 ⟨0,0⟩).2.1≠0
 ·rw[if_pos h1]at h;exact absurd h h1
 rw[if_neg h1]at h;obtain⟨k1,k2,k3,k4⟩:=GU hk t 1 0 ⟨0,0⟩ (Decidable.not_not.1 h1)
 by_cases h2:12<(ik (g.rules.map qT.kids) g.bA.length t 1 0 ⟨0,0⟩).1.leaves
 ·rw[if_pos h2]at h;exact absurd h (by simp)
 rw[List.length_map]at k1
 dsimp only at k2 k4
 exact⟨k1,by omega,by omega⟩
theorem yP:ar Tryz.prog 96 0=some 0:=by kernel_rfl
theorem T1:aW Tryz.prog 26:=⟨_,Tryz.func26,rfl,by kernel_rfl⟩
theorem yQ:ar Tryz.prog 96 2=some 2:=by kernel_rfl
theorem HW:ar Tryz.prog 96 1=some 1:=by kernel_rfl
theorem PY:aW Tryz.prog 69:=⟨_,Tryz.func69,rfl,by kernel_rfl⟩
theorem HX:ar Tryz.prog 96 3=some 3:=by kernel_rfl
theorem T2:aW Tryz.prog 96:=⟨_,Tryz.func96,rfl,by kernel_rfl⟩
theorem nV:ar Tryz.prog 93 2=some 2:=by kernel_rfl
theorem yR:ar Tryz.prog 93 3=some 3:=by kernel_rfl
theorem yS:ar Tryz.prog 93 1=some 1:=by kernel_rfl
theorem Yw:aW Tryz.prog 95:=⟨_,Tryz.func95,rfl,by kernel_rfl⟩
theorem HY:ar Tryz.prog 93 4=some 4:=by kernel_rfl
theorem Yx:aW Tryz.prog 64:=⟨_,Tryz.func64,rfl,by kernel_rfl⟩
theorem C8:aW Tryz.prog 65:=⟨_,Tryz.func65,rfl,by kernel_rfl⟩
theorem nW:ar Tryz.prog 93 0=some 0:=by kernel_rfl
theorem Yy:aW Tryz.prog 67:=⟨_,Tryz.func67,rfl,by kernel_rfl⟩
theorem Yz:aW Tryz.prog 68:=⟨_,Tryz.func68,rfl,by kernel_rfl⟩
theorem eg:ar Tryz.prog 36 0=some 0:=by kernel_rfl
theorem kJ:ar Tryz.prog 36 1=some 1:=by kernel_rfl
theorem vY:aW Tryz.prog 24:=⟨_,Tryz.func24,rfl,by kernel_rfl⟩
theorem nX:(Tryz.prog.info? 71).map (·.size)=some 3:=by kernel_rfl
theorem LA:(Tryz.prog.info? 71).bind (fun i=>i.zero.map Value.cells)=some #[.string ⟨#[]⟩,.int .i64 0,.string ⟨#[]⟩]:=by kernel_rfl
theorem mS:ar Tryz.prog 71 0=some 0:=by kernel_rfl
theorem gO:ar Tryz.prog 71 1=some 1:=by kernel_rfl
theorem kK:ar Tryz.prog 71 2=some 2:=by kernel_rfl
theorem oV:(Tryz.prog.info? 56).map (·.size)=some 3:=by kernel_rfl
theorem HZ:(Tryz.prog.info? 56).bind (fun i=>i.zero.map Value.cells)=some #[.int .i64 0,.int .i64 0,.int .i64 0]:=by kernel_rfl
theorem pH:ar Tryz.prog 56 0=some 0:=by kernel_rfl
theorem lL:ar Tryz.prog 56 1=some 1:=by kernel_rfl
theorem lM:ar Tryz.prog 56 2=some 2:=by kernel_rfl
theorem Ey:aW Tryz.prog 71:=⟨_,Tryz.func71,rfl,by kernel_rfl⟩
theorem gP:ar Tryz.prog 39 0=some 0:=by kernel_rfl
theorem nY:ar Tryz.prog 39 1=some 1:=by kernel_rfl
theorem lN:ar Tryz.prog 39 2=some 2:=by kernel_rfl
theorem gZ:(Tryz.prog.info? 39).map (·.size)=some 3:=by kernel_rfl
theorem AH:(Tryz.prog.info? 39).bind (fun i=>i.zero.map Value.cells)=some #[.int .i64 0,.int .i64 0,.slice none 0 0]:=by kernel_rfl
theorem T6:aW Tryz.prog 70:=⟨_,Tryz.func70,rfl,by kernel_rfl⟩
theorem T7:(Tryz.prog.info? 134).bind (fun i=>i.zero.map Value.cells)=some #[.nilFunc]:=by kernel_rfl
theorem T8:(Tryz.prog.info? 134).map (·.size)=some 1:=by kernel_rfl
theorem Z0 (w:World):cm Tryz.prog 83 w= .ok #[(0,1),(1,1),(2,1),(3,1),(4,1),(5,1)] w:=by kernel_rfl
theorem Z1:(Tryz.prog.info? 83).bind (fun i=>i.zero.map Value.cells)=some #[.bool false,.string ⟨#[]⟩,.int .i64 0,.int .i64 0,.int .i64 0,.int .i64 0]:=by kernel_rfl
theorem nZ:(Tryz.prog.info? 83).map (·.size)=some 6:=by kernel_rfl
theorem T9:(Tryz.prog.info? 83).bind (·.zero)=some (Value.agg #[.bool false,.string ⟨#[]⟩,.int .i64 0,.int .i64 0,.int .i64 0,.int .i64 0]):=by kernel_rfl
theorem Z2:(Tryz.prog.info? 83).map (·.bytes)=some 56:=by kernel_rfl
theorem TA:(Tryz.prog.info? 78).map (·.size)=some 1:=by kernel_rfl
theorem yT:ar Tryz.prog 83 0=some 0:=by kernel_rfl
theorem yU:ar Tryz.prog 83 1=some 1:=by kernel_rfl
theorem TB:aW Tryz.prog 72:=⟨_,Tryz.func72,rfl,by kernel_rfl⟩
theorem Ha:ar Tryz.prog 83 3=some 3:=by kernel_rfl
theorem C9:ar Tryz.prog 83 5=some 5:=by kernel_rfl
theorem TC:(Tryz.prog.info? 78).bind (fun i=>i.zero.map Value.cells)=some #[.slice none 0 0]:=by kernel_rfl
theorem TD:(Tryz.prog.info? 135).bind (fun i=>i.zero.map Value.cells)=some #[.nilFunc]:=by kernel_rfl
theorem TE:(Tryz.prog.info? 135).map (·.size)=some 1:=by kernel_rfl
theorem CA:ar Tryz.prog 83 2=some 2:=by kernel_rfl
theorem Hb:ar Tryz.prog 83 4=some 4:=by kernel_rfl
theorem Hc:(Tryz.prog.info? 57).map (·.bytes)=some 24:=by kernel_rfl
theorem LB:(Tryz.prog.info? 44).map (·.size)=some 1:=by kernel_rfl
theorem Z3:aW Tryz.prog 33:=⟨_,Tryz.func33,rfl,by kernel_rfl⟩
theorem Z4:aW Tryz.prog 34:=⟨_,Tryz.func34,rfl,by kernel_rfl⟩
theorem TF:aW Tryz.prog 32:=⟨_,Tryz.func32,rfl,by kernel_rfl⟩
theorem Z5:aW Tryz.prog 29:=⟨_,Tryz.func29,rfl,by kernel_rfl⟩
theorem r4:(Tryz.prog.info? 36).map (·.size)=some 2:=by kernel_rfl
theorem Z6:aW Tryz.prog 7:=⟨_,Tryz.func7,rfl,by kernel_rfl⟩
theorem Z7:aW Tryz.prog 30:=⟨_,Tryz.func30,rfl,by kernel_rfl⟩
theorem Z8:aW Tryz.prog 31:=⟨_,Tryz.func31,rfl,by kernel_rfl⟩
theorem Z9:(Tryz.prog.info? 44).bind (fun i=>i.zero.map Value.cells)=some #[.slice none 0 0]:=by kernel_rfl
theorem ZA:(Tryz.prog.info? 57).bind (fun i=>i.zero.map Value.cells)=some #[.slice none 0 0]:=by kernel_rfl
theorem ZB:(Tryz.prog.info? 80).bind (fun i=>i.zero.map Value.cells)=some #[.nilFunc]:=by kernel_rfl
theorem ZC:(Tryz.prog.info? 80).map (·.size)=some 1:=by kernel_rfl
theorem Hd:aW Tryz.prog 16:=⟨_,Tryz.func16,rfl,by kernel_rfl⟩
theorem PZ (w:World):cm Tryz.prog 39 w= .ok #[(0,1),(1,1),(2,1)] w:=by kernel_rfl
theorem TG:(Tryz.prog.info? 39).bind (·.zero)=some (Value.agg #[.int .i64 0,.int .i64 0,.slice none 0 0]):=by kernel_rfl
theorem Ez {u2 u4:Value}(h2:u2.oneCell'=true)(h4:u4.oneCell'=true)(w:World):(Instr.build 83 #[(2,u2),(4,u4)]).run Tryz.prog w= .ok (.agg #[.bool false,.string ⟨#[]⟩,u2,.int .i64 0,u4,.int .i64 0]) w:=
 bc Z1 (Z0 w) (by simp[Instr.fill,J.br,J.aI h2,J.aI h4])
theorem wk {u0 u1:Value}(h0:u0.oneCell'=true)(h1:u1.oneCell'=true)(w:World):(Instr.build 39 #[(0,u0),(1,u1)]).run Tryz.prog w= .ok (.agg #[u0,u1,.slice none 0 0]) w:=
 bc AH (PZ w) (by simp[Instr.fill,J.br,J.aI h0,J.aI h1])
theorem F1 {u0 u2:Value}(h0:u0.oneCell'=true)(h2:u2.oneCell'=true)(w:World):(Instr.build 39 #[(0,u0),(2,u2)]).run Tryz.prog w= .ok (.agg #[u0,.int .i64 0,u2]) w:=
 bc AH (PZ w) (by simp[Instr.fill,J.br,J.aI h0,J.aI h2])
theorem LC {u2:Value}(h2:u2.oneCell'=true)(w:World):(Instr.build 39 #[(2,u2)]).run Tryz.prog w= .ok (.agg #[.int .i64 0,.int .i64 0,u2]) w:=
 bc AH (PZ w) (by simp[Instr.fill,J.br,J.aI h2])
mutual
theorem yV {rk:List Int}{nl:Nat}:∀(t:fG) (d ch:Nat) (s:zU),(ik rk nl t d ch s).2.1=0→s.leaves≤s.nodes→(ik rk nl t d ch s).1.nodes≤200∧(ik rk nl t d ch s).1.leaves≤(ik rk nl t d ch s).1.nodes
 | .mk r x l,d,ch,s,h,hs=>by
  rw[ik]at h⊢
  by_cases h1:200<s.nodes+1∨48<d
  ·rw[if_pos h1]at h;exact absurd h (by simp)
  rw[if_neg h1]at h⊢
  by_cases h2:r< -1∨rk.length≤r∨(r= -1∧(x<0∨nl≤x))
  ·rw[if_pos h2]at h;exact absurd h (by simp)
  rw[if_neg h2]at h⊢
  by_cases h3:0≤r∧x≠0
  ·rw[if_pos h3]at h;exact absurd h (by simp)
  rw[if_neg h3]at h⊢
  by_cases h4:(l.length:Int)≠(if 0≤r then rk.getD r.toNat 0 else 0)
  ·rw[if_pos h4]at h;exact absurd h (by simp)
  rw[if_neg h4]at h⊢
  by_cases h5:3<(if l.length=1 then ch+1 else 0)
  ·rw[if_pos h5]at h;exact absurd h (by simp)
  rw[if_neg h5]at h⊢;exact DY l _ _ _ h (show s.nodes+1≤200 by omega) (by dsimp only;split<;>omega)
theorem DY {rk:List Int}{nl:Nat}:∀(l:List fG) (d ch:Nat) (s:zU),(iZ rk nl l d ch s).2.1=0→s.nodes≤200→s.leaves≤s.nodes→(iZ rk nl l d ch s).1.nodes≤200∧(iZ rk nl l d ch s).1.leaves≤(iZ rk nl l d ch s).1.nodes
 | [],d,ch,s,_,hs,hl=>by rw[iZ];exact⟨hs,hl⟩
 |x::l,d,ch,s,h,hs,hl=>by
  rw[iZ]at h⊢
  by_cases h1:(ik rk nl x d ch s).2.1≠0
  ·rw[if_pos h1]at h;exact absurd h h1
  rw[if_neg h1]at h⊢;obtain⟨a1,a2⟩:=yV x d ch s (Decidable.not_not.1 h1) hl;exact DY l d ch _ h a1 a2
end
mutual
theorem He {rk:List Int}{nl:Nat}:∀(t:fG) (d ch:Nat) (s:zU),(ik rk nl t d ch s).2.1=0→(ik rk nl t d ch s).2=(0,0)
 | .mk r x l,d,ch,s,h=>by
  rw[ik]at h⊢
  by_cases h1:200<s.nodes+1∨48<d
  ·rw[if_pos h1]at h;exact absurd h (by simp)
  rw[if_neg h1]at h⊢
  by_cases h2:r< -1∨rk.length≤r∨(r= -1∧(x<0∨nl≤x))
  ·rw[if_pos h2]at h;exact absurd h (by simp)
  rw[if_neg h2]at h⊢
  by_cases h3:0≤r∧x≠0
  ·rw[if_pos h3]at h;exact absurd h (by simp)
  rw[if_neg h3]at h⊢
  by_cases h4:(l.length:Int)≠(if 0≤r then rk.getD r.toNat 0 else 0)
  ·rw[if_pos h4]at h;exact absurd h (by simp)
  rw[if_neg h4]at h⊢
  by_cases h5:3<(if l.length=1 then ch+1 else 0)
  ·rw[if_pos h5]at h;exact absurd h (by simp)
  rw[if_neg h5]at h⊢;exact wm l _ _ _ h
theorem wm {rk:List Int}{nl:Nat}:∀(l:List fG) (d ch:Nat) (s:zU),(iZ rk nl l d ch s).2.1=0→(iZ rk nl l d ch s).2=(0,0)
 | [],d,ch,s,_=>by rw[iZ]
 |x::l,d,ch,s,h=>by
  rw[iZ]at h⊢
  by_cases h1:(ik rk nl x d ch s).2.1≠0
  ·rw[if_pos h1]at h;exact absurd h h1
  rw[if_neg h1]at h⊢;exact wm l d ch _ h
end
theorem NQ (rk:List Int)(nl:Nat)(x:bh)(d ch:Nat)(s:zU):ik rk nl (an x) d ch s=
 if 200<s.nodes+1∨48<d then(⟨s.nodes+1,s.leaves⟩,1,(s.nodes:Int))
 else if x.eK< -1∨rk.length≤x.eK∨(x.eK= -1∧(x.lex<0∨nl≤x.lex))then(⟨s.nodes+1,s.leaves⟩,3,(s.nodes:Int))
 else if 0≤x.eK∧x.lex≠0 then(⟨s.nodes+1,s.leaves⟩,5,(s.nodes:Int))
 else if(x.kids.length:Int)≠(if 0≤x.eK then rk.getD x.eK.toNat 0 else 0)then(⟨s.nodes+1,if 0≤x.eK then s.leaves else s.leaves+1⟩,9,(s.nodes:Int))
 else if 3<(if x.kids.length=1 then ch+1 else 0)then(⟨s.nodes+1,if 0≤x.eK then s.leaves else s.leaves+1⟩,14,(s.nodes:Int))
 else iZ rk nl (x.kids.map an) (d+1) (if x.kids.length=1 then ch+1 else 0) ⟨s.nodes+1,if 0≤x.eK then s.leaves else s.leaves+1⟩:=by
 cases x with
 |mk r y v l=>rw[an,gy,ik,List.length_map];rfl
theorem wq {rk:List Int}{nl:Nat}{l:List bh}{k:Nat}{y:bh}(h:l[k]?=some y)(d ch:Nat)(s:zU):iZ rk nl ((l.map an).drop k) d ch s=if(ik rk nl (an y) d ch s).2.1≠0 then ik rk nl (an y) d ch s else iZ rk nl ((l.map an).drop (k+1)) d ch (ik rk nl (an y) d ch s).1:=by
 rw[bz (show(l.map an)[k]?=some (an y) by rw[List.getElem?_map,h];rfl),iZ]
theorem AJ {rk:List Int}{nl:Nat}{l:List bh}{k:Nat}(h:l.length≤k)(d ch:Nat)(s:zU):iZ rk nl ((l.map an).drop k) d ch s=(s,0,0):=by
 rw[List.drop_of_length_le (by rw[List.length_map];exact h),iZ]
theorem DZ (g:iX)(t:bh):ja (fV g) (an t)=if(ik (g.rules.map bV.kids) g.bA.length (an t) 1 0 ⟨0,0⟩).2.1≠0 then(ik (g.rules.map bV.kids) g.bA.length (an t) 1 0 ⟨0,0⟩).2
 else if 12<(ik (g.rules.map bV.kids) g.bA.length (an t) 1 0 ⟨0,0⟩).1.leaves then(2,-2)else(0,0):=by
 have e1:(fV g).rules.map qT.kids=g.rules.map bV.kids:=by show(g.rules.map mH).map qT.kids=_;rw[List.map_map];rfl
 have e2:(fV g).bA.length=g.bA.length:=List.length_map ..
 unfold ja;rw[e1,e2]
set_option maxHeartbeats 4000000 in
theorem vZ (bn bg bl bw:Nat)(g:iX):∀(x:bh) (d ch:Nat) (s:zU),db.wf x→d≤100→ch≤100→s.nodes≤200→s.leaves≤s.nodes→fF Tryz.prog 70 ([er x,iv (d:Nat),iv (ch:Nat)]++ [Value.pointer (some ⟨bn,0,none⟩),Value.pointer (some ⟨bg,0,none⟩),Value.pointer (some ⟨bl,0,none⟩),Value.pointer (some ⟨bw,0,none⟩)]).toArray [aG (cB x),ae bn (.cells [iv ((s.nodes:Nat):Int)].toArray 3 (0,0)),ae bg (.cells [g.tv.1,g.fv.1,g.rv.1,g.xv.1,g.start.nv.1].toArray 32 (0,0)),ae bl (.cells [iv ((s.leaves:Nat):Int)].toArray 3 (0,0)),ae bw (.cells [(.func (.func 70) #[] [Value.pointer (some ⟨bn,0,none⟩),Value.pointer (some ⟨bg,0,none⟩),Value.pointer (some ⟨bl,0,none⟩),Value.pointer (some ⟨bw,0,none⟩)].toArray)].toArray 134 (0,0)),aG (sl cA g.rv.1 g.rules),aG (sl cI g.xv.1 g.bA)] (fun v H'=>v=fv (ik (g.rules.map bV.kids) g.bA.length (an x) d ch s).2∧H'=[ae bn (.cells [iv (((ik (g.rules.map bV.kids) g.bA.length (an x) d ch s).1.nodes:Nat):Int)].toArray 3 (0,0)),ae bg (.cells [g.tv.1,g.fv.1,g.rv.1,g.xv.1,g.start.nv.1].toArray 32 (0,0)),ae bl (.cells [iv (((ik (g.rules.map bV.kids) g.bA.length (an x) d ch s).1.leaves:Nat):Int)].toArray 3 (0,0)),ae bw (.cells [(.func (.func 70) #[] [Value.pointer (some ⟨bn,0,none⟩),Value.pointer (some ⟨bg,0,none⟩),Value.pointer (some ⟨bl,0,none⟩),Value.pointer (some ⟨bw,0,none⟩)].toArray)].toArray 134 (0,0))]):=by
 intro x
 induction x using bh.ind
 rename_i x ih
 intro d ch s hw hd hch TH sc;refine fF.body (args:=[er x,iv (d:Nat),iv (ch:Nat)]++ [Value.pointer (some ⟨bn,0,none⟩),Value.pointer (some ⟨bg,0,none⟩),Value.pointer (some ⟨bl,0,none⟩),Value.pointer (some ⟨bw,0,none⟩)]) 118 Tryz.func70 rfl Tryz.ntmps70 rfl (fun c=> ?_);refine St.seq ?_
 have cu:=NQ (g.rules.map bV.kids) g.bA.length x d ch s
 have qa:(g.rules.map bV.kids).length=g.rules.length:=List.length_map ..
 refine St.nE x ?_;refine St.wf x.kv.1 (fun lq tB=> ?_);obtain⟨sn,qb⟩:=s
 dsimp only at cu TH sc⊢
 refine St.wf g.rv.1 (fun _ TI=> ?_);refine St.wf g.xv.1 (fun _ TJ=> ?_)
 generalize zy:(if 0≤x.eK then(g.rules.map bV.kids).getD x.eK.toNat 0 else 0)=kn at cu
 generalize Jq:(if 0≤x.eK then qb else qb+1)=lv at cu
 generalize vJ:(if x.kids.length=1 then ch+1 else 0)=c2 at cu
 refine St.rg ?_;refine St.cV (.mk rfl) rfl (fun b7=> ?_);refine St.alloc dF rfl (fun jc=> ?_);refine St.nn (St.sr ?_);refine St.ee (Ev.l0 (.mk rfl) bP) ?_;refine St.ak ?_;refine St.nn (St.sr ?_);refine St.ee (Ev.l0 (.mk rfl) bP) ?_;refine St.ee Ev.a0 ?_;refine St.cW (.mk rfl) (.mk rfl) cr rfl (by rfl) ?_;refine St.gg bn (L':=[iv ((sn+1:Nat):Int)]) rfl ?_;refine St.nn (St.sr ?_);refine St.ak ?_;refine St.nn ?_;refine St.join (ι:=Unit) (fun u T=>(12,iv kn)::T) (fun u=>[ae b7 (.cells (k6 x).toArray 39 (0,0)),ae jc (.cells [iv 0,iv 0].toArray 42 (0,0)),ae bn (.cells [iv ((sn+1:Nat):Int)].toArray 3 (0,0)),ae bg (.cells [g.tv.1,g.fv.1,g.rv.1,g.xv.1,g.start.nv.1].toArray 32 (0,0)),ae bl (.cells [iv ((lv:Nat):Int)].toArray 3 (0,0)),ae bw (.cells [(.func (.func 70) #[] [Value.pointer (some ⟨bn,0,none⟩),Value.pointer (some ⟨bg,0,none⟩),Value.pointer (some ⟨bl,0,none⟩),Value.pointer (some ⟨bw,0,none⟩)].toArray)].toArray 134 (0,0)),aG (sl db x.kv.1 x.kids),aG (aY cB x.kids),aG (sl cA g.rv.1 g.rules),aG (sl cI g.xv.1 g.bA)]) (fun u=>(ik (g.rules.map bV.kids) g.bA.length (an x) d ch ⟨sn,qb⟩=if(x.kids.length:Int)≠kn then(⟨sn+1,lv⟩,9,(sn:Int))else if 3<c2 then(⟨sn+1,lv⟩,14,(sn:Int))else iZ (g.rules.map bV.kids) g.bA.length (x.kids.map an) (d+1) c2 ⟨sn+1,lv⟩)∧sn+1≤200∧d≤48) (aE.cons 1 rfl (aE.cons 2 rfl (aE.cons 6 rfl (aE.cons 7 rfl (aE.cons 10 rfl (aE.cons 11 rfl aE.nil)))))) ?_ ?_
 ·refine St.block (St.sr ?_)
  refine St.ee (Ev.l0 (.mk rfl) bP) ?_;refine St.ee Ev.qn ?_;refine St.mv ?_;refine St.gf _ rfl rfl (fun hg=>Ev.move (.mk rfl)) rfl ?_;refine St.gf _ rfl rfl (fun hg=>Ev.gtr (aL.gv rfl hg) (.mk rfl)) rfl ?_;refine St.ee Ev.o0 ?_;refine St.ak ?_;refine St.nn ?_;refine St.cond _ rfl (fun qs=> ?_) (fun qs=> ?_)
  ·try simp only[aC]at qs
   rw[if_pos (by omega)]at cu;refine St.sr ?_;refine St.mv ?_;refine St.ee (Ev.call (eR 1 sn) Ey (.cons (.mk rfl) (.cons (.mk rfl) .nil))) ?_;refine St.sA (.mk rfl) (.mk rfl) ay ?_;refine St.nn (St.aX (St.aM (St.aB ?_)));refine St.rU [_] [ae bn (.cells [iv ((sn+1:Nat):Int)].toArray 3 (0,0)),ae bg (.cells [g.tv.1,g.fv.1,g.rv.1,g.xv.1,g.start.nv.1].toArray 32 (0,0)),ae bl (.cells [iv ((qb:Nat):Int)].toArray 3 (0,0)),ae bw (.cells [(.func (.func 70) #[] [Value.pointer (some ⟨bn,0,none⟩),Value.pointer (some ⟨bg,0,none⟩),Value.pointer (some ⟨bl,0,none⟩),Value.pointer (some ⟨bw,0,none⟩)].toArray)].toArray 134 (0,0))] Tryz.results70 ?_;rw[cu];exact⟨rfl,rfl⟩
  ·try simp only[aC]at qs
   rw[if_neg (by omega)]at cu;refine St.sr ?_;refine St.ee (Ev.aD (.mk rfl) gP) ?_;refine St.ee (Ev.l0 (.mk rfl) bP) ?_;refine St.ee Ev.dn ?_;refine St.mv ?_;refine St.gf _ rfl rfl (fun hg=>Ev.aD (.mk rfl) gP) rfl ?_;refine St.gf _ rfl rfl (fun hg=>Ev.cN (aL.gv rfl hg) bP trivial (by rfl)) rfl ?_;refine St.gf _ rfl rfl (fun hg=>Ev.aD (.mk rfl) jS) rfl ?_;refine St.gf _ rfl rfl (fun hg=>Ev.cN (aL.gv rfl hg) j0 trivial (by rfl)) rfl ?_;refine St.gf _ rfl rfl (fun hg=>Ev.ao (aL.gv rfl hg) j0) rfl ?_;refine St.gf _ rfl rfl (fun hg=>Ev.geq (aL.gv rfl hg) (aL.gv rfl hg)) rfl ?_;refine St.ee Ev.o0 ?_;refine St.mv ?_;refine St.gf _ rfl rfl (fun hg=>Ev.aD (.mk rfl) gP) rfl ?_;refine St.gf _ rfl rfl (fun hg=>Ev.cN (aL.gv rfl hg) bP trivial (by rfl)) rfl ?_;refine St.gf _ rfl rfl (fun hg=>Ev.eql (aL.gv rfl hg) (.mk rfl)) rfl ?_;refine St.gf _ rfl rfl (fun hg=>Ev.move (aL.gv rfl hg)) rfl ?_;refine St.oZ _ rfl rfl (fun hg=>Ev.aD (.mk rfl) nY) rfl ?_;refine St.oZ _ rfl rfl (fun hg=>Ev.cN (aL.gv rfl hg) bP trivial (by rfl)) rfl ?_;refine St.oZ _ rfl rfl (fun hg=>Ev.lss (aL.gv rfl hg) (.mk rfl)) rfl ?_;refine St.oZ _ rfl rfl (fun hg=>Ev.move (aL.gv rfl hg)) rfl ?_;refine St.lR _ rfl rfl (fun hg=>Ev.aD (.mk rfl) nY) rfl ?_;refine St.lR _ rfl rfl (fun hg=>Ev.cN (aL.gv rfl hg) bP trivial (by rfl)) rfl ?_;refine St.lR _ rfl rfl (fun hg=>Ev.aD (.mk rfl) jR) rfl ?_;refine St.lR _ rfl rfl (fun hg=>Ev.cN (aL.gv rfl hg) j1 trivial (by rfl)) rfl ?_;refine St.lR _ rfl rfl (fun hg=>Ev.ao (aL.gv rfl hg) j1) rfl ?_;refine St.lR _ rfl rfl (fun hg=>Ev.geq (aL.gv rfl hg) (aL.gv rfl hg)) rfl ?_;refine St.oZ _ rfl rfl (fun hg=>Ev.or (aL.gv rfl hg) (fun hp=>aL.gv rfl (hN hg hp))) rfl ?_;refine St.gf _ rfl rfl (fun hg=>Ev.and (aL.gv rfl hg) (fun hp=>aL.gv rfl (hN hg hp))) rfl ?_;refine St.ee Ev.o0 ?_;refine St.ak ?_;refine St.nn ?_;refine St.cond _ rfl (fun qt=> ?_) (fun qt=> ?_)
   ·try simp only[aC]at qt
    rw[if_pos (by omega)]at cu;refine St.sr ?_;refine St.mv ?_;refine St.ee (Ev.call (eR 3 sn) Ey (.cons (.mk rfl) (.cons (.mk rfl) .nil))) ?_;refine St.sA (.mk rfl) (.mk rfl) ay ?_;refine St.nn (St.aX (St.aM (St.aB ?_)));refine St.rU [_] [ae bn (.cells [iv ((sn+1:Nat):Int)].toArray 3 (0,0)),ae bg (.cells [g.tv.1,g.fv.1,g.rv.1,g.xv.1,g.start.nv.1].toArray 32 (0,0)),ae bl (.cells [iv ((qb:Nat):Int)].toArray 3 (0,0)),ae bw (.cells [(.func (.func 70) #[] [Value.pointer (some ⟨bn,0,none⟩),Value.pointer (some ⟨bg,0,none⟩),Value.pointer (some ⟨bl,0,none⟩),Value.pointer (some ⟨bw,0,none⟩)].toArray)].toArray 134 (0,0))] Tryz.results70 ?_;rw[cu];exact⟨rfl,rfl⟩
   ·try simp only[aC]at qt
    rw[if_neg (by omega)]at cu;refine St.sr ?_;refine St.ee (Ev.aD (.mk rfl) gP) ?_;refine St.ee (Ev.l0 (.mk rfl) bP) ?_;refine St.ee Ev.qV ?_;refine St.mv ?_;refine St.gt _ rfl rfl (fun hg=>Ev.aD (.mk rfl) nY) rfl ?_;refine St.gt _ rfl rfl (fun hg=>Ev.cN (aL.gv rfl hg) bP trivial (by rfl)) rfl ?_;refine St.gt _ rfl rfl (fun hg=>Ev.neq (aL.gv rfl hg) (.mk rfl)) rfl ?_;refine St.ee Ev.n0 ?_;refine St.ak ?_;refine St.nn ?_;refine St.cond _ rfl (fun oB=> ?_) (fun oB=> ?_)
    ·try simp only[aC]at oB
     rw[if_pos (by omega)]at cu;refine St.sr ?_;refine St.mv ?_;refine St.ee (Ev.call (eR 5 sn) Ey (.cons (.mk rfl) (.cons (.mk rfl) .nil))) ?_;refine St.sA (.mk rfl) (.mk rfl) ay ?_;refine St.nn (St.aX (St.aM (St.aB ?_)));refine St.rU [_] [ae bn (.cells [iv ((sn+1:Nat):Int)].toArray 3 (0,0)),ae bg (.cells [g.tv.1,g.fv.1,g.rv.1,g.xv.1,g.start.nv.1].toArray 32 (0,0)),ae bl (.cells [iv ((qb:Nat):Int)].toArray 3 (0,0)),ae bw (.cells [(.func (.func 70) #[] [Value.pointer (some ⟨bn,0,none⟩),Value.pointer (some ⟨bg,0,none⟩),Value.pointer (some ⟨bl,0,none⟩),Value.pointer (some ⟨bw,0,none⟩)].toArray)].toArray 134 (0,0))] Tryz.results70 ?_;rw[cu];exact⟨rfl,rfl⟩
    ·try simp only[aC]at oB
     rw[if_neg (by omega)]at cu;refine St.sr ?_;refine St.ee (Ev.aD (.mk rfl) gP) ?_;refine St.ee (Ev.l0 (.mk rfl) bP) ?_;refine St.ee Ev.qV ?_;refine St.ak ?_;refine St.nn ?_;refine St.cond _ rfl (fun AK=> ?_) (fun AK=> ?_)
     ·try simp only[aC]at AK
      obtain⟨ru,BE⟩:=aO (show x.eK.toNat<g.rules.length by omega)
      have Hg:kn=ru.kids:=by rw[←zy,if_pos (by omega),List.getD_eq_getElem?_getD,List.getElem?_map,BE];rfl
      have Jp:lv=qb:=by rw[←Jq,if_pos (by omega)]
      refine St.rg ?_;refine St.ee (Ev.aD (.mk rfl) jS) ?_;refine St.ee (Ev.l0 (.mk rfl) j0) ?_;refine St.ee (Ev.aD (.mk rfl) gP) ?_;refine St.ee (Ev.l0 (.mk rfl) bP) ?_;refine St.ee (Ev.aR (k:=x.eK.toNat) (.mk rfl) (.mk rfl) j0 nL (by omega) (by omega)) ?_;refine St.ee (Ev.e8 (.mk rfl) (by omega) nV) ?_;refine St.ee (Ev.ff (.mk rfl) BE bP trivial rfl) ?_;refine St.slot 83 (iv kn) rfl (congrArg iv Hg.symm) ?_;refine St.gg bl (L':=[iv ((lv:Nat):Int)]) (by rw[Jp]) ?_;refine St.ak ?_;refine St.nil (St.aN (St.aA ?_));refine St.mE () ⟨cu,by omega,by omega⟩
     ·try simp only[aC]at AK
      have Hg:kn=0:=by rw[←zy,if_neg (by omega)]
      have Jp:lv=qb+1:=by rw[←Jq,if_neg (by omega)]
      refine St.slot 12 (iv kn) rfl (congrArg iv Hg.symm) ?_;refine St.rg ?_;refine St.ee (Ev.l0 (.mk rfl) bP) ?_;refine St.ee Ev.a0 ?_;refine St.cW (.mk rfl) (.mk rfl) cr rfl (by rfl) ?_;refine St.gg bl (L':=[iv ((lv:Nat):Int)]) (by rw[Jp];rfl) ?_;refine St.nil (St.aN (St.aA ?_));refine St.mE () ⟨cu,by omega,by omega⟩
 ·rintro _ ⟨cu,ZD,ZE⟩
  refine St.seq (St.sr ?_);refine St.ee (Ev.aD (.mk rfl) lN) ?_;refine St.ee (Ev.l0 (.mk rfl) jP) ?_;refine St.ee (Ev.ao (.mk rfl) jP) ?_;refine St.mv ?_;refine St.ee Ev.k9 ?_;refine St.nn ?_;refine St.cond _ rfl (fun vb=> ?_) (fun vb=> ?_)
  ·try simp only[aC]at vb
   rw[if_pos (by omega)]at cu;refine St.sr ?_;refine St.mv ?_;refine St.ee (Ev.call (eR 9 sn) Ey (.cons (.mk rfl) (.cons (.mk rfl) .nil))) ?_;refine St.sA (.mk rfl) (.mk rfl) ay ?_;refine St.nn (St.aX (St.aB ?_));refine St.rU [_] [ae bn (.cells [iv ((sn+1:Nat):Int)].toArray 3 (0,0)),ae bg (.cells [g.tv.1,g.fv.1,g.rv.1,g.xv.1,g.start.nv.1].toArray 32 (0,0)),ae bl (.cells [iv ((lv:Nat):Int)].toArray 3 (0,0)),ae bw (.cells [(.func (.func 70) #[] [Value.pointer (some ⟨bn,0,none⟩),Value.pointer (some ⟨bg,0,none⟩),Value.pointer (some ⟨bl,0,none⟩),Value.pointer (some ⟨bw,0,none⟩)].toArray)].toArray 134 (0,0))] Tryz.results70 ?_;rw[cu];exact⟨rfl,rfl⟩
  ·try simp only[aC]at vb
   rw[if_neg (by omega)]at cu;refine St.skip (St.aA ?_);refine St.join (ι:=Unit) (fun u T=>(2,iv (c2:Nat))::T) (fun u=>[ae b7 (.cells (k6 x).toArray 39 (0,0)),ae jc (.cells [iv 0,iv 0].toArray 42 (0,0)),ae bn (.cells [iv ((sn+1:Nat):Int)].toArray 3 (0,0)),ae bg (.cells [g.tv.1,g.fv.1,g.rv.1,g.xv.1,g.start.nv.1].toArray 32 (0,0)),ae bl (.cells [iv ((lv:Nat):Int)].toArray 3 (0,0)),ae bw (.cells [(.func (.func 70) #[] [Value.pointer (some ⟨bn,0,none⟩),Value.pointer (some ⟨bg,0,none⟩),Value.pointer (some ⟨bl,0,none⟩),Value.pointer (some ⟨bw,0,none⟩)].toArray)].toArray 134 (0,0)),aG (sl db x.kv.1 x.kids),aG (aY cB x.kids),aG (sl cA g.rv.1 g.rules),aG (sl cI g.xv.1 g.bA)]) (fun u=>True) (aE.cons 1 rfl (aE.cons 6 rfl (aE.cons 7 rfl (aE.cons 10 rfl (aE.cons 11 rfl aE.nil))))) ?_ ?_
   ·refine St.sr ?_
    refine St.mv ?_;refine St.ee Ev.a0 ?_;refine St.ak ?_;refine St.nn (St.sr ?_);refine St.mv ?_;refine St.ee Ev.k9 ?_;refine St.nn ?_;refine St.cond _ rfl (fun Pa=> ?_) (fun Pa=> ?_)
    ·try simp only[aC]at Pa
     have LD:c2=0:=by rw[←vJ,if_neg (by omega)]
     refine St.rg ?_;refine St.ak ?_;refine St.nn ?_;refine St.mE () trivial
    ·try simp only[aC]at Pa
     have LD:c2=ch+1:=by rw[←vJ,if_pos (by omega)]
     refine St.skip (St.aA ?_);refine St.mE () trivial
   ·intro _ _
    refine St.seq (St.sr ?_);refine St.mv ?_;refine St.ee Ev.qn ?_;refine St.nn ?_;refine St.cond _ rfl (fun Fv=> ?_) (fun Fv=> ?_)
    ·try simp only[aC]at Fv
     rw[if_pos (by omega)]at cu;refine St.sr ?_;refine St.mv ?_;refine St.ee (Ev.call (eR 14 sn) Ey (.cons (.mk rfl) (.cons (.mk rfl) .nil))) ?_;refine St.sA (.mk rfl) (.mk rfl) ay ?_;refine St.nn (St.aX (St.aB ?_));refine St.rU [_] [ae bn (.cells [iv ((sn+1:Nat):Int)].toArray 3 (0,0)),ae bg (.cells [g.tv.1,g.fv.1,g.rv.1,g.xv.1,g.start.nv.1].toArray 32 (0,0)),ae bl (.cells [iv ((lv:Nat):Int)].toArray 3 (0,0)),ae bw (.cells [(.func (.func 70) #[] [Value.pointer (some ⟨bn,0,none⟩),Value.pointer (some ⟨bg,0,none⟩),Value.pointer (some ⟨bl,0,none⟩),Value.pointer (some ⟨bw,0,none⟩)].toArray)].toArray 134 (0,0))] Tryz.results70 ?_;rw[cu];exact⟨rfl,rfl⟩
    ·try simp only[aC]at Fv
     rw[if_neg (by omega)]at cu;refine St.skip (St.aA (St.seq (St.sr ?_)));refine St.ee (Ev.aD (.mk rfl) lN) ?_;refine St.ee (Ev.l0 (.mk rfl) jP) ?_;refine St.ee (Ev.ao (.mk rfl) jP) ?_;refine St.mv ?_;refine St.nn (St.block ?_);refine St.mf (ι:=Nat) (κ:=zU) (fun k z T=>(102,iv k)::T) (fun k z=>[ae jc (.cells [iv 0,iv 0].toArray 42 (0,0)),ae bn (.cells [iv ((z.nodes:Nat):Int)].toArray 3 (0,0)),ae bg (.cells [g.tv.1,g.fv.1,g.rv.1,g.xv.1,g.start.nv.1].toArray 32 (0,0)),ae bl (.cells [iv ((z.leaves:Nat):Int)].toArray 3 (0,0)),ae bw (.cells [(.func (.func 70) #[] [Value.pointer (some ⟨bn,0,none⟩),Value.pointer (some ⟨bg,0,none⟩),Value.pointer (some ⟨bl,0,none⟩),Value.pointer (some ⟨bw,0,none⟩)].toArray)].toArray 134 (0,0)),aG (sl db x.kv.1 x.kids),aG (aY cB x.kids),aG (sl cA g.rv.1 g.rules),aG (sl cI g.xv.1 g.bA)]) (fun k z=>k≤x.kids.length∧ik (g.rules.map bV.kids) g.bA.length (an x) d ch ⟨sn,qb⟩=iZ (g.rules.map bV.kids) g.bA.length ((x.kids.map an).drop k) (d+1) c2 z∧z.nodes≤200∧z.leaves≤z.nodes) (fun k z=>x.kids.length-k) 0 ⟨sn+1,lv⟩ (aE.cons 1 rfl (aE.cons 2 rfl (aE.cons 6 rfl (aE.cons 10 rfl (aE.cons 100 rfl (aE.cons 101 rfl aE.nil)))))) ⟨Nat.zero_le _,cu,by dsimp only;omega,by dsimp only;rw[←Jq];split<;>omega⟩ ?_;rintro k ⟨zn,zl⟩ ⟨hk,F2,TK,K0⟩
     dsimp only at TK K0⊢
     refine St.sr ?_;refine St.ee Ev.dn ?_;refine St.nn (St.seq ?_);refine St.cond _ rfl (fun na=> ?_) (fun na=> ?_)
     ·try simp only[aC]at na
      obtain⟨y,hy⟩:=aO (show k<x.kids.length by omega)
      have lr:=List.mem_of_getElem? hy
      refine St.cD cB x.kids (x:=y) lr ?_
      have jJ:=wq (rk:=(g.rules.map bV.kids)) (nl:=g.bA.length) hy (d+1) c2 ⟨zn,zl⟩
      refine St.skip (St.aA (St.seq (St.block (St.sr ?_))));refine St.ee (Ev.aR (k:=k) (.mk rfl) (.mk rfl) jP gZ (by omega) (by omega)) ?_;refine St.ee (Ev.fg (.mk rfl) hy lk trivial gZ ei.eq) ?_;refine St.alloc AH rfl (fun oU=> ?_);refine St.sA (.mk rfl) (.mk rfl) gZ ?_ (h1:=(by simp only[List.all_cons,List.all_nil,Bool.and_true,Bool.and_eq_true];exact⟨rfl,rfl,y.kv.2⟩));refine St.nn (St.seq ?_);refine St.dup (sl cA g.rv.1 g.rules) ?_;refine St.dup (sl cI g.xv.1 g.bA) ?_;refine St.rg ?_;refine St.ee (Ev.l0 (.mk rfl) Tryz.underlying134) ?_;refine St.ee (Ev.bF (.mk rfl) lk trivial (by exact gZ)) ?_;refine St.mv ?_;refine St.ee Ev.a0 ?_;refine St.slot 109 (iv ((d+1:Nat):Int)) rfl rfl ?_;refine St.mv ?_;refine St.dU (ih y lr (d+1) c2 ⟨zn,zl⟩ (lq y lr) (by omega) (by omega) TK K0) T6 (.mk rfl) (.cons (.mk rfl) (.cons (.mk rfl) (.cons (.mk rfl) .nil))) rfl ?_;rintro adZ _ ⟨rfl,rfl⟩;refine St.OM ?_;refine St.alloc dF rfl (fun b15=> ?_);refine St.sA (.mk rfl) (.mk rfl) ay ?_;refine St.nn (St.sr ?_);refine St.ee (Ev.aD (.mk rfl) cX) ?_;refine St.ee (Ev.l0 (.mk rfl) bP) ?_;refine St.ee Ev.k9 ?_;refine St.nn ?_;refine St.cond _ rfl (fun Pb=> ?_) (fun Pb=> ?_)
      ·skip
       rw[if_pos (show(ik (g.rules.map bV.kids) g.bA.length (an y) (d+1) c2 ⟨zn,zl⟩).2.1≠0 by simpa using Pb)]at jJ;rw[jJ]at F2;refine St.sr ?_;refine St.ee (Ev.bF (.mk rfl) fl trivial (by exact ay)) ?_;refine St.sA (.mk rfl) (.mk rfl) ay ?_;refine St.nn (St.aX (St.aM (St.aB (St.aB (St.aM (St.aB ?_))))));refine St.rU [_] [ae bn (.cells [iv (((ik (g.rules.map bV.kids) g.bA.length (an y) (d+1) c2 ⟨zn,zl⟩).1.nodes:Nat):Int)].toArray 3 (0,0)),ae bg (.cells [g.tv.1,g.fv.1,g.rv.1,g.xv.1,g.start.nv.1].toArray 32 (0,0)),ae bl (.cells [iv (((ik (g.rules.map bV.kids) g.bA.length (an y) (d+1) c2 ⟨zn,zl⟩).1.leaves:Nat):Int)].toArray 3 (0,0)),ae bw (.cells [(.func (.func 70) #[] [Value.pointer (some ⟨bn,0,none⟩),Value.pointer (some ⟨bg,0,none⟩),Value.pointer (some ⟨bl,0,none⟩),Value.pointer (some ⟨bw,0,none⟩)].toArray)].toArray 134 (0,0))] Tryz.results70 ?_
       rw[F2];exact⟨rfl,rfl⟩
      ·skip
       have r5:¬(ik (g.rules.map bV.kids) g.bA.length (an y) (d+1) c2 ⟨zn,zl⟩).2.1≠0:=by simpa using Pb
       rw[if_neg r5]at jJ
       have fR:=yV (an y) (d+1) c2 ⟨zn,zl⟩ (Decidable.not_not.1 r5) K0
       refine St.skip (St.aN (St.aA (St.rg ?_)));refine St.ee Ev.a0 ?_;refine St.mv ?_;refine St.nn ?_;refine St.jb (k+1) (ik (g.rules.map bV.kids) g.bA.length (an y) (d+1) c2 ⟨zn,zl⟩).1 ⟨by omega,F2.trans jJ,fR.1,fR.2⟩
     ·try simp only[aC]at na
      rw[AJ (by omega)]at F2;refine St.exit (St.aF (St.aF (St.bH (St.aA (St.sr ?_)))));refine St.ee (Ev.build (ps:=[]) (aU.nil) (fun w=>fA w)) ?_;refine St.sA (.mk rfl) (.mk rfl) ay ?_;refine St.nn (St.aX ?_);refine St.rU [_] [ae bn (.cells [iv ((zn:Nat):Int)].toArray 3 (0,0)),ae bg (.cells [g.tv.1,g.fv.1,g.rv.1,g.xv.1,g.start.nv.1].toArray 32 (0,0)),ae bl (.cells [iv ((zl:Nat):Int)].toArray 3 (0,0)),ae bw (.cells [(.func (.func 70) #[] [Value.pointer (some ⟨bn,0,none⟩),Value.pointer (some ⟨bg,0,none⟩),Value.pointer (some ⟨bl,0,none⟩),Value.pointer (some ⟨bw,0,none⟩)].toArray)].toArray 134 (0,0))] Tryz.results70 ?_
      rw[F2];exact⟨rfl,rfl⟩
set_option maxHeartbeats 2000000 in
theorem F3 (g:iX)(t:bh)(hw:db.wf t):ct Tryz.prog 30 #[iG g,er t] [dw g,cB t] (fv (ja (fV g) (an t))):=by
 unfold ct;refine fF.body (args:=[iG g,er t]) 21 Tryz.func30 rfl Tryz.ntmps30 rfl (fun c=> ?_);refine St.cast (H':=[aG (dw g),aG (cB t)]) rfl ?_;refine St.seq ?_
 refine St.fI (dw g) (fun _:Unit=>zT g) (fun ρ h=>⟨(),h⟩) fun _=> ?_
 refine St.cast (H':=[aG (sl e6 g.tv.1 g.types),aG (aY ew g.types),aG (sl bu g.fv.1 g.bZ),aG (sl cA g.rv.1 g.rules),aG (aY cO g.rules),aG (sl cI g.xv.1 g.bA),aG (aY dX g.bA),aG (bU g.start),aG (dw g),aG (cB t)]) rfl ?_
 have cu:=DZ g t
 refine St.rg ?_;refine St.cV (.mk rfl) rfl (fun b2=> ?_);refine St.cV (.mk rfl) rfl (fun b3=> ?_);refine St.alloc dF rfl (fun b4=> ?_);refine St.nn (St.sr ?_);refine St.alloc ND rfl (fun b5=> ?_);refine St.alloc ND rfl (fun b6=> ?_);refine St.cW (.mk rfl) (.mk rfl) cr rfl (by rfl) ?_;refine St.gg b5 (L':=[iv ((0:Nat):Int)]) rfl ?_;refine St.cW (.mk rfl) (.mk rfl) cr rfl (by rfl) ?_;refine St.gg b6 (L':=[iv ((0:Nat):Int)]) rfl ?_;refine St.nn (St.sr ?_);refine St.alloc T7 rfl (fun b7=> ?_);refine St.nn (St.sr ?_);refine St.ee (Ev.func (.cons (.mk rfl) (.cons (.mk rfl) (.cons (.mk rfl) (.cons (.mk rfl) .nil))))) ?_;refine St.cW (.mk rfl) (.mk rfl) T8 rfl (by rfl) ?_;refine St.nn (St.seq (St.seq ?_));refine St.dup (sl cA g.rv.1 g.rules) ?_;refine St.dup (sl cI g.xv.1 g.bA) ?_;refine St.dup (cB t) ?_;refine St.rg ?_;refine St.ee (Ev.l0 (.mk rfl) Tryz.underlying134) ?_;refine St.ee (Ev.bF (.mk rfl) lk trivial (by exact gZ)) ?_;refine St.dU (vZ b5 b2 b6 b7 g t 1 0 ⟨0,0⟩ hw (by omega) (by omega) (by simp) (by simp)) T6 (.mk rfl) (.cons (.mk rfl) (.cons (.mk rfl) (.cons (.mk rfl) .nil))) rfl ?_;rintro v12 _ ⟨rfl,rfl⟩;refine St.OM ?_;refine St.alloc dF rfl (fun b8=> ?_);refine St.sA (.mk rfl) (.mk rfl) ay ?_;refine St.nn (St.sr ?_);refine St.ee (Ev.aD (.mk rfl) cX) ?_;refine St.ee (Ev.l0 (.mk rfl) bP) ?_;refine St.ee Ev.k9 ?_;refine St.nn ?_;refine St.cond _ rfl (fun Kx=> ?_) (fun Kx=> ?_)
 ·skip
  rw[if_pos (show(ik (g.rules.map bV.kids) g.bA.length (an t) 1 0 ⟨0,0⟩).2.1≠0 by simpa using Kx)]at cu;refine St.sr ?_;refine St.ee (Ev.bF (.mk rfl) fl trivial (by exact ay)) ?_;refine St.sA (.mk rfl) (.mk rfl) ay ?_;refine St.nn (St.aX (St.aB ?_));refine St.rU [_] [] Tryz.results30 ?_;exact congrArg fv cu.symm
 ·skip
  have r5:¬(ik (g.rules.map bV.kids) g.bA.length (an t) 1 0 ⟨0,0⟩).2.1≠0:=by simpa using Kx
  rw[if_neg r5]at cu
  have fR:=yV (an t) 1 0 ⟨0,0⟩ (Decidable.not_not.1 r5) (Nat.le_refl _)
  refine St.skip (St.aA (St.seq (St.sr ?_)));refine St.ee (Ev.l0 (.mk rfl) bP) ?_;refine St.ee Ev.qn ?_;refine St.nn ?_;refine St.cond _ rfl (fun fN=> ?_) (fun fN=> ?_)
  ·try simp only[aC]at fN
   rw[if_pos (by omega)]at cu;refine St.sr ?_;refine St.ee (Ev.call (eR 2 (-2)) Ey (.cons (.mk rfl) (.cons (.mk rfl) .nil))) ?_;refine St.sA (.mk rfl) (.mk rfl) ay ?_;refine St.nn (St.aX (St.aB ?_));refine St.rU [_] [] Tryz.results30 ?_;exact congrArg fv cu.symm
  ·try simp only[aC]at fN
   rw[if_neg (by omega)]at cu;refine St.skip (St.aA (St.sr ?_));refine St.ee (Ev.build (ps:=[]) (aU.nil) (fun w=>fA w)) ?_;refine St.sA (.mk rfl) (.mk rfl) ay ?_;refine St.nn (St.aX ?_);refine St.rU [_] [] Tryz.results30 ?_;exact congrArg fv cu.symm
end Go.Proofs.YtolmidffiegkaaaGreatDoor
namespace Go.J
open Go
abbrev ints (l:List Nat):List Int:=l.map (fun i:Nat=>(i:Int))
theorem AL (l:List Int)(k:Nat)(x:Int):(rows aK l).set (k*1+0) (iv x)=rows aK (l.set k x):=by
 rw[Nat.mul_one,Nat.add_zero,vq (Rr:=aK) rfl rfl]
theorem ri (l:List Nat):(ints l).length=l.length:=List.length_map _
section
variable {P:Program}{n:Nat}{F:Fr}{A:World→Prop}{x y:Operand}{ty:TypeId}
end
end Go.J
namespace Go.J
open Go Go.Proofs Go.Proofs.YtolmidffiegkaaaGreatDoor
section
variable {P:Program}{n:Nat}{F:Fr}{A:World→Prop}{c:Ctx}{H R:List bQ}{ty:TypeId}{x y:Operand}{v:Value}{Q:Exit→Act→World→Prop}{ops:Array Oper}{rest:List Oper}{d size:Nat}
 {pos:String} {after:Array Edge} {t e:TypeId} {m k:Nat} {cs:List Value}
theorem Ev.CB {off o i b o' cap:Nat}{s:TypeId}(hv:v= .slice (some ⟨b,o',none⟩) m cap)(hx:aL F x (eC v size k off))(ho:ar P s i=some o):Ev P n F A (.fieldAddr s x i) ty (eC v size k (off+o)):= .of_run fun a w ha _=>by
 subst hv;rw[eU]at hx
 simp[execOp,hx.eval ha,kQ ho,eU,Addr.add_lit,Nat.add_assoc]
theorem Ev.ZF {a b:Int}{vI:Array TypeId}(hx:aL F x (iv a))(hy:aL F y (iv b)):
 Ev P n F A (.call {callee:= .builtin .max,args:= #[x,y],argTypes:=vI}) ty (iv (if b>a then b else a)):= .of_run fun a w ha _=>by
 simp[execOp,resolve,invoke,builtin,hx.eval ha,hy.eval ha,run_max_int2,iv]
theorem St.pI {v2:Value}{m2:Nat}{news:List Value}{zv:Value}{vn:Nat}[t1:jX v H e size m cs R][r2:vm v2 R e size m2 news]
 (hx:aL F x v) (hy:aL F y v2) (ht:P.underlying t=some (.slice e)) (hs:(P.info? e).map (·.size)=some size) (hz:(P.info? e).bind (·.zero)=some zv) (hb:(P.info? e).map (·.bytes)=some vn)
 (K2:∀u∈news,u.oneCell'=true) (hlen:m+m2≤9223372036854775807) (mZ:(m+m2)*vn≤140737488355328) (Mu:zv.cells.size=size) (mD:Nat.ble 1 size=true) (fz:1≤m2) (hd:Nat.ble (d+1) n=true)
 (h:∀v',(v'= .slice none 0 0↔v= .slice none 0 0∧m2=0)→St n ((d,v')::F) (Mm c (row v' e size (m+m2) (cs++news)::R)) (wpList P ops Q rest)):
 St n F (Mm c H) (wpList P ops Q ({dst:=some d,op:= .call {callee:= .builtin .append,args:= #[x,y],argTypes:= #[t,t]},type:=ty,pos:=pos,after:=after,guard:=none}::rest)):=by
 refine St.Fj (K:=fun v' H'=>(v'= .slice none 0 0↔v= .slice none 0 0∧m2=0)∧H'=row v' e size (m+m2) (cs++news)::R) ?_ hd ?_
 ·intro a w ρ ha hm
  have tD:=hm.perm t1.perm
  have hr:=eT.1 (tD.dK _ (List.mem_cons_self ..))
  have Fl:=tD.drop.row r2
  obtain⟨i,hi,fR⟩:=Option.map_eq_some_iff.1 hs;obtain⟨q1,q2,q3⟩:=n1 hs hz hb hi
  rcases Fl.2 with⟨_,rfl⟩|⟨g2,BT,RR,rfl,_,RS,zI,vJ,RT,G6⟩
  ·omega
  ·obtain⟨v',w',tE,how,G7,OU,Y2,jJ⟩:=ob (P:=P) (w:=w) t ty e ht hi q2 q1 q3 Mu (Nat.le_of_ble_eq_true mD) v m cs hr ⟨g2,0,none⟩ m2 BT news Fl.1
    (fun j u hj=>by
     rw[Addr.add_lit,Nat.zero_add,cY RS];rw[←G6,List.getElem?_take]at hj
     split at hj
     ·simpa using hj
     ·simp at hj) K2 (by unfold maxLen;omega) mZ
   refine⟨.value v',w',ρ,_,?_,⟨_,.inl rfl,OU,rfl⟩,?_⟩
   ·simp[execOp,resolve,invoke,builtin,hx.eval ha,hy.eval ha,tE]
   ·refine tD.alter G7.os ⟨G7.tape,jJ⟩ G7.output G7.size (fun j hj fz=> ?_) (eT.2 how) (fun b' j6=> ?_)
    ·rw[ek]at fz;exact G7.block j hj (fun e=>fz e.symm)
    ·rw[ek]at j6⊢;exact Y2 b' j6
 ·rintro _ _ ⟨h1,rfl⟩
  exact h _ h1
end
section
variable {n:Nat}{F:Fr}{c:Ctx}{R:List bQ}{T:Act→World→Prop}
theorem St.TL {a b d e f g h i:bQ}(k:St n F (Mm c (a::b::d::e::f::g::h::i::R)) T):St n F (Mm c ([a,b,d,e,f,g,h,i]++R)) T:=k
end
theorem uH {L:List Nq}{cs:List Value}{j:Nat}{u:Value}:(rows gi L++cs).set (L.length*6+j) u=rows gi L++cs.set j u:=by
 have hl:(rows gi L).length=L.length*6:=e7 _ _
 rw[List.set_append,if_neg (by rw[hl];omega),hl,Nat.add_sub_cancel_left]
theorem LF {L K:List Nq}{x:Nq}:rows gi (L++x::K)=rows gi L++(gi.cells x++rows gi K):=by
 simp[rows]
end Go.J
namespace Go.Proofs.YtolmidffiegkaaaGreatDoor
open Go Go.J
theorem Hh (x:bh):oP (an x)=1+m6 (x.kids.map an):=by cases x;rw[an,gy,oP];rfl
theorem Hi (x:bh):mc (an x)=(if x.eK<0 then 1 else 0)+jF (x.kids.map an):=by cases x;rw[an,gy,mc];rfl
theorem TM (G:iV)(x:bh)(k:Nat)(up:Int)(w:Nat):m7 G (an x) k up w=⟨k,decide (x.eK<0),sI G x.eK x.lex,up,k+(1+m6 (x.kids.map an)),w,w+((if x.eK<0 then 1 else 0)+jF (x.kids.map an))⟩::pQ G (x.kids.map an) (k+1) k (w+(if x.eK<0 then 1 else 0)):=by
 cases x;rw[an,gy,m7];rfl
theorem wu {nr nl:Nat}:∀{l:List fG},lg nr nl l→∀t∈l,fq nr nl t
 | [],_,t,h=>by cases h
 |x::l,h,t,ht=>by
  rw[lg]at h
  rcases List.mem_cons.1 ht with rfl|ht
  ·exact h.1
  ·exact wu h.2 t ht
theorem yW {nr nl:Nat}(x:bh)(h:fq nr nl (an x)):(-1≤x.eK∧x.eK<nr)∧(x.eK<0→x.kids=[]∧0≤x.lex∧x.lex<nl)∧∀y∈x.kids,fq nr nl (an y):=by
 cases x with
 |mk r y v l=>
  rw[an,gy,fq]at h;refine⟨h.1,fun hr=> ?_,fun y hy=>wu h.2.2.2 _ (List.mem_map_of_mem hy)⟩;obtain⟨h1,h2,h3⟩:=h.2.1 hr;exact⟨List.map_eq_nil_iff.1 h1,h2,h3⟩
theorem Da:∀l m:List fG,m6 (l++m)=m6 l+m6 m
 | [],m=>by rw[List.nil_append,m6];omega
 |x::l,m=>by rw[List.cons_append,m6,Da l,m6];omega
theorem yX:∀l m:List fG,jF (l++m)=jF l+jF m
 | [],m=>by rw[List.nil_append,jF];omega
 |x::l,m=>by rw[List.cons_append,jF,yX l,jF];omega
theorem Db (G:iV):∀(l m:List fG) (k:Nat) (up:Int) (w:Nat),pQ G (l++m) k up w=pQ G l k up w++pQ G m (k+m6 l) up (w+jF l)
 | [],m,k,up,w=>by rw[List.nil_append,pQ,m6,jF];rfl
 |x::l,m,k,up,w=>by rw[List.cons_append,pQ,Db G l,pQ,m6,jF,List.append_assoc,Nat.add_assoc,Nat.add_assoc]
def BF (G:iV)(l:List fG)(n w k:Nat):List Nq:=pQ G (l.take k) (n+1) n w
theorem AM (G:iV)(l:List fG)(n w:Nat):BF G l n w 0=[]:=by unfold BF;rw[List.take_zero,pQ]
theorem AN (G:iV){l:List fG}{k:Nat}{t:fG}(h:l[k]?=some t)(n w:Nat):BF G l n w (k+1)=BF G l n w k++m7 G t (n+1+m6 (l.take k)) n (w+jF (l.take k)):=by
 unfold BF;rw[bI h,Db,pQ,pQ,List.append_nil]
theorem LG (G:iV)(l:List fG)(n w k:Nat):(BF G l n w k).length=m6 (l.take k):=y0 ..
theorem Dc (G:iV)(l:List fG)(n w:Nat){k:Nat}(h:l.length≤k):BF G l n w k=pQ G l (n+1) n w:=by unfold BF;rw[List.take_of_length_le h]
theorem AO {l:List fG}{k:Nat}{t:fG}(h:l[k]?=some t):m6 (l.take k)+oP t≤m6 l:=by
 conv=>rhs;rw[←List.take_append_drop k l]
 rw[bz h,Da,m6];omega
theorem uI {l:List fG}{k:Nat}{t:fG}(h:l[k]?=some t):jF (l.take (k+1))=jF (l.take k)+mc t∧jF (l.take k)+mc t≤jF l:=by
 refine⟨by rw[bI h,yX,jF,jF];omega,?_⟩
 conv=>rhs;rw[←List.take_append_drop k l]
 rw[bz h,yX,jF];omega
set_option maxHeartbeats 4000000 in
theorem uJ (bl bw bg bk:Nat)(g:iX):∀(x:bh) (up:Int) (L:List Nq) (w:Nat) (vl:Value),vl.oneCell'=true→db.wf x→fq g.rules.length g.bA.length (an x)→L.length+oP (an x)≤200→w+mc (an x)≤200→fF Tryz.prog 72 ([er x,iv up]++ [Value.pointer (some ⟨bl,0,none⟩),Value.pointer (some ⟨bw,0,none⟩),Value.pointer (some ⟨bg,0,none⟩),Value.pointer (some ⟨bk,0,none⟩)]).toArray [aG (cB x),ae bl (.cells [vl].toArray 78 (0,0)),row vl 83 6 (L).length (rows gi (L)),ae bw (.cells [iv ((w:Nat):Int)].toArray 3 (0,0)),ae bg (.cells [g.tv.1,g.fv.1,g.rv.1,g.xv.1,g.start.nv.1].toArray 32 (0,0)),ae bk (.cells [(.func (.func 72) #[] [Value.pointer (some ⟨bl,0,none⟩),Value.pointer (some ⟨bw,0,none⟩),Value.pointer (some ⟨bg,0,none⟩),Value.pointer (some ⟨bk,0,none⟩)].toArray)].toArray 135 (0,0)),aG (sl cA g.rv.1 g.rules),aG (sl cI g.xv.1 g.bA)] (fun v H'=>∃v2,v2.oneCell'=true∧H'=[ae bl (.cells [v2].toArray 78 (0,0)),row v2 83 6 (L++m7 (fV g) (an x) L.length up w).length (rows gi (L++m7 (fV g) (an x) L.length up w)),ae bw (.cells [iv ((w+mc (an x):Nat):Int)].toArray 3 (0,0)),ae bg (.cells [g.tv.1,g.fv.1,g.rv.1,g.xv.1,g.start.nv.1].toArray 32 (0,0)),ae bk (.cells [(.func (.func 72) #[] [Value.pointer (some ⟨bl,0,none⟩),Value.pointer (some ⟨bw,0,none⟩),Value.pointer (some ⟨bg,0,none⟩),Value.pointer (some ⟨bk,0,none⟩)].toArray)].toArray 135 (0,0))]):=by
 intro x
 induction x using bh.ind
 rename_i x ih
 intro up L w vl wv hw hg fR cu;refine fF.body (args:=[er x,iv up]++ [Value.pointer (some ⟨bl,0,none⟩),Value.pointer (some ⟨bw,0,none⟩),Value.pointer (some ⟨bg,0,none⟩),Value.pointer (some ⟨bk,0,none⟩)]) 73 Tryz.func72 rfl Tryz.ntmps72 rfl (fun c=> ?_);refine St.seq ?_
 have hE:=TM (fV g) x L.length up w
 obtain⟨TN,hle,Qx⟩:=yW x hg;rw[Hh]at fR
 have F4:=Hi x
 rw[F4]at cu;refine St.nE x ?_;refine St.wf x.kv.1 (fun lq tB=> ?_)
 have ZG:(L++ [(⟨L.length,false,[],up,0,w,0⟩:Nq)]).length=L.length+1:=by rw[List.length_append];rfl
 obtain⟨w1,AP⟩:∃w1,w1=w+(if x.eK<0 then 1 else 0):=⟨_,rfl⟩
 obtain⟨lf,Pc⟩:∃lf,lf=decide (x.eK<0):=⟨_,rfl⟩
 obtain⟨jd,CC⟩:∃jd,jd=sI (fV g) x.eK x.lex:=⟨_,rfl⟩
 have hL1:(L++ [(⟨L.length,lf,jd,up,0,w,0⟩:Nq)]).length=L.length+1:=by rw[List.length_append];rfl
 rw[←AP,←Pc,←CC]at hE
 have ad0:w1≤w+(if x.eK<0 then 1 else 0):=by omega
 refine St.rg ?_;refine St.cV (.mk rfl) rfl (fun b6=> ?_);refine St.nn (St.sr ?_);refine St.ee (Ev.l0 (.mk rfl) hG) ?_;refine St.ee (Ev.fS (.mk rfl) hG) ?_;refine St.ak ?_;refine St.nn (St.sr ?_);refine St.ee (Ev.l0 (.mk rfl) hG) ?_;refine St.mv ?_;refine St.ee (Ev.l0 (.mk rfl) bP) ?_;refine St.ee (Ev.build (ps:=[(2,(.tmp 14)),(4,(.tmp 15))]) (aU.cons (aL.mk rfl) (aU.cons (aL.mk rfl) aU.nil)) (fun w=>Ez rfl rfl w)) ?_;refine St.cn rfl (.cons (.mk rfl) .nil) hG nZ T9 rfl rfl (by simp[Value.cells]) rfl rfl (fun NR=> ?_);refine St.cS (.mk rfl) (.mk rfl) hG nZ T9 Z2 (by simp[Value.oneCell',Value.cells]) (by omega) (by omega) rfl rfl rfl rfl (fun iD F5=> ?_);refine St.bB iD (show _=(L++ [(⟨L.length,false,[],up,0,w,0⟩:Nq)]).length from ZG.symm) (show _=rows gi (L++ [(⟨L.length,false,[],up,0,w,0⟩:Nq)]) by rw[cz];rfl) ?_;refine St.eG iD (fun fN _=> ?_);refine St.tI iD (by omega) (fun bs cs sk=> ?_);refine St.cW (.mk rfl) (.mk rfl) TA fN (by rfl) ?_;refine St.nn ?_;refine St.join (ι:=Unit) (fun u T=>T) (fun u=>[ae b6 (.cells (k6 x).toArray 39 (0,0)),ae bl (.cells [iD].toArray 78 (0,0)),row iD 83 6 (L++ [(⟨L.length,lf,jd,up,0,w,0⟩:Nq)]).length (rows gi (L++ [(⟨L.length,lf,jd,up,0,w,0⟩:Nq)])),ae bw (.cells [iv ((w1:Nat):Int)].toArray 3 (0,0)),ae bg (.cells [g.tv.1,g.fv.1,g.rv.1,g.xv.1,g.start.nv.1].toArray 32 (0,0)),ae bk (.cells [(.func (.func 72) #[] [Value.pointer (some ⟨bl,0,none⟩),Value.pointer (some ⟨bw,0,none⟩),Value.pointer (some ⟨bg,0,none⟩),Value.pointer (some ⟨bk,0,none⟩)].toArray)].toArray 135 (0,0)),aG (sl db x.kv.1 x.kids),aG (aY cB x.kids),aG (sl cA g.rv.1 g.rules),aG (sl cI g.xv.1 g.bA)]) (fun u=>True) (aE.cons 2 rfl (aE.cons 3 rfl (aE.cons 5 rfl (aE.cons 6 rfl (aE.cons 8 rfl aE.nil))))) ?_ ?_
 ·refine St.sr ?_
  refine St.ee (Ev.aD (.mk rfl) gP) ?_;refine St.ee (Ev.l0 (.mk rfl) bP) ?_;refine St.ee Ev.dn ?_;refine St.nn ?_;refine St.cond _ rfl (fun qs=> ?_) (fun qs=> ?_)
  ·try simp only[aC]at qs
   obtain⟨Pd,Qr,Pe⟩:=hle qs;obtain⟨lx,jU⟩:=aO (show x.lex.toNat<g.bA.length by omega)
   have CD:lf=true:=by rw[Pc];exact decide_eq_true qs
   have Jr:jd=lx.word:=by rw[CC,sI,if_pos qs,List.getD_eq_getElem?_getD,show(fV g).bA=g.bA.map jr from rfl,List.getElem?_map,jU];rfl
   have Wz:w1=w+1:=by rw[AP,if_pos qs]
   subst CD;subst Jr
   refine St.seq ?_;refine St.eV [row iD 83 6 (L++ [(⟨L.length,false,[],up,0,w,0⟩:Nq)]).length (rows gi (L++ [(⟨L.length,false,[],up,0,w,0⟩:Nq)]))] mixed (fun np ns=> ?_);refine SW.dd 0 rfl (fun _=>Ev.cN (.mk rfl) hG trivial (by rfl)) ?_;refine SW.dd 1 rfl (fun _=>Ev.move (.mk rfl)) ?_;refine SW.dd 2 rfl (fun _=>Ev.cN (.mk rfl) hG trivial (by rfl)) ?_;refine SW.dd 3 rfl (fun _=>Ev.move (.mk rfl)) ?_;refine SW.dd 4 rfl (fun _=>Ev.aD (.mk rfl) jR) ?_;refine SW.dd 5 rfl (fun _=>Ev.cN (.mk rfl) j1 trivial (by rfl)) ?_;refine SW.dd 6 rfl (fun _=>Ev.aD (.mk rfl) nY) ?_;refine SW.dd 7 rfl (fun _=>Ev.cN (.mk rfl) bP trivial (by rfl)) ?_;refine SW.dd 8 rfl (fun _=>Ev.aR (k:=x.lex.toNat) (.mk rfl) (.mk rfl) j1 oQ (by omega) (by omega)) ?_;refine SW.dd 9 rfl (fun _=>Ev.e8 (.mk rfl) (by omega) yP) ?_;refine SW.dd 10 rfl (fun _=>Ev.ff (.mk rfl) jU df trivial rfl) ?_;refine SW.dd 11 rfl (fun _=>Ev.jL (k:=L.length) sk (.mk rfl) (.mk rfl) hG nZ (by omega) (by omega)) ?_;refine SW.dd 12 rfl (fun _=>Ev.CB sk (.mk rfl) yT) ?_;refine SW.bG (i:=13) (by kernel_rfl) rfl ?_;refine St.dH (.mk rfl) (.mk rfl) qW rfl (by omega) (by decide) ?_;refine St.nn ?_;refine SW.go ?_;refine SW.dd 14 rfl (fun _=>Ev.jL (k:=L.length) sk (.mk rfl) (.mk rfl) hG nZ (by omega) (by omega)) ?_;refine SW.dd 15 rfl (fun _=>Ev.CB sk (.mk rfl) yU) ?_;refine SW.bG (i:=16) (by kernel_rfl) rfl ?_;refine St.dH (.mk rfl) (.mk rfl) EY rfl (by omega) (by decide) ?_;refine St.nn ?_;refine SW.go ?_;refine SW.done (by kernel_rfl) ?_;refine St.aA (St.rg ?_);refine St.ee (Ev.l0 (.mk rfl) bP) ?_;refine St.ee Ev.a0 ?_;refine St.cW (.mk rfl) (.mk rfl) cr rfl (by rfl) ?_;refine St.gg bw (L':=[iv ((w+1:Nat):Int)]) rfl ?_;refine St.nn ?_;refine St.bB iD (ZG.trans hL1.symm) (show _=rows gi (L++ [(⟨L.length,true,lx.word,up,0,w,0⟩:Nq)])from(by simp only[cz,uH];rfl)) ?_;refine St.gg bw (L':=[iv ((w1:Nat):Int)]) (by rw[Wz]) ?_;refine St.mE () trivial
  ·try simp only[aC]at qs
   obtain⟨ru,BE⟩:=aO (show x.eK.toNat<g.rules.length by omega)
   have CD:lf=false:=by rw[Pc];exact decide_eq_false (by omega)
   have Jr:jd=ru.name:=by rw[CC,sI,if_neg (by omega),List.getD_eq_getElem?_getD,show(fV g).rules=g.rules.map mH from rfl,List.getElem?_map,BE];rfl
   have Wz:w1=w:=by rw[AP,if_neg (by omega)];rfl
   subst CD;subst Jr
   refine St.eV [row iD 83 6 (L++ [(⟨L.length,false,[],up,0,w,0⟩:Nq)]).length (rows gi (L++ [(⟨L.length,false,[],up,0,w,0⟩:Nq)]))] mixed (fun np ns=> ?_);refine SW.dd 0 rfl (fun _=>Ev.cN (.mk rfl) hG trivial (by rfl)) ?_;refine SW.dd 1 rfl (fun _=>Ev.move (.mk rfl)) ?_;refine SW.dd 2 rfl (fun _=>Ev.aD (.mk rfl) jS) ?_;refine SW.dd 3 rfl (fun _=>Ev.cN (.mk rfl) j0 trivial (by rfl)) ?_;refine SW.dd 4 rfl (fun _=>Ev.aD (.mk rfl) gP) ?_;refine SW.dd 5 rfl (fun _=>Ev.cN (.mk rfl) bP trivial (by rfl)) ?_;refine SW.dd 6 rfl (fun _=>Ev.aR (k:=x.eK.toNat) (.mk rfl) (.mk rfl) j0 nL (by omega) (by omega)) ?_;refine SW.dd 7 rfl (fun _=>Ev.e8 (.mk rfl) (by omega) nW) ?_;refine SW.dd 8 rfl (fun _=>Ev.ff (.mk rfl) BE df trivial rfl) ?_;refine SW.dd 9 rfl (fun _=>Ev.jL (k:=L.length) sk (.mk rfl) (.mk rfl) hG nZ (by omega) (by omega)) ?_;refine SW.dd 10 rfl (fun _=>Ev.CB sk (.mk rfl) yU) ?_;refine SW.bG (i:=11) (by kernel_rfl) rfl ?_;refine St.dH (.mk rfl) (.mk rfl) EY rfl (by omega) (by decide) ?_;refine St.nn ?_;refine SW.go ?_;refine SW.done (by kernel_rfl) ?_;refine St.aA ?_;refine St.bB iD (ZG.trans hL1.symm) (show _=rows gi (L++ [(⟨L.length,false,ru.name,up,0,w,0⟩:Nq)])from(by simp only[cz,uH];rfl)) ?_;refine St.gg bw (L':=[iv ((w1:Nat):Int)]) (by rw[Wz]) ?_;refine St.mE () trivial
 ·intro _ _
  refine St.seq (St.sr ?_);refine St.ee (Ev.aD (.mk rfl) lN) ?_;refine St.ee (Ev.l0 (.mk rfl) jP) ?_;refine St.ee (Ev.ao (.mk rfl) jP) ?_;refine St.mv ?_;refine St.nn (St.block ?_);refine St.bB iD (show _=(L++(⟨L.length,lf,jd,up,0,w,0⟩:Nq)::BF (fV g) (x.kids.map an) L.length w1 0).length by rw[AM]) (show _=rows gi (L++(⟨L.length,lf,jd,up,0,w,0⟩:Nq)::BF (fV g) (x.kids.map an) L.length w1 0) by rw[AM]) ?_;refine St.gg bw (L':=[iv ((w1+jF ((x.kids.map an).take 0):Nat):Int)]) (by rw[List.take_zero,jF];rfl) ?_;refine St.mf (ι:=Nat) (κ:=Value) (fun k z T=>(53,iv k)::T) (fun k z=>[ae bl (.cells [z].toArray 78 (0,0)),row z 83 6 (L++(⟨L.length,lf,jd,up,0,w,0⟩:Nq)::BF (fV g) (x.kids.map an) L.length w1 k).length (rows gi (L++(⟨L.length,lf,jd,up,0,w,0⟩:Nq)::BF (fV g) (x.kids.map an) L.length w1 k)),ae bw (.cells [iv ((w1+jF ((x.kids.map an).take k):Nat):Int)].toArray 3 (0,0)),ae bg (.cells [g.tv.1,g.fv.1,g.rv.1,g.xv.1,g.start.nv.1].toArray 32 (0,0)),ae bk (.cells [(.func (.func 72) #[] [Value.pointer (some ⟨bl,0,none⟩),Value.pointer (some ⟨bw,0,none⟩),Value.pointer (some ⟨bg,0,none⟩),Value.pointer (some ⟨bk,0,none⟩)].toArray)].toArray 135 (0,0)),aG (sl db x.kv.1 x.kids),aG (aY cB x.kids),aG (sl cA g.rv.1 g.rules),aG (sl cI g.xv.1 g.bA)]) (fun k z=>k≤x.kids.length∧z.oneCell'=true) (fun k z=>x.kids.length-k) 0 iD (aE.cons 2 rfl (aE.cons 3 rfl (aE.cons 5 rfl (aE.cons 8 rfl (aE.cons 51 rfl (aE.cons 52 rfl aE.nil)))))) ⟨Nat.zero_le _,fN⟩ ?_;rintro k z ⟨hk,Js⟩
  have XA:(L++(⟨L.length,lf,jd,up,0,w,0⟩:Nq)::BF (fV g) (x.kids.map an) L.length w1 k).length=L.length+1+m6 ((x.kids.map an).take k):=by rw[List.length_append,List.length_cons,LG];omega
  refine St.sr ?_;refine St.ee Ev.dn ?_;refine St.nn (St.seq ?_);refine St.cond _ rfl (fun th=> ?_) (fun th=> ?_)
  ·try simp only[aC]at th
   obtain⟨y,hy⟩:=aO (show k<x.kids.length by omega)
   have lr:=List.mem_of_getElem? hy
   have qA:(x.kids.map an)[k]?=some (an y):=by rw[List.getElem?_map,hy];rfl
   refine St.cD cB x.kids (x:=y) lr ?_
   have hnt:=AO qA
   obtain⟨LH,Sh⟩:=uI qA;refine St.skip (St.aA (St.seq (St.block (St.sr ?_))));refine St.ee (Ev.aR (k:=k) (.mk rfl) (.mk rfl) jP gZ (by omega) (by omega)) ?_;refine St.ee (Ev.fg (.mk rfl) hy lk trivial gZ ei.eq) ?_;refine St.alloc AH rfl (fun jc=> ?_);refine St.sA (.mk rfl) (.mk rfl) gZ ?_ (h1:=(by simp only[List.all_cons,List.all_nil,Bool.and_true,Bool.and_eq_true];exact⟨rfl,rfl,y.kv.2⟩));refine St.nn ?_;refine St.dup (sl cA g.rv.1 g.rules) ?_;refine St.dup (sl cI g.xv.1 g.bA) ?_;refine St.rg ?_;refine St.ee (Ev.l0 (.mk rfl) Tryz.underlying135) ?_;refine St.ee (Ev.bF (.mk rfl) lk trivial (by exact gZ)) ?_;refine St.mv ?_;refine St.dU (ih y lr (L.length:Nat) (L++(⟨L.length,lf,jd,up,0,w,0⟩:Nq)::BF (fV g) (x.kids.map an) L.length w1 k) (w1+jF ((x.kids.map an).take k)) z Js (lq y lr) (Qx y lr) (by omega) (by omega)) TB (.mk rfl) (.cons (.mk rfl) (.cons (.mk rfl) .nil)) rfl ?_;rintro v60 _ ⟨vl2,mR,rfl⟩;refine St.ES ?_;refine St.bB vl2 (show _=(L++(⟨L.length,lf,jd,up,0,w,0⟩:Nq)::BF (fV g) (x.kids.map an) L.length w1 (k+1)).length by rw[XA,AN _ qA,List.append_assoc];rfl) (show _=rows gi (L++(⟨L.length,lf,jd,up,0,w,0⟩:Nq)::BF (fV g) (x.kids.map an) L.length w1 (k+1)) by rw[XA,AN _ qA,List.append_assoc];rfl) ?_;refine St.gg bw (L':=[iv ((w1+jF ((x.kids.map an).take (k+1)):Nat):Int)]) (by rw[LH,Nat.add_assoc]) ?_;refine St.nil (St.aN (St.aA (St.rg ?_)));refine St.ee Ev.a0 ?_;refine St.mv ?_;refine St.nn ?_;refine St.jb (k+1) vl2 ⟨by omega,mR⟩
  ·try simp only[aC]at th
   have qa:(x.kids.map an).length≤k:=by rw[List.length_map];omega
   rw[Dc _ _ _ _ qa,List.take_of_length_le qa];rw[Dc _ _ _ _ qa,List.take_of_length_le qa]at XA;refine St.tI z (by omega) (fun bs cs sk=> ?_);refine St.exit (St.aF (St.aF (St.bH (St.aA ?_))));refine St.eV [row z 83 6 (L++(⟨L.length,lf,jd,up,0,w,0⟩:Nq)::pQ (fV g) (x.kids.map an) (L.length+1) L.length w1).length (rows gi (L++(⟨L.length,lf,jd,up,0,w,0⟩:Nq)::pQ (fV g) (x.kids.map an) (L.length+1) L.length w1))] mixed (fun np ns=> ?_);refine SW.dd 0 rfl (fun _=>Ev.cN (.mk rfl) hG trivial (by rfl)) ?_;refine SW.dd 1 rfl (fun _=>Ev.move (.mk rfl)) ?_;refine SW.dd 2 rfl (fun _=>Ev.cN (.mk rfl) hG trivial (by rfl)) ?_;refine SW.dd 3 rfl (fun _=>Ev.move (.mk rfl)) ?_;refine SW.dd 4 rfl (fun _=>Ev.cN (.mk rfl) hG trivial (by rfl)) ?_;refine SW.dd 6 rfl (fun _=>Ev.cN (.mk rfl) bP trivial (by rfl)) ?_;refine SW.slot 68 (iv ((w+((if x.eK<0 then 1 else 0)+jF (x.kids.map an)):Nat):Int)) rfl (congrArg iv (by rw[AP];omega)) ?_;refine SW.bG (i:=5) (by kernel_rfl) rfl ?_;refine St.ee (Ev.fS (.mk rfl) hG) ?_;refine St.slot 67 (iv ((L.length+(1+m6 (x.kids.map an)):Nat):Int)) rfl (congrArg iv (by rw[XA];omega)) ?_;refine St.nn ?_;refine SW.go ?_;refine SW.dd 7 rfl (fun _=>Ev.jL (k:=L.length) sk (.mk rfl) (.mk rfl) hG nZ (by omega) (by omega)) ?_;refine SW.dd 8 rfl (fun _=>Ev.CB sk (.mk rfl) Ha) ?_;refine SW.bG (i:=9) (by kernel_rfl) rfl ?_;refine St.dH (.mk rfl) (.mk rfl) cr rfl (by omega) (by decide) ?_;refine St.nn ?_;refine SW.go ?_;refine SW.dd 10 rfl (fun _=>Ev.jL (k:=L.length) sk (.mk rfl) (.mk rfl) hG nZ (by omega) (by omega)) ?_;refine SW.dd 11 rfl (fun _=>Ev.CB sk (.mk rfl) C9) ?_;refine SW.bG (i:=12) (by kernel_rfl) rfl ?_;refine St.dH (.mk rfl) (.mk rfl) cr rfl (by omega) (by decide) ?_;refine St.nn ?_;refine SW.go ?_;refine SW.done (by kernel_rfl) ?_;refine St.jB ?_;refine St.bB z (show _=(L++m7 (fV g) (an x) L.length up w).length by rw[hE,List.length_append,List.length_append];rfl) (show _=rows gi (L++m7 (fV g) (an x) L.length up w) by rw[hE];simp only[LF,uH];rfl) ?_;refine St.gg bw (L':=[iv ((w+mc (an x):Nat):Int)]) (by rw[F4,AP,Nat.add_assoc]) ?_;refine St.rT [] [ae bl (.cells [z].toArray 78 (0,0)),row z 83 6 (L++m7 (fV g) (an x) L.length up w).length (rows gi (L++m7 (fV g) (an x) L.length up w)),ae bw (.cells [iv ((w+mc (an x):Nat):Int)].toArray 3 (0,0)),ae bg (.cells [g.tv.1,g.fv.1,g.rv.1,g.xv.1,g.start.nv.1].toArray 32 (0,0)),ae bk (.cells [(.func (.func 72) #[] [Value.pointer (some ⟨bl,0,none⟩),Value.pointer (some ⟨bw,0,none⟩),Value.pointer (some ⟨bg,0,none⟩),Value.pointer (some ⟨bk,0,none⟩)].toArray)].toArray 135 (0,0))] Tryz.results72 trivial ?_;exact⟨z,Js,rfl⟩
set_option maxHeartbeats 2000000 in
theorem CE (g:iX)(t:bh)(hw:db.wf t)(hg:fq g.rules.length g.bA.length (an t))(fR:oP (an t)≤200)(Jq:mc (an t)≤200):fF Tryz.prog 31 #[iG g,er t] ([dw g,cB t].map aG) (fun v H'=>v.oneCell'=true∧H'=[aG (sl gi v (m7 (fV g) (an t) 0 (-1) 0))]):=by
 refine fF.body (args:=[iG g,er t]) 13 Tryz.func31 rfl Tryz.ntmps31 rfl (fun c=> ?_);refine St.cast (H':=[aG (dw g),aG (cB t)]) rfl ?_;refine St.seq ?_
 refine St.fI (dw g) (fun _:Unit=>zT g) (fun ρ h=>⟨(),h⟩) fun _=> ?_
 refine St.cast (H':=[aG (sl e6 g.tv.1 g.types),aG (aY ew g.types),aG (sl bu g.fv.1 g.bZ),aG (sl cA g.rv.1 g.rules),aG (aY cO g.rules),aG (sl cI g.xv.1 g.bA),aG (aY dX g.bA),aG (bU g.start),aG (dw g),aG (cB t)]) rfl ?_;refine St.rg ?_;refine St.cV (.mk rfl) rfl (fun b2=> ?_);refine St.cV (.mk rfl) rfl (fun b3=> ?_);refine St.ak ?_;refine St.nn (St.sr ?_);refine St.alloc TC rfl (fun b5=> ?_);refine St.nn (St.sr ?_);refine St.alloc ND rfl (fun b6=> ?_);refine St.cW (.mk rfl) (.mk rfl) cr rfl (by rfl) ?_;refine St.gg b6 (L':=[iv ((0:Nat):Int)]) rfl ?_;refine St.nn (St.sr ?_);refine St.alloc TD rfl (fun b7=> ?_);refine St.nn (St.sr ?_);refine St.ee (Ev.func (.cons (.mk rfl) (.cons (.mk rfl) (.cons (.mk rfl) (.cons (.mk rfl) .nil))))) ?_;refine St.cW (.mk rfl) (.mk rfl) TE rfl (by rfl) ?_;refine St.nn (St.seq ?_);refine St.dup (sl cA g.rv.1 g.rules) ?_;refine St.dup (sl cI g.xv.1 g.bA) ?_;refine St.dup (cB t) ?_;refine St.jw 83 6 ?_;refine St.bB (.slice none 0 0) (show _=([]:List Nq).length from rfl) (show _=rows gi []from rfl) ?_;refine St.rg ?_;refine St.ee (Ev.l0 (.mk rfl) Tryz.underlying135) ?_;refine St.ee (Ev.bF (.mk rfl) lk trivial (by exact gZ)) ?_;refine St.dU (uJ b5 b6 b2 b7 g t (-1) [] 0 (.slice none 0 0) rfl hw hg (by simpa using fR) (by simpa using Jq)) TB (.mk rfl) (.cons (.mk rfl) (.cons (.mk rfl) .nil)) rfl ?_;rintro v11 _ ⟨v2,mR,rfl⟩;refine St.ES ?_;refine St.nn (St.sr ?_);refine St.ee (Ev.l0 (.mk rfl) hG) ?_;refine St.ak ?_;refine St.nn (St.aX ?_);refine St.bB v2 (show _=(m7 (fV g) (an t) 0 (-1) 0).length from rfl) (show _=rows gi (m7 (fV g) (an t) 0 (-1) 0)from rfl) ?_;refine St.aV v2 gi (m7 (fV g) (an t) 0 (-1) 0) rfl rfl (fun _ _=>trivial) ?_;refine St.rU [_] [aG (sl gi v2 (m7 (fV g) (an t) 0 (-1) 0))] Tryz.results31 ?_;exact⟨mR,rfl⟩
theorem F6 (va:cj)(x:Nq):ct Tryz.prog 33 #[.agg #[sv va.name,iv va.kind,sv va.label],.agg #[.bool x.leaf,sv x.label,iv x.up,iv (x.fin:Int),iv (x.oO:Int),iv (x.to:Int)]] [] (.bool (lh va x)):=by
 refine ct.jA (args:=[.agg #[sv va.name,iv va.kind,sv va.label],.agg #[.bool x.leaf,sv x.label,iv x.up,iv (x.fin:Int),iv (x.oO:Int),iv (x.to:Int)]]) 34 Tryz.func33 rfl Tryz.ntmps33 rfl (fun c=> ?_);refine St.sr ?_;refine St.cV (.mk rfl) rfl (fun b2=> ?_);refine St.cV (.mk rfl) rfl (fun b3=> ?_);refine St.ak ?_;refine St.nn (St.seq (St.sr ?_));refine St.ee (Ev.aD (.mk rfl) gO) ?_;refine St.ee (Ev.l0 (.mk rfl) bP) ?_;refine St.nn (St.block (St.sr ?_));refine St.ee Ev.ey ?_;refine St.ak ?_;refine St.nn ?_;refine St.cond _ rfl (fun h7=> ?_) (fun h7=> ?_)
 ·try simp only[aC]at h7
  refine St.sr ?_;refine St.ee (Ev.aD (.mk rfl) yT) ?_;refine St.ee (Ev.l0 (.mk rfl) sJ) ?_;refine St.ee (Ev.not (.mk rfl)) ?_;refine St.mv ?_;refine St.gt _ rfl rfl (fun hg=>Ev.aD (.mk rfl) yU) rfl ?_;refine St.gt _ rfl rfl (fun hg=>Ev.cN (aL.gv rfl hg) df trivial (by rfl)) rfl ?_;refine St.gt _ rfl rfl (fun hg=>Ev.aD (.mk rfl) kK) rfl ?_;refine St.gt _ rfl rfl (fun hg=>Ev.cN (aL.gv rfl hg) df trivial (by rfl)) rfl ?_;refine St.gt _ rfl rfl (fun hg=>Ev.hP (aL.gv rfl hg) (aL.gv rfl hg)) rfl ?_;refine St.ee Ev.n0 ?_;refine St.ak ?_;refine St.nn (St.aX (St.aM (St.aB ?_)));refine St.rU [_] [] Tryz.results33 ?_;exact be (by unfold lh;rw[if_pos h7];congr 1;rw[Bool.eq_iff_iff,beq_iff_eq,decide_eq_true_eq])
 ·try simp only[aC]at h7
  refine St.sr ?_;refine St.ee Ev.ey ?_;refine St.ak ?_;refine St.nn ?_;refine St.cond _ rfl (fun gY=> ?_) (fun gY=> ?_)
  ·try simp only[aC]at gY
   refine St.sr ?_;refine St.ee (Ev.aD (.mk rfl) yT) ?_;refine St.ee (Ev.l0 (.mk rfl) sJ) ?_;refine St.mv ?_;refine St.gt _ rfl rfl (fun hg=>Ev.aD (.mk rfl) yU) rfl ?_;refine St.gt _ rfl rfl (fun hg=>Ev.cN (aL.gv rfl hg) df trivial (by rfl)) rfl ?_;refine St.gt _ rfl rfl (fun hg=>Ev.aD (.mk rfl) kK) rfl ?_;refine St.gt _ rfl rfl (fun hg=>Ev.cN (aL.gv rfl hg) df trivial (by rfl)) rfl ?_;refine St.gt _ rfl rfl (fun hg=>Ev.hP (aL.gv rfl hg) (aL.gv rfl hg)) rfl ?_;refine St.ee Ev.n0 ?_;refine St.ak ?_;refine St.nn (St.aX (St.aM (St.aB ?_)));refine St.rU [_] [] Tryz.results33 ?_;exact be (by unfold lh;rw[if_neg h7,if_pos gY];congr 1;rw[Bool.eq_iff_iff,beq_iff_eq,decide_eq_true_eq])
  ·try simp only[aC]at gY
   refine St.sr ?_;refine St.ee Ev.ey ?_;refine St.ak ?_;refine St.nn ?_;refine St.cond _ rfl (fun qt=> ?_) (fun qt=> ?_)
   ·try simp only[aC]at qt
    refine St.sr ?_;refine St.ee (Ev.aD (.mk rfl) yT) ?_;refine St.ee (Ev.l0 (.mk rfl) sJ) ?_;refine St.ak ?_;refine St.nn (St.aX (St.aM (St.aB ?_)));refine St.rU [_] [] Tryz.results33 ?_;exact be (by unfold lh;rw[if_neg h7,if_neg gY,if_pos qt])
   ·try simp only[aC]at qt
    refine St.skip (St.aN (St.aA (St.sr ?_)));refine St.ak ?_;refine St.nn (St.aX ?_);refine St.rU [_] [] Tryz.results33 ?_;exact be (by unfold lh;rw[if_neg h7,if_neg gY,if_neg qt])
theorem AQ (v:Value)(L:List Nq)(k:Int)(a b:Nat)(ha:a<L.length)(hb:b<L.length):ct Tryz.prog 34 #[v,iv k,iv a,iv b] [sl gi v L] (.bool (oe L k a b)):=by
 refine ct.ic (args:=[v,iv k,iv a,iv b]) 75 Tryz.func34 rfl Tryz.ntmps34 rfl (fun c=> ?_);refine St.seq ?_
 have Pf:=getD_some ha
 have TP:=getD_some hb
 refine St.wf v (fun _ wv=> ?_)
 generalize XB:L.getD a se=A at Pf
 generalize XC:L.getD b se=B at TP
 refine St.rg ?_;refine St.ak ?_;refine St.nn (St.seq (St.sr ?_));refine St.mv ?_;refine St.nn (St.block (St.sr ?_));refine St.ee Ev.ey ?_;refine St.ak ?_;refine St.nn ?_;refine St.cond _ rfl (fun re=> ?_) (fun re=> ?_)
 ·try simp only[aC]at re
  refine St.sr ?_;refine St.mv ?_;refine St.mv ?_;refine St.ee (Ev.aR (k:=b) (.mk rfl) (.mk rfl) hG nZ (by omega) (by omega)) ?_;refine St.ee (Ev.e8 (.mk rfl) (by omega) CA) ?_;refine St.ee (Ev.ff (.mk rfl) TP bP trivial rfl) ?_;refine St.mv ?_;refine St.ee Ev.ey ?_;refine St.ak ?_;refine St.nn (St.aX (St.aM (St.aB ?_)));refine St.rU [_] [] Tryz.results34 ?_;exact be (by unfold oe;rw[if_pos re,XC])
 ·try simp only[aC]at re
  refine St.sr ?_;refine St.ee Ev.ey ?_;refine St.ak ?_;refine St.nn ?_;refine St.cond _ rfl (fun gY=> ?_) (fun gY=> ?_)
  ·try simp only[aC]at gY
   refine St.sr ?_;refine St.mv ?_;refine St.mv ?_;refine St.ee Ev.dn ?_;refine St.mv ?_;refine St.gt _ rfl rfl (fun hg=>Ev.move (.mk rfl)) rfl ?_;refine St.gt _ rfl rfl (fun hg=>Ev.move (.mk rfl)) rfl ?_;refine St.gt _ rfl rfl (fun hg=>Ev.move (.mk rfl)) rfl ?_;refine St.gt _ rfl rfl (fun hg=>Ev.aR (k:=a) (aL.gv rfl hg) (aL.gv rfl hg) hG nZ (by first|omega|(simp only[aC]at hg;omega)) (by omega)) rfl ?_;refine St.gt _ rfl rfl (fun hg=>Ev.e8 (aL.gv rfl hg) (by first|omega|(simp only[aC]at hg;omega)) Ha) rfl ?_;refine St.gt _ rfl rfl (fun hg=>Ev.ff (aL.gv rfl hg) Pf bP trivial rfl) rfl ?_;refine St.gt _ rfl rfl (fun hg=>Ev.lss (aL.gv rfl hg) (aL.gv rfl hg)) rfl ?_;refine St.ee Ev.n0 ?_;refine St.ak ?_;refine St.nn (St.aX (St.aM (St.aB ?_)));refine St.rU [_] [] Tryz.results34 ?_;exact be (by unfold oe;rw[if_neg re,if_pos gY,XB];congr 1<;>exact decide_eq_decide.2 (by omega))
  ·try simp only[aC]at gY
   refine St.sr ?_;refine St.ee Ev.ey ?_;refine St.ak ?_;refine St.nn ?_;refine St.cond _ rfl (fun qZ=> ?_) (fun qZ=> ?_)
   ·try simp only[aC]at qZ
    refine St.seq ?_;refine St.rq mixed (by kernel_rfl) (Mm.drawn _ _) ?_;refine Sq.ee (Ev.move (.mk rfl)) ?_;refine Sq.ee (Ev.move (.mk rfl)) ?_;refine Sq.ee (Ev.aR (k:=a) (.mk rfl) (.mk rfl) hG nZ (by omega) (by omega)) ?_;refine Sq.ee (Ev.e8 (.mk rfl) (by omega) C9) ?_;refine Sq.ee (Ev.ff (.mk rfl) Pf bP trivial rfl) ?_;refine Sq.ee (Ev.move (.mk rfl)) ?_;refine Sq.ee (Ev.move (.mk rfl)) ?_;refine Sq.ee (Ev.aR (k:=b) (.mk rfl) (.mk rfl) hG nZ (by omega) (by omega)) ?_;refine Sq.ee (Ev.e8 (.mk rfl) (by omega) Hb) ?_;refine Sq.ee (Ev.ff (.mk rfl) TP bP trivial rfl) ?_;refine Sq.ee Ev.Jm ?_;refine Sq.ee (Ev.assign (.mk rfl)) ?_;refine Sq.nil ?_;refine St.aA (St.aX (St.aM (St.aB ?_)));refine St.rU [_] [] Tryz.results34 ?_;exact be (by unfold oe;rw[if_neg re,if_neg gY,if_pos qZ,XB,XC];exact decide_eq_decide.2 (by omega))
   ·try simp only[aC]at qZ
    refine St.sr ?_;refine St.ee Ev.ey ?_;refine St.ak ?_;refine St.nn ?_;refine St.cond _ rfl (fun pw=> ?_) (fun pw=> ?_)
    ·try simp only[aC]at pw
     refine St.seq ?_;refine St.rq mixed (by kernel_rfl) (Mm.drawn _ _) ?_;refine Sq.ee (Ev.move (.mk rfl)) ?_;refine Sq.ee (Ev.move (.mk rfl)) ?_;refine Sq.ee (Ev.aR (k:=a) (.mk rfl) (.mk rfl) hG nZ (by omega) (by omega)) ?_;refine Sq.ee (Ev.e8 (.mk rfl) (by omega) C9) ?_;refine Sq.ee (Ev.ff (.mk rfl) Pf bP trivial rfl) ?_;refine Sq.ee (Ev.move (.mk rfl)) ?_;refine Sq.ee (Ev.move (.mk rfl)) ?_;refine Sq.ee (Ev.aR (k:=b) (.mk rfl) (.mk rfl) hG nZ (by omega) (by omega)) ?_;refine Sq.ee (Ev.e8 (.mk rfl) (by omega) Hb) ?_;refine Sq.ee (Ev.ff (.mk rfl) TP bP trivial rfl) ?_;refine Sq.ee Ev.ey ?_;refine Sq.ee (Ev.assign (.mk rfl)) ?_;refine Sq.nil ?_;refine St.aA (St.aX (St.aM (St.aB ?_)));refine St.rU [_] [] Tryz.results34 ?_;exact be (by unfold oe;rw[if_neg re,if_neg gY,if_neg qZ,if_pos pw,XB,XC];exact decide_eq_decide.2 (by omega))
    ·try simp only[aC]at pw
     refine St.skip (St.aN (St.aA (St.seq ?_)));refine St.rq mixed (by kernel_rfl) (Mm.drawn _ _) ?_;refine Sq.ee (Ev.move (.mk rfl)) ?_;refine Sq.ee (Ev.move (.mk rfl)) ?_;refine Sq.ee Ev.k9 ?_;refine Sq.ee (Ev.move (.mk rfl)) ?_;refine Sq.gt _ rfl rfl (fun hg=>Ev.move (.mk rfl)) rfl ?_;refine Sq.gt _ rfl rfl (fun hg=>Ev.move (.mk rfl)) rfl ?_;refine Sq.gt _ rfl rfl (fun hg=>Ev.aR (k:=a) (aL.gv rfl hg) (aL.gv rfl hg) hG nZ (by first|omega|(simp only[aC]at hg;omega)) (by first|omega|(simp only[aC]at hg;omega))) rfl ?_;refine Sq.gt _ rfl rfl (fun hg=>Ev.e8 (aL.gv rfl hg) (by first|omega|(simp only[aC]at hg;omega)) CA) rfl ?_;refine Sq.gt _ rfl rfl (fun hg=>Ev.ff (aL.gv rfl hg) Pf bP trivial rfl) rfl ?_;refine Sq.gt _ rfl rfl (fun hg=>Ev.move (.mk rfl)) rfl ?_;refine Sq.gt _ rfl rfl (fun hg=>Ev.move (.mk rfl)) rfl ?_;refine Sq.gt _ rfl rfl (fun hg=>Ev.aR (k:=b) (aL.gv rfl hg) (aL.gv rfl hg) hG nZ (by first|omega|(simp only[aC]at hg;omega)) (by first|omega|(simp only[aC]at hg;omega))) rfl ?_;refine Sq.gt _ rfl rfl (fun hg=>Ev.e8 (aL.gv rfl hg) (by first|omega|(simp only[aC]at hg;omega)) CA) rfl ?_;refine Sq.gt _ rfl rfl (fun hg=>Ev.ff (aL.gv rfl hg) TP bP trivial rfl) rfl ?_;refine Sq.gt _ rfl rfl (fun hg=>Ev.eql (aL.gv rfl hg) (aL.gv rfl hg)) rfl ?_;refine Sq.ee Ev.n0 ?_;refine Sq.ee (Ev.assign (.mk rfl)) ?_;refine Sq.nil ?_;refine St.aA (St.aX ?_);refine St.rU [_] [] Tryz.results34 ?_;exact be (by unfold oe;rw[if_neg re,if_neg gY,if_neg qZ,if_neg pw,XB,XC];rw[Bool.eq_iff_iff];simp only[Bool.and_eq_true,decide_eq_true_eq,bne_iff_ne,beq_iff_eq,ne_eq,Int.ofNat_inj,Int.natCast_inj,Bool.not_eq_true',decide_eq_false_iff_not])
end Go.Proofs.YtolmidffiegkaaaGreatDoor
