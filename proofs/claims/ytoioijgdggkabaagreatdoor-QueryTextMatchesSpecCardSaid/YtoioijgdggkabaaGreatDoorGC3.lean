/-
  Laws of walks through programs, and facts on grammars, trees and queries.
  Conditions: none.
-/
import Derived.Test.YtoioijgdggkabaaGreatDoorGC2
import Derived.Test.YtoioijgdggkabaaGreatDoorGC1
import Derived.Lib.SliceRun
import Derived.Shelf.Spec.TrailingZeros
import Derived.Test.YtoioijgdggkabaaGreatDoorChecked
set_option linter.unusedVariables false
set_option linter.unusedSimpArgs false
set_option maxRecDepth 20000
namespace Go.Proofs.YtoioijgdggkabaaGreatDoor
open Go Go.J
theorem zZ (x:cH)(b:Nat):qG (bN x) b=gC x.kind x.name x.index (cD x.type) x.args.length b:=by
 cases x with
 |mk k s i t v l=>rw[l6];show gC k s i (cD t) (l.map bN).length b=_;rw[List.length_map];rfl
theorem mR (x:cH):(bN x).kind=x.kind:=by cases x;rfl
theorem Yi (nm:ax)(ix:Int)(tp:eZ)(m b:Nat):gC 1 nm ix tp m b=if ix≠0∨m≠0 then 5 else if isName nm=false then 10 else if o3 tp≠0 then 12 else 0:=by unfold gC;rw[if_pos rfl]
theorem Yj (nm:ax)(ix:Int)(tp:eZ)(m b:Nat):gC 2 nm ix tp m b=if nm≠ []∨kN tp=false∨m≠0 then 5 else if ix<0∨(b:Int)≤ix then 15 else 0:=by unfold gC;rw[if_neg (by decide),if_pos rfl]
theorem Yk (nm:ax)(ix:Int)(tp:eZ)(m b:Nat):gC 3 nm ix tp m b=if nm≠ []∨ix≠0∨m≠1 then 5 else if o3 tp≠0 then 12 else 0:=by unfold gC;rw[if_neg (by decide),if_neg (by decide),if_pos rfl]
theorem Yl (nm:ax)(ix:Int)(tp:eZ)(m b:Nat):gC 4 nm ix tp m b=if nm≠ []∨ix≠0∨kN tp=false∨m≠2 then 5 else 0:=by unfold gC;rw[if_neg (by decide),if_neg (by decide),if_neg (by decide),if_pos rfl]
theorem Ym {k:Int}(h1:k≠1)(h2:k≠2)(h3:k≠3)(h4:k≠4)(nm:ax)(ix:Int)(tp:eZ)(m b:Nat):gC k nm ix tp m b=4:=by unfold gC;rw[if_neg h1,if_neg h2,if_neg h3,if_neg h4]
theorem vg {α:Type}{l:List α}(h:l.length=1):∃y,l=[y]:=by
 match l,h with
 | [y],_=>exact⟨y,rfl⟩
theorem qI {α:Type}{l:List α}(h:l.length=2):∃y z,l=[y,z]:=by
 match l,h with
 | [y,z],_=>exact⟨y,z,rfl⟩
theorem fX (b:Nat)(cd at_:Int):de Tryz.prog 94 ([iv cd]++ [Value.pointer (some ⟨b,0,none⟩)]).toArray [rp b (iv at_)] (fv (cd,at_)):=by
 refine de.mf (args:=[iv cd]++ [Value.pointer (some ⟨b,0,none⟩)]) 7 Tryz.func94 rfl Tryz.ntmps94 rfl (fun c=> ?_);refine St.sr ?_;refine St.alloc dR rfl (fun b3=> ?_);refine St.nn (St.sr ?_);refine St.mv ?_;refine St.ee (Ev.Br (.mk rfl) bf trivial) ?_;refine St.ee (Ev.build (ps:=[(0,(.tmp 4)),(1,(.tmp 5))]) (aQ.cons (aL.mk rfl) (aQ.cons (aL.mk rfl) aQ.nil)) (fun w=>cX rfl rfl w)) ?_;refine St.sA (.mk rfl) (.mk rfl) aR ?_;refine St.nn (St.ae ?_);refine St.rT [_] [] Tryz.results94 ⟨⟨_,_,_,_,rfl,c4.mem,.inl ⟨⟨_,bC⟩,aR,rfl⟩⟩,trivial⟩ ?_;rfl
set_option maxHeartbeats 2000000 in
theorem rP (bn bw tw:Nat):∀(x:cH) (d b n:Nat),bx.wf x→d≤100→b≤d→n≤200→eI Tryz.prog 93 ([bT x,iv (d:Nat),iv (b:Nat)]++ [Value.pointer (some ⟨bn,0,none⟩),Value.pointer (some ⟨bw,0,none⟩)]).toArray [aE (bW x),aZ bn (.cells [iv (n:Nat)].toArray 3 (0,0)),aZ bw (.cells [(.func (.func 93) #[] [Value.pointer (some ⟨bn,0,none⟩),Value.pointer (some ⟨bw,0,none⟩)].toArray)].toArray tw (0,0))] (fun v H'=>v=fv (ft (bN x) d b n).2∧H'=[aZ bn (.cells [iv ((ft (bN x) d b n).1:Nat)].toArray 3 (0,0)),aZ bw (.cells [(.func (.func 93) #[] [Value.pointer (some ⟨bn,0,none⟩),Value.pointer (some ⟨bw,0,none⟩)].toArray)].toArray tw (0,0))]):=by
 intro x
 induction x using cH.ind
 rename_i x ih
 intro d b n Qk hd Qp hn
 have FQ:x.name.length≤9223372036854775807:=by have:=Qk.2.1;omega
 refine eI.body (args:=[bT x,iv (d:Nat),iv (b:Nat)]++ [Value.pointer (some ⟨bn,0,none⟩),Value.pointer (some ⟨bw,0,none⟩)]) 166 Tryz.func93 rfl Tryz.ntmps93 rfl (fun c=> ?_);refine St.seq ?_
 have dC:=K3 (bN x) d b n
 rw[zZ,mO,mR]at dC;refine St.vK x ?_;refine St.wf x.av.1 (fun nY uu=> ?_);refine St.rg ?_;refine St.dS (.mk rfl) rfl (fun b5=> ?_);refine St.alloc dR rfl (fun b8=> ?_);refine St.nn (St.sr ?_);refine St.ee (Ev.l0 (.mk rfl) bf) ?_;refine St.alloc LG rfl (fun b9=> ?_);refine St.bQ (.mk rfl) (.mk rfl) cu rfl (by rfl) ?_;refine St.nn (St.sr ?_);refine St.ee (Ev.l0 (.mk rfl) bf) ?_;refine St.ee Ev.a0 ?_;refine St.bQ (.mk rfl) (.mk rfl) cu rfl (by rfl) ?_;refine St.hS bn (L':=[iv ((n+1:Nat):Int)]) rfl ?_;refine St.nn (St.sr ?_);refine St.ee (Ev.func (.cons (.mk rfl) .nil)) ?_;refine St.ao ?_;refine St.nn (St.seq (St.sr ?_));refine St.ee (Ev.l0 (.mk rfl) bf) ?_;refine St.ee Ev.vQ ?_;refine St.mv ?_;refine St.gf _ rfl rfl (fun hg=>Ev.move (.mk rfl)) rfl ?_;refine St.gf _ rfl rfl (fun hg=>Ev.gtr (aL.gv rfl hg) (.mk rfl)) rfl ?_;refine St.ee Ev.o0 ?_;refine St.nn ?_;refine St.cond _ rfl (fun qJ=> ?_) (fun qJ=> ?_)
 ·try simp only[aA]at qJ
  rw[if_pos (by omega)]at dC;refine St.sr ?_;refine St.mv ?_;refine St.ee (Ev.jV (fX b9 1 n) rN (.mk rfl) (.cons (.mk rfl) .nil) (eU.aZ eU.nil)) ?_;refine St.sA (.mk rfl) (.mk rfl) aR ?_;refine St.nn (St.ae (St.a8 ?_));refine St.rT [_] [aZ bn (.cells [iv ((n+1):Nat)].toArray 3 (0,0)),aZ bw (.cells [(.func (.func 93) #[] [Value.pointer (some ⟨bn,0,none⟩),Value.pointer (some ⟨bw,0,none⟩)].toArray)].toArray tw (0,0))] Tryz.results93 ⟨⟨_,_,_,_,rfl,c4.mem,.inl ⟨⟨_,bC⟩,aR,rfl⟩⟩,trivial⟩ ?_;rw[dC];exact⟨rfl,rfl⟩
 ·try simp only[aA]at qJ
  rw[if_neg (by omega)]at dC;refine St.skip (St.a7 (St.seq (St.sr ?_)));refine St.ee (Ev.aD (.mk rfl) CS) ?_;refine St.ee (Ev.l0 (.mk rfl) bf) ?_;refine St.nn (St.block (St.sr ?_));refine St.ee Ev.fE ?_;refine St.ao ?_;refine St.nn ?_;refine St.cond _ rfl (fun GQ=> ?_) (fun GQ=> ?_)
  ·try simp only[aA]at GQ
   rw[GQ,Yi]at dC;refine St.seq (St.sr ?_);refine St.ee (Ev.aD (.mk rfl) oC) ?_;refine St.ee (Ev.l0 (.mk rfl) bf) ?_;refine St.ee Ev.kz ?_;refine St.mv ?_;refine St.gf _ rfl rfl (fun hg=>Ev.aD (.mk rfl) gy) rfl ?_;refine St.gf _ rfl rfl (fun hg=>Ev.cY (aL.gv rfl hg) fJ trivial (by rfl)) rfl ?_;refine St.gf _ rfl rfl (fun hg=>Ev.bA (aL.gv rfl hg) fJ) rfl ?_;refine St.gf _ rfl rfl (fun hg=>Ev.neq (aL.gv rfl hg) (.mk rfl)) rfl ?_;refine St.ee Ev.o0 ?_;refine St.nn ?_;refine St.cond _ rfl (fun Al=> ?_) (fun Al=> ?_)
   ·try simp only[aA]at Al
    rw[if_pos (show x.index≠0∨x.args.length≠0 by omega)]at dC;refine St.sr ?_;refine St.mv ?_;refine St.ee (Ev.jV (fX b9 5 n) rN (.mk rfl) (.cons (.mk rfl) .nil) (eU.aZ eU.nil)) ?_;refine St.sA (.mk rfl) (.mk rfl) aR ?_;refine St.nn (St.ae (St.a8 (St.aN (St.a8 ?_))));refine St.rT [_] [aZ bn (.cells [iv ((n+1):Nat)].toArray 3 (0,0)),aZ bw (.cells [(.func (.func 93) #[] [Value.pointer (some ⟨bn,0,none⟩),Value.pointer (some ⟨bw,0,none⟩)].toArray)].toArray tw (0,0))] Tryz.results93 ⟨⟨_,_,_,_,rfl,c4.mem,.inl ⟨⟨_,bC⟩,aR,rfl⟩⟩,trivial⟩ ?_;rw[dC,if_pos (by decide)];exact⟨rfl,rfl⟩
   ·try simp only[aA]at Al
    obtain⟨hi,hl⟩:x.index=0∧x.args.length=0:=by omega
    rw[if_neg (show ¬(x.index≠0∨x.args.length≠0) by omega)]at dC;refine St.skip (St.a7 (St.seq (St.sr ?_)));refine St.ee (Ev.aD (.mk rfl) tx) ?_;refine St.ee (Ev.l0 (.mk rfl) cZ) ?_;refine St.ee (Ev.call (fB x.name FQ) u5 (.cons (.mk rfl) .nil)) ?_;refine St.ee (Ev.not (.mk rfl)) ?_;refine St.nn ?_;refine St.cond _ rfl (fun ud=> ?_) (fun ud=> ?_)
    ·try simp only[aA]at ud
     rw[if_pos (show isName x.name=false by simpa using ud)]at dC;refine St.sr ?_;refine St.mv ?_;refine St.ee (Ev.jV (fX b9 10 n) rN (.mk rfl) (.cons (.mk rfl) .nil) (eU.aZ eU.nil)) ?_;refine St.sA (.mk rfl) (.mk rfl) aR ?_;refine St.nn (St.ae (St.a8 (St.aN (St.a8 ?_))));refine St.rT [_] [aZ bn (.cells [iv ((n+1):Nat)].toArray 3 (0,0)),aZ bw (.cells [(.func (.func 93) #[] [Value.pointer (some ⟨bn,0,none⟩),Value.pointer (some ⟨bw,0,none⟩)].toArray)].toArray tw (0,0))] Tryz.results93 ⟨⟨_,_,_,_,rfl,c4.mem,.inl ⟨⟨_,bC⟩,aR,rfl⟩⟩,trivial⟩ ?_;rw[dC,if_pos (by decide)];exact⟨rfl,rfl⟩
    ·try simp only[aA]at ud
     rw[if_neg (show ¬isName x.name=false by simpa using ud)]at dC;refine St.skip (St.a7 (St.sr ?_));refine St.ee (Ev.aD (.mk rfl) mQ) ?_;refine St.ee (Ev.nC 2 (.mk rfl) bb trivial bB rfl rfl) ?_;refine St.ee (Ev.call (ov x.type) Mc (.cons (.mk rfl) .nil)) ?_;refine St.ee (Ev.tT (.mk rfl) bC rfl (by first|rw[bf]|(dsimp only;rw[bf])|kernel_rfl) rfl) ?_;refine St.ee Ev.kz ?_;refine St.nn ?_;refine St.cond _ rfl (fun uC=> ?_) (fun uC=> ?_)
     ·try simp only[aA]at uC
      rw[if_pos (show o3 (cD x.type)≠0 by simpa using uC)]at dC;refine St.sr ?_;refine St.mv ?_;refine St.ee (Ev.jV (fX b9 12 n) rN (.mk rfl) (.cons (.mk rfl) .nil) (eU.aZ eU.nil)) ?_;refine St.sA (.mk rfl) (.mk rfl) aR ?_;refine St.nn (St.ae (St.aN (St.a8 ?_)));refine St.rT [_] [aZ bn (.cells [iv ((n+1):Nat)].toArray 3 (0,0)),aZ bw (.cells [(.func (.func 93) #[] [Value.pointer (some ⟨bn,0,none⟩),Value.pointer (some ⟨bw,0,none⟩)].toArray)].toArray tw (0,0))] Tryz.results93 ⟨⟨_,_,_,_,rfl,c4.mem,.inl ⟨⟨_,bC⟩,aR,rfl⟩⟩,trivial⟩ ?_;rw[dC,if_pos (by decide)];exact⟨rfl,rfl⟩
     ·try simp only[aA]at uC
      rw[if_neg (show ¬o3 (cD x.type)≠0 by simpa using uC),if_neg (by decide),List.eq_nil_of_length_eq_zero hl,List.map_nil,jY]at dC;refine St.skip (St.aW (St.a7 (St.sr ?_)));refine St.ee (Ev.build (ps:=[]) (aQ.nil) (fun w=>fK w)) ?_;refine St.sA (.mk rfl) (.mk rfl) aR ?_;refine St.nn (St.ae ?_);refine St.rT [_] [aZ bn (.cells [iv ((n+1):Nat)].toArray 3 (0,0)),aZ bw (.cells [(.func (.func 93) #[] [Value.pointer (some ⟨bn,0,none⟩),Value.pointer (some ⟨bw,0,none⟩)].toArray)].toArray tw (0,0))] Tryz.results93 ⟨⟨_,_,_,_,rfl,c4.mem,.inl ⟨⟨_,bC⟩,aR,rfl⟩⟩,trivial⟩ ?_;rw[dC];exact⟨rfl,rfl⟩
  ·try simp only[aA]at GQ
   refine St.sr ?_;refine St.ee Ev.fE ?_;refine St.ao ?_;refine St.nn ?_;refine St.cond _ rfl (fun uD=> ?_) (fun uD=> ?_)
   ·try simp only[aA]at uD
    rw[uD,Yj]at dC;refine St.seq (St.sr ?_);refine St.ee (Ev.aD (.mk rfl) tx) ?_;refine St.ee (Ev.l0 (.mk rfl) cZ) ?_;refine St.ee (Ev.oU (.mk rfl) (.mk rfl)) ?_;refine St.mv ?_;refine St.gf _ rfl rfl (fun hg=>Ev.aD (.mk rfl) mQ) rfl ?_;refine St.gf _ rfl rfl (fun hg=>Ev.nC 2 (aL.gv rfl hg) bb trivial bB rfl rfl) rfl ?_;refine St.gf _ rfl rfl (fun hg=>Ev.call (sL x.type) Md (.cons (aL.gv rfl hg) .nil)) rfl ?_;refine St.gf _ rfl rfl (fun hg=>Ev.not (aL.gv rfl hg)) rfl ?_;refine St.ee Ev.o0 ?_;refine St.mv ?_;refine St.gf _ rfl rfl (fun hg=>Ev.aD (.mk rfl) gy) rfl ?_;refine St.gf _ rfl rfl (fun hg=>Ev.cY (aL.gv rfl hg) fJ trivial (by rfl)) rfl ?_;refine St.gf _ rfl rfl (fun hg=>Ev.bA (aL.gv rfl hg) fJ) rfl ?_;refine St.gf _ rfl rfl (fun hg=>Ev.neq (aL.gv rfl hg) (.mk rfl)) rfl ?_;refine St.ee Ev.o0 ?_;refine St.nn ?_;refine St.cond _ rfl (fun sN=> ?_) (fun sN=> ?_)
    ·simp only[Bool.or_eq_true,Bool.or_eq_false_iff,Bool.not_eq_true',Bool.not_eq_false',decide_eq_true_eq,decide_eq_false_iff_not,beq_iff_eq,beq_eq_false_iff_ne]at sN
     rw[if_pos (show x.name≠ []∨kN (cD x.type)=false∨x.args.length≠0 by rcases sN with(h|h)|h;exact .inl h;exact .inr (.inl h);exact .inr (.inr (by omega)))]at dC;refine St.sr ?_;refine St.mv ?_;refine St.ee (Ev.jV (fX b9 5 n) rN (.mk rfl) (.cons (.mk rfl) .nil) (eU.aZ eU.nil)) ?_;refine St.sA (.mk rfl) (.mk rfl) aR ?_;refine St.nn (St.ae (St.a8 (St.aN (St.a8 ?_))));refine St.rT [_] [aZ bn (.cells [iv ((n+1):Nat)].toArray 3 (0,0)),aZ bw (.cells [(.func (.func 93) #[] [Value.pointer (some ⟨bn,0,none⟩),Value.pointer (some ⟨bw,0,none⟩)].toArray)].toArray tw (0,0))] Tryz.results93 ⟨⟨_,_,_,_,rfl,c4.mem,.inl ⟨⟨_,bC⟩,aR,rfl⟩⟩,trivial⟩ ?_;rw[dC,if_pos (by decide)];exact⟨rfl,rfl⟩
    ·simp only[Bool.or_eq_true,Bool.or_eq_false_iff,Bool.not_eq_true',Bool.not_eq_false',decide_eq_true_eq,decide_eq_false_iff_not,beq_iff_eq,beq_eq_false_iff_ne]at sN
     obtain⟨⟨Mw,Sb⟩,Sc⟩:=sN
     have hl:x.args.length=0:=by omega
     rw[if_neg (show ¬(x.name≠ []∨kN (cD x.type)=false∨x.args.length≠0) by rintro (h|h|h);exact h (by simpa using Mw);rw[Sb]at h;cases h;omega)]at dC;refine St.skip (St.a7 (St.sr ?_));refine St.ee (Ev.aD (.mk rfl) oC) ?_;refine St.ee (Ev.l0 (.mk rfl) bf) ?_;refine St.ee Ev.ez ?_;refine St.mv ?_;refine St.gf _ rfl rfl (fun hg=>Ev.aD (.mk rfl) oC) rfl ?_;refine St.gf _ rfl rfl (fun hg=>Ev.cY (aL.gv rfl hg) bf trivial (by rfl)) rfl ?_;refine St.gf _ rfl rfl (fun hg=>Ev.move (.mk rfl)) rfl ?_;refine St.gf _ rfl rfl (fun hg=>Ev.geq (aL.gv rfl hg) (aL.gv rfl hg)) rfl ?_;refine St.ee Ev.o0 ?_;refine St.nn ?_;refine St.cond _ rfl (fun Sd=> ?_) (fun Sd=> ?_)
     ·try simp only[aA]at Sd
      rw[if_pos (show x.index<0∨(b:Int)≤x.index by omega)]at dC;refine St.sr ?_;refine St.mv ?_;refine St.ee (Ev.jV (fX b9 15 n) rN (.mk rfl) (.cons (.mk rfl) .nil) (eU.aZ eU.nil)) ?_;refine St.sA (.mk rfl) (.mk rfl) aR ?_;refine St.nn (St.ae (St.aN (St.a8 ?_)));refine St.rT [_] [aZ bn (.cells [iv ((n+1):Nat)].toArray 3 (0,0)),aZ bw (.cells [(.func (.func 93) #[] [Value.pointer (some ⟨bn,0,none⟩),Value.pointer (some ⟨bw,0,none⟩)].toArray)].toArray tw (0,0))] Tryz.results93 ⟨⟨_,_,_,_,rfl,c4.mem,.inl ⟨⟨_,bC⟩,aR,rfl⟩⟩,trivial⟩ ?_;rw[dC,if_pos (by decide)];exact⟨rfl,rfl⟩
     ·try simp only[aA]at Sd
      rw[if_neg (show ¬(x.index<0∨(b:Int)≤x.index) by omega),if_neg (by decide),List.eq_nil_of_length_eq_zero hl,List.map_nil,jY]at dC;refine St.skip (St.aW (St.a7 (St.sr ?_)));refine St.ee (Ev.build (ps:=[]) (aQ.nil) (fun w=>fK w)) ?_;refine St.sA (.mk rfl) (.mk rfl) aR ?_;refine St.nn (St.ae ?_);refine St.rT [_] [aZ bn (.cells [iv ((n+1):Nat)].toArray 3 (0,0)),aZ bw (.cells [(.func (.func 93) #[] [Value.pointer (some ⟨bn,0,none⟩),Value.pointer (some ⟨bw,0,none⟩)].toArray)].toArray tw (0,0))] Tryz.results93 ⟨⟨_,_,_,_,rfl,c4.mem,.inl ⟨⟨_,bC⟩,aR,rfl⟩⟩,trivial⟩ ?_;rw[dC];exact⟨rfl,rfl⟩
   ·try simp only[aA]at uD
    refine St.sr ?_;refine St.ee Ev.fE ?_;refine St.ao ?_;refine St.nn ?_;refine St.cond _ rfl (fun Cj=> ?_) (fun Cj=> ?_)
    ·try simp only[aA]at Cj
     rw[Cj,Yk]at dC;refine St.seq (St.sr ?_);refine St.ee (Ev.aD (.mk rfl) tx) ?_;refine St.ee (Ev.l0 (.mk rfl) cZ) ?_;refine St.ee (Ev.oU (.mk rfl) (.mk rfl)) ?_;refine St.mv ?_;refine St.gf _ rfl rfl (fun hg=>Ev.aD (.mk rfl) oC) rfl ?_;refine St.gf _ rfl rfl (fun hg=>Ev.cY (aL.gv rfl hg) bf trivial (by rfl)) rfl ?_;refine St.gf _ rfl rfl (fun hg=>Ev.neq (aL.gv rfl hg) (.mk rfl)) rfl ?_;refine St.ee Ev.o0 ?_;refine St.mv ?_;refine St.gf _ rfl rfl (fun hg=>Ev.aD (.mk rfl) gy) rfl ?_;refine St.gf _ rfl rfl (fun hg=>Ev.cY (aL.gv rfl hg) fJ trivial (by rfl)) rfl ?_;refine St.gf _ rfl rfl (fun hg=>Ev.bA (aL.gv rfl hg) fJ) rfl ?_;refine St.gf _ rfl rfl (fun hg=>Ev.neq (aL.gv rfl hg) (.mk rfl)) rfl ?_;refine St.ee Ev.o0 ?_;refine St.nn ?_;refine St.cond _ rfl (fun Ck=> ?_) (fun Ck=> ?_)
     ·simp only[Bool.or_eq_true,Bool.or_eq_false_iff,Bool.not_eq_true',Bool.not_eq_false',decide_eq_true_eq,decide_eq_false_iff_not,beq_iff_eq,beq_eq_false_iff_ne]at Ck
      rw[if_pos (show x.name≠ []∨x.index≠0∨x.args.length≠1 by rcases Ck with(h|h)|h;exact .inl h;exact .inr (.inl h);exact .inr (.inr (by omega)))]at dC;refine St.sr ?_;refine St.mv ?_;refine St.ee (Ev.jV (fX b9 5 n) rN (.mk rfl) (.cons (.mk rfl) .nil) (eU.aZ eU.nil)) ?_;refine St.sA (.mk rfl) (.mk rfl) aR ?_;refine St.nn (St.ae (St.a8 (St.aN (St.a8 ?_))));refine St.rT [_] [aZ bn (.cells [iv ((n+1):Nat)].toArray 3 (0,0)),aZ bw (.cells [(.func (.func 93) #[] [Value.pointer (some ⟨bn,0,none⟩),Value.pointer (some ⟨bw,0,none⟩)].toArray)].toArray tw (0,0))] Tryz.results93 ⟨⟨_,_,_,_,rfl,c4.mem,.inl ⟨⟨_,bC⟩,aR,rfl⟩⟩,trivial⟩ ?_;rw[dC,if_pos (by decide)];exact⟨rfl,rfl⟩
     ·simp only[Bool.or_eq_true,Bool.or_eq_false_iff,Bool.not_eq_true',Bool.not_eq_false',decide_eq_true_eq,decide_eq_false_iff_not,beq_iff_eq,beq_eq_false_iff_ne]at Ck
      obtain⟨⟨Mw,Sb⟩,Sc⟩:=Ck
      have hl:x.args.length=1:=by omega
      rw[if_neg (show ¬(x.name≠ []∨x.index≠0∨x.args.length≠1) by rintro (h|h|h);exact h (by simpa using Mw);omega;omega)]at dC;refine St.skip (St.a7 (St.seq (St.sr ?_)));refine St.ee (Ev.aD (.mk rfl) mQ) ?_;refine St.ee (Ev.nC 2 (.mk rfl) bb trivial bB rfl rfl) ?_;refine St.ee (Ev.call (ov x.type) Mc (.cons (.mk rfl) .nil)) ?_;refine St.ee (Ev.tT (.mk rfl) bC rfl (by first|rw[bf]|(dsimp only;rw[bf])|kernel_rfl) rfl) ?_;refine St.ee Ev.kz ?_;refine St.nn ?_;refine St.cond _ rfl (fun Cl=> ?_) (fun Cl=> ?_)
      ·try simp only[aA]at Cl
       rw[if_pos (show o3 (cD x.type)≠0 by simpa using Cl)]at dC;refine St.sr ?_;refine St.mv ?_;refine St.ee (Ev.jV (fX b9 12 n) rN (.mk rfl) (.cons (.mk rfl) .nil) (eU.aZ eU.nil)) ?_;refine St.sA (.mk rfl) (.mk rfl) aR ?_;refine St.nn (St.ae (St.a8 (St.aN (St.a8 ?_))));refine St.rT [_] [aZ bn (.cells [iv ((n+1):Nat)].toArray 3 (0,0)),aZ bw (.cells [(.func (.func 93) #[] [Value.pointer (some ⟨bn,0,none⟩),Value.pointer (some ⟨bw,0,none⟩)].toArray)].toArray tw (0,0))] Tryz.results93 ⟨⟨_,_,_,_,rfl,c4.mem,.inl ⟨⟨_,bC⟩,aR,rfl⟩⟩,trivial⟩ ?_;rw[dC,if_pos (by decide)];exact⟨rfl,rfl⟩
      ·try simp only[aA]at Cl
       obtain⟨y,hy⟩:=vg hl;rw[if_neg (show ¬o3 (cD x.type)≠0 by simpa using Cl),if_neg (by decide),if_pos rfl,hy,List.map_cons,List.map_nil,vc]at dC;refine St.dK bW x.args (x:=y) (by rw[hy];simp) ?_;refine St.skip (St.a7 (St.seq ?_));refine St.ek [aZ bn (.cells [iv ((n+1):Nat)].toArray 3 (0,0)),aZ bw (.cells [(.func (.func 93) #[] [Value.pointer (some ⟨bn,0,none⟩),Value.pointer (some ⟨bw,0,none⟩)].toArray)].toArray tw (0,0)),aE (bW y),aZ b8 (.cells [iv 0,iv 0].toArray 28 (0,0))] mixed (fun np ns=> ?_);refine SW.dd 1 rfl (fun _=>Ev.aD (.mk rfl) gy) ?_;refine SW.dd 2 rfl (fun _=>Ev.cY (.mk rfl) fJ trivial (by rfl)) ?_;refine SW.dd 3 rfl (fun _=>Ev.aa (k:=0) (.mk rfl) (.mk rfl) fJ dI rfl (by omega)) ?_;refine SW.dd 4 rfl (fun _=>Ev.iH (.mk rfl) (show x.args[0]?=some y by rw[hy];rfl) fl trivial dI fw.eq) ?_;refine SW.dd 5 rfl (fun _=>Ev.move (.mk rfl)) ?_;refine SW.dd 6 rfl (fun _=>Ev.a0) ?_;refine SW.slot 115 (iv ((d+1:Nat):Int)) rfl rfl ?_;refine SW.dd 7 rfl (fun _=>Ev.move (.mk rfl)) ?_;refine SW.dd 8 rfl (fun _=>Ev.a0) ?_;refine SW.slot 117 (iv ((b+1:Nat):Int)) rfl rfl ?_;refine SW.ar (i:=0) (by kernel_rfl) rfl ?_;refine St.ee (Ev.l0 (.mk rfl) qC) ?_;refine St.nn ?_;refine SW.go ?_;refine SW.ar (i:=9) (by kernel_rfl) rfl ?_;refine St.cp (ih y (by rw[hy];simp) (d+1) (b+1) (n+1) (nY y (by rw[hy];simp)) (by omega) (by omega) (by omega)) vT (.mk rfl) (.cons (.mk rfl) (.cons (.mk rfl) (.cons (.mk rfl) .nil))) rfl ?_;rintro Yn _ ⟨rfl,rfl⟩;refine St.cI ?_;refine St.nn ?_;refine SW.go ?_;refine SW.ar (i:=10) (by kernel_rfl) rfl ?_;refine St.sA (.mk rfl) (.mk rfl) aR ?_;refine St.nn ?_;refine SW.go ?_;refine SW.done (by kernel_rfl) ?_;refine St.a7 (St.ae (St.aN (St.a8 ?_)));refine St.rT [_] [aZ bn (.cells [iv ((ft (bN y) (d+1) (b+1) (n+1)).1:Nat)].toArray 3 (0,0)),aZ bw (.cells [(.func (.func 93) #[] [Value.pointer (some ⟨bn,0,none⟩),Value.pointer (some ⟨bw,0,none⟩)].toArray)].toArray tw (0,0))] Tryz.results93 ⟨⟨_,_,_,_,rfl,c4.mem,.inl ⟨⟨_,bC⟩,aR,rfl⟩⟩,trivial⟩ ?_
       rw[dC];exact⟨rfl,rfl⟩
    ·try simp only[aA]at Cj
     refine St.sr ?_;refine St.ee Ev.fE ?_;refine St.ao ?_;refine St.nn ?_;refine St.cond _ rfl (fun Cm=> ?_) (fun Cm=> ?_)
     ·try simp only[aA]at Cm
      rw[Cm,Yl]at dC;refine St.seq (St.sr ?_);refine St.ee (Ev.aD (.mk rfl) tx) ?_;refine St.ee (Ev.l0 (.mk rfl) cZ) ?_;refine St.ee (Ev.oU (.mk rfl) (.mk rfl)) ?_;refine St.mv ?_;refine St.gf _ rfl rfl (fun hg=>Ev.aD (.mk rfl) oC) rfl ?_;refine St.gf _ rfl rfl (fun hg=>Ev.cY (aL.gv rfl hg) bf trivial (by rfl)) rfl ?_;refine St.gf _ rfl rfl (fun hg=>Ev.neq (aL.gv rfl hg) (.mk rfl)) rfl ?_;refine St.ee Ev.o0 ?_;refine St.mv ?_;refine St.gf _ rfl rfl (fun hg=>Ev.aD (.mk rfl) mQ) rfl ?_;refine St.gf _ rfl rfl (fun hg=>Ev.nC 2 (aL.gv rfl hg) bb trivial bB rfl rfl) rfl ?_;refine St.gf _ rfl rfl (fun hg=>Ev.call (sL x.type) Md (.cons (aL.gv rfl hg) .nil)) rfl ?_;refine St.gf _ rfl rfl (fun hg=>Ev.not (aL.gv rfl hg)) rfl ?_;refine St.ee Ev.o0 ?_;refine St.mv ?_;refine St.gf _ rfl rfl (fun hg=>Ev.aD (.mk rfl) gy) rfl ?_;refine St.gf _ rfl rfl (fun hg=>Ev.cY (aL.gv rfl hg) fJ trivial (by rfl)) rfl ?_;refine St.gf _ rfl rfl (fun hg=>Ev.bA (aL.gv rfl hg) fJ) rfl ?_;refine St.gf _ rfl rfl (fun hg=>Ev.neq (aL.gv rfl hg) (.mk rfl)) rfl ?_;refine St.ee Ev.o0 ?_;refine St.nn ?_;refine St.cond _ rfl (fun Cn=> ?_) (fun Cn=> ?_)
      ·simp only[Bool.or_eq_true,Bool.or_eq_false_iff,Bool.not_eq_true',Bool.not_eq_false',decide_eq_true_eq,decide_eq_false_iff_not,beq_iff_eq,beq_eq_false_iff_ne]at Cn
       rw[if_pos (show x.name≠ []∨x.index≠0∨kN (cD x.type)=false∨x.args.length≠2 by rcases Cn with((h|h)|h)|h;exact .inl h;exact .inr (.inl h);exact .inr (.inr (.inl h));exact .inr (.inr (.inr (by omega))))]at dC;refine St.sr ?_;refine St.mv ?_;refine St.ee (Ev.jV (fX b9 5 n) rN (.mk rfl) (.cons (.mk rfl) .nil) (eU.aZ eU.nil)) ?_;refine St.sA (.mk rfl) (.mk rfl) aR ?_;refine St.nn (St.ae (St.a8 (St.aN (St.a8 ?_))));refine St.rT [_] [aZ bn (.cells [iv ((n+1):Nat)].toArray 3 (0,0)),aZ bw (.cells [(.func (.func 93) #[] [Value.pointer (some ⟨bn,0,none⟩),Value.pointer (some ⟨bw,0,none⟩)].toArray)].toArray tw (0,0))] Tryz.results93 ⟨⟨_,_,_,_,rfl,c4.mem,.inl ⟨⟨_,bC⟩,aR,rfl⟩⟩,trivial⟩ ?_;rw[dC,if_pos (by decide)];exact⟨rfl,rfl⟩
      ·simp only[Bool.or_eq_true,Bool.or_eq_false_iff,Bool.not_eq_true',Bool.not_eq_false',decide_eq_true_eq,decide_eq_false_iff_not,beq_iff_eq,beq_eq_false_iff_ne]at Cn
       obtain⟨⟨⟨Mw,Sb⟩,Sc⟩,hq4⟩:=Cn;obtain⟨y,z,hy⟩:=qI (show x.args.length=2 by omega);rw[if_neg (show ¬(x.name≠ []∨x.index≠0∨kN (cD x.type)=false∨x.args.length≠2) by rintro (h|h|h|h);exact h (by simpa using Mw);omega;rw[Sc]at h;cases h;omega),if_neg (by decide),if_neg (by decide),hy,List.map_cons,List.map_cons,List.map_nil,Cg]at dC;refine St.dK bW x.args (x:=y) (by rw[hy];simp) ?_;refine St.dK bW x.args (x:=z) (by rw[hy];simp) ?_
       have hle:=K4 (bN y) (d+1) b (n+1) (by omega)
       have Yo:x.args.length=2:=by rw[hy];rfl
       refine St.skip (St.a7 (St.seq (St.seq ?_)));refine St.ek [aZ bn (.cells [iv ((n+1):Nat)].toArray 3 (0,0)),aZ bw (.cells [(.func (.func 93) #[] [Value.pointer (some ⟨bn,0,none⟩),Value.pointer (some ⟨bw,0,none⟩)].toArray)].toArray tw (0,0)),aE (bW y)] mixed (fun np ns=> ?_);refine SW.dd 1 rfl (fun _=>Ev.aD (.mk rfl) gy) ?_;refine SW.dd 2 rfl (fun _=>Ev.cY (.mk rfl) fJ trivial (by rfl)) ?_;refine SW.dd 3 rfl (fun _=>Ev.aa (k:=0) (.mk rfl) (.mk rfl) fJ dI rfl (by omega)) ?_;refine SW.dd 4 rfl (fun _=>Ev.iH (.mk rfl) (show x.args[0]?=some y by rw[hy];rfl) fl trivial dI fw.eq) ?_;refine SW.dd 5 rfl (fun _=>Ev.move (.mk rfl)) ?_;refine SW.dd 6 rfl (fun _=>Ev.a0) ?_;refine SW.slot 149 (iv ((d+1:Nat):Int)) rfl rfl ?_;refine SW.dd 7 rfl (fun _=>Ev.move (.mk rfl)) ?_;refine SW.ig (i:=0) (j:=9) (by kernel_rfl) rfl rfl ?_ ?_
       ·refine St.ee (Ev.l0 (.mk rfl) qC) ?_
        refine St.nn ?_;refine SW.go ?_;refine SW.ig (i:=8) (j:=9) (by kernel_rfl) rfl rfl ?_ ?_
        ·refine St.cp (ih y (by rw[hy];simp) (d+1) b (n+1) (nY y (by rw[hy];simp)) (by omega) (by omega) (by omega)) vT (.mk rfl) (.cons (.mk rfl) (.cons (.mk rfl) (.cons (.mk rfl) .nil))) rfl ?_
         rintro Mx _ ⟨rfl,rfl⟩;refine St.cI ?_;refine St.nn ?_;refine SW.go ?_;refine SW.ar (i:=9) (by kernel_rfl) rfl ?_;refine St.alloc dR rfl (fun mG=> ?_);refine St.nn ?_;refine SW.go ?_;refine SW.ar (i:=10) (by kernel_rfl) rfl ?_;refine St.sA (.mk rfl) (.mk rfl) aR ?_;refine St.nn ?_;refine SW.go ?_;refine SW.done (by kernel_rfl) ?_;refine St.a7 (St.sr ?_);refine St.ee (Ev.aD (.mk rfl) cW) ?_;refine St.ee (Ev.l0 (.mk rfl) bf) ?_;refine St.ee Ev.kz ?_;refine St.nn ?_;refine St.cond _ rfl (fun l7=> ?_) (fun l7=> ?_)
         ·try simp only[aA]at l7
          rw[if_pos (show(ft (bN y) (d+1) b (n+1)).2.1≠0 by simpa using l7)]at dC;refine St.sr ?_;refine St.ee (Ev.an (.mk rfl) bC trivial (by exact aR)) ?_;refine St.sA (.mk rfl) (.mk rfl) aR ?_;refine St.nn (St.ae (St.a8 (St.aN (St.a8 ?_))));refine St.rT [_] [aZ bn (.cells [iv ((ft (bN y) (d+1) b (n+1)).1:Nat)].toArray 3 (0,0)),aZ bw (.cells [(.func (.func 93) #[] [Value.pointer (some ⟨bn,0,none⟩),Value.pointer (some ⟨bw,0,none⟩)].toArray)].toArray tw (0,0))] Tryz.results93 ⟨⟨_,_,_,_,rfl,c4.mem,.inl ⟨⟨_,bC⟩,aR,rfl⟩⟩,trivial⟩ ?_
          rw[dC];exact⟨rfl,rfl⟩
         ·try simp only[aA]at l7
          have CD:(ft (bN y) (d+1) b (n+1)).2.1=0:=by simpa using l7
          have zL:=(uA (bN y) (d+1) b (n+1) CD).1
          rw[if_neg (by rw[CD];decide)]at dC;refine St.skip (St.a7 (St.seq ?_));refine St.ek [aZ bn (.cells [iv ((ft (bN y) (d+1) b (n+1)).1:Nat)].toArray 3 (0,0)),aZ bw (.cells [(.func (.func 93) #[] [Value.pointer (some ⟨bn,0,none⟩),Value.pointer (some ⟨bw,0,none⟩)].toArray)].toArray tw (0,0)),aE (bW z),aZ b8 (.cells [iv 0,iv 0].toArray 28 (0,0))] mixed (fun np ns=> ?_);refine SW.dd 1 rfl (fun _=>Ev.aD (.mk rfl) gy) ?_;refine SW.dd 2 rfl (fun _=>Ev.cY (.mk rfl) fJ trivial (by rfl)) ?_;refine SW.dd 3 rfl (fun _=>Ev.aa (k:=1) (.mk rfl) (.mk rfl) fJ dI rfl (by omega)) ?_;refine SW.dd 4 rfl (fun _=>Ev.iH (.mk rfl) (show x.args[1]?=some z by rw[hy];rfl) fl trivial dI fw.eq) ?_;refine SW.dd 5 rfl (fun _=>Ev.move (.mk rfl)) ?_;refine SW.dd 6 rfl (fun _=>Ev.a0) ?_;refine SW.slot 162 (iv ((d+1:Nat):Int)) rfl rfl ?_;refine SW.dd 7 rfl (fun _=>Ev.move (.mk rfl)) ?_;refine SW.ar (i:=0) (by kernel_rfl) rfl ?_;refine St.ee (Ev.l0 (.mk rfl) qC) ?_;refine St.nn ?_;refine SW.go ?_;refine SW.ar (i:=8) (by kernel_rfl) rfl ?_;refine St.cp (ih z (by rw[hy];simp) (d+1) b (ft (bN y) (d+1) b (n+1)).1 (nY z (by rw[hy];simp)) (by omega) (by omega) (by omega)) vT (.mk rfl) (.cons (.mk rfl) (.cons (.mk rfl) (.cons (.mk rfl) .nil))) rfl ?_;rintro v164 _ ⟨rfl,rfl⟩;refine St.cI ?_;refine St.nn ?_;refine SW.go ?_;refine SW.ar (i:=9) (by kernel_rfl) rfl ?_;refine St.sA (.mk rfl) (.mk rfl) aR ?_;refine St.nn ?_;refine SW.go ?_;refine SW.done (by kernel_rfl) ?_;refine St.a7 (St.ae (St.aN (St.a8 ?_)));refine St.rT [_] [aZ bn (.cells [iv ((ft (bN z) (d+1) b (ft (bN y) (d+1) b (n+1)).1).1:Nat)].toArray 3 (0,0)),aZ bw (.cells [(.func (.func 93) #[] [Value.pointer (some ⟨bn,0,none⟩),Value.pointer (some ⟨bw,0,none⟩)].toArray)].toArray tw (0,0))] Tryz.results93 ⟨⟨_,_,_,_,rfl,c4.mem,.inl ⟨⟨_,bC⟩,aR,rfl⟩⟩,trivial⟩ ?_
          rw[dC];exact⟨rfl,rfl⟩
        ·refine St.alloc dR rfl (fun mG=> ?_)
         refine St.nn ?_;refine SW.go ?_;refine SW.ar (i:=8) (by kernel_rfl) rfl ?_;refine St.cp (ih y (by rw[hy];simp) (d+1) b (n+1) (nY y (by rw[hy];simp)) (by omega) (by omega) (by omega)) vT (.mk rfl) (.cons (.mk rfl) (.cons (.mk rfl) (.cons (.mk rfl) .nil))) rfl ?_;rintro Mx _ ⟨rfl,rfl⟩;refine St.cI ?_;refine St.nn ?_;refine SW.go ?_;refine SW.ar (i:=10) (by kernel_rfl) rfl ?_;refine St.sA (.mk rfl) (.mk rfl) aR ?_;refine St.nn ?_;refine SW.go ?_;refine SW.done (by kernel_rfl) ?_;refine St.a7 (St.sr ?_);refine St.ee (Ev.aD (.mk rfl) cW) ?_;refine St.ee (Ev.l0 (.mk rfl) bf) ?_;refine St.ee Ev.kz ?_;refine St.nn ?_;refine St.cond _ rfl (fun l7=> ?_) (fun l7=> ?_)
         ·try simp only[aA]at l7
          rw[if_pos (show(ft (bN y) (d+1) b (n+1)).2.1≠0 by simpa using l7)]at dC;refine St.sr ?_;refine St.ee (Ev.an (.mk rfl) bC trivial (by exact aR)) ?_;refine St.sA (.mk rfl) (.mk rfl) aR ?_;refine St.nn (St.ae (St.a8 (St.aN (St.a8 ?_))));refine St.rT [_] [aZ bn (.cells [iv ((ft (bN y) (d+1) b (n+1)).1:Nat)].toArray 3 (0,0)),aZ bw (.cells [(.func (.func 93) #[] [Value.pointer (some ⟨bn,0,none⟩),Value.pointer (some ⟨bw,0,none⟩)].toArray)].toArray tw (0,0))] Tryz.results93 ⟨⟨_,_,_,_,rfl,c4.mem,.inl ⟨⟨_,bC⟩,aR,rfl⟩⟩,trivial⟩ ?_
          rw[dC];exact⟨rfl,rfl⟩
         ·try simp only[aA]at l7
          have CD:(ft (bN y) (d+1) b (n+1)).2.1=0:=by simpa using l7
          have zL:=(uA (bN y) (d+1) b (n+1) CD).1
          rw[if_neg (by rw[CD];decide)]at dC;refine St.skip (St.a7 (St.seq ?_));refine St.ek [aZ bn (.cells [iv ((ft (bN y) (d+1) b (n+1)).1:Nat)].toArray 3 (0,0)),aZ bw (.cells [(.func (.func 93) #[] [Value.pointer (some ⟨bn,0,none⟩),Value.pointer (some ⟨bw,0,none⟩)].toArray)].toArray tw (0,0)),aE (bW z),aZ b8 (.cells [iv 0,iv 0].toArray 28 (0,0))] mixed (fun np ns=> ?_);refine SW.dd 1 rfl (fun _=>Ev.aD (.mk rfl) gy) ?_;refine SW.dd 2 rfl (fun _=>Ev.cY (.mk rfl) fJ trivial (by rfl)) ?_;refine SW.dd 3 rfl (fun _=>Ev.aa (k:=1) (.mk rfl) (.mk rfl) fJ dI rfl (by omega)) ?_;refine SW.dd 4 rfl (fun _=>Ev.iH (.mk rfl) (show x.args[1]?=some z by rw[hy];rfl) fl trivial dI fw.eq) ?_;refine SW.dd 5 rfl (fun _=>Ev.move (.mk rfl)) ?_;refine SW.dd 6 rfl (fun _=>Ev.a0) ?_;refine SW.slot 162 (iv ((d+1:Nat):Int)) rfl rfl ?_;refine SW.dd 7 rfl (fun _=>Ev.move (.mk rfl)) ?_;refine SW.ar (i:=0) (by kernel_rfl) rfl ?_;refine St.ee (Ev.l0 (.mk rfl) qC) ?_;refine St.nn ?_;refine SW.go ?_;refine SW.ar (i:=8) (by kernel_rfl) rfl ?_;refine St.cp (ih z (by rw[hy];simp) (d+1) b (ft (bN y) (d+1) b (n+1)).1 (nY z (by rw[hy];simp)) (by omega) (by omega) (by omega)) vT (.mk rfl) (.cons (.mk rfl) (.cons (.mk rfl) (.cons (.mk rfl) .nil))) rfl ?_;rintro v164 _ ⟨rfl,rfl⟩;refine St.cI ?_;refine St.nn ?_;refine SW.go ?_;refine SW.ar (i:=9) (by kernel_rfl) rfl ?_;refine St.sA (.mk rfl) (.mk rfl) aR ?_;refine St.nn ?_;refine SW.go ?_;refine SW.done (by kernel_rfl) ?_;refine St.a7 (St.ae (St.aN (St.a8 ?_)));refine St.rT [_] [aZ bn (.cells [iv ((ft (bN z) (d+1) b (ft (bN y) (d+1) b (n+1)).1).1:Nat)].toArray 3 (0,0)),aZ bw (.cells [(.func (.func 93) #[] [Value.pointer (some ⟨bn,0,none⟩),Value.pointer (some ⟨bw,0,none⟩)].toArray)].toArray tw (0,0))] Tryz.results93 ⟨⟨_,_,_,_,rfl,c4.mem,.inl ⟨⟨_,bC⟩,aR,rfl⟩⟩,trivial⟩ ?_
          rw[dC];exact⟨rfl,rfl⟩
       ·refine St.alloc dR rfl (fun mG=> ?_)
        refine St.nn ?_;refine SW.go ?_;refine SW.ar (i:=0) (by kernel_rfl) rfl ?_;refine St.ee (Ev.l0 (.mk rfl) qC) ?_;refine St.nn ?_;refine SW.go ?_;refine SW.ar (i:=8) (by kernel_rfl) rfl ?_;refine St.cp (ih y (by rw[hy];simp) (d+1) b (n+1) (nY y (by rw[hy];simp)) (by omega) (by omega) (by omega)) vT (.mk rfl) (.cons (.mk rfl) (.cons (.mk rfl) (.cons (.mk rfl) .nil))) rfl ?_;rintro Mx _ ⟨rfl,rfl⟩;refine St.cI ?_;refine St.nn ?_;refine SW.go ?_;refine SW.ar (i:=10) (by kernel_rfl) rfl ?_;refine St.sA (.mk rfl) (.mk rfl) aR ?_;refine St.nn ?_;refine SW.go ?_;refine SW.done (by kernel_rfl) ?_;refine St.a7 (St.sr ?_);refine St.ee (Ev.aD (.mk rfl) cW) ?_;refine St.ee (Ev.l0 (.mk rfl) bf) ?_;refine St.ee Ev.kz ?_;refine St.nn ?_;refine St.cond _ rfl (fun l7=> ?_) (fun l7=> ?_)
        ·try simp only[aA]at l7
         rw[if_pos (show(ft (bN y) (d+1) b (n+1)).2.1≠0 by simpa using l7)]at dC;refine St.sr ?_;refine St.ee (Ev.an (.mk rfl) bC trivial (by exact aR)) ?_;refine St.sA (.mk rfl) (.mk rfl) aR ?_;refine St.nn (St.ae (St.a8 (St.aN (St.a8 ?_))));refine St.rT [_] [aZ bn (.cells [iv ((ft (bN y) (d+1) b (n+1)).1:Nat)].toArray 3 (0,0)),aZ bw (.cells [(.func (.func 93) #[] [Value.pointer (some ⟨bn,0,none⟩),Value.pointer (some ⟨bw,0,none⟩)].toArray)].toArray tw (0,0))] Tryz.results93 ⟨⟨_,_,_,_,rfl,c4.mem,.inl ⟨⟨_,bC⟩,aR,rfl⟩⟩,trivial⟩ ?_
         rw[dC];exact⟨rfl,rfl⟩
        ·try simp only[aA]at l7
         have CD:(ft (bN y) (d+1) b (n+1)).2.1=0:=by simpa using l7
         have zL:=(uA (bN y) (d+1) b (n+1) CD).1
         rw[if_neg (by rw[CD];decide)]at dC;refine St.skip (St.a7 (St.seq ?_));refine St.ek [aZ bn (.cells [iv ((ft (bN y) (d+1) b (n+1)).1:Nat)].toArray 3 (0,0)),aZ bw (.cells [(.func (.func 93) #[] [Value.pointer (some ⟨bn,0,none⟩),Value.pointer (some ⟨bw,0,none⟩)].toArray)].toArray tw (0,0)),aE (bW z),aZ b8 (.cells [iv 0,iv 0].toArray 28 (0,0))] mixed (fun np ns=> ?_);refine SW.dd 1 rfl (fun _=>Ev.aD (.mk rfl) gy) ?_;refine SW.dd 2 rfl (fun _=>Ev.cY (.mk rfl) fJ trivial (by rfl)) ?_;refine SW.dd 3 rfl (fun _=>Ev.aa (k:=1) (.mk rfl) (.mk rfl) fJ dI rfl (by omega)) ?_;refine SW.dd 4 rfl (fun _=>Ev.iH (.mk rfl) (show x.args[1]?=some z by rw[hy];rfl) fl trivial dI fw.eq) ?_;refine SW.dd 5 rfl (fun _=>Ev.move (.mk rfl)) ?_;refine SW.dd 6 rfl (fun _=>Ev.a0) ?_;refine SW.slot 162 (iv ((d+1:Nat):Int)) rfl rfl ?_;refine SW.dd 7 rfl (fun _=>Ev.move (.mk rfl)) ?_;refine SW.ar (i:=0) (by kernel_rfl) rfl ?_;refine St.ee (Ev.l0 (.mk rfl) qC) ?_;refine St.nn ?_;refine SW.go ?_;refine SW.ar (i:=8) (by kernel_rfl) rfl ?_;refine St.cp (ih z (by rw[hy];simp) (d+1) b (ft (bN y) (d+1) b (n+1)).1 (nY z (by rw[hy];simp)) (by omega) (by omega) (by omega)) vT (.mk rfl) (.cons (.mk rfl) (.cons (.mk rfl) (.cons (.mk rfl) .nil))) rfl ?_;rintro v164 _ ⟨rfl,rfl⟩;refine St.cI ?_;refine St.nn ?_;refine SW.go ?_;refine SW.ar (i:=9) (by kernel_rfl) rfl ?_;refine St.sA (.mk rfl) (.mk rfl) aR ?_;refine St.nn ?_;refine SW.go ?_;refine SW.done (by kernel_rfl) ?_;refine St.a7 (St.ae (St.aN (St.a8 ?_)));refine St.rT [_] [aZ bn (.cells [iv ((ft (bN z) (d+1) b (ft (bN y) (d+1) b (n+1)).1).1:Nat)].toArray 3 (0,0)),aZ bw (.cells [(.func (.func 93) #[] [Value.pointer (some ⟨bn,0,none⟩),Value.pointer (some ⟨bw,0,none⟩)].toArray)].toArray tw (0,0))] Tryz.results93 ⟨⟨_,_,_,_,rfl,c4.mem,.inl ⟨⟨_,bC⟩,aR,rfl⟩⟩,trivial⟩ ?_
         rw[dC];exact⟨rfl,rfl⟩
     ·try simp only[aA]at Cm
      rw[Ym GQ uD Cj Cm]at dC;refine St.sr ?_;refine St.mv ?_;refine St.ee (Ev.jV (fX b9 4 n) rN (.mk rfl) (.cons (.mk rfl) .nil) (eU.aZ eU.nil)) ?_;refine St.sA (.mk rfl) (.mk rfl) aR ?_;refine St.nn (St.ae (St.aN (St.a8 ?_)));refine St.rT [_] [aZ bn (.cells [iv ((n+1):Nat)].toArray 3 (0,0)),aZ bw (.cells [(.func (.func 93) #[] [Value.pointer (some ⟨bn,0,none⟩),Value.pointer (some ⟨bw,0,none⟩)].toArray)].toArray tw (0,0))] Tryz.results93 ⟨⟨_,_,_,_,rfl,c4.mem,.inl ⟨⟨_,bC⟩,aR,rfl⟩⟩,trivial⟩ ?_;rw[dC,if_pos (by decide)];exact⟨rfl,rfl⟩
end Go.Proofs.YtoioijgdggkabaaGreatDoor
namespace Go.J
open Go
section
variable {P:Program}{n:Nat}{F:Fr}{A:World→Prop}{c:Ctx}{H R:List bE}{ty:TypeId}{x y z:Operand}{v:Value}{Q:Exit→Act→World→Prop}{ops:Array Oper}{rest:List Oper}
 {d:Nat} {pos:String} {after:Array Edge} {t e:TypeId} {size m:Nat} {cs:List Value}
end
section
variable {P:Program}{n:Nat}{F:Fr}{A:World→Prop}{c:Ctx}{H R:List bE}{ty:TypeId}{x y z:Operand}{v:Value}{Q:Exit→Act→World→Prop}{ops:Array Oper}{rest:List Oper}
 {d:Nat} {pos:String} {after:Array Edge} {t e:TypeId} {size m:Nat} {cs:List Value}
def vh:Value→Value
 | .slice a m _=> .slice a m m
 |v=>v
theorem Ev.clip {α:Type}{Rr:Rp α}{xs:List α}{i j:Int}{ki kj:IntKind}{hi mx:Operand}[hd:rm v H α Rr xs](hx:aL F x v)(hh:aL F hi (.int ki i))(hm:aL F mx (.int kj j))(ht:P.underlying t=some (.slice e))(hs:(P.info? e).map (·.size)=some Rr.size)
 (h1:i=xs.length) (h2:j=xs.length):Ev P n F (Mm c H) (.slice t x none (some hi) (some mx)) ty (vh v):= .of_run fun a w ha hw=>by
 obtain⟨ρ,tI⟩:=hw.out;obtain⟨inf,pB,fx⟩:=Option.map_eq_some_iff.1 hs;obtain⟨ad,cap,rfl,hc,_⟩:=tI.sl hd;subst h1 h2
 have b1:(0:Int)≤(xs.length:Int)∧(xs.length:Int)≤(cap:Int):=by omega
 have b2:(0:Int)≤(xs.length:Int)∧(xs.length:Int)≤(xs.length:Int):=by omega
 simp only[execOp,hx.eval ha,hh.eval ha,hm.eval ha,Option.map_some,Option.map_none,Instr.sliceAt,Instr.slice,Instr.sliceBounds,Instr.sliceBound,asIntOf,Sem.run_bind,run_underlying ht,Result.andThen_ok,Sem.run_pure,b1,b2,and_self,if_true,Int.toNat_natCast,sizeOf,typeInfo,run_program,pB,fx,vh,Nat.sub_zero,Nat.zero_mul]
 cases ad with
 |none=>simp
 |some a=>simp[Addr.add_zero']
theorem St.y5 {α:Type}{Rr:Rp α}{xs:List α}{v2:Value}{m2:Nat}{news:List Value}{zv:Value}{ux:Nat}[t2:jH v2 H e Rr.size m2 news R][t1:rm v H α Rr xs]
 (hx:aL F x (vh v)) (hy:aL F y v2) (ht:P.underlying t=some (.slice e)) (hs:(P.info? e).map (·.size)=some Rr.size) (hz:(P.info? e).bind (·.zero)=some zv) (hb:(P.info? e).map (·.bytes)=some ux)
 (Fh:∀u∈news,u.oneCell'=true) (hlen:xs.length+m2≤9223372036854775807) (m7:(xs.length+m2)*ux≤140737488355328) (I7:zv.cells.size=Rr.size) (nh:Nat.ble 1 Rr.size=true) (er:Nat.ble 1 m2=true) (hd:Nat.ble (d+1) n=true)
 (h:∀v',v'.oneCell'=true→St n ((d,v')::F) (Mm c (row v' e Rr.size (xs.length+m2) (rows Rr xs++news)::R)) (wpList P ops Q rest)):
 St n F (Mm c H) (wpList P ops Q ({dst:=some d,op:= .call {callee:= .builtin .append,args:= #[x,y],argTypes:= #[t,t]},type:=ty,pos:=pos,after:=after,guard:=none}::rest)):=by
 refine St.I1 (K:=fun v' H'=>v'.oneCell'=true∧H'=row v' e Rr.size (xs.length+m2) (rows Rr xs++news)::R) ?_ hd ?_
 ·intro a w ρ ha hm
  have AF:=hm.perm t2.perm
  have FI:=e6.1 (AF.ct _ (List.mem_cons_self ..))
  obtain⟨ad,cap,rfl,_,_,_,h5⟩:=hm.sl t1
  have Ri:=Nat.le_of_ble_eq_true er
  obtain⟨i,hi,fx⟩:=Option.map_eq_some_iff.1 hs;obtain⟨q1,q2,q3⟩:=mh hs hz hb hi
  rcases FI.2 with⟨_,rfl⟩|⟨g2,xM,Lk,rfl,_,Ll,xK,wk,Lm,Bp⟩
  ·omega
  ·have oW:∀j u,news[j]?=some u→w.cell? ((⟨g2,0,none⟩:Addr).add j)=some u:=fun j u hj=>by
    rw[Addr.add_lit,Nat.zero_add,bp Ll];rw[←Bp,List.getElem?_take]at hj
    split at hj
    ·simpa using hj
    ·simp at hj
   have K6:xs.length+m2≤9223372036854775807:=hlen
   have ni:(xs.length+m2)*i.bytes≤140737488355328:=by rw[q3];exact m7
   have ow:(rows Rr xs).length=xs.length*i.size:=by rw[fo,q1]
   have LH:news.length=m2*i.size:=by rw[FI.1,q1]
   have ej:∃(tW:Nat),(Builtin.append_ #[t,t] ty #[vh (.slice ad xs.length cap),.slice (some ⟨g2,0,none⟩) m2 xM]).run P w= .ok (.slice (some ⟨w.heap.size,0,none⟩) (xs.length+m2) tW) (w.drew.alloc (.cells ((rows Rr xs).toArray++news.toArray++Builtin.zeroCells zv.cells (tW-(xs.length+m2))) e))∧xs.length+m2≤tW∧tW≤maxLen:=by
    cases ad with
    |none=>
     rcases h5 with h5|⟨b,off,C,e',fr,h5,_⟩
     ·subst h5
      refine⟨grownCap w (([]:List α).length+m2) 0 e,?_,grownCap_ge ..,grownCap_le_maxLen _ _ _ _ (by unfold maxLen;omega)⟩
      have hr:=run_append_nil (P:=P) w t ty e i zv ht hi q2 ⟨g2,0,none⟩ m2 xM news LH oW (by omega) (by simp at K6;omega) (by simp at ni;omega)
      simpa[vh,rows]using hr
     ·cases h5
    |some ad=>
     refine⟨grownCap w (xs.length+m2) xs.length e,?_,grownCap_ge ..,grownCap_le_maxLen _ _ _ _ (by unfold maxLen;omega)⟩;refine run_append_grow (P:=P) w t ty e i zv ht hi q2 ad xs.length xs.length (rows Rr xs) ow (fun j u hj=> ?_) ⟨g2,0,none⟩ m2 xM news LH oW (by omega) (by omega) (growslice_fits (by omega) ni)
     rcases h5 with h5|⟨b,off,C,e',fr,h5,h6,h7⟩
     ·subst h5;simp[rows]at hj
     ·cases h5
      rw[Addr.add_lit,bp (hm.fits _ _ h6)];exact h7 j u hj
   obtain⟨tW,rC,Yp,Yq⟩:=ej;refine⟨.value (.slice (some ⟨w.heap.size,0,none⟩) (xs.length+m2) tW),w.drew.alloc (.cells ((rows Rr xs).toArray++news.toArray++Builtin.zeroCells zv.cells (tW-(xs.length+m2))) e),ρ,_,?_,⟨_,.inl rfl,rfl,rfl⟩,?_⟩
   ·simp[execOp,resolve,invoke,builtin,hx.eval ha,hy.eval ha,rC]
   ·have Ie:(rows Rr xs++news).length=(xs.length+m2)*Rr.size:=by rw[List.length_append,FI.1,fo,Nat.add_mul]
    refine AF.drop.AB rfl ⟨rfl,Nat.le_succ _⟩ rfl (by simp) (fun k hk=>heap_alloc_old w.drew _ hk) (e6.2 ⟨Ie,.inr ⟨w.heap.size,tW,_,rfl,Nat.zero_le _,heap_alloc_new w.drew _,Yp,Yq,?_,?_⟩⟩) ?_
    ·simp only[Array.size_append,List.size_toArray,size_zeroCells,I7,fo,FI.1,←Nat.add_mul]
     congr 1
     omega
    ·simp only[Array.toList_append,List.append_assoc]
     rw[←List.append_assoc,←Ie];exact List.take_left
    ·intro b hb;rw[eL]at hb;simp[Value.ownBlock]at hb;omega
 ·rintro _ _ ⟨h1,rfl⟩
  exact h _ h1
end
end Go.J
namespace Go.Proofs.YtoioijgdggkabaaGreatDoor
open Go Go.J
theorem y7 (x:cH):(bN x).type=cD x.type:=by cases x;rfl
theorem vi (x:cH):(bN x).index=x.index:=by cases x;rfl
theorem lX {a b:Option eZ}{s1 s2:eZ}{b1 b2:Bool}(h1:b1=true→a=some s1)(Yr:b1=false→a=none)(h2:b2=true→b=some s2)(Ys:b2=false→b=none)
 (hn:b1=true→b2=true→∀p q,s1.args=[p,q]→iB p s2=true→False):xV a b=none:=by
 cases b1 with
 |false=>rw[Yr rfl];rfl
 |true=>
  cases b2 with
  |false=>
   rw[Ys rfl];unfold xV
   split
   ·contradiction
   ·rfl
  |true=>
   rw[h1 rfl,h2 rfl]
   refine Af _ _ fun s l x e1 e2 e3=> ?_
   cases e1;cases e3
   rintro ⟨p,q,rfl,hs⟩;exact hn rfl rfl p q e2 hs
theorem Am {l:List dv}{p q:dv}(h:l=[p,q]):l[0]?=some (l.headD je):=by rw[h];rfl
section
variable {n:Nat}{F:Fr}{c:Ctx}{H:List bE}{T:Act→World→Prop}
theorem St.GR (l:List dv)[hd:iE (au dB l) H](k:St n F (Mm c (aE (dB (l.headD je))::H)) T):St n F (Mm c H) T:=
 St.iJ (dB (l.headD je)) [au dB l] (fun ρ h=>by
  cases l with
  |nil=>exact .mk (x:=je) (xQ gp ρ) (fun y hy=>by cases hy)
  |cons p l=>exact h _ (List.mem_cons_self ..) p (List.mem_cons_self ..)) k
end
set_option maxHeartbeats 2000000 in
theorem y8:∀(x:cH) (ctx:List dv) (v:Value) (d:Nat),GN (bN x) d ctx.length→bx.wf x→ctx.length≤d→eI Tryz.prog 97 #[bT x,v] ([bW x,sl gp v ctx,au dB ctx].map aE) (fun r H'=>∃(s:dv) (b:Bool),r= .tuple #[aK s,.bool b]∧gp.wf s∧(b=true→pF (bN x) (ctx.map cD)=some (cD s))∧(b=false→pF (bN x) (ctx.map cD)=none)∧H'=[aE (dB s)]):=by
 intro x
 induction x using cH.ind
 rename_i x ih
 intro ctx v d hg hw I8;refine eI.body (args:=[bT x,v]) 101 Tryz.func97 rfl Tryz.ntmps97 rfl (fun c=> ?_);refine St.cast (H':=[aE (bW x),aE (sl gp v ctx),aE (au dB ctx)]) rfl ?_;refine St.seq ?_;obtain⟨Yt,hh,hk⟩:=hg.inv;rw[zZ]at hh
 have hinv:=Ae hh
 rw[mO,mR]at hk
 have dC:=GO (bN x) (ctx.map cD)
 rw[mR,mO,y7,vi,List.length_map]at dC;refine St.vK x ?_;refine St.wf x.av.1 (fun nY uu=> ?_);refine St.wf v (fun Wf hcx=> ?_);refine St.rg ?_;refine St.dS (.mk rfl) rfl (fun b2=> ?_);refine St.alloc iP rfl (fun b4=> ?_);refine St.ao ?_;refine St.nn (St.seq (St.sr ?_));refine St.ee (Ev.aD (.mk rfl) CS) ?_;refine St.ee (Ev.l0 (.mk rfl) bf) ?_;refine St.nn (St.block (St.sr ?_));refine St.ee Ev.fE ?_;refine St.ao ?_;refine St.nn ?_;refine St.cond _ rfl (fun GS=> ?_) (fun GS=> ?_)
 ·try simp only[aA]at GS
  rw[if_pos GS]at dC;refine St.sr ?_;refine St.ee (Ev.aD (.mk rfl) mQ) ?_;refine St.ee (Ev.nC 2 (.mk rfl) bb trivial bB rfl rfl) ?_;refine St.slot 18 (aK x.type) rfl rfl ?_;refine St.sA (.mk rfl) (.mk rfl) bB ?_ (h1:=(by simp only[List.all_cons,List.all_nil,Bool.and_true,Bool.and_eq_true];exact⟨rfl,x.type.av.2⟩));refine St.ao ?_;refine St.nn (St.ae (St.aN (St.a8 ?_)));refine St.rT [_,_] [aE (dB x.type)] Tryz.results97 ⟨⟨_,_,_,_,rfl,c4.mem,.inl ⟨⟨_,bb⟩,bB,rfl⟩⟩,⟨rfl,trivial⟩⟩ ?_;exact⟨x.type,true,rfl,hw.2.2.2,(fun _=>dC),((fun hb=>by cases hb)),rfl⟩
 ·try simp only[aA]at GS
  rw[if_neg GS]at dC;refine St.sr ?_;refine St.ee Ev.fE ?_;refine St.ao ?_;refine St.nn ?_;refine St.cond _ rfl (fun gz=> ?_) (fun gz=> ?_)
  ·try simp only[aA]at gz
   rw[if_pos gz]at dC;obtain⟨s,hs⟩:=aY (show ctx.length-1-x.index.toNat<ctx.length by omega);refine St.dK dB ctx (x:=s) (List.mem_of_getElem? hs) ?_;refine St.sr ?_;refine St.mv ?_;refine St.mv ?_;refine St.ee (Ev.bA (.mk rfl) fA) ?_;refine St.ee Ev.s0 ?_;refine St.ee (Ev.aD (.mk rfl) oC) ?_;refine St.ee (Ev.l0 (.mk rfl) bf) ?_;refine St.ee Ev.s0 ?_;refine St.ee (Ev.aa (k:=(ctx.length-1-x.index.toNat)) (.mk rfl) (.mk rfl) fA bB (by omega) (by omega)) ?_;refine St.ee (Ev.iH (.mk rfl) hs bb trivial bB fw.eq) ?_;refine St.sA (.mk rfl) (.mk rfl) bB ?_ (h1:=(by simp only[List.all_cons,List.all_nil,Bool.and_true,Bool.and_eq_true];exact⟨rfl,s.av.2⟩));refine St.ao ?_;refine St.nn (St.ae (St.aN (St.a8 ?_)));refine St.rT [_,_] [aE (dB s)] Tryz.results97 ⟨⟨_,_,_,_,rfl,c4.mem,.inl ⟨⟨_,bb⟩,bB,rfl⟩⟩,⟨rfl,trivial⟩⟩ ?_;exact⟨s,true,rfl,Wf s (List.mem_of_getElem? hs),(fun _=>by rw[dC,List.getElem?_map,hs];rfl),((fun hb=>by cases hb)),rfl⟩
  ·try simp only[aA]at gz
   rw[if_neg gz]at dC;refine St.sr ?_;refine St.ee Ev.fE ?_;refine St.ao ?_;refine St.nn ?_;refine St.cond _ rfl (fun l8=> ?_) (fun l8=> ?_)
   ·try simp only[aA]at l8
    rw[if_pos l8]at dC;obtain⟨y,hy⟩:=vg (show x.args.length=1 by omega)
    have h1l:x.args.length=1:=by omega
    have rO:y∈x.args:=by rw[hy];simp
    have LI:=hk (bN y) (List.mem_map_of_mem rO)
    rw[if_pos l8]at LI;refine St.dK bW x.args (x:=y) rO ?_;rw[hy,List.map_cons,List.map_nil,nG]at dC;refine St.seq ?_;refine St.lr [] mixed (fun np ns=> ?_);refine SW.dd 0 rfl (fun _=>Ev.move (.mk rfl)) ?_;refine SW.dd 1 rfl (fun _=>Ev.move (.mk rfl)) ?_;refine SW.dd 2 rfl (fun _=>Ev.bA (.mk rfl) fA) ?_;refine SW.dd 3 rfl (fun _=>Ev.move (.mk rfl)) ?_;refine SW.dd 4 rfl (fun _=>Ev.bA (.mk rfl) fA) ?_;refine SW.dd 5 rfl (fun _=>Ev.clip (.mk rfl) (.mk rfl) (.mk rfl) fA bB rfl rfl) ?_;refine SW.dd 6 rfl (fun _=>Ev.aD (.mk rfl) mQ) ?_;refine SW.dd 7 rfl (fun _=>Ev.nC 2 (.mk rfl) bb trivial bB rfl rfl) ?_;refine SW.slot 39 (aK x.type) rfl rfl ?_;refine SW.ar (i:=8) (by kernel_rfl) rfl ?_;refine St.cS rfl (.cons (.mk rfl) .nil) fA bB GG rfl rfl (by simp[Value.cells]) rfl rfl (fun Se=> ?_);refine St.nn ?_;refine SW.go ?_;refine SW.ar (i:=9) (by kernel_rfl) rfl ?_;refine St.y5 (.mk rfl) (.mk rfl) fA bB GG SQ (u9 (p:=fun u:Value=>u.oneCell'=true) rfl x.type.av.2) (by omega) (by omega) rfl rfl rfl rfl (fun Sf Yu=> ?_);refine St.aM Sf gp (ctx++ [x.type]) (by simp[rows];rfl) (by simp) (fun u hu=>(List.mem_append.1 hu).elim (Wf u) (fun h=>by rw[List.mem_singleton.1 h];exact hw.2.2.2)) ?_;refine St.jr dB (xs:=ctx) (x:=x.type) ?_;refine St.nn ?_;refine SW.go ?_;refine SW.dd 10 rfl (fun _=>Ev.assign (.mk rfl)) ?_;refine SW.done (by kernel_rfl) ?_;refine St.a7 (St.sr ?_);refine St.ee (Ev.aD (.mk rfl) gy) ?_;refine St.ee (Ev.l0 (.mk rfl) fJ) ?_;refine St.ee (Ev.aa (k:=0) (.mk rfl) (.mk rfl) fJ dI rfl (by omega)) ?_;refine St.ee (Ev.iH (.mk rfl) (show x.args[0]?=some y by rw[hy];rfl) fl trivial dI fw.eq) ?_;refine St.mv ?_;refine St.ag (ih y rO (ctx++ [x.type]) Sf (d+1) (by rw[←eR];exact LI) (nY y rO) (by rw[←eR];omega)) GI (.cons (.mk rfl) (.cons (.mk rfl) .nil)) rfl ?_;rintro v48 _ ⟨s,b1,rfl,My,y9,An,rfl⟩;refine St.aq ?_;refine St.mv ?_;refine St.ee (Ev.extract (.mk rfl) rfl) ?_;refine St.ee (Ev.extract (.mk rfl) rfl) ?_;refine St.alloc iP rfl (fun b7=> ?_);refine St.sA (.mk rfl) (.mk rfl) bB ?_ (h1:=(by simp only[List.all_cons,List.all_nil,Bool.and_true,Bool.and_eq_true];exact⟨rfl,s.av.2⟩));refine St.ao ?_;refine St.nn (St.sr ?_);refine St.ee (Ev.aD (.mk rfl) mQ) ?_;refine St.ee (Ev.nC 2 (.mk rfl) bb trivial bB rfl rfl) ?_;refine St.slot 52 (aK x.type) rfl rfl ?_;refine St.ee (Ev.an (.mk rfl) bb trivial (by exact bB)) ?_;refine St.cS rfl (.cons (.mk rfl) (.cons (.mk rfl) .nil)) fA bB GG rfl rfl (by simp[Value.cells]) rfl rfl (fun K7=> ?_);refine St.aM (.slice (some ⟨K7,0,none⟩) 2 2) gp [x.type,s] rfl rfl (u9 hw.2.2.2 My) ?_;refine St.du dB ?_;refine St.fQ dB (xs:=[]) (x:=s) ?_;refine St.fQ dB (xs:=[s]) (x:=x.type) ?_;refine St.n9 [] (.slice (some ⟨K7,0,none⟩) 2 2) rfl [x.type,s] ?_;refine St.ee (Ev.build (ps:=[(1,(.tmp 54))]) (aQ.cons (aL.mk rfl) aQ.nil) (fun w=>zW rfl w)) ?_;refine St.mv ?_;refine St.sA (.mk rfl) (.mk rfl) bB ?_ (h1:=(by simp only[List.all_cons,List.all_nil,Bool.and_true,Bool.and_eq_true];exact⟨rfl,rfl⟩));refine St.ao ?_;refine St.nn (St.ae (St.aN (St.a8 ?_)));refine St.rT [_,_] [aE (dB (.mk [] ⟨(.slice (some ⟨K7,0,none⟩) 2 2),rfl⟩ [x.type,s]))] Tryz.results97 ⟨⟨_,_,_,_,rfl,c4.mem,.inl ⟨⟨_,bb⟩,bB,rfl⟩⟩,⟨rfl,trivial⟩⟩ ?_;exact⟨(.mk [] ⟨(.slice (some ⟨K7,0,none⟩) 2 2),rfl⟩ [x.type,s]),b1,rfl,Nat.zero_le _,(fun hb=>by rw[dC,show pF (bN y) (ctx.map cD++ [cD x.type])=some (cD s) by rw[←y9 hb,List.map_append];rfl,nF];rfl),(fun hb=>by rw[dC,show pF (bN y) (ctx.map cD++ [cD x.type])=none by rw[←An hb,List.map_append];rfl];rfl),rfl⟩
   ·try simp only[aA]at l8
    rw[if_neg l8]at dC;obtain⟨y,z,hy⟩:=qI (show x.args.length=2 by omega)
    have Yo:x.args.length=2:=by omega
    have rO:y∈x.args:=by rw[hy];simp
    have Qq:z∈x.args:=by rw[hy];simp
    have LI:=hk (bN y) (List.mem_map_of_mem rO)
    have Wg:=hk (bN z) (List.mem_map_of_mem Qq)
    rw[if_neg l8]at LI Wg;refine St.dK bW x.args (x:=y) rO ?_;refine St.dK bW x.args (x:=z) Qq ?_;rw[hy,List.map_cons,List.map_cons,List.map_nil,nG,vZ]at dC;refine St.skip (St.aW (St.a7 (St.sr ?_)));refine St.ee (Ev.aD (.mk rfl) gy) ?_;refine St.ee (Ev.l0 (.mk rfl) fJ) ?_;refine St.ee (Ev.aa (k:=0) (.mk rfl) (.mk rfl) fJ dI rfl (by omega)) ?_;refine St.ee (Ev.iH (.mk rfl) (show x.args[0]?=some y by rw[hy];rfl) fl trivial dI fw.eq) ?_;refine St.mv ?_;refine St.ag (ih y rO ctx v (d+1) LI (nY y rO) (by omega)) GI (.cons (.mk rfl) (.cons (.mk rfl) .nil)) rfl ?_;rintro v63 _ ⟨s1,b1,rfl,My,y9,An,rfl⟩;refine St.aq ?_;refine St.mv ?_;refine St.ee (Ev.extract (.mk rfl) rfl) ?_;refine St.ee (Ev.extract (.mk rfl) rfl) ?_;refine St.alloc iP rfl (fun b9=> ?_);refine St.sA (.mk rfl) (.mk rfl) bB ?_ (h1:=(by simp only[List.all_cons,List.all_nil,Bool.and_true,Bool.and_eq_true];exact⟨rfl,s1.av.2⟩));refine St.ao ?_;refine St.nn (St.sr ?_);refine St.ee (Ev.aD (.mk rfl) gy) ?_;refine St.ee (Ev.l0 (.mk rfl) fJ) ?_;refine St.ee (Ev.aa (k:=1) (.mk rfl) (.mk rfl) fJ dI rfl (by omega)) ?_;refine St.ee (Ev.iH (.mk rfl) (show x.args[1]?=some z by rw[hy];rfl) fl trivial dI fw.eq) ?_;refine St.mv ?_;refine St.ag (ih z Qq ctx v (d+1) Wg (nY z Qq) (by omega)) GI (.cons (.mk rfl) (.cons (.mk rfl) .nil)) rfl ?_;rintro v72 _ ⟨s2,b2,rfl,Yv,Co,GU,rfl⟩;refine St.aq ?_;refine St.mv ?_;refine St.ee (Ev.extract (.mk rfl) rfl) ?_;refine St.ee (Ev.extract (.mk rfl) rfl) ?_;refine St.alloc iP rfl (fun mG=> ?_);refine St.sA (.mk rfl) (.mk rfl) bB ?_ (h1:=(by simp only[List.all_cons,List.all_nil,Bool.and_true,Bool.and_eq_true];exact⟨rfl,s2.av.2⟩));refine St.ao ?_;refine St.nn (St.seq (St.seq ?_));refine St.mr s1 ?_;refine St.wf s1.av.1 (fun Mz vj=> ?_);refine St.GR s1.args ?_;refine St.ek [] mixed (fun np ns=> ?_);refine SW.dd 0 rfl (fun _=>Ev.move (.mk rfl)) ?_;refine SW.dd 1 rfl (fun _=>Ev.not (.mk rfl)) ?_;refine SW.dd 2 rfl (fun _=>Ev.move (.mk rfl)) ?_;refine SW.split 77 _ rfl (fun Cp=> ?_) (fun Cp=> ?_)
    ·refine SW.gf 3 undef np ns rfl rfl rfl (fun R hg=>by cases hg) (by kernel_rfl) rfl ?_
     refine SW.slot 78 undef rfl (az rfl _) ?_;refine SW.gf 4 undef np ns rfl rfl rfl (fun R hg=>by cases hg) (by kernel_rfl) rfl ?_;refine SW.slot 79 undef rfl (az rfl _) ?_;refine SW.dd 5 rfl (fun _=>Ev.eQ (.mk rfl) rfl (.mk rfl)) ?_;refine SW.dd 6 rfl (fun _=>Ev.move (.mk rfl)) ?_;refine SW.slot 81 (.bool true) rfl (congrArg Value.bool rfl) ?_;refine SW.gf 7 undef np ns rfl rfl rfl (fun R hg=>by cases hg) (by kernel_rfl) rfl ?_;refine SW.slot 82 undef rfl (az rfl _) ?_;refine SW.gf 8 undef np ns rfl rfl rfl (fun R hg=>by cases hg) (by kernel_rfl) rfl ?_;refine SW.slot 83 undef rfl (az rfl _) ?_;refine SW.gf 9 undef np ns rfl rfl rfl (fun R hg=>by cases hg) (by kernel_rfl) rfl ?_;refine SW.slot 84 undef rfl (az rfl _) ?_;refine SW.gf 10 undef np ns rfl rfl rfl (fun R hg=>by cases hg) (by kernel_rfl) rfl ?_;refine SW.slot 85 undef rfl (az rfl _) ?_;refine SW.dd 11 rfl (fun _=>Ev.eQ (.mk rfl) rfl (.mk rfl)) ?_;refine SW.dd 12 rfl (fun _=>Ev.move (.mk rfl)) ?_;refine SW.slot 87 (.bool true) rfl (congrArg Value.bool rfl) ?_;refine SW.gf 13 undef np ns rfl rfl rfl (fun R hg=>by cases hg) (by kernel_rfl) rfl ?_;refine SW.slot 88 undef rfl (az rfl _) ?_;refine SW.gf 14 undef np ns rfl rfl rfl (fun R hg=>by cases hg) (by kernel_rfl) rfl ?_;refine SW.slot 89 undef rfl (az rfl _) ?_;refine SW.gf 15 undef np ns rfl rfl rfl (fun R hg=>by cases hg) (by kernel_rfl) rfl ?_;refine SW.slot 90 undef rfl (az rfl _) ?_;refine SW.gf 16 undef np ns rfl rfl rfl (fun R hg=>by cases hg) (by kernel_rfl) rfl ?_;refine SW.slot 91 undef rfl (az rfl _) ?_;refine SW.gf 17 undef np ns rfl rfl rfl (fun R hg=>by cases hg) (by kernel_rfl) rfl ?_;refine SW.slot 92 undef rfl (az rfl _) ?_;refine SW.gf 18 undef np ns rfl rfl rfl (fun R hg=>by cases hg) (by kernel_rfl) rfl ?_;refine SW.slot 93 undef rfl (az rfl _) ?_;refine SW.gf 19 undef np ns rfl rfl rfl (fun R hg=>by cases hg) (by kernel_rfl) rfl ?_;refine SW.slot 94 undef rfl (az rfl _) ?_;refine SW.dd 20 rfl (fun _=>Ev.eQ (.mk rfl) rfl (.mk rfl)) ?_;refine SW.done (by kernel_rfl) ?_;refine St.a7 ?_;refine St.cond _ rfl (fun sO=> ?_) (fun sO=> ?_)
     ·skip
      have wm:b1=true→b2=true→∀p q,(cD s1).args=[p,q]→iB p (cD s2)=true→False:=fun e1 _ _ _ _ _=>by rw[e1]at Cp;cases Cp
      refine St.sr ?_;refine St.ee (Ev.build (ps:=[]) (aQ.nil) (fun w=>u7 w)) ?_;refine St.sA (.mk rfl) (.mk rfl) bB ?_ (h1:=(by simp only[List.all_cons,List.all_nil,Bool.and_true,Bool.and_eq_true];exact⟨rfl,rfl⟩));refine St.ao ?_;refine St.nn (St.ae (St.a8 ?_));refine St.dN gp ?_;refine St.du dB ?_;refine St.n9 [] (.slice none 0 0) rfl [] ?_;refine St.rT [_,_] [aE (dB je)] Tryz.results97 ⟨⟨_,_,_,_,rfl,c4.mem,.inl ⟨⟨_,bb⟩,bB,rfl⟩⟩,⟨rfl,trivial⟩⟩ ?_;exact⟨je,false,rfl,Nat.zero_le _,((fun hb=>by cases hb)),(fun _=>by rw[dC];exact lX y9 An Co GU wm),rfl⟩
     ·skip
      cases sO
    ·refine SW.gf 3 _ np ns rfl rfl rfl (fun R _=>Ev.move (.mk rfl)) (by kernel_rfl) rfl ?_
     refine SW.slot 78 _ rfl (c7 rfl _) ?_;refine SW.gf 4 _ np ns rfl rfl rfl (fun R _=>Ev.not (.mk rfl)) (by kernel_rfl) rfl ?_;refine SW.slot 79 _ rfl (c7 rfl _) ?_;refine SW.dd 5 rfl (fun _=>Ev.uz (.mk rfl) rfl (.mk rfl)) ?_;refine SW.dd 6 rfl (fun _=>Ev.move (.mk rfl)) ?_;refine SW.split 81 _ rfl (fun Cq=> ?_) (fun Cq=> ?_)
     ·refine SW.gf 7 undef np ns rfl rfl rfl (fun R hg=>by cases hg) (by kernel_rfl) rfl ?_
      refine SW.slot 82 undef rfl (az rfl _) ?_;refine SW.gf 8 undef np ns rfl rfl rfl (fun R hg=>by cases hg) (by kernel_rfl) rfl ?_;refine SW.slot 83 undef rfl (az rfl _) ?_;refine SW.gf 9 undef np ns rfl rfl rfl (fun R hg=>by cases hg) (by kernel_rfl) rfl ?_;refine SW.slot 84 undef rfl (az rfl _) ?_;refine SW.gf 10 undef np ns rfl rfl rfl (fun R hg=>by cases hg) (by kernel_rfl) rfl ?_;refine SW.slot 85 undef rfl (az rfl _) ?_;refine SW.dd 11 rfl (fun _=>Ev.eQ (.mk rfl) rfl (.mk rfl)) ?_;refine SW.dd 12 rfl (fun _=>Ev.move (.mk rfl)) ?_;refine SW.slot 87 (.bool true) rfl (congrArg Value.bool rfl) ?_;refine SW.gf 13 undef np ns rfl rfl rfl (fun R hg=>by cases hg) (by kernel_rfl) rfl ?_;refine SW.slot 88 undef rfl (az rfl _) ?_;refine SW.gf 14 undef np ns rfl rfl rfl (fun R hg=>by cases hg) (by kernel_rfl) rfl ?_;refine SW.slot 89 undef rfl (az rfl _) ?_;refine SW.gf 15 undef np ns rfl rfl rfl (fun R hg=>by cases hg) (by kernel_rfl) rfl ?_;refine SW.slot 90 undef rfl (az rfl _) ?_;refine SW.gf 16 undef np ns rfl rfl rfl (fun R hg=>by cases hg) (by kernel_rfl) rfl ?_;refine SW.slot 91 undef rfl (az rfl _) ?_;refine SW.gf 17 undef np ns rfl rfl rfl (fun R hg=>by cases hg) (by kernel_rfl) rfl ?_;refine SW.slot 92 undef rfl (az rfl _) ?_;refine SW.gf 18 undef np ns rfl rfl rfl (fun R hg=>by cases hg) (by kernel_rfl) rfl ?_;refine SW.slot 93 undef rfl (az rfl _) ?_;refine SW.gf 19 undef np ns rfl rfl rfl (fun R hg=>by cases hg) (by kernel_rfl) rfl ?_;refine SW.slot 94 undef rfl (az rfl _) ?_;refine SW.dd 20 rfl (fun _=>Ev.eQ (.mk rfl) rfl (.mk rfl)) ?_;refine SW.done (by kernel_rfl) ?_;refine St.a7 ?_;refine St.cond _ rfl (fun sO=> ?_) (fun sO=> ?_)
      ·skip
       have wm:b1=true→b2=true→∀p q,(cD s1).args=[p,q]→iB p (cD s2)=true→False:=fun _ e2 _ _ _ _=>by rw[e2]at Cq;cases Cq
       refine St.sr ?_;refine St.ee (Ev.build (ps:=[]) (aQ.nil) (fun w=>u7 w)) ?_;refine St.sA (.mk rfl) (.mk rfl) bB ?_ (h1:=(by simp only[List.all_cons,List.all_nil,Bool.and_true,Bool.and_eq_true];exact⟨rfl,rfl⟩));refine St.ao ?_;refine St.nn (St.ae (St.a8 ?_));refine St.dN gp ?_;refine St.du dB ?_;refine St.n9 [] (.slice none 0 0) rfl [] ?_;refine St.rT [_,_] [aE (dB je)] Tryz.results97 ⟨⟨_,_,_,_,rfl,c4.mem,.inl ⟨⟨_,bb⟩,bB,rfl⟩⟩,⟨rfl,trivial⟩⟩ ?_;exact⟨je,false,rfl,Nat.zero_le _,((fun hb=>by cases hb)),(fun _=>by rw[dC];exact lX y9 An Co GU wm),rfl⟩
      ·skip
       cases sO
     ·refine SW.gf 7 _ np ns rfl rfl rfl (fun R _=>Ev.aD (.mk rfl) gx) (by kernel_rfl) rfl ?_
      refine SW.slot 82 _ rfl (c7 rfl _) ?_;refine SW.gf 8 _ np ns rfl rfl rfl (fun R _=>Ev.cY (.mk rfl) fA trivial (by rfl)) (by kernel_rfl) rfl ?_;refine SW.slot 83 _ rfl (c7 rfl _) ?_;refine SW.gf 9 _ np ns rfl rfl rfl (fun R _=>Ev.bA (.mk rfl) fA) (by kernel_rfl) rfl ?_;refine SW.slot 84 _ rfl (c7 rfl _) ?_;refine SW.gf 10 _ np ns rfl rfl rfl (fun R _=>Ev.kz) (by kernel_rfl) rfl ?_;refine SW.slot 85 _ rfl (c7 rfl _) ?_;refine SW.dd 11 rfl (fun _=>Ev.uz (.mk rfl) rfl (.mk rfl)) ?_;refine SW.dd 12 rfl (fun _=>Ev.move (.mk rfl)) ?_;refine SW.split 87 _ rfl (fun GV=> ?_) (fun GV=> ?_)
      ·refine SW.gf 13 undef np ns rfl rfl rfl (fun R hg=>by cases hg) (by kernel_rfl) rfl ?_
       refine SW.slot 88 undef rfl (az rfl _) ?_;refine SW.gf 14 undef np ns rfl rfl rfl (fun R hg=>by cases hg) (by kernel_rfl) rfl ?_;refine SW.slot 89 undef rfl (az rfl _) ?_;refine SW.gf 15 undef np ns rfl rfl rfl (fun R hg=>by cases hg) (by kernel_rfl) rfl ?_;refine SW.slot 90 undef rfl (az rfl _) ?_;refine SW.gf 16 undef np ns rfl rfl rfl (fun R hg=>by cases hg) (by kernel_rfl) rfl ?_;refine SW.slot 91 undef rfl (az rfl _) ?_;refine SW.gf 17 undef np ns rfl rfl rfl (fun R hg=>by cases hg) (by kernel_rfl) rfl ?_;refine SW.slot 92 undef rfl (az rfl _) ?_;refine SW.gf 18 undef np ns rfl rfl rfl (fun R hg=>by cases hg) (by kernel_rfl) rfl ?_;refine SW.slot 93 undef rfl (az rfl _) ?_;refine SW.gf 19 undef np ns rfl rfl rfl (fun R hg=>by cases hg) (by kernel_rfl) rfl ?_;refine SW.slot 94 undef rfl (az rfl _) ?_;refine SW.dd 20 rfl (fun _=>Ev.eQ (.mk rfl) rfl (.mk rfl)) ?_;refine SW.done (by kernel_rfl) ?_;refine St.a7 ?_;refine St.cond _ rfl (fun sO=> ?_) (fun sO=> ?_)
       ·skip
        simp only[aA]at GV
        have wm:b1=true→b2=true→∀p q,(cD s1).args=[p,q]→iB p (cD s2)=true→False:=fun _ _ p q e _=>by rw[gO]at e;have e3:=congrArg List.length e;rw[List.length_map]at e3;exact GV (by rw[e3];rfl)
        refine St.sr ?_;refine St.ee (Ev.build (ps:=[]) (aQ.nil) (fun w=>u7 w)) ?_;refine St.sA (.mk rfl) (.mk rfl) bB ?_ (h1:=(by simp only[List.all_cons,List.all_nil,Bool.and_true,Bool.and_eq_true];exact⟨rfl,rfl⟩));refine St.ao ?_;refine St.nn (St.ae (St.a8 ?_));refine St.dN gp ?_;refine St.du dB ?_;refine St.n9 [] (.slice none 0 0) rfl [] ?_;refine St.rT [_,_] [aE (dB je)] Tryz.results97 ⟨⟨_,_,_,_,rfl,c4.mem,.inl ⟨⟨_,bb⟩,bB,rfl⟩⟩,⟨rfl,trivial⟩⟩ ?_;exact⟨je,false,rfl,Nat.zero_le _,((fun hb=>by cases hb)),(fun _=>by rw[dC];exact lX y9 An Co GU wm),rfl⟩
       ·skip
        cases sO
      ·have Sg:=GV
       simp only[aA]at Sg
       have K5:s1.args.length=2:=by omega
       obtain⟨p,q,Ig⟩:=qI K5;refine SW.gf 13 _ np ns rfl rfl rfl (fun R _=>Ev.aD (.mk rfl) gx) (by kernel_rfl) rfl ?_;refine SW.slot 88 _ rfl (c7 rfl _) ?_;refine SW.gf 14 _ np ns rfl rfl rfl (fun R _=>Ev.cY (.mk rfl) fA trivial (by rfl)) (by kernel_rfl) rfl ?_;refine SW.slot 89 _ rfl (c7 rfl _) ?_;refine SW.gf 15 _ np ns rfl rfl rfl (fun R _=>Ev.aa (k:=0) (.mk rfl) (.mk rfl) fA bB rfl (by omega)) (by kernel_rfl) rfl ?_;refine SW.slot 90 _ rfl (c7 rfl _) ?_;refine SW.gf 16 _ np ns rfl rfl rfl (fun R _=>Ev.iH (.mk rfl) (Am Ig) bb trivial bB fw.eq) (by kernel_rfl) rfl ?_;refine SW.slot 91 _ rfl (c7 rfl _) ?_;refine SW.gf 17 _ np ns rfl rfl rfl (fun R _=>Ev.an (.mk rfl) bb trivial (by exact bB)) (by kernel_rfl) rfl ?_;refine SW.slot 92 _ rfl (c7 rfl _) ?_;refine SW.gf 18 _ np ns rfl rfl rfl (fun R _=>Ev.call (Aj (s1.args.headD je) s2) IZ (.cons (.mk rfl) (.cons (.mk rfl) .nil))) (by kernel_rfl) rfl ?_;refine SW.slot 93 _ rfl (c7 rfl _) ?_;refine SW.gf 19 _ np ns rfl rfl rfl (fun R _=>Ev.not (.mk rfl)) (by kernel_rfl) rfl ?_;refine SW.slot 94 _ rfl (c7 rfl _) ?_;refine SW.dd 20 rfl (fun _=>Ev.uz (.mk rfl) rfl (.mk rfl)) ?_;refine SW.done (by kernel_rfl) ?_;refine St.a7 ?_;refine St.cond _ rfl (fun sO=> ?_) (fun sO=> ?_)
       ·skip
        simp only[aA]at sO
        have wm:b1=true→b2=true→∀p q,(cD s1).args=[p,q]→iB p (cD s2)=true→False:=fun _ _ p1 q1 e hs=>by rw[gO,Ig]at e;cases e;rw[Ig]at sO;exact absurd (sO.symm.trans hs) (by decide)
        refine St.sr ?_;refine St.ee (Ev.build (ps:=[]) (aQ.nil) (fun w=>u7 w)) ?_;refine St.sA (.mk rfl) (.mk rfl) bB ?_ (h1:=(by simp only[List.all_cons,List.all_nil,Bool.and_true,Bool.and_eq_true];exact⟨rfl,rfl⟩));refine St.ao ?_;refine St.nn (St.ae (St.a8 ?_));refine St.dN gp ?_;refine St.du dB ?_;refine St.n9 [] (.slice none 0 0) rfl [] ?_;refine St.rT [_,_] [aE (dB je)] Tryz.results97 ⟨⟨_,_,_,_,rfl,c4.mem,.inl ⟨⟨_,bb⟩,bB,rfl⟩⟩,⟨rfl,trivial⟩⟩ ?_;exact⟨je,false,rfl,Nat.zero_le _,((fun hb=>by cases hb)),(fun _=>by rw[dC];exact lX y9 An Co GU wm),rfl⟩
       ·skip
        simp only[aA]at sO Cp Cq
        rw[Ig]at sO;refine St.dK dB s1.args (x:=q) (by rw[Ig];simp) ?_;refine St.skip (St.a7 (St.sr ?_));refine St.ee (Ev.aD (.mk rfl) gx) ?_;refine St.ee (Ev.l0 (.mk rfl) fA) ?_;refine St.ee (Ev.aa (k:=1) (.mk rfl) (.mk rfl) fA bB rfl (by omega)) ?_;refine St.ee (Ev.iH (.mk rfl) (show s1.args[1]?=some q by rw[Ig];rfl) bb trivial bB fw.eq) ?_;refine St.sA (.mk rfl) (.mk rfl) bB ?_ (h1:=(by simp only[List.all_cons,List.all_nil,Bool.and_true,Bool.and_eq_true];exact⟨rfl,q.av.2⟩));refine St.ao ?_;refine St.nn (St.ae ?_);refine St.rT [_,_] [aE (dB q)] Tryz.results97 ⟨⟨_,_,_,_,rfl,c4.mem,.inl ⟨⟨_,bb⟩,bB,rfl⟩⟩,⟨rfl,trivial⟩⟩ ?_;exact⟨q,true,rfl,Mz q (by rw[Ig];simp),(fun _=>by rw[dC,y9 Cp,Co Cq];exact Ag (by rw[gO,Ig];rfl) sO),((fun hb=>by cases hb)),rfl⟩
theorem Ao {t:fS}(h:(ft t 1 0 0).2.1≠0):kh t=(ft t 1 0 0).2:=by unfold kh;rw[if_pos h]
theorem yA {t:fS}(h:¬(ft t 1 0 0).2.1≠0)(h2:pF t []=none):kh t=(12,-1):=by unfold kh;rw[if_neg h,h2];rfl
theorem Cr {t:fS}{s:eZ}(h:¬(ft t 1 0 0).2.1≠0)(h2:pF t []=some s):kh t=(0,0):=by unfold kh;rw[if_neg h,h2,if_neg (by simp)]
theorem nH (x:cH)(hw:bx.wf x):de Tryz.prog 78 #[bT x] [bW x] (fv (kh (bN x))):=by
 refine de.mf (args:=[bT x]) 25 Tryz.func78 rfl Tryz.ntmps78 rfl (fun c=> ?_);refine St.sr ?_;refine St.dS (.mk rfl) rfl (fun b1=> ?_);refine St.alloc dR rfl (fun b2=> ?_);refine St.nn (St.sr ?_);refine St.alloc LG rfl (fun b3=> ?_);refine St.bQ (.mk rfl) (.mk rfl) cu rfl (by rfl) ?_;refine St.hS b3 (L':=[iv ((0:Nat):Int)]) rfl ?_;refine St.nn (St.sr ?_);refine St.alloc Me rfl (fun b4=> ?_);refine St.nn (St.sr ?_);refine St.ee (Ev.func (.cons (.mk rfl) (.cons (.mk rfl) .nil))) ?_;refine St.bQ (.mk rfl) (.mk rfl) Mf rfl (by rfl) ?_;refine St.nn (St.seq (St.seq ?_));refine St.dup (bW x) ?_;refine St.rg ?_;refine St.ee (Ev.l0 (.mk rfl) qC) ?_;refine St.ee (Ev.an (.mk rfl) fl trivial (by exact dI)) ?_;refine St.cp (rP b3 b4 172 x 1 0 0 hw (by omega) (by omega) (by omega)) vT (.mk rfl) (.cons (.mk rfl) (.cons (.mk rfl) (.cons (.mk rfl) .nil))) rfl ?_;rintro v11 _ ⟨rfl,rfl⟩;refine St.cI ?_;refine St.alloc dR rfl (fun b5=> ?_);refine St.sA (.mk rfl) (.mk rfl) aR ?_;refine St.nn (St.sr ?_);refine St.ee (Ev.aD (.mk rfl) cW) ?_;refine St.ee (Ev.l0 (.mk rfl) bf) ?_;refine St.ee Ev.kz ?_;refine St.nn ?_;refine St.cond _ rfl (fun uE=> ?_) (fun uE=> ?_)
 ·skip
  have hb:(ft (bN x) 1 0 0).2.1≠0:=by simpa using uE
  refine St.sr ?_;refine St.ee (Ev.an (.mk rfl) bC trivial (by exact aR)) ?_;refine St.sA (.mk rfl) (.mk rfl) aR ?_;refine St.nn (St.ae (St.a8 ?_));refine St.rT [_] [] Tryz.results78 ⟨⟨_,_,_,_,rfl,c4.mem,.inl ⟨⟨_,bC⟩,aR,rfl⟩⟩,trivial⟩ ?_;exact congrArg fv (Ao hb).symm
 ·skip
  have hb:¬(ft (bN x) 1 0 0).2.1≠0:=by simpa using uE
  refine St.dN gp ?_;refine St.du dB ?_;refine St.skip (St.a7 (St.seq (St.sr ?_)));refine St.ee (Ev.an (.mk rfl) fl trivial (by exact dI)) ?_;refine St.ag (y8 x [] (.slice none 0 0) 1 (Cf _ _ _ _ (Decidable.not_not.1 hb)) hw (Nat.zero_le _)) GI (.cons (.mk rfl) (.cons (.mk rfl) .nil)) rfl ?_;rintro fu _ ⟨s,b,rfl,dC,cq,Yw,rfl⟩;refine St.aq ?_;refine St.mv ?_;refine St.ee (Ev.extract (.mk rfl) rfl) ?_;refine St.ee (Ev.extract (.mk rfl) rfl) ?_;refine St.alloc iP rfl (fun b6=> ?_);refine St.sA (.mk rfl) (.mk rfl) bB ?_ (h1:=(by simp only[List.all_cons,List.all_nil,Bool.and_true,Bool.and_eq_true];exact⟨rfl,s.av.2⟩));refine St.ao ?_;refine St.nn (St.sr ?_);refine St.mv ?_;refine St.ee (Ev.not (.mk rfl)) ?_;refine St.nn ?_;refine St.cond _ rfl (fun pL=> ?_) (fun pL=> ?_)
  ·try simp only[aA]at pL
   refine St.sr ?_;refine St.ee (Ev.build (ps:=[(0,(.const (.int .i64 12))),(1,(.const (.int .i64 (-1))))]) (aQ.cons (aL.mk rfl) (aQ.cons (aL.mk rfl) aQ.nil)) (fun w=>cX rfl rfl w)) ?_;refine St.sA (.mk rfl) (.mk rfl) aR ?_;refine St.nn (St.ae (St.a8 ?_));refine St.rT [_] [] Tryz.results78 ⟨⟨_,_,_,_,rfl,c4.mem,.inl ⟨⟨_,bC⟩,aR,rfl⟩⟩,trivial⟩ ?_;exact congrArg fv (yA hb (Yw (by simpa using pL))).symm
  ·try simp only[aA]at pL
   refine St.skip (St.a7 (St.sr ?_));refine St.ee (Ev.build (ps:=[]) (aQ.nil) (fun w=>fK w)) ?_;refine St.sA (.mk rfl) (.mk rfl) aR ?_;refine St.nn (St.ae ?_);refine St.rT [_] [] Tryz.results78 ⟨⟨_,_,_,_,rfl,c4.mem,.inl ⟨⟨_,bC⟩,aR,rfl⟩⟩,trivial⟩ ?_;exact congrArg fv (Cr hb (cq (by simpa using pL))).symm
theorem oD:∀(l:List dh) (U:List Nat),(jL U l).length=U.length+l.length
 | [],U=>rfl
 |t::l,U=>by rw[jL,oD l];simp;omega
theorem nI (l:List dh):(rH l).length=l.length:=by unfold rH;rw[oD];simp
theorem kH:∀(l m:List dh) (U:List Nat),jL U (l++m)=jL (jL U l) m
 | [],_,_=>rfl
 |t::l,m,U=>by rw[List.cons_append,jL,jL,kH l m]
theorem sP:∀(l:List dh) (U:List Nat) (i:Nat),i<U.length→(jL U l)[i]?=U[i]?
 | [],_,_,_=>rfl
 |t::l,U,i,h=>by rw[jL,sP l _ i (by simp;omega),List.getElem?_append_left h]
theorem Cs (l:List dh)(t:dh):rH (l++ [t])=rH l++ [C9 (rH l) l.length t.2]:=by
 unfold rH;rw[kH,jL,jL,oD];simp
theorem qK (l:List dh)(k i:Nat)(h:i<k)(hk:k≤l.length):(rH (l.take k)).getD i 0=(rH l).getD i 0:=by
 have e:rH l=jL (rH (l.take k)) (l.drop k):=by unfold rH;rw[←kH,List.take_append_drop]
 rw[e,List.getD_eq_getElem?_getD,List.getD_eq_getElem?_getD,sP _ _ _ (by rw[nI,List.length_take];omega)]
theorem Ct {l:List dh}{k:Nat}{t:dh}(h:l[k]?=some t):(rH l).getD k 0=C9 (rH (l.take k)) k t.2:=by
 have hk:=cg h
 rw[←qK l (k+1) k (Nat.lt_succ_self _) hk,bD h,Cs]
 have e:(l.take k).length=k:=by rw[List.length_take];omega
 rw[List.getD_eq_getElem?_getD,List.getElem?_append_right (by rw[nI,e];exact Nat.le_refl _),nI,e,Nat.sub_self];rfl
theorem za (g:Int→Nat)(j:Nat):∀(ps:List Int) (u:Nat),(ps.foldl (fun u p=>u|||g p) u).testBit j=(u.testBit j||ps.any fun p=>(g p).testBit j)
 | [],u=>by simp
 |p::ps,u=>by rw[List.foldl_cons,za g j ps,Nat.testBit_or,List.any_cons,Bool.or_assoc]
theorem Cu (U:List Nat)(i:Nat)(ps:List Int)(j:Nat):(C9 U i ps).testBit j=(decide (i=j)||ps.any fun p=>(U.getD p.toNat 0).testBit j):=by
 unfold C9;rw[za,Nat.testBit_two_pow]
structure iR (l:List dh):Prop where
 len:l.length≤60
 par:∀(i:Nat) (t:dh),l[i]?=some t→∀p∈t.2,0≤p∧p<i
theorem zb {i:Int}:∀{ps:List Int} {last:Int},(lu i last ps).1=0→lu i last ps=(0,0)∧∀p∈ps,0≤p∧p<i
 | [],_,_=>⟨rfl,fun p h=>by cases h⟩
 |p::ps,last,h=>by
  rw[lu]at h⊢
  by_cases h1:p<0∨i≤p
  ·rw[if_pos h1]at h;exact absurd h (by simp)
  ·rw[if_neg h1]at h⊢
   by_cases h2:p≤last
   ·rw[if_pos h2]at h;exact absurd h (by simp)
   ·rw[if_neg h2]at h⊢
    obtain⟨e,k⟩:=zb h;refine⟨e,fun q hq=> ?_⟩
    rcases List.mem_cons.1 hq with rfl|hq
    ·omega
    ·exact k q hq
theorem sQ:∀{l:List dh} {known:List ax} {i:Nat},(gq known i l).1=0→gq known i l=(0,0)∧∀(k:Nat) (t:dh),l[k]?=some t→∀p∈t.2,0≤p∧p<(i+k:Nat)
 | [],_,_,_=>⟨rfl,fun k t h=>by simp at h⟩
 |t::l,known,i,h=>by
  rw[gq]at h⊢
  by_cases h1:isName t.1=false
  ·rw[if_pos h1]at h;exact absurd h (by simp)
  rw[if_neg h1]at h⊢
  by_cases h2:t.1∈known
  ·rw[if_pos h2]at h;exact absurd h (by simp)
  rw[if_neg h2]at h⊢
  by_cases h3:decide (i=0)≠decide (t.2.length=0)
  ·rw[if_pos h3]at h;exact absurd h (by simp)
  rw[if_neg h3]at h⊢
  by_cases h4:(lu i (-1) t.2).1≠0
  ·rw[if_pos h4]at h;exact absurd h h4
  rw[if_neg h4]at h⊢;obtain⟨e,k⟩:=sQ h;refine⟨e,fun j u hj=> ?_⟩
  cases j with
  |zero=>
   simp only[List.getElem?_cons_zero,Option.some.injEq]at hj
   subst hj;intro p hp
   have:=(zb (Decidable.not_not.1 h4)).2 p hp
   omega
  |succ j=>
   rw[List.getElem?_cons_succ]at hj;intro p hp
   have:=k j u hj p hp
   omega
theorem Cv {l:List dh}(h:(sF l).1=0):sF l=(0,0)∧0<l.length∧iR l:=by
 unfold sF at h⊢
 by_cases h1:l.length=0∨60<l.length
 ·rw[if_pos h1]at h;exact absurd h (by simp)
 ·rw[if_neg h1]at h⊢
  obtain⟨e,k⟩:=sQ h;refine⟨e,by omega,by omega,fun i t hi p hp=> ?_⟩
  have:=k i t hi p hp
  omega
section
variable {l:List dh}
theorem GW {i:Nat}(hi:l.length≤i)(j:Nat):eS l i j=false:=by
 unfold eS;rw[List.getD_eq_getElem?_getD,List.getElem?_eq_none (by rw[nI];exact hi)];exact Nat.zero_testBit _
theorem sub_lt {i j:Nat}(h:eS l i j=true):i<l.length:=by
 rcases Nat.lt_or_ge i l.length with k|k
 ·exact k
 ·rw[GW k]at h;cases h
theorem l9 (hl:iR l){i:Nat}{t:dh}(hi:l[i]?=some t)(j:Nat):eS l i j=(decide (i=j)||t.2.any fun p=>eS l p.toNat j):=by
 show((rH l).getD i 0).testBit j=_
 rw[Ct hi,Cu]
 congr 1
 rw[Bool.eq_iff_iff,List.any_eq_true,List.any_eq_true]
 have e:∀p∈t.2,(rH (l.take i)).getD p.toNat 0=(rH l).getD p.toNat 0:=fun p hp=>by
  have:=hl.par i t hi p hp
  exact qK l i _ (by omega) (Nat.le_of_lt (cg hi))
 constructor
 ·rintro ⟨p,hp,h⟩;rw[e p hp]at h;exact⟨p,hp,h⟩
 ·rintro ⟨p,hp,h⟩;exact⟨p,hp,by rw[e p hp];exact h⟩
theorem sub_self (hl:iR l){i:Nat}(hi:i<l.length):eS l i i=true:=by
 rw[l9 hl (List.getElem?_eq_getElem hi)];simp
theorem oE (hl:iR l){i j:Nat}(h:eS l i j=true):i=j∨∃t p,l[i]?=some t∧p∈t.2∧0≤p∧p<i∧eS l p.toNat j=true:=by
 have hi:=sub_lt h
 rw[l9 hl (List.getElem?_eq_getElem hi)]at h
 simp only[Bool.or_eq_true,decide_eq_true_eq,List.any_eq_true]at h
 rcases h with h|⟨p,hp,h⟩
 ·exact .inl h
 ·have:=hl.par i _ (List.getElem?_eq_getElem hi) p hp
  exact .inr ⟨_,p,List.getElem?_eq_getElem hi,hp,this.1,this.2,h⟩
theorem sub_le (hl:iR l):∀{i j:Nat},eS l i j=true→j≤i:=by
 intro i
 induction i using Nat.strongRecOn with
 |ind i ih=>
  intro j h
  rcases oE hl h with rfl|⟨t,p,_,_,h0,h1,h2⟩
  ·exact Nat.le_refl _
  ·have:=ih p.toNat (by omega) h2
   omega
theorem oG (hl:iR l):∀{i j k:Nat},eS l i j=true→eS l j k=true→eS l i k=true:=by
 intro i
 induction i using Nat.strongRecOn with
 |ind i ih=>
  intro j k h1 h2
  rcases oE hl h1 with rfl|⟨t,p,ht,hp,h0,iU,h3⟩
  ·exact h2
  ·have:=ih p.toNat (by omega) h3 h2
   rw[l9 hl ht]
   simp only[Bool.or_eq_true,List.any_eq_true]
   exact .inr ⟨p,hp,this⟩
theorem Cw (hl:iR l):∀{i j:Nat},eS l i j=true→i≠j→∃z t,eS l i z=true∧l[z]?=some t∧(j:Int)∈t.2∧j<z:=by
 intro i
 induction i using Nat.strongRecOn with
 |ind i ih=>
  intro j h er
  rcases oE hl h with e|⟨t,p,ht,hp,h0,iU,h3⟩
  ·exact absurd e er
  ·by_cases e:p.toNat=j
   ·have e':p=(j:Int):=by omega
    subst e';exact⟨i,t,sub_self hl (cg ht),ht,hp,by omega⟩
   ·obtain⟨z,u,h4,h5,h6,h7⟩:=ih p.toNat (by omega) h3 e
    refine⟨z,u,?_,h5,h6,h7⟩;rw[l9 hl ht]
    simp only[Bool.or_eq_true,List.any_eq_true]
    exact .inr ⟨p,hp,h4⟩
structure qL (l:List dh)(a i:Nat)(M:List Bool):Prop where
 len:M.length=l.length
 snd:∀x,M[x]?=some true→eS l a x=true
 top:M[a]?=some true
 cls:∀(y:Nat) (t:dh),i<y→M[y]?=some true→l[y]?=some t→∀p∈t.2,M[p.toNat]?=some true
theorem qL.start (hl:iR l){a:Nat}(ha:a<l.length):qL l a a ((List.replicate l.length false).set a true):=by
 refine⟨by simp,fun x hx=> ?_,by rw[List.getElem?_set_self (by simp;exact ha)],fun y t hy hm _=> ?_⟩
 ·by_cases e:a=x
  ·subst e;exact sub_self hl ha
  ·rw[List.getElem?_set_ne e,List.getElem?_replicate]at hx
   split at hx<;>simp at hx
 ·rw[List.getElem?_set_ne (by omega),List.getElem?_replicate]at hm
  split at hm<;>simp at hm
theorem qL.done (hl:iR l){a b:Nat}{M:List Bool}(h:qL l a b M):∀(n y:Nat),a-y=n→b≤y→eS l a y=true→M[y]?=some true:=by
 intro n
 induction n using Nat.strongRecOn with
 |ind n ih=>
  intro y hn hy hs
  by_cases e:a=y
  ·subst e;exact h.top
  ·obtain⟨z,t,h1,h2,h3,h4⟩:=Cw hl hs e
   have hz:=sub_le hl h1
   have:=ih (a-z) (by omega) z rfl (by omega) h1
   have:=h.cls z t (by omega) this h2 _ h3
   simpa using this
theorem qL.fin (hl:iR l){a b:Nat}{M:List Bool}(h:qL l a b M)(hb:b<l.length):M[b]?=some (eS l a b):=by
 cases e:eS l a b with
 |true=>exact h.done hl _ b rfl (Nat.le_refl _) e
 |false=>
  have iU:b<M.length:=by rw[h.len];exact hb
  rw[List.getElem?_eq_getElem iU]
  cases e2:M[b]with
  |false=>rfl
  |true=>
   have:=h.snd b (by rw[List.getElem?_eq_getElem iU,e2])
   rw[e]at this;cases this
theorem qL.skip {a i:Nat}{M:List Bool}(h:qL l a (i+1) M)(hm:M[i+1]?≠some true):qL l a i M:=
 ⟨h.len,h.snd,h.top,fun y t hy Wh=>by
  by_cases e:y=i+1
  ·subst e;exact absurd Wh hm
  ·exact h.cls y t (by omega) Wh⟩
structure Cx (l:List dh)(a i:Nat)(t:dh)(k:Nat)(M:List Bool):Prop where
 ok:qL l a i M
 at_:M[i]?=some true
 upto:∀p∈t.2.take k,M[p.toNat]?=some true
theorem Cx.step (hl:iR l){a i k:Nat}{t:dh}{M:List Bool}{p:Int}(h:Cx l a i t k M)(hi:l[i]?=some t)(hp:t.2[k]?=some p):Cx l a i t (k+1) (M.set p.toNat true):=by
 have Sh:=hl.par i t hi p (List.mem_of_getElem? hp)
 have CC:=cg hi
 have mono:∀x,M[x]?=some true→(M.set p.toNat true)[x]?=some true:=fun x hx=>by
  by_cases e:p.toNat=x
  ·subst e;rw[List.getElem?_set_self (cg hx)]
  ·rw[List.getElem?_set_ne e];exact hx
 refine⟨⟨by rw[List.length_set];exact h.ok.len,fun x hx=> ?_,mono _ h.ok.top,fun y u hy hm hu q hq=> ?_⟩,mono _ h.at_,fun q hq=> ?_⟩
 ·by_cases e:p.toNat=x
  ·subst e
   refine oG hl (h.ok.snd i h.at_) ?_;rw[l9 hl hi]
   simp only[Bool.or_eq_true,List.any_eq_true]
   exact .inr ⟨p,List.mem_of_getElem? hp,sub_self hl (by omega)⟩
  ·rw[List.getElem?_set_ne e]at hx;exact h.ok.snd x hx
 ·rw[List.getElem?_set_ne (by omega)]at hm
  exact mono _ (h.ok.cls y u hy hm hu q hq)
 ·rw[bD hp]at hq
  rcases List.mem_append.1 hq with hq|hq
  ·exact mono _ (h.upto q hq)
  ·rw[List.mem_singleton.1 hq,List.getElem?_set_self (by rw[h.ok.len];omega)]
theorem Cx.done {a i:Nat}{t:dh}{M:List Bool}(h:Cx l a (i+1) t t.2.length M)(hi:l[i+1]?=some t):qL l a i M:=
 ⟨h.ok.len,h.ok.snd,h.ok.top,fun y u hy hm hu q hq=>by
  by_cases e:y=i+1
  ·subst e
   rw[hi]at hu;cases hu
   exact h.upto q (by rw[List.take_length];exact hq)
  ·exact h.ok.cls y u (by omega) hm hu q hq⟩
end
theorem vk {l:List dh}{k:Nat}{t:dh}(ht:l[k]?=some t)(known:List ax):gq known k (l.drop k)=if isName t.1=false then(10,(k:Int))else if t.1∈known then(7,(k:Int))else if decide (k=0)≠decide (t.2.length=0)then(5,(k:Int))
 else if(lu k (-1) t.2).1≠0 then lu k (-1) t.2 else gq (known++ [t.1]) (k+1) (l.drop (k+1)):=by rw[bS ht,gq]
theorem yB {l:List dh}{k:Nat}(h:l.length≤k)(known:List ax):gq known k (l.drop k)=(0,0):=by rw[List.drop_of_length_le h,gq]
theorem Ap {i z p:Int}{ps:List Int}{q:Nat}(hp:ps[q]?=some p):lu i z (ps.drop q)=if p<0∨i≤p then(3,i)else if p≤z then(13,i)else lu i p (ps.drop (q+1)):=by rw[bS hp,lu]
theorem Cy {i z:Int}{ps:List Int}{q:Nat}(h:ps.length≤q):lu i z (ps.drop q)=(0,0):=by rw[List.drop_of_length_le h,lu]
def Aq (m:List (ax×Value))(known:List ax):Prop:=∀s,(jy m s).isSome=decide (s∈known)
theorem Aq.nil:Aq [] []:=fun s=>by simp[jy]
theorem Aq.snoc {m:List (ax×Value)}{known:List ax}(h:Aq m known)(s:ax)(v:Value):Aq (gZ m s v) (known++ [s]):=fun s'=>by
 rw[vC]
 by_cases e:s'=s
 ·subst e;simp
 ·rw[if_neg e,h s',decide_eq_decide];simp[e]
theorem c9 {α β:Type}(f:α→β){l:List α}{k:Nat}{x:α}(h:l[k]?=some x):(l.take (k+1)).map f=(l.take k).map f++ [f x]:=by rw[bD h,List.map_append];rfl
set_option maxHeartbeats 1000000 in
theorem yC (u:Value)(ts:List mq):de Tryz.prog 75 #[u] [sl fh u ts,au hY ts] (fv (sF (ts.map ck))):=by
 refine de.zC (args:=[u]) 82 Tryz.func75 rfl Tryz.ntmps75 rfl (fun c=> ?_);refine St.seq ?_;refine St.wf u (fun FR AR=> ?_);refine St.rg ?_;refine St.alloc dR rfl (fun b2=> ?_);refine St.nn (St.seq (St.sr ?_));refine St.mv ?_;refine St.ee (Ev.bA (.mk rfl) gQ) ?_;refine St.ee Ev.fE ?_;refine St.mv ?_;refine St.gf _ rfl rfl (fun hg=>Ev.move (.mk rfl)) rfl ?_;refine St.gf _ rfl rfl (fun hg=>Ev.bA (aL.gv rfl hg) gQ) rfl ?_;refine St.gf _ rfl rfl (fun hg=>Ev.gtr (aL.gv rfl hg) (.mk rfl)) rfl ?_;refine St.ee Ev.o0 ?_;refine St.nn ?_;refine St.cond _ rfl (fun eT=> ?_) (fun eT=> ?_)
 ·try simp only[aA]at eT
  have hf:sF (ts.map ck)=(2,-1):=by unfold sF;rw[if_pos (by rw[List.length_map];omega)]
  refine St.sr ?_;refine St.ee (Ev.call (bX 2 (-1)) qF (.cons (.mk rfl) (.cons (.mk rfl) .nil))) ?_;refine St.sA (.mk rfl) (.mk rfl) aR ?_;refine St.nn (St.ae (St.a8 ?_));refine St.rT [_] [] Tryz.results75 ⟨⟨_,_,_,_,rfl,c4.mem,.inl ⟨⟨_,bC⟩,aR,rfl⟩⟩,trivial⟩ ?_;exact congrArg fv hf.symm
 ·try simp only[aA]at eT
  have hf:sF (ts.map ck)=gq [] 0 (ts.map ck):=by unfold sF;rw[if_neg (by rw[List.length_map];omega)]
  refine St.skip (St.a7 (St.sr ?_));refine St.makeMap mkStr rfl (fun Wi=> ?_);refine St.ao ?_;refine St.nn (St.seq (St.sr ?_));refine St.mv ?_;refine St.ee (Ev.bA (.mk rfl) gQ) ?_;refine St.mv ?_;refine St.nn (St.block ?_);refine St.pH (ι:=Nat) (κ:=List (ax×Value)) (fun k m T=>(23,iv k)::T) (fun k m=>[aZ Wi (gE mkStr m),aZ b2 (.cells [iv 0,iv 0].toArray 28 (0,0)),aE (sl fh u ts),aE (au hY ts)]) (fun k m=>k≤ts.length∧sF (ts.map ck)=gq ((ts.take k).map mq.name) k ((ts.map ck).drop k)∧Aq m ((ts.take k).map mq.name)) (fun k m=>ts.length-k) 0 [] (aG.cons 2 rfl (aG.cons 3 rfl (aG.cons 21 rfl (aG.cons 22 rfl aG.nil)))) ⟨Nat.zero_le _,hf,Aq.nil⟩ ?_;rintro k m ⟨hk,hv,wu⟩;refine St.sr ?_;refine St.ee Ev.ez ?_;refine St.nn (St.seq ?_);refine St.cond _ rfl (fun y0=> ?_) (fun y0=> ?_)
  ·try simp only[aA]at y0
   obtain⟨t,ht⟩:=aY (show k<ts.length by omega)
   have qM:=List.mem_of_getElem? ht
   have cq:=vk (l:=ts.map ck) (k:=k) (t:=ck t) (by rw[List.getElem?_map,ht];rfl) ((ts.take k).map mq.name)
   rw[←hv]at cq
   have FQ:t.name.length≤9223372036854775807:=by have:=FR t qM;simp only[fh,iK]at this;omega
   refine St.dK hY ts (x:=t) qM ?_;refine St.iJ (sl aF t.pv.1 t.parents) [hY t] (fun ρ h=>h _ (List.mem_cons_self ..)) ?_;refine St.wf t.pv.1 (fun Mz vj=> ?_);refine St.skip (St.a7 (St.seq (St.block (St.sr ?_))));refine St.mv ?_;refine St.ee (Ev.aa (k:=k) (.mk rfl) (.mk rfl) gQ mB (by omega) (by omega)) ?_;refine St.ee (Ev.iH (.mk rfl) ht Tryz.underlying136 trivial mB fw.eq) ?_;refine St.alloc zV rfl (fun b5=> ?_);refine St.ao ?_;refine St.sA (.mk rfl) (.mk rfl) mB ?_ (h1:=(by simp only[List.all_cons,List.all_nil,Bool.and_true,Bool.and_eq_true];exact⟨rfl,t.pv.2⟩));refine St.nn (St.seq (St.sr ?_));refine St.ee (Ev.aD (.mk rfl) u6) ?_;refine St.ee (Ev.l0 (.mk rfl) cZ) ?_;refine St.ee (Ev.call (fB t.name FQ) u5 (.cons (.mk rfl) .nil)) ?_;refine St.ee (Ev.not (.mk rfl)) ?_;refine St.nn ?_;refine St.cond _ rfl (fun pX=> ?_) (fun pX=> ?_)
   ·try simp only[aA]at pX
    rw[if_pos (show isName (ck t).1=false from(by simpa using pX:isName t.name=false))]at cq;refine St.sr ?_;refine St.mv ?_;refine St.ee (Ev.call (bX 10 k) qF (.cons (.mk rfl) (.cons (.mk rfl) .nil))) ?_;refine St.sA (.mk rfl) (.mk rfl) aR ?_;refine St.nn (St.ae (St.a8 (St.aN (St.a8 (St.a8 (St.aN (St.a8 ?_)))))));refine St.rT [_] [] Tryz.results75 ⟨⟨_,_,_,_,rfl,c4.mem,.inl ⟨⟨_,bC⟩,aR,rfl⟩⟩,trivial⟩ ?_;exact congrArg fv cq.symm
   ·try simp only[aA]at pX
    rw[if_neg (show ¬isName (ck t).1=false from(by simpa using pX:¬isName t.name=false))]at cq;refine St.skip (St.a7 (St.seq (St.sr ?_)));refine St.mv ?_;refine St.ee (Ev.aD (.mk rfl) u6) ?_;refine St.ee (Ev.l0 (.mk rfl) cZ) ?_;refine St.ee (Ev.jz mkStr (k:=t.name) (.mk rfl) (.mk rfl) pK (by exact cZ) dx) ?_;refine St.mv ?_;refine St.ee (Ev.extract (.mk rfl) rfl) ?_;refine St.ee (Ev.extract (.mk rfl) rfl) ?_;refine St.slot 40 (.bool (decide (t.name∈(ts.take k).map mq.name))) rfl (congrArg Value.bool (wu t.name)) ?_;refine St.ao ?_;refine St.ao ?_;refine St.nn (St.sr ?_);refine St.mv ?_;refine St.nn ?_;refine St.cond _ rfl (fun yD=> ?_) (fun yD=> ?_)
    ·try simp only[aA]at yD
     rw[if_pos (show(ck t).1∈(ts.take k).map mq.name from yD)]at cq;refine St.sr ?_;refine St.mv ?_;refine St.ee (Ev.call (bX 7 k) qF (.cons (.mk rfl) (.cons (.mk rfl) .nil))) ?_;refine St.sA (.mk rfl) (.mk rfl) aR ?_;refine St.nn (St.ae (St.a8 (St.aN (St.a8 (St.a8 (St.aN (St.a8 ?_)))))));refine St.rT [_] [] Tryz.results75 ⟨⟨_,_,_,_,rfl,c4.mem,.inl ⟨⟨_,bC⟩,aR,rfl⟩⟩,trivial⟩ ?_;exact congrArg fv cq.symm
    ·try simp only[aA]at yD
     rw[if_neg (show ¬(ck t).1∈(ts.take k).map mq.name from yD)]at cq;refine St.skip (St.a7 (St.sr ?_));refine St.mv ?_;refine St.ee (Ev.aD (.mk rfl) u6) ?_;refine St.ee (Ev.l0 (.mk rfl) cZ) ?_;refine St.mv ?_;refine St.mapUpdate mkStr (k:=t.name) (.mk rfl) (.mk rfl) (.mk rfl) pK (by exact cZ) ?_;refine St.nn (St.seq (St.sr ?_));refine St.mv ?_;refine St.ee Ev.fE ?_;refine St.ee (Ev.aD (.mk rfl) pU) ?_;refine St.ee (Ev.l0 (.mk rfl) bJ) ?_;refine St.ee (Ev.bA (.mk rfl) bJ) ?_;refine St.ee Ev.fE ?_;refine St.ee (Ev.zF (.mk rfl) (.mk rfl) zR) ?_;refine St.nn ?_;refine St.cond _ rfl (fun uD=> ?_) (fun uD=> ?_)
     ·skip
      have K8:decide (k=0)≠decide (t.parents.length=0):=by simpa using uD
      rw[if_pos (show decide (k=0)≠decide ((ck t).2.length=0)from K8)]at cq;refine St.sr ?_;refine St.mv ?_;refine St.ee (Ev.call (bX 5 k) qF (.cons (.mk rfl) (.cons (.mk rfl) .nil))) ?_;refine St.sA (.mk rfl) (.mk rfl) aR ?_;refine St.nn (St.ae (St.a8 (St.aN (St.a8 (St.a8 (St.aN (St.a8 ?_)))))));refine St.rT [_] [] Tryz.results75 ⟨⟨_,_,_,_,rfl,c4.mem,.inl ⟨⟨_,bC⟩,aR,rfl⟩⟩,trivial⟩ ?_;exact congrArg fv cq.symm
     ·skip
      have K8:¬decide (k=0)≠decide (t.parents.length=0):=by simpa using uD
      rw[if_neg (show ¬decide (k=0)≠decide ((ck t).2.length=0)from K8)]at cq;refine St.skip (St.a7 (St.sr ?_));refine St.ao ?_;refine St.nn (St.sr ?_);refine St.ee (Ev.aD (.mk rfl) pU) ?_;refine St.ee (Ev.l0 (.mk rfl) bJ) ?_;refine St.ee (Ev.bA (.mk rfl) bJ) ?_;refine St.mv ?_;refine St.nn (St.block ?_);refine St.pH (ι:=Nat) (κ:=Int) (fun q z T=>(60,iv q)::(8,iv z)::T) (fun q z=>[aZ Wi (gE mkStr (gZ m t.name (iv k))),aZ b2 (.cells [iv 0,iv 0].toArray 28 (0,0)),aE (sl aF t.pv.1 t.parents),aE (sl fh u ts),aE (au hY ts)]) (fun q z=>q≤t.parents.length∧lu k (-1) (ck t).2=lu k z (t.parents.drop q)) (fun q z=>t.parents.length-q) 0 (-1) (aG.cons 2 rfl (aG.cons 3 rfl (aG.cons 4 rfl (aG.cons 21 rfl (aG.cons 22 rfl (aG.cons 23 rfl (aG.cons 58 rfl (aG.cons 59 rfl aG.nil)))))))) ⟨Nat.zero_le _,rfl⟩ ?_;rintro q z ⟨hq,vm⟩;refine St.sr ?_;refine St.ee Ev.ez ?_;refine St.nn (St.seq ?_);refine St.cond _ rfl (fun Si=> ?_) (fun Si=> ?_)
      ·try simp only[aA]at Si
       obtain⟨p,hp⟩:=aY (show q<t.parents.length by omega)
       have yE:=Ap (i:=k) (z:=z) hp
       refine St.skip (St.a7 (St.seq (St.block (St.sr ?_))));refine St.ee (Ev.aa (k:=q) (.mk rfl) (.mk rfl) bJ cu (by omega) (by omega)) ?_;refine St.ee (Ev.jA (.mk rfl) hp bf trivial rfl) ?_;refine St.ao ?_;refine St.nn (St.seq (St.sr ?_));refine St.mv ?_;refine St.ee Ev.ez ?_;refine St.mv ?_;refine St.gf _ rfl rfl (fun hg=>Ev.move (.mk rfl)) rfl ?_;refine St.gf _ rfl rfl (fun hg=>Ev.move (.mk rfl)) rfl ?_;refine St.gf _ rfl rfl (fun hg=>Ev.geq (aL.gv rfl hg) (aL.gv rfl hg)) rfl ?_;refine St.ee Ev.o0 ?_;refine St.nn ?_;refine St.cond _ rfl (fun sN=> ?_) (fun sN=> ?_)
       ·try simp only[aA]at sN
        rw[if_pos (by omega)]at yE;rw[vm,yE,if_pos (by show(3:Int)≠0;decide)]at cq;refine St.sr ?_;refine St.mv ?_;refine St.ee (Ev.call (bX 3 k) qF (.cons (.mk rfl) (.cons (.mk rfl) .nil))) ?_;refine St.sA (.mk rfl) (.mk rfl) aR ?_;refine St.nn (St.ae (St.a8 (St.aN (St.a8 (St.a8 (St.aN (St.aN (St.a8 (St.a8 (St.aN (St.a8 ?_)))))))))));refine St.rT [_] [] Tryz.results75 ⟨⟨_,_,_,_,rfl,c4.mem,.inl ⟨⟨_,bC⟩,aR,rfl⟩⟩,trivial⟩ ?_;exact congrArg fv cq.symm
       ·try simp only[aA]at sN
        rw[if_neg (by omega)]at yE;refine St.skip (St.a7 (St.seq (St.sr ?_)));refine St.mv ?_;refine St.mv ?_;refine St.ee Ev.Ju ?_;refine St.nn ?_;refine St.cond _ rfl (fun GX=> ?_) (fun GX=> ?_)
        ·try simp only[aA]at GX
         rw[if_pos (by omega)]at yE;rw[vm,yE,if_pos (by show(13:Int)≠0;decide)]at cq;refine St.sr ?_;refine St.mv ?_;refine St.ee (Ev.call (bX 13 k) qF (.cons (.mk rfl) (.cons (.mk rfl) .nil))) ?_;refine St.sA (.mk rfl) (.mk rfl) aR ?_;refine St.nn (St.ae (St.a8 (St.aN (St.a8 (St.a8 (St.aN (St.aN (St.a8 (St.a8 (St.aN (St.a8 ?_)))))))))));refine St.rT [_] [] Tryz.results75 ⟨⟨_,_,_,_,rfl,c4.mem,.inl ⟨⟨_,bC⟩,aR,rfl⟩⟩,trivial⟩ ?_;exact congrArg fv cq.symm
        ·try simp only[aA]at GX
         rw[if_neg (by omega)]at yE;refine St.skip (St.a7 (St.rg ?_));refine St.mv ?_;refine St.ao ?_;refine St.nil (St.aW (St.a7 (St.rg ?_)));refine St.ee Ev.a0 ?_;refine St.mv ?_;refine St.nn ?_;refine St.ly (q+1) p ⟨by omega,by rw[vm,yE]⟩
      ·try simp only[aA]at Si
       rw[Cy (by omega)]at vm;rw[if_neg (by rw[vm];decide)]at cq;refine St.exit (St.aJ (St.aJ (St.bO (St.aW (St.a7 (St.rg ?_))))));refine St.ee Ev.a0 ?_;refine St.mv ?_;refine St.nn ?_;refine St.ly (k+1) (gZ m t.name (iv k)) ⟨by omega,by rw[cq,c9 mq.name ht];rfl,by rw[c9 mq.name ht];exact wu.snoc _ _⟩
  ·try simp only[aA]at y0
   rw[yB (by rw[List.length_map];omega)]at hv;refine St.exit (St.aJ (St.aJ (St.bO (St.a7 (St.sr ?_)))));refine St.ee (Ev.build (ps:=[]) (aQ.nil) (fun w=>fK w)) ?_;refine St.sA (.mk rfl) (.mk rfl) aR ?_;refine St.nn (St.ae ?_);refine St.rT [_] [] Tryz.results75 ⟨⟨_,_,_,_,rfl,c4.mem,.inl ⟨⟨_,bC⟩,aR,rfl⟩⟩,trivial⟩ ?_;exact congrArg fv hv.symm
def yF (T:List dh)(i:Nat):Nat:=(rH T).getD i 0
def Ih (T:List dh)(k:Nat)(ps:List Int):Nat:=ps.foldl (fun u p=>u|||yF T p.toNat) (2^k)
theorem vn (T:List dh)(k:Nat)(ps:List Int)(p:Int):Ih T k (ps++ [p])=Ih T k ps|||yF T p.toNat:=by unfold Ih;rw[List.foldl_append];rfl
theorem Cz {T:List dh}(hT:iR T){k:Nat}{t:dh}(h:T[k]?=some t):yF T k=Ih T k t.2:=by
 have e:∀(ps:List Int) (u:Nat),(∀p∈ps,0≤p∧p<k)→ps.foldl (fun u p=>u|||(rH (T.take k)).getD p.toNat 0) u=ps.foldl (fun u p=>u|||yF T p.toNat) u:=by
  intro ps
  induction ps with
  |nil=>intro u _;rfl
  |cons p ps ih=>
   intro u hp
   have LJ:=hp p (List.mem_cons_self ..)
   rw[List.foldl_cons,List.foldl_cons,qK T k p.toNat (by omega) (Nat.le_of_lt (cg h))]
   exact ih _ fun q hq=>hp q (List.mem_cons_of_mem _ hq)
 show(rH T).getD k 0=_
 rw[Ct h];exact e t.2 _ (hT.par k t h)
theorem K9 {T:List dh}(hT:iR T):∀k:Nat,yF T k<2^(k+1):=by
 intro k
 induction k using Nat.strongRecOn with
 |ind k ih=>
  rcases Nat.lt_or_ge k T.length with h|h
  ·rw[Cz hT (List.getElem?_eq_getElem h)]
   have hp:=hT.par k _ (List.getElem?_eq_getElem h)
   generalize (T[k]).2=ps at hp
   have e:∀(ps:List Int) (u:Nat),(∀p∈ps,0≤p∧p<k)→u<2^(k+1)→ps.foldl (fun u p=>u|||yF T p.toNat) u<2^(k+1):=by
    intro ps
    induction ps with
    |nil=>intro u _ h;exact h
    |cons p ps Yx=>
     intro u hp hu
     have LJ:=hp p (List.mem_cons_self ..)
     refine Yx _ (fun q hq=>hp q (List.mem_cons_of_mem _ hq)) (Nat.or_lt_two_pow hu ?_);exact Nat.lt_of_lt_of_le (ih p.toNat (by omega)) (Nat.pow_le_pow_right (by omega) (by omega))
   exact e ps _ hp (Nat.pow_lt_pow_right (by omega) (by omega))
  ·show(rH T).getD k 0<_
   rw[List.getD_eq_getElem?_getD,List.getElem?_eq_none (by rw[nI];exact h)];exact Nat.pow_pos (by omega)
theorem oH {T:List dh}(hT:iR T){k:Nat}(hk:k<60):yF T k<18446744073709551616:=
 Nat.lt_of_lt_of_le (K9 hT k) (show 2^(k+1)≤2^64 from Nat.pow_le_pow_right (by decide) (by omega))
theorem D0 {T:List dh}(hT:iR T){k:Nat}(hk:k<60):∀{ps:List Int},(∀p∈ps,0≤p∧p<k)→Ih T k ps<18446744073709551616:=by
 have e:∀(ps:List Int) (u:Nat),(∀p∈ps,0≤p∧p<k)→u<18446744073709551616→ps.foldl (fun u p=>u|||yF T p.toNat) u<18446744073709551616:=by
  intro ps
  induction ps with
  |nil=>intro u _ h;exact h
  |cons p ps ih=>
   intro u hp hu
   have LJ:=hp p (List.mem_cons_self ..)
   exact ih _ (fun q hq=>hp q (List.mem_cons_of_mem _ hq)) (Nat.or_lt_two_pow (n:=64) hu (oH hT (by omega)))
 intro ps hp;exact e ps _ hp (show 2^k<2^64 from Nat.pow_lt_pow_right (by decide) (by omega))
def gi (T:List dh)(k j:Nat):Nat:=(List.range k).foldl (fun a i=>if eS T i j then a|||2^i else a) 0
theorem lY (T:List dh)(k j:Nat):gi T (k+1) j=if eS T k j then gi T k j|||2^k else gi T k j:=by
 unfold gi;rw[List.range_succ,List.foldl_append];rfl
theorem zc (T:List dh)(j:Nat):∀k:Nat,gi T k j<2^k
 |0=>by show(0:Nat)<2^0;omega
 |k+1=>by
  have ih:=Nat.lt_of_lt_of_le (zc T j k) (Nat.pow_le_pow_right (n:=2) (by omega) (Nat.le_succ k))
  rw[lY]
  split
  ·exact Nat.or_lt_two_pow ih (Nat.pow_lt_pow_right (by omega) (by omega))
  ·exact ih
theorem nJ (T:List dh)(j:Nat){k:Nat}(hk:k≤60):gi T k j<18446744073709551616:=
 Nat.lt_of_lt_of_le (zc T j k) (show 2^k≤2^64 from Nat.pow_le_pow_right (by decide) (by omega))
theorem lA (T:List dh)(j i:Nat):∀k:Nat,(gi T k j).testBit i=(decide (i<k)&&eS T i j)
 |0=>by show(0:Nat).testBit i=_;simp
 |k+1=>by
  rw[lY]
  have ih:=lA T j i k
  by_cases e:i=k
  ·subst e
   cases h:eS T i j with
   |true=>simp[ih,Nat.testBit_two_pow]
   |false=>simp[ih]
  ·have e2:decide (i<k+1)=decide (i<k):=by rw[decide_eq_decide];omega
   rw[e2]
   split
   ·rw[Nat.testBit_or,ih,Nat.testBit_two_pow,decide_eq_false (p:=k=i) (fun h=>e h.symm),Bool.or_false]
   ·exact ih
def iz (T:List dh):List Nat:=(List.range T.length).map (yF T)
def j0 (T:List dh):List Nat:=(List.range T.length).map (gi T T.length)
theorem qN {f:Nat→Nat}{n:Nat}{U:List Nat}(hl:U.length=n)(h:∀i,i<n→U[i]?=some (f i)):U=(List.range n).map f:=by
 refine List.ext_getElem? fun i=> ?_
 rw[List.getElem?_map]
 rcases Nat.lt_or_ge i n with hi|hi
 ·rw[h i hi,List.getElem?_range hi];rfl
 ·rw[List.getElem?_eq_none (by omega),List.getElem?_eq_none (by simpa using hi)];rfl
theorem D1 {T:List dh}{i:Nat}(h:i<T.length):(iz T)[i]?=some (yF T i):=by unfold iz;rw[List.getElem?_map,List.getElem?_range h];rfl
theorem qO {T:List dh}{i:Nat}(h:i<T.length):(j0 T)[i]?=some (gi T T.length i):=by unfold j0;rw[List.getElem?_map,List.getElem?_range h];rfl
theorem D2 (T:List dh):(iz T).length=T.length:=by simp[iz]
theorem D3 (T:List dh):(j0 T).length=T.length:=by simp[j0]
def both (T:List dh)(a b:Nat):Nat:=gi T T.length a&&&gi T T.length b
theorem lB (T:List dh)(a b i:Nat):(both T a b).testBit i=(decide (i<T.length)&&(eS T i a&&eS T i b)):=by
 unfold both;rw[Nat.testBit_and,lA,lA]
 cases decide (i<T.length)<;>simp
theorem lC {T:List dh}{a b i:Nat}:i∈comm T a b↔(both T a b).testBit i=true:=by
 unfold comm;rw[List.mem_filter,List.mem_range,lB];simp only[Bool.and_eq_true,decide_eq_true_eq]
theorem yG {T:List dh}{a b:Nat}(h:both T a b=0):ik T a b=false:=by
 unfold ik
 split
 ·rfl
 ·rename_i m r e
  have:m∈comm T a b:=by rw[e];exact List.mem_cons_self ..
  rw[lC,h,Nat.zero_testBit]at this;cases this
theorem D4 {T:List dh}(hT:iR T){a b m:Nat}(h:(both T a b).testBit m=true)(hl:∀i,i<m→(both T a b).testBit i=false):ik T a b=decide (gi T T.length m≠both T a b):=by
 have hm:=lC.2 h
 unfold ik
 split
 ·rename_i e;rw[e]at hm;cases hm
 ·rename_i m' r e
  have hp:(comm T a b).Pairwise (· < ·):=by unfold comm;exact List.Pairwise.filter _ List.pairwise_lt_range
  rw[e]at hp
  have iT:m'∈comm T a b:=by rw[e];exact List.mem_cons_self ..
  have e2:m'=m:=by
   rw[e]at hm
   rcases List.mem_cons.1 hm with h2|h2
   ·exact h2.symm
   ·have h3:=(List.pairwise_cons.1 hp).1 m h2
    have h4:=hl m' h3
    rw[lC.1 iT]at h4;cases h4
  subst e2
  have hb:=h
  rw[lB,Bool.and_eq_true,Bool.and_eq_true,decide_eq_true_eq]at hb;rw[Bool.eq_iff_iff,List.any_eq_true,decide_eq_true_eq]
  constructor
  ·rintro ⟨i,hi,h5⟩ h6
   have h7:(both T a b).testBit i=true:=lC.1 (by rw[e];exact List.mem_cons_of_mem _ hi)
   rw[←h6,lA,Bool.and_eq_true]at h7
   rw[h7.2]at h5;cases h5
  ·intro h5
   apply Decidable.byContradiction
   intro h6;refine h5 (Nat.eq_of_testBit_eq fun i=> ?_);rw[lA,lB];rw[Bool.eq_iff_iff,Bool.and_eq_true,Bool.and_eq_true,decide_eq_true_eq]
   constructor
   ·rintro ⟨h7,h8⟩
    exact⟨h7,by rw[oG hT h8 hb.2.1,oG hT h8 hb.2.2];rfl⟩
   ·rintro ⟨h7,h8⟩
    refine⟨h7,?_⟩
    have h9:i∈comm T a b:=lC.2 (by rw[lB,h8,decide_eq_true h7];rfl)
    rw[e]at h9
    rcases List.mem_cons.1 h9 with rfl|h9
    ·exact sub_self hT h7
    ·cases sR:eS T i m' with
     |true=>rfl
     |false=>exact absurd ⟨i,h9,by rw[sR];rfl⟩ h6
end Go.Proofs.YtoioijgdggkabaaGreatDoor
namespace Go.J
open Go
section
variable {P:Program}{n:Nat}{F:Fr}{A:World→Prop}{ty t u:TypeId}{x y:Operand}{a b:Nat}
theorem Ar (h:a<18446744073709551616)(h2:b<18446744073709551616):bits .and .u64 (a:Int) (b:Int)=((a&&&b:Nat):Int):=by
 have e:(BitVec.ofInt IntKind.u64.bits (a:Int)&&&BitVec.ofInt IntKind.u64.bits (b:Int)).toNat=a&&&b:=by
  show(BitVec.ofInt 64 (a:Int)&&&BitVec.ofInt 64 (b:Int)).toNat=_
  rw[BitVec.toNat_and,BitVec.ofInt_natCast,BitVec.ofInt_natCast,BitVec.toNat_ofNat,BitVec.toNat_ofNat,Nat.mod_eq_of_lt h,Nat.mod_eq_of_lt h2]
 simp only[bits,e]
 rw[jo,Nat.mod_eq_of_lt (Nat.lt_of_le_of_lt Nat.and_le_left h)]
theorem D5 (h:a<18446744073709551616)(h2:b<18446744073709551616):bits .or .u64 (a:Int) (b:Int)=((a|||b:Nat):Int):=by
 have e:(BitVec.ofInt IntKind.u64.bits (a:Int)|||BitVec.ofInt IntKind.u64.bits (b:Int)).toNat=a|||b:=by
  show(BitVec.ofInt 64 (a:Int)|||BitVec.ofInt 64 (b:Int)).toNat=_
  rw[BitVec.toNat_or,BitVec.ofInt_natCast,BitVec.ofInt_natCast,BitVec.toNat_ofNat,BitVec.toNat_ofNat,Nat.mod_eq_of_lt h,Nat.mod_eq_of_lt h2]
 simp only[bits,e]
 rw[jo,Nat.mod_eq_of_lt (Nat.or_lt_two_pow (n:=64) h h2)]
theorem Ev.Sj (hx:aL F x (uv a))(hy:aL F y (uv b))(h:a<18446744073709551616∧b<18446744073709551616):Ev P n F A (.binOp .and t x y u) ty (uv (a&&&b)):= .of_run fun a' w ha _=>by
 simp only[execOp,hx.eval ha,hy.eval ha];simp only[go_sem,Ar h.1 h.2];simp
theorem Ev.Sk (hx:aL F x (uv a))(hy:aL F y (uv b))(h:a<18446744073709551616∧b<18446744073709551616):Ev P n F A (.binOp .or t x y u) ty (uv (a|||b)):= .of_run fun a' w ha _=>by
 simp only[execOp,hx.eval ha,hy.eval ha];simp only[go_sem,D5 h.1 h.2];simp
theorem Ev.N0 {k:Nat}{i:Int}{kd:IntKind}(hx:aL F x (uv 1))(hy:aL F y (.int kd i))(h:i=k∧k<64):Ev P n F A (.binOp .shl t x y u) ty (uv (2^k)):=by
 have:=Ev.Rx (P:=P) (n:=n) (A:=A) (ty:=ty) (t:=t) (u:=u) k (2^k) rfl hx hy (by omega)
 have e:1*2^k%18446744073709551616=2^k:=by
  rw[Nat.one_mul];exact Nat.mod_eq_of_lt (show 2^k<2^64 from Nat.pow_lt_pow_right (by decide) h.2)
 rw[e]at this;exact this
theorem zd (a j:Nat):decide ((((a/2^j%2:Nat):Int))=1)=a.testBit j:=by
 rw[Nat.testBit_eq_decide_div_mod_eq,decide_eq_decide];omega
end
def dU:Rp Nat:=⟨1,by decide,fun a=>[uv a],fun a=>a<18446744073709551616,fun _=>rfl,fun x u h=>by rw[List.mem_singleton.1 h];rfl⟩
theorem lZ (U:List Nat):rows dU U=U.map fun a=>uv a:=by
 show U.flatMap (fun a=>[uv a])=_
 induction U with
 |nil=>rfl
 |cons a U ih=>rw[List.flatMap_cons,ih];rfl
theorem js {U:List Nat}{k a:Nat}(h:U[k]?=some a):(rows dU U)[k*1+0]?=some (uv a):=by
 rw[lZ,Nat.mul_one,Nat.add_zero,List.getElem?_map,h];rfl
theorem nK {U:List Nat}{k a:Nat}:(rows dU U).set (k*1+0) (uv a)=rows dU (U.set k a):=by
 rw[lZ,lZ,Nat.mul_one,Nat.add_zero,List.map_set]
theorem fY (n:Nat):List.replicate n (uv 0)=rows dU (List.replicate n 0):=by rw[lZ,List.map_replicate]
end Go.J
namespace Go.Proofs.YtoioijgdggkabaaGreatDoor
open Go Go.J
theorem GY {T:List dh}{k q n:Nat}{E:List Nat}(hE:∀j,j<n→E[j]?=some (if j<q then gi T (k+1) j else gi T k j))(hl:E.length=n)(hq:q<n)(h:eS T k q=true):
 ∀j,j<n→(E.set q (gi T k q|||2^k))[j]?=some (if j<q+1 then gi T (k+1) j else gi T k j):=fun j hj=>by
 by_cases e:q=j
 ·subst e;rw[List.getElem?_set_self (by omega),if_pos (by omega),lY,if_pos h]
 ·rw[List.getElem?_set_ne e,hE j hj]
  by_cases e2:j<q
  ·rw[if_pos e2,if_pos (by omega)]
  ·rw[if_neg e2,if_neg (by omega)]
theorem GZ {T:List dh}{k q n:Nat}{E:List Nat}(hE:∀j,j<n→E[j]?=some (if j<q then gi T (k+1) j else gi T k j))(h:eS T k q=false):
 ∀j,j<n→E[j]?=some (if j<q+1 then gi T (k+1) j else gi T k j):=fun j hj=>by
 rw[hE j hj]
 by_cases e:q=j
 ·subst e;rw[if_neg (by omega),if_pos (by omega),lY,if_neg (by rw[h];decide)]
 ·by_cases e2:j<q
  ·rw[if_pos e2,if_pos (by omega)]
  ·rw[if_neg e2,if_neg (by omega)]
set_option maxHeartbeats 2000000 in
theorem ox (u:Value)(ts:List mq)(hT:iR (ts.map ck)):eI Tryz.prog 55 #[u] ([sl fh u ts,au hY ts].map aE) (fun v H'=>∃w1 w2:dQ,v= .agg #[w1.1,w2.1]∧H'=[aE (sl dU w1.1 (iz (ts.map ck))),aE (sl dU w2.1 (j0 (ts.map ck)))]):=by
 refine eI.body (args:=[u]) 75 Tryz.func55 rfl Tryz.ntmps55 rfl (fun c=> ?_);refine St.cast (H':=[aE (sl fh u ts),aE (au hY ts)]) rfl ?_;refine St.seq ?_
 have yH:=hT.len
 rw[List.length_map]at yH;refine St.rg ?_;refine St.alloc nD rfl (fun b2=> ?_);refine St.nn ?_;refine St.join (ι:=Nat×Nat×Nat) (fun y T=>(3,.pointer (some ⟨y.2.2,0,none⟩))::T) (fun y=>[aZ y.2.2 (.cells [(.slice (some ⟨y.1,0,none⟩) ts.length ts.length),(.slice (some ⟨y.2.1,0,none⟩) ts.length ts.length)].toArray 128 (0,0)),row (.slice (some ⟨y.1,0,none⟩) ts.length ts.length) 153 1 ts.length (rows dU (List.replicate ts.length 0)),row (.slice (some ⟨y.2.1,0,none⟩) ts.length ts.length) 153 1 ts.length (rows dU (List.replicate ts.length 0)),aZ b2 (.cells [(.slice none 0 0),(.slice none 0 0)].toArray 128 (0,0)),aE (sl fh u ts),aE (au hY ts)]) (fun y=>True) (aG.cons 0 rfl (aG.cons 2 rfl aG.nil)) ?_ ?_
 ·refine St.lr [] mixed (fun np ns=> ?_)
  refine SW.dd 0 rfl (fun _=>Ev.move (.mk rfl)) ?_;refine SW.dd 1 rfl (fun _=>Ev.bA (.mk rfl) gQ) ?_;refine SW.dd 3 rfl (fun _=>Ev.move (.mk rfl)) ?_;refine SW.dd 4 rfl (fun _=>Ev.bA (.mk rfl) gQ) ?_;refine SW.Lu (i:=2) (j:=5) (k:=7) (by kernel_rfl) rfl rfl rfl ?_ ?_ ?_
  ·refine St.gn (m:=ts.length) (.mk rfl) (.mk rfl) dq eJ mC mD rfl rfl (by omega) rfl rfl (fun mG=> ?_)
   refine St.bI (.slice (some ⟨mG,0,none⟩) ts.length ts.length) rfl (fY _) ?_;refine St.nn ?_;refine SW.go ?_;refine SW.ig (i:=5) (j:=7) (by kernel_rfl) rfl rfl ?_ ?_
   ·refine St.gn (m:=ts.length) (.mk rfl) (.mk rfl) dq eJ mC mD rfl rfl (by omega) rfl rfl (fun r7=> ?_)
    refine St.bI (.slice (some ⟨r7,0,none⟩) ts.length ts.length) rfl (fY _) ?_;refine St.nn ?_;refine SW.go ?_;refine SW.dd 6 rfl (fun _=>Ev.build (ps:=[(0,(.tmp 11)),(1,(.tmp 14))]) (aQ.cons (aL.mk rfl) (aQ.cons (aL.mk rfl) aQ.nil)) (fun w=>gR rfl rfl w)) ?_;refine SW.ar (i:=7) (by kernel_rfl) rfl ?_;refine St.alloc nD rfl (fun b3=> ?_);refine St.nn ?_;refine SW.go ?_;refine SW.ar (i:=8) (by kernel_rfl) rfl ?_;refine St.sA (.mk rfl) (.mk rfl) gD ?_ (h1:=(by simp only[List.all_cons,List.all_nil,Bool.and_true,Bool.and_eq_true];exact⟨rfl,rfl⟩));refine St.nn ?_;refine SW.go ?_;refine SW.done (by kernel_rfl) ?_;refine St.a7 ?_;refine St.mE (mG,r7,b3) trivial
   ·refine St.alloc nD rfl (fun b3=> ?_)
    refine St.nn ?_;refine SW.go ?_;refine SW.ar (i:=5) (by kernel_rfl) rfl ?_;refine St.gn (m:=ts.length) (.mk rfl) (.mk rfl) dq eJ mC mD rfl rfl (by omega) rfl rfl (fun r7=> ?_);refine St.bI (.slice (some ⟨r7,0,none⟩) ts.length ts.length) rfl (fY _) ?_;refine St.nn ?_;refine SW.go ?_;refine SW.dd 6 rfl (fun _=>Ev.build (ps:=[(0,(.tmp 11)),(1,(.tmp 14))]) (aQ.cons (aL.mk rfl) (aQ.cons (aL.mk rfl) aQ.nil)) (fun w=>gR rfl rfl w)) ?_;refine SW.ar (i:=8) (by kernel_rfl) rfl ?_;refine St.sA (.mk rfl) (.mk rfl) gD ?_ (h1:=(by simp only[List.all_cons,List.all_nil,Bool.and_true,Bool.and_eq_true];exact⟨rfl,rfl⟩));refine St.nn ?_;refine SW.go ?_;refine SW.done (by kernel_rfl) ?_;refine St.a7 ?_;refine St.mE (mG,r7,b3) trivial
  ·refine St.gn (m:=ts.length) (.mk rfl) (.mk rfl) dq eJ mC mD rfl rfl (by omega) rfl rfl (fun r7=> ?_)
   refine St.bI (.slice (some ⟨r7,0,none⟩) ts.length ts.length) rfl (fY _) ?_;refine St.nn ?_;refine SW.go ?_;refine SW.ig (i:=2) (j:=7) (by kernel_rfl) rfl rfl ?_ ?_
   ·refine St.gn (m:=ts.length) (.mk rfl) (.mk rfl) dq eJ mC mD rfl rfl (by omega) rfl rfl (fun mG=> ?_)
    refine St.bI (.slice (some ⟨mG,0,none⟩) ts.length ts.length) rfl (fY _) ?_;refine St.nn ?_;refine SW.go ?_;refine SW.dd 6 rfl (fun _=>Ev.build (ps:=[(0,(.tmp 11)),(1,(.tmp 14))]) (aQ.cons (aL.mk rfl) (aQ.cons (aL.mk rfl) aQ.nil)) (fun w=>gR rfl rfl w)) ?_;refine SW.ar (i:=7) (by kernel_rfl) rfl ?_;refine St.alloc nD rfl (fun b3=> ?_);refine St.nn ?_;refine SW.go ?_;refine SW.ar (i:=8) (by kernel_rfl) rfl ?_;refine St.sA (.mk rfl) (.mk rfl) gD ?_ (h1:=(by simp only[List.all_cons,List.all_nil,Bool.and_true,Bool.and_eq_true];exact⟨rfl,rfl⟩));refine St.nn ?_;refine SW.go ?_;refine SW.done (by kernel_rfl) ?_;refine St.a7 ?_;refine St.mE (mG,r7,b3) trivial
   ·refine St.alloc nD rfl (fun b3=> ?_)
    refine St.nn ?_;refine SW.go ?_;refine SW.ar (i:=2) (by kernel_rfl) rfl ?_;refine St.gn (m:=ts.length) (.mk rfl) (.mk rfl) dq eJ mC mD rfl rfl (by omega) rfl rfl (fun mG=> ?_);refine St.bI (.slice (some ⟨mG,0,none⟩) ts.length ts.length) rfl (fY _) ?_;refine St.nn ?_;refine SW.go ?_;refine SW.dd 6 rfl (fun _=>Ev.build (ps:=[(0,(.tmp 11)),(1,(.tmp 14))]) (aQ.cons (aL.mk rfl) (aQ.cons (aL.mk rfl) aQ.nil)) (fun w=>gR rfl rfl w)) ?_;refine SW.ar (i:=8) (by kernel_rfl) rfl ?_;refine St.sA (.mk rfl) (.mk rfl) gD ?_ (h1:=(by simp only[List.all_cons,List.all_nil,Bool.and_true,Bool.and_eq_true];exact⟨rfl,rfl⟩));refine St.nn ?_;refine SW.go ?_;refine SW.done (by kernel_rfl) ?_;refine St.a7 ?_;refine St.mE (mG,r7,b3) trivial
  ·refine St.alloc nD rfl (fun b3=> ?_)
   refine St.nn ?_;refine SW.go ?_;refine SW.ig (i:=2) (j:=5) (by kernel_rfl) rfl rfl ?_ ?_
   ·refine St.gn (m:=ts.length) (.mk rfl) (.mk rfl) dq eJ mC mD rfl rfl (by omega) rfl rfl (fun mG=> ?_)
    refine St.bI (.slice (some ⟨mG,0,none⟩) ts.length ts.length) rfl (fY _) ?_;refine St.nn ?_;refine SW.go ?_;refine SW.ar (i:=5) (by kernel_rfl) rfl ?_;refine St.gn (m:=ts.length) (.mk rfl) (.mk rfl) dq eJ mC mD rfl rfl (by omega) rfl rfl (fun r7=> ?_);refine St.bI (.slice (some ⟨r7,0,none⟩) ts.length ts.length) rfl (fY _) ?_;refine St.nn ?_;refine SW.go ?_;refine SW.dd 6 rfl (fun _=>Ev.build (ps:=[(0,(.tmp 11)),(1,(.tmp 14))]) (aQ.cons (aL.mk rfl) (aQ.cons (aL.mk rfl) aQ.nil)) (fun w=>gR rfl rfl w)) ?_;refine SW.ar (i:=8) (by kernel_rfl) rfl ?_;refine St.sA (.mk rfl) (.mk rfl) gD ?_ (h1:=(by simp only[List.all_cons,List.all_nil,Bool.and_true,Bool.and_eq_true];exact⟨rfl,rfl⟩));refine St.nn ?_;refine SW.go ?_;refine SW.done (by kernel_rfl) ?_;refine St.a7 ?_;refine St.mE (mG,r7,b3) trivial
   ·refine St.gn (m:=ts.length) (.mk rfl) (.mk rfl) dq eJ mC mD rfl rfl (by omega) rfl rfl (fun r7=> ?_)
    refine St.bI (.slice (some ⟨r7,0,none⟩) ts.length ts.length) rfl (fY _) ?_;refine St.nn ?_;refine SW.go ?_;refine SW.ar (i:=2) (by kernel_rfl) rfl ?_;refine St.gn (m:=ts.length) (.mk rfl) (.mk rfl) dq eJ mC mD rfl rfl (by omega) rfl rfl (fun mG=> ?_);refine St.bI (.slice (some ⟨mG,0,none⟩) ts.length ts.length) rfl (fY _) ?_;refine St.nn ?_;refine SW.go ?_;refine SW.dd 6 rfl (fun _=>Ev.build (ps:=[(0,(.tmp 11)),(1,(.tmp 14))]) (aQ.cons (aL.mk rfl) (aQ.cons (aL.mk rfl) aQ.nil)) (fun w=>gR rfl rfl w)) ?_;refine SW.ar (i:=8) (by kernel_rfl) rfl ?_;refine St.sA (.mk rfl) (.mk rfl) gD ?_ (h1:=(by simp only[List.all_cons,List.all_nil,Bool.and_true,Bool.and_eq_true];exact⟨rfl,rfl⟩));refine St.nn ?_;refine SW.go ?_;refine SW.done (by kernel_rfl) ?_;refine St.a7 ?_;refine St.mE (mG,r7,b3) trivial
 ·intro y iQ
  refine St.seq (St.sr ?_);refine St.mv ?_;refine St.ee (Ev.bA (.mk rfl) gQ) ?_;refine St.mv ?_;refine St.nn (St.block ?_);refine St.pH (ι:=Nat) (κ:=List Nat×List Nat) (fun k z T=>(18,iv k)::T) (fun k z=>[aZ y.2.2 (.cells [(.slice (some ⟨y.1,0,none⟩) ts.length ts.length),(.slice (some ⟨y.2.1,0,none⟩) ts.length ts.length)].toArray 128 (0,0)),row (.slice (some ⟨y.1,0,none⟩) ts.length ts.length) 153 1 ts.length (rows dU z.1),row (.slice (some ⟨y.2.1,0,none⟩) ts.length ts.length) 153 1 ts.length (rows dU z.2),aZ b2 (.cells [(.slice none 0 0),(.slice none 0 0)].toArray 128 (0,0)),aE (sl fh u ts),aE (au hY ts)]) (fun k z=>k≤ts.length∧(z.1.length=ts.length∧∀i,i<k→z.1[i]?=some (yF (ts.map ck) i))∧(z.2.length=ts.length∧∀j,j<ts.length→z.2[j]?=some (gi (ts.map ck) k j))) (fun k z=>ts.length-k) 0 (List.replicate ts.length 0,List.replicate ts.length 0) (aG.cons 0 rfl (aG.cons 2 rfl (aG.cons 3 rfl (aG.cons 16 rfl (aG.cons 17 rfl aG.nil))))) ⟨Nat.zero_le _,⟨List.length_replicate,fun i hi=>absurd hi (by omega)⟩,List.length_replicate,fun j hj=>by show(List.replicate ts.length 0)[j]?=_;rw[List.getElem?_replicate,if_pos hj];rfl⟩ ?_;rintro k ⟨U,D⟩ ⟨hk,⟨Qr,hU⟩,Qs,hD⟩
  dsimp only at Qr hU Qs hD⊢
  refine St.sr ?_;refine St.ee Ev.ez ?_;refine St.nn (St.seq ?_);refine St.cond _ rfl (fun gz=> ?_) (fun gz=> ?_)
  ·try simp only[aA]at gz
   obtain⟨t,ht⟩:=aY (show k<ts.length by omega)
   have qM:=List.mem_of_getElem? ht
   have Wj:(ts.map ck)[k]?=some (ck t):=by rw[List.getElem?_map,ht];rfl
   have KA:=hT.par k _ Wj
   refine St.dK hY ts (x:=t) qM ?_;refine St.iJ (sl aF t.pv.1 t.parents) [hY t] (fun ρ h=>h _ (List.mem_cons_self ..)) ?_;refine St.wf t.pv.1 (fun Mz vj=> ?_);refine St.skip (St.a7 (St.seq (St.block (St.sr ?_))));refine St.mv ?_;refine St.ee (Ev.aa (k:=k) (.mk rfl) (.mk rfl) gQ mB (by omega) (by omega)) ?_;refine St.ee (Ev.iH (.mk rfl) ht Tryz.underlying136 trivial mB fw.eq) ?_;refine St.alloc zV rfl (fun b5=> ?_);refine St.ao ?_;refine St.sA (.mk rfl) (.mk rfl) mB ?_ (h1:=(by simp only[List.all_cons,List.all_nil,Bool.and_true,Bool.and_eq_true];exact⟨rfl,t.pv.2⟩));refine St.nn (St.seq ?_);refine St.ek [row (.slice (some ⟨y.1,0,none⟩) ts.length ts.length) 153 1 ts.length (rows dU U)] mixed (fun np ns=> ?_);refine SW.dd 0 rfl (fun _=>Ev.aD (.mk rfl) nE) ?_;refine SW.dd 1 rfl (fun _=>Ev.cY (.mk rfl) dq trivial (by rfl)) ?_;refine SW.dd 2 rfl (fun _=>Ev.move (.mk rfl)) ?_;refine SW.dd 3 rfl (fun _=>Ev.move (.mk rfl)) ?_;refine SW.dd 4 rfl (fun _=>Ev.N0 (k:=k) (.mk rfl) (.mk rfl) (by omega)) ?_;refine SW.dd 5 rfl (fun _=>Ev.pD (k:=k) rfl (.mk rfl) (.mk rfl) dq eJ (by omega) (by omega)) ?_;refine SW.ar (i:=6) (by kernel_rfl) rfl ?_;refine St.eP (.mk rfl) (.mk rfl) eJ rfl (by omega) (by decide) ?_;refine St.bI (.slice (some ⟨y.1,0,none⟩) ts.length ts.length) rfl nK ?_;refine St.nn ?_;refine SW.go ?_;refine SW.done (by kernel_rfl) ?_;refine St.a7 (St.seq (St.sr ?_));refine St.ee (Ev.aD (.mk rfl) pU) ?_;refine St.ee (Ev.l0 (.mk rfl) bJ) ?_;refine St.ee (Ev.bA (.mk rfl) bJ) ?_;refine St.mv ?_;refine St.nn (St.block ?_);refine St.pH (ι:=Nat) (κ:=List Nat) (fun q V T=>(32,iv q)::T) (fun q V=>[row (.slice (some ⟨y.1,0,none⟩) ts.length ts.length) 153 1 ts.length (rows dU V),aZ y.2.2 (.cells [(.slice (some ⟨y.1,0,none⟩) ts.length ts.length),(.slice (some ⟨y.2.1,0,none⟩) ts.length ts.length)].toArray 128 (0,0)),row (.slice (some ⟨y.2.1,0,none⟩) ts.length ts.length) 153 1 ts.length (rows dU D),aZ b2 (.cells [(.slice none 0 0),(.slice none 0 0)].toArray 128 (0,0)),aE (sl aF t.pv.1 t.parents),aE (sl fh u ts),aE (au hY ts)]) (fun q V=>q≤t.parents.length∧V.length=ts.length∧(∀i,i<k→V[i]?=some (yF (ts.map ck) i))∧V[k]?=some (Ih (ts.map ck) k (t.parents.take q))) (fun q V=>t.parents.length-q) 0 (U.set k (2^k)) (aG.cons 0 rfl (aG.cons 2 rfl (aG.cons 3 rfl (aG.cons 4 rfl (aG.cons 16 rfl (aG.cons 17 rfl (aG.cons 18 rfl (aG.cons 30 rfl (aG.cons 31 rfl aG.nil))))))))) ⟨Nat.zero_le _,by rw[List.length_set];exact Qr,fun i hi=>by rw[List.getElem?_set_ne (by omega)];exact hU i hi,by rw[List.getElem?_set_self (by omega)];rfl⟩ ?_;rintro q V ⟨hq,Sl,hV,KB⟩;refine St.sr ?_;refine St.ee Ev.ez ?_;refine St.nn (St.seq ?_);refine St.cond _ rfl (fun nZ=> ?_) (fun nZ=> ?_)
   ·try simp only[aA]at nZ
    obtain⟨p,hp⟩:=aY (show q<t.parents.length by omega)
    have hpp:=KA p (List.mem_of_getElem? hp)
    refine St.skip (St.a7 (St.seq (St.block (St.sr ?_))));refine St.ee (Ev.aa (k:=q) (.mk rfl) (.mk rfl) bJ cu (by omega) (by omega)) ?_;refine St.ee (Ev.jA (.mk rfl) hp bf trivial rfl) ?_;refine St.ao ?_;refine St.nn ?_;refine St.ek [row (.slice (some ⟨y.1,0,none⟩) ts.length ts.length) 153 1 ts.length (rows dU V)] mixed (fun np ns=> ?_);refine SW.dd 0 rfl (fun _=>Ev.aD (.mk rfl) nE) ?_;refine SW.dd 1 rfl (fun _=>Ev.cY (.mk rfl) dq trivial (by rfl)) ?_;refine SW.dd 2 rfl (fun _=>Ev.move (.mk rfl)) ?_;refine SW.dd 3 rfl (fun _=>Ev.pD (k:=k) rfl (.mk rfl) (.mk rfl) dq eJ (by omega) (by omega)) ?_;refine SW.dd 5 rfl (fun _=>Ev.aD (.mk rfl) nE) ?_;refine SW.dd 6 rfl (fun _=>Ev.cY (.mk rfl) dq trivial (by rfl)) ?_;refine SW.dd 7 rfl (fun _=>Ev.move (.mk rfl)) ?_;refine SW.dd 8 rfl (fun _=>Ev.pD (k:=p.toNat) rfl (.mk rfl) (.mk rfl) dq eJ (by omega) (by omega)) ?_;refine SW.ig (i:=4) (j:=9) (by kernel_rfl) rfl rfl ?_ ?_
    ·refine St.ee (Ev.jn (.mk rfl) kO trivial (by omega) (js KB)) ?_
     refine St.nn ?_;refine SW.go ?_;refine SW.ar (i:=9) (by kernel_rfl) rfl ?_;refine St.ee (Ev.jn (.mk rfl) kO trivial (by omega) (js (hV p.toNat (by omega)))) ?_;refine St.nn ?_;refine SW.go ?_;refine SW.dd 10 rfl (fun _=>Ev.Sk (.mk rfl) (.mk rfl) ⟨D0 hT (by omega) (fun p hp=>KA p (List.mem_of_mem_take hp)),oH hT (by omega)⟩) ?_;refine SW.dd 11 rfl (fun _=>Ev.pD (k:=k) rfl (.mk rfl) (.mk rfl) dq eJ (by omega) (by omega)) ?_;refine SW.ar (i:=12) (by kernel_rfl) rfl ?_;refine St.eP (.mk rfl) (.mk rfl) eJ rfl (by omega) (by decide) ?_;refine St.bI (.slice (some ⟨y.1,0,none⟩) ts.length ts.length) rfl nK ?_;refine St.nn ?_;refine SW.go ?_;refine SW.done (by kernel_rfl) ?_;refine St.aW (St.a7 (St.rg ?_));refine St.ee Ev.a0 ?_;refine St.mv ?_;refine St.nn ?_;refine St.ly (q+1) (V.set k (Ih (ts.map ck) k (t.parents.take q)|||yF (ts.map ck) p.toNat)) ⟨by omega,by rw[List.length_set];exact Sl,fun i hi=>by rw[List.getElem?_set_ne (by omega)];exact hV i hi,by rw[List.getElem?_set_self (by omega),bD hp,vn]⟩
    ·refine St.ee (Ev.jn (.mk rfl) kO trivial (by omega) (js (hV p.toNat (by omega)))) ?_
     refine St.nn ?_;refine SW.go ?_;refine SW.ar (i:=4) (by kernel_rfl) rfl ?_;refine St.ee (Ev.jn (.mk rfl) kO trivial (by omega) (js KB)) ?_;refine St.nn ?_;refine SW.go ?_;refine SW.dd 10 rfl (fun _=>Ev.Sk (.mk rfl) (.mk rfl) ⟨D0 hT (by omega) (fun p hp=>KA p (List.mem_of_mem_take hp)),oH hT (by omega)⟩) ?_;refine SW.dd 11 rfl (fun _=>Ev.pD (k:=k) rfl (.mk rfl) (.mk rfl) dq eJ (by omega) (by omega)) ?_;refine SW.ar (i:=12) (by kernel_rfl) rfl ?_;refine St.eP (.mk rfl) (.mk rfl) eJ rfl (by omega) (by decide) ?_;refine St.bI (.slice (some ⟨y.1,0,none⟩) ts.length ts.length) rfl nK ?_;refine St.nn ?_;refine SW.go ?_;refine SW.done (by kernel_rfl) ?_;refine St.aW (St.a7 (St.rg ?_));refine St.ee Ev.a0 ?_;refine St.mv ?_;refine St.nn ?_;refine St.ly (q+1) (V.set k (Ih (ts.map ck) k (t.parents.take q)|||yF (ts.map ck) p.toNat)) ⟨by omega,by rw[List.length_set];exact Sl,fun i hi=>by rw[List.getElem?_set_ne (by omega)];exact hV i hi,by rw[List.getElem?_set_self (by omega),bD hp,vn]⟩
   ·try simp only[aA]at nZ
    rw[List.take_of_length_le (by omega)]at KB
    replace KB:V[k]?=some (yF (ts.map ck) k):=by rw[Cz hT Wj];exact KB
    refine St.exit (St.aJ (St.aJ (St.bO (St.a7 (St.sr ?_)))));refine St.mv ?_;refine St.ee (Ev.bA (.mk rfl) gQ) ?_;refine St.mv ?_;refine St.nn (St.block ?_);refine St.pH (ι:=Nat) (κ:=List Nat) (fun q E T=>(51,iv q)::T) (fun q E=>[row (.slice (some ⟨y.2.1,0,none⟩) ts.length ts.length) 153 1 ts.length (rows dU E),row (.slice (some ⟨y.1,0,none⟩) ts.length ts.length) 153 1 ts.length (rows dU V),aZ y.2.2 (.cells [(.slice (some ⟨y.1,0,none⟩) ts.length ts.length),(.slice (some ⟨y.2.1,0,none⟩) ts.length ts.length)].toArray 128 (0,0)),aZ b2 (.cells [(.slice none 0 0),(.slice none 0 0)].toArray 128 (0,0)),aE (sl fh u ts),aE (au hY ts)]) (fun q E=>q≤ts.length∧E.length=ts.length∧∀j,j<ts.length→E[j]?=some (if j<q then gi (ts.map ck) (k+1) j else gi (ts.map ck) k j)) (fun q E=>ts.length-q) 0 D (aG.cons 0 rfl (aG.cons 2 rfl (aG.cons 3 rfl (aG.cons 4 rfl (aG.cons 16 rfl (aG.cons 17 rfl (aG.cons 18 rfl (aG.cons 50 rfl aG.nil)))))))) ⟨Nat.zero_le _,Qs,fun j hj=>by rw[if_neg (by omega)];exact hD j hj⟩ ?_;rintro q E ⟨hq,Qt,hE⟩;refine St.sr ?_;refine St.ee Ev.ez ?_;refine St.nn (St.seq ?_);refine St.cond _ rfl (fun yI=> ?_) (fun yI=> ?_)
    ·try simp only[aA]at yI
     have Wk:=hE q (by omega)
     rw[if_neg (by omega)]at Wk;refine St.skip (St.a7 (St.seq (St.block (St.sr ?_))));refine St.mv ?_;refine St.ao ?_;refine St.nn (St.sr ?_);refine St.ee (Ev.aD (.mk rfl) nE) ?_;refine St.ee (Ev.l0 (.mk rfl) dq) ?_;refine St.mv ?_;refine St.ee (Ev.dm (k:=k) (.mk rfl) (.mk rfl) dq eJ (by omega) (by omega)) ?_;refine St.ee (Ev.jn (.mk rfl) kO trivial (by omega) (js KB)) ?_;refine St.mv ?_;refine St.ee (Ev.Je (q) _ rfl (.mk rfl) (.mk rfl) (by omega)) ?_;refine St.ee (Ev.Ly (b:=1) 1 2 (by decide) (.mk rfl) (.mk rfl) (⟨(Nat.lt_of_le_of_lt (Nat.div_le_self _ _) (oH hT (by omega))),by decide,by decide⟩)) ?_;refine St.ee Ev.fE ?_;refine St.slot 62 (.bool (eS (ts.map ck) k q)) rfl (congrArg Value.bool (zd _ _)) ?_;refine St.nn ?_;refine St.cond _ rfl (fun qP=> ?_) (fun qP=> ?_)
     ·skip
      refine St.ek [row (.slice (some ⟨y.2.1,0,none⟩) ts.length ts.length) 153 1 ts.length (rows dU E)] mixed (fun np ns=> ?_);refine SW.dd 0 rfl (fun _=>Ev.aD (.mk rfl) pV) ?_;refine SW.dd 1 rfl (fun _=>Ev.cY (.mk rfl) dq trivial (by rfl)) ?_;refine SW.dd 2 rfl (fun _=>Ev.move (.mk rfl)) ?_;refine SW.dd 3 rfl (fun _=>Ev.pD (k:=q) rfl (.mk rfl) (.mk rfl) dq eJ (by omega) (by omega)) ?_;refine SW.dd 5 rfl (fun _=>Ev.move (.mk rfl)) ?_;refine SW.dd 6 rfl (fun _=>Ev.N0 (k:=k) (.mk rfl) (.mk rfl) (by omega)) ?_;refine SW.ar (i:=4) (by kernel_rfl) rfl ?_;refine St.ee (Ev.jn (.mk rfl) kO trivial (by omega) (js Wk)) ?_;refine St.nn ?_;refine SW.go ?_;refine SW.dd 7 rfl (fun _=>Ev.Sk (.mk rfl) (.mk rfl) ⟨nJ _ _ (by omega),(show 2^k<2^64 from Nat.pow_lt_pow_right (by decide) (by omega))⟩) ?_;refine SW.dd 8 rfl (fun _=>Ev.pD (k:=q) rfl (.mk rfl) (.mk rfl) dq eJ (by omega) (by omega)) ?_;refine SW.ar (i:=9) (by kernel_rfl) rfl ?_;refine St.eP (.mk rfl) (.mk rfl) eJ rfl (by omega) (by decide) ?_;refine St.bI (.slice (some ⟨y.2.1,0,none⟩) ts.length ts.length) rfl nK ?_;refine St.nn ?_;refine SW.go ?_;refine SW.done (by kernel_rfl) ?_;refine St.aW (St.a7 (St.rg ?_));refine St.ee Ev.a0 ?_;refine St.mv ?_;refine St.nn ?_;refine St.ly (q+1) (E.set q (gi (ts.map ck) k q|||2^k)) ⟨by omega,by rw[List.length_set];exact Qt,GY hE Qt (by omega) qP⟩
     ·skip
      refine St.skip (St.aW (St.a7 (St.rg ?_)));refine St.ee Ev.a0 ?_;refine St.mv ?_;refine St.nn ?_;refine St.ly (q+1) E ⟨by omega,Qt,GZ hE qP⟩
    ·try simp only[aA]at yI
     obtain rfl:q=ts.length:=by omega
     replace hE:∀j,j<ts.length→E[j]?=some (gi (ts.map ck) (k+1) j):=fun j hj=>by rw[hE j hj,if_pos hj]
     refine St.exit (St.aJ (St.aJ (St.bO (St.aW (St.a7 (St.rg ?_))))));refine St.ee Ev.a0 ?_;refine St.mv ?_;refine St.nn ?_;refine St.ly (k+1) (V,E) ⟨by omega,⟨Sl,fun i hi=>by rcases Nat.lt_or_ge i k with h|h;exact hV i h;rw[show i=k by omega];exact KB⟩,Qt,hE⟩
  ·try simp only[aA]at gz
   obtain rfl:k=ts.length:=by omega
   refine St.exit (St.aJ (St.aJ (St.bO (St.a7 (St.sr ?_)))));refine St.ee (Ev.an (.mk rfl) mA trivial (by exact gD)) ?_;refine St.sA (.mk rfl) (.mk rfl) gD ?_ (h1:=(by simp only[List.all_cons,List.all_nil,Bool.and_true,Bool.and_eq_true];exact⟨rfl,rfl⟩));refine St.nn (St.ae ?_)
   have Wl:U=iz (ts.map ck):=by unfold iz;rw[List.length_map];exact qN Qr hU
   have Wm:D=j0 (ts.map ck):=by unfold j0;rw[List.length_map];exact qN Qs hD
   refine St.aM (.slice (some ⟨y.1,0,none⟩) ts.length ts.length) dU U rfl Qr.symm (fun a ha=>by obtain⟨i,hi,rfl⟩:=List.mem_map.1 (Wl▸ha);exact oH hT (by have:=List.mem_range.1 hi;rw[List.length_map]at this;omega)) ?_;refine St.aM (.slice (some ⟨y.2.1,0,none⟩) ts.length ts.length) dU D rfl Qs.symm (fun a ha=>by obtain⟨i,hi,rfl⟩:=List.mem_map.1 (Wm▸ha);exact nJ _ _ (by rw[List.length_map];omega)) ?_;rw[Wl,Wm];refine St.rT [_] [aE (sl dU (.slice (some ⟨y.1,0,none⟩) ts.length ts.length) (iz (ts.map ck))),aE (sl dU (.slice (some ⟨y.2.1,0,none⟩) ts.length ts.length) (j0 (ts.map ck)))] Tryz.results55 ⟨⟨_,_,_,_,rfl,c4.mem,.inl ⟨⟨_,mA⟩,gD,rfl⟩⟩,trivial⟩ ?_;exact⟨⟨(.slice (some ⟨y.1,0,none⟩) ts.length ts.length),rfl⟩,⟨(.slice (some ⟨y.2.1,0,none⟩) ts.length ts.length),rfl⟩,rfl,rfl⟩
end Go.Proofs.YtoioijgdggkabaaGreatDoor
namespace Go.Proofs
open Go.Shelf
def Tryz.yJ:Go.Shelf.Ren:=⟨fun|29=>91|n=>n,fun|0=>0|3=>3|4=>4|5=>5|22=>153|25=>164|54=>183|n=>n,fun|1=>4|n=>n⟩
theorem Tryz.KC:Go.Proofs.Lays7.n29 Tryz.prog Tryz.yJ:={
 mixed:=by kernel_rfl
 f29:=Tryz.func91.trans (congrArg some (by kernel_rfl))
 t0:=MQ
 a0:=Tryz.isAgg0
 z0:=Tryz.sizeOf0
 v0:=Tryz.zeroValue0
 i0:=by kernel_rfl
 t3:=bf
 a3:=Tryz.isAgg3
 z3:=Tryz.sizeOf3
 v3:=Tryz.zeroValue3
 i3:=by kernel_rfl
 t4:=zR
 a4:=Tryz.isAgg4
 z4:=Tryz.sizeOf4
 v4:=Tryz.zeroValue4
 i4:=by kernel_rfl
 t5:=IP
 a5:=Tryz.isAgg5
 z5:=Tryz.sizeOf5
 v5:=Tryz.zeroValue5
 i5:=by kernel_rfl
 t22:=kO
 a22:=Tryz.isAgg153
 z22:=Tryz.sizeOf153
 v22:=Tryz.zeroValue153
 i22:=by kernel_rfl
 t25:=vS
 a25:=Tryz.isAgg164
 z25:=Tryz.sizeOf164
 v25:=Tryz.zeroValue164
 i25:=by kernel_rfl
 t54:=Tryz.underlying183
 a54:=Tryz.isAgg183
 z54:=Tryz.sizeOf183
 g1:=by kernel_rfl}
end Go.Proofs
namespace Go.Proofs.YtoioijgdggkabaaGreatDoor
open Go Go.J
abbrev tz:dJ:=dJ.of (TabAt 4 Lib.deBruijn64tab)
theorem de.of_same {P:Program}{f:FuncId}{args:Array Value}{X:World→Prop}{v:Value}(h:∀w,X w→Calls P f args w fun e w'=>e= .returned v∧w'=w):de P f args [dJ.of X] v:=by
 intro w ρ hs
 have hx:X w:=cw.1 (hs.ct (aE (dJ.of X)) (List.mem_cons_self ..)) w hs.fits
 refine(h w hx).mono ?_;rintro e w' ⟨rfl,rfl⟩;exact⟨v,[],rfl,rfl,Mm.mk (ρ:=ρ) ⟨rfl,⟨rfl,fun _=>Nat.le_refl _⟩,rfl,Nat.le_refl _,fun _ _ _=>rfl,hs.fits,Ro.le_refl _,fun _ _ _=>rfl,fun _ h=>by simp at h,fun _ h=>by simp at h,.nil⟩⟩
theorem Ga (x:Nat)(hx:x<18446744073709551616):de Tryz.prog 91 #[uv x] [tz] (iv (Lib.ctz 64 x)):=
 de.of_same fun w hw=>Any7.bits_TrailingZeros64 Tryz.KC x hx w (fun _=>hw)
theorem D6 {x:Nat}(h0:x≠0)(h:x<18446744073709551616):x.testBit (Lib.ctz 64 x)=true∧∀i,i<Lib.ctz 64 x→x.testBit i=false:=by
 obtain⟨m,hm,_⟩:=Lib.ctzFrom_spec 64 x (by omega) h
 have e:Lib.ctz 64 x=Lib.ctzFrom 64 x:=by unfold Lib.ctz;rw[if_neg h0]
 rw[e]
 generalize Lib.ctzFrom 64 x=k at hm
 subst hm;refine⟨?_,fun i hi=> ?_⟩
 ·rw[Nat.testBit_two_pow_mul,Nat.sub_self,decide_eq_true (Nat.le_refl k),Bool.true_and,Nat.testBit_zero]
  exact decide_eq_true (by omega)
 ·rw[Nat.testBit_two_pow_mul,decide_eq_false (by omega),Bool.false_and]
abbrev qQ (w1 w2:dQ):Value:= .agg #[w1.1,w2.1]
theorem D7 (w1 w2:dQ)(T:List dh)(hT:iR T)(i j:Nat)(hi:i<T.length)(hj:j<T.length):de Tryz.prog 80 #[qQ w1 w2,iv i,iv j] [sl dU w1.1 (iz T),sl dU w2.1 (j0 T)] (.bool (eS T i j)):=by
 refine de.zC (args:=[qQ w1 w2,iv i,iv j]) 16 Tryz.func80 rfl Tryz.ntmps80 rfl (fun c=> ?_);refine St.seq ?_
 have yH:=hT.len
 have D8:=D2 T
 refine St.rg ?_;refine St.dS (.mk rfl) rfl (fun b3=> ?_);refine St.ao ?_;refine St.nn (St.sr ?_);refine St.ee (Ev.aD (.mk rfl) nE) ?_;refine St.ee (Ev.l0 (.mk rfl) dq) ?_;refine St.mv ?_;refine St.ee (Ev.aa (k:=i) (.mk rfl) (.mk rfl) dq eJ (by omega) (by omega)) ?_;refine St.ee (Ev.jA (.mk rfl) (D1 hi) kO trivial rfl) ?_;refine St.mv ?_;refine St.ee (Ev.Je (j) _ rfl (.mk rfl) (.mk rfl) (by omega)) ?_;refine St.ee (Ev.Ly (b:=1) 1 2 (by decide) (.mk rfl) (.mk rfl) (⟨(Nat.lt_of_le_of_lt (Nat.div_le_self _ _) (oH hT (by omega))),by decide,by decide⟩)) ?_;refine St.ee Ev.fE ?_;refine St.slot 15 (.bool (eS T i j)) rfl (congrArg Value.bool (zd _ _)) ?_;refine St.ao ?_;refine St.nn (St.ae ?_);refine St.rU [_] [] Tryz.results80 ?_;rfl
theorem Au (w1 w2:dQ)(T:List dh)(hT:iR T)(a b:Nat)(ha:a<T.length)(hb:b<T.length):eI Tryz.prog 76 #[qQ w1 w2,iv a,iv b] ([sl dU w1.1 (iz T),sl dU w2.1 (j0 T),tz].map aE) (fun v H'=>∃(m:Int) (ok:Bool),v= .tuple #[iv m,.bool ok,.bool (ik T a b)]∧H'=[]):=by
 refine eI.body (args:=[qQ w1 w2,iv a,iv b]) 33 Tryz.func76 rfl Tryz.ntmps76 rfl (fun c=> ?_);refine St.cast (H':=[aE (sl dU w1.1 (iz T)),aE (sl dU w2.1 (j0 T)),aE (tz)]) rfl ?_;refine St.seq ?_
 have yH:=hT.len
 have hdl:=D3 T
 refine St.rg ?_;refine St.dS (.mk rfl) rfl (fun b3=> ?_);refine St.ao ?_;refine St.ao ?_;refine St.ao ?_;refine St.nn (St.seq ?_);refine St.rq mixed (by kernel_rfl) (Mm.drawn _ _) ?_;refine Sq.ee (Ev.aD (.mk rfl) pV) ?_;refine Sq.ee (Ev.l0 (.mk rfl) dq) ?_;refine Sq.ee (Ev.move (.mk rfl)) ?_;refine Sq.ee (Ev.aa (k:=a) (.mk rfl) (.mk rfl) dq eJ (by omega) (by omega)) ?_;refine Sq.ee (Ev.jA (.mk rfl) (qO ha) kO trivial rfl) ?_;refine Sq.ee (Ev.aD (.mk rfl) pV) ?_;refine Sq.ee (Ev.l0 (.mk rfl) dq) ?_;refine Sq.ee (Ev.move (.mk rfl)) ?_;refine Sq.ee (Ev.aa (k:=b) (.mk rfl) (.mk rfl) dq eJ (by omega) (by omega)) ?_;refine Sq.ee (Ev.jA (.mk rfl) (qO hb) kO trivial rfl) ?_;refine Sq.ee (Ev.Sj (.mk rfl) (.mk rfl) ⟨nJ _ _ yH,nJ _ _ yH⟩) ?_;refine Sq.ee (Ev.assign (.mk rfl)) ?_;refine Sq.nil ?_;refine St.a7 (St.seq (St.seq ?_));refine St.slot 9 (uv (both T a b)) rfl rfl ?_
 have Bc:both T a b<18446744073709551616:=Nat.lt_of_le_of_lt Nat.and_le_left (nJ _ _ yH)
 refine St.rg ?_;refine St.mv ?_;refine St.ee Ev.fE ?_;refine St.nn ?_;refine St.cond _ rfl (fun pL=> ?_) (fun pL=> ?_)
 ·try simp only[aA]at pL
  have h0:both T a b=0:=by omega
  refine St.sr ?_;refine St.ao ?_;refine St.ao ?_;refine St.ao ?_;refine St.nn (St.ae (St.a8 ?_));refine St.rT [_,_,_] [] Tryz.results76 ⟨rfl,⟨rfl,⟨rfl,trivial⟩⟩⟩ ?_;exact⟨0,false,by rw[yG h0];rfl,rfl⟩
 ·try simp only[aA]at pL
  have h0:both T a b≠0:=by omega
  obtain⟨xK,wk⟩:=D6 h0 Bc
  have I8:Lib.ctz 64 (both T a b)<T.length:=by rw[lB,Bool.and_eq_true,decide_eq_true_eq]at xK;exact xK.1
  have Qu:=D4 hT xK wk
  refine St.skip (St.a7 (St.sr ?_));refine St.mv ?_;refine St.ee (Ev.call (Ga (both T a b) Bc) SR (.cons (.mk rfl) .nil)) ?_;refine St.ao ?_;refine St.nn (St.seq (St.sr ?_));refine St.ee (Ev.aD (.mk rfl) pV) ?_;refine St.ee (Ev.l0 (.mk rfl) dq) ?_;refine St.mv ?_;refine St.ee (Ev.aa (k:=(Lib.ctz 64 (both T a b))) (.mk rfl) (.mk rfl) dq eJ (by omega) (by omega)) ?_;refine St.ee (Ev.jA (.mk rfl) (qO I8) kO trivial rfl) ?_;refine St.mv ?_;refine St.ee Ev.kz ?_;refine St.nn ?_;refine St.cond _ rfl (fun pX=> ?_) (fun pX=> ?_)
  ·try simp only[aA]at pX
   rw[decide_eq_true (by omega)]at Qu;refine St.sr ?_;refine St.ao ?_;refine St.ao ?_;refine St.ao ?_;refine St.nn (St.ae (St.a8 ?_));refine St.rT [_,_,_] [] Tryz.results76 ⟨rfl,⟨rfl,⟨rfl,trivial⟩⟩⟩ ?_;exact⟨0,false,by rw[Qu];rfl,rfl⟩
  ·try simp only[aA]at pX
   rw[decide_eq_false (by omega)]at Qu;refine St.skip (St.a7 (St.sr ?_));refine St.mv ?_;refine St.ao ?_;refine St.ao ?_;refine St.ao ?_;refine St.nn (St.ae ?_);refine St.rT [_,_,_] [] Tryz.results76 ⟨rfl,⟨rfl,⟨rfl,trivial⟩⟩⟩ ?_;exact⟨(Lib.ctz 64 (both T a b):Nat),true,by rw[Qu];rfl,rfl⟩
theorem D9 {T:List dh}{q k:Nat}(hk:k<T.length)(hq:q<k)(h:ik T q k=true)(hb:∀b,b<k→(List.range b).any (fun a=>ik T a b)=false):oc T=some k:=by
 unfold oc;rw[List.find?_range_eq_some];refine⟨List.any_eq_true.2 ⟨q,List.mem_range.2 hq,h⟩,List.mem_range.2 hk,fun j hj=>by rw[hb j hj];rfl⟩
theorem DA {T:List dh}(hb:∀b,b<T.length→(List.range b).any (fun a=>ik T a b)=false):oc T=none:=by
 unfold oc;rw[List.find?_eq_none]
 intro b h;rw[hb b (List.mem_range.1 h)];decide
theorem uF {p:Nat→Bool}{n:Nat}(h:∀a,a<n→p a=false):(List.range n).any p=false:=by
 rw[List.any_eq_false];intro a ha;rw[h a (List.mem_range.1 ha)];decide
theorem vp {n:Int}{l:List kR}{k:Nat}{t:kR}(ht:l[k]?=some t)(known:List ax):il n known k (l.drop k)=if isName t.1=false then(10,(k:Int))else if t.1∈known then(7,(k:Int))else if t.2.1<0∨n≤t.2.1∨t.2.2<0∨n≤t.2.2 then(3,(k:Int))
 else il n (known++ [t.1]) (k+1) (l.drop (k+1)):=by rw[bS ht,il]
theorem yK {n:Int}{l:List kR}{k:Nat}(h:l.length≤k)(known:List ax):il n known k (l.drop k)=(0,0):=by rw[List.drop_of_length_le h,il]
theorem Av {T:List dh}{Fs:List kR}(h:T.length=0∨60<T.length∨40<Fs.length):fq T Fs=(2,-1):=by
 unfold fq
 by_cases h1:40<Fs.length
 ·rw[if_pos h1]
 ·have e:sF T=(2,-1):=by unfold sF;rw[if_pos (by omega)]
  rw[if_neg h1,e];rfl
theorem DB {T:List dh}{Fs:List kR}(h:¬40<Fs.length)(h2:(sF T).1≠0):fq T Fs=sF T:=by unfold fq;rw[if_neg h,if_pos h2]
theorem DC {T:List dh}{Fs:List kR}{b:Nat}(h:¬40<Fs.length)(h2:¬(sF T).1≠0)(h3:oc T=some b):fq T Fs=(16,(b:Int)):=by unfold fq;rw[if_neg h,if_neg h2,h3]
theorem DD {T:List dh}{Fs:List kR}(h:¬40<Fs.length)(h2:¬(sF T).1≠0)(h3:oc T=none):fq T Fs=il T.length [] 0 Fs:=by unfold fq;rw[if_neg h,if_neg h2,h3]
set_option maxHeartbeats 2000000 in
theorem uG (tv xv:dQ)(ts:List mq)(fs:List gH):de Tryz.prog 53 #[.agg #[tv.1,xv.1]] [sl fh tv.1 ts,au hY ts,sl cV xv.1 fs,tz] (fv (fq (ts.map ck) (fs.map ey))):=by
 refine de.Ld (args:=[.agg #[tv.1,xv.1]]) 122 Tryz.func53 rfl Tryz.ntmps53 rfl (fun c=> ?_);refine St.seq ?_
 have Ii:(ts.map ck).length=ts.length:=List.length_map ..
 have KD:(fs.map ey).length=fs.length:=List.length_map ..
 refine St.wf tv.1 (fun FR AR=> ?_);refine St.wf xv.1 (fun Wn Yy=> ?_);refine St.rg ?_;refine St.dS (.mk rfl) rfl (fun b1=> ?_);refine St.alloc dR rfl (fun b2=> ?_);refine St.nn (St.seq (St.sr ?_));refine St.ee (Ev.aD (.mk rfl) iy) ?_;refine St.ee (Ev.l0 (.mk rfl) gQ) ?_;refine St.ee (Ev.bA (.mk rfl) gQ) ?_;refine St.ee Ev.fE ?_;refine St.mv ?_;refine St.gf _ rfl rfl (fun hg=>Ev.aD (.mk rfl) iy) rfl ?_;refine St.gf _ rfl rfl (fun hg=>Ev.cY (aL.gv rfl hg) gQ trivial (by rfl)) rfl ?_;refine St.gf _ rfl rfl (fun hg=>Ev.bA (aL.gv rfl hg) gQ) rfl ?_;refine St.gf _ rfl rfl (fun hg=>Ev.gtr (aL.gv rfl hg) (.mk rfl)) rfl ?_;refine St.ee Ev.o0 ?_;refine St.mv ?_;refine St.gf _ rfl rfl (fun hg=>Ev.aD (.mk rfl) o8) rfl ?_;refine St.gf _ rfl rfl (fun hg=>Ev.cY (aL.gv rfl hg) pI trivial (by rfl)) rfl ?_;refine St.gf _ rfl rfl (fun hg=>Ev.bA (aL.gv rfl hg) pI) rfl ?_;refine St.gf _ rfl rfl (fun hg=>Ev.gtr (aL.gv rfl hg) (.mk rfl)) rfl ?_;refine St.ee Ev.o0 ?_;refine St.nn ?_;refine St.cond _ rfl (fun l8=> ?_) (fun l8=> ?_)
 ·try simp only[aA]at l8
  have hf:fq (ts.map ck) (fs.map ey)=(2,-1):=Av (by omega)
  refine St.sr ?_;refine St.ee (Ev.call (bX 2 (-1)) qF (.cons (.mk rfl) (.cons (.mk rfl) .nil))) ?_;refine St.sA (.mk rfl) (.mk rfl) aR ?_;refine St.nn (St.ae (St.a8 ?_));refine St.rT [_] [] Tryz.results53 ⟨⟨_,_,_,_,rfl,c4.mem,.inl ⟨⟨_,bC⟩,aR,rfl⟩⟩,trivial⟩ ?_;exact congrArg fv hf.symm
 ·try simp only[aA]at l8
  have ze:¬40<(fs.map ey).length:=by omega
  refine St.skip (St.a7 (St.seq (St.sr ?_)));refine St.ee (Ev.aD (.mk rfl) iy) ?_;refine St.ee (Ev.l0 (.mk rfl) gQ) ?_;refine St.ee (Ev.call (yC tv.1 ts) SS (.cons (.mk rfl) .nil)) ?_;refine St.alloc dR rfl (fun b3=> ?_);refine St.sA (.mk rfl) (.mk rfl) aR ?_;refine St.nn (St.sr ?_);refine St.ee (Ev.aD (.mk rfl) cW) ?_;refine St.ee (Ev.l0 (.mk rfl) bf) ?_;refine St.ee Ev.kz ?_;refine St.nn ?_;refine St.cond _ rfl (fun Ak=> ?_) (fun Ak=> ?_)
  ·skip
   have hb:(sF (ts.map ck)).1≠0:=by simpa using Ak
   refine St.sr ?_;refine St.ee (Ev.an (.mk rfl) bC trivial (by exact aR)) ?_;refine St.sA (.mk rfl) (.mk rfl) aR ?_;refine St.nn (St.ae (St.a8 ?_));refine St.rT [_] [] Tryz.results53 ⟨⟨_,_,_,_,rfl,c4.mem,.inl ⟨⟨_,bC⟩,aR,rfl⟩⟩,trivial⟩ ?_;exact congrArg fv (DB ze hb).symm
  ·skip
   have hb:¬(sF (ts.map ck)).1≠0:=by simpa using Ak
   have hT:=(Cv (Decidable.not_not.1 hb)).2.2
   have yH:=hT.len
   refine St.skip (St.a7 (St.sr ?_));refine St.ee (Ev.aD (.mk rfl) iy) ?_;refine St.ee (Ev.l0 (.mk rfl) gQ) ?_;refine St.ag (ox tv.1 ts hT) Mh (.cons (.mk rfl) .nil) rfl ?_;rintro Sf _ ⟨w1,w2,rfl,rfl⟩;refine St.cI ?_;refine St.alloc nD rfl (fun b4=> ?_);refine St.sA (.mk rfl) (.mk rfl) gD ?_ (h1:=(by simp only[List.all_cons,List.all_nil,Bool.and_true,Bool.and_eq_true];exact⟨w1.2,w2.2⟩));refine St.nn (St.seq (St.sr ?_));refine St.ee (Ev.aD (.mk rfl) iy) ?_;refine St.ee (Ev.l0 (.mk rfl) gQ) ?_;refine St.ee (Ev.bA (.mk rfl) gQ) ?_;refine St.mv ?_;refine St.nn (St.block ?_);refine St.lS (ι:=Nat) (fun k T=>(45,iv k)::T) (fun k=>k≤ts.length∧∀b,b<k→(List.range b).any (fun a=>ik (ts.map ck) a b)=false) (fun k=>ts.length-k) 0 (aG.cons 1 rfl (aG.cons 2 rfl (aG.cons 4 rfl (aG.cons 44 rfl aG.nil)))) ⟨Nat.zero_le _,fun b hb=>absurd hb (by omega)⟩ ?_;intro k iQ;obtain⟨hk,Fm⟩:=iQ;refine St.sr ?_;refine St.ee Ev.ez ?_;refine St.nn (St.seq ?_);refine St.cond _ rfl (fun r8=> ?_) (fun r8=> ?_)
   ·try simp only[aA]at r8
    refine St.skip (St.a7 (St.seq (St.block (St.sr ?_))));refine St.mv ?_;refine St.ao ?_;refine St.nn (St.sr ?_);refine St.mv ?_;refine St.mv ?_;refine St.nn (St.block ?_);refine St.lS (ι:=Nat) (fun q T=>(49,iv q)::T) (fun q=>q≤k∧∀a,a<q→ik (ts.map ck) a k=false) (fun q=>k-q) 0 (aG.cons 1 rfl (aG.cons 2 rfl (aG.cons 4 rfl (aG.cons 5 rfl (aG.cons 44 rfl (aG.cons 45 rfl (aG.cons 48 rfl aG.nil))))))) ⟨Nat.zero_le _,fun a ha=>absurd ha (by omega)⟩ ?_;intro q iQ;obtain⟨hq,qR⟩:=iQ;refine St.sr ?_;refine St.ee Ev.ez ?_;refine St.nn (St.seq ?_);refine St.cond _ rfl (fun Ch=> ?_) (fun Ch=> ?_)
    ·try simp only[aA]at Ch
     refine St.skip (St.a7 (St.seq (St.block (St.sr ?_))));refine St.mv ?_;refine St.ao ?_;refine St.nn (St.sr ?_);refine St.ee (Ev.an (.mk rfl) mA trivial (by exact gD)) ?_;refine St.mv ?_;refine St.mv ?_;refine St.ag (Au w1 w2 (ts.map ck) hT q k (by omega) (by omega)) SU (.cons (.mk rfl) (.cons (.mk rfl) (.cons (.mk rfl) .nil))) rfl ?_;rintro v56 _ ⟨mt,ok,rfl,rfl⟩;refine St.aC ?_;refine St.mv ?_;refine St.ee (Ev.extract (.mk rfl) rfl) ?_;refine St.ee (Ev.extract (.mk rfl) rfl) ?_;refine St.ee (Ev.extract (.mk rfl) rfl) ?_;refine St.ao ?_;refine St.ao ?_;refine St.ao ?_;refine St.nn (St.sr ?_);refine St.mv ?_;refine St.nn ?_;refine St.cond _ rfl (fun Gb=> ?_) (fun Gb=> ?_)
     ·skip
      have hf:=DC (Fs:=fs.map ey) ze hb (D9 (by omega) (by omega) Gb Fm)
      refine St.sr ?_;refine St.mv ?_;refine St.ee (Ev.call (bX 16 k) qF (.cons (.mk rfl) (.cons (.mk rfl) .nil))) ?_;refine St.sA (.mk rfl) (.mk rfl) aR ?_;refine St.nn (St.ae (St.aN (St.a8 (St.a8 (St.aN (St.aN (St.a8 (St.a8 (St.aN (St.a8 ?_))))))))));refine St.rT [_] [] Tryz.results53 ⟨⟨_,_,_,_,rfl,c4.mem,.inl ⟨⟨_,bC⟩,aR,rfl⟩⟩,trivial⟩ ?_;exact congrArg fv hf.symm
     ·skip
      refine St.skip (St.aW (St.a7 (St.rg ?_)));refine St.ee Ev.a0 ?_;refine St.mv ?_;refine St.nn ?_;refine St.aS (q+1) ⟨by omega,fun a ha=>by rcases Nat.lt_or_ge a q with h|h;exact qR a h;rw[show a=q by omega];exact Gb⟩
    ·try simp only[aA]at Ch
     rw[show q=k by omega]at qR;refine St.exit (St.aJ (St.aJ (St.bO (St.aW (St.a7 (St.rg ?_))))));refine St.ee Ev.a0 ?_;refine St.mv ?_;refine St.nn ?_;refine St.aS (k+1) ⟨by omega,fun b hb=>by rcases Nat.lt_or_ge b k with h|h;exact Fm b h;rw[show b=k by omega];exact uF qR⟩
   ·try simp only[aA]at r8
    have Yz:k=ts.length:=by omega
    have Qv:=DD ze hb (DA (by rw[Ii,←Yz];exact Fm))
    rw[Ii]at Qv;refine St.exit (St.aJ (St.aJ (St.bO (St.a7 (St.sr ?_)))));refine St.makeMap mkStr rfl (fun Qw=> ?_);refine St.ao ?_;refine St.nn (St.seq (St.sr ?_));refine St.ee (Ev.aD (.mk rfl) o8) ?_;refine St.ee (Ev.l0 (.mk rfl) pI) ?_;refine St.ee (Ev.bA (.mk rfl) pI) ?_;refine St.mv ?_;refine St.nn (St.block ?_);refine St.pH (ι:=Nat) (κ:=List (ax×Value)) (fun k m T=>(69,iv k)::T) (fun k m=>[aZ Qw (gE mkStr m),aZ b2 (.cells [iv 0,iv 0].toArray 28 (0,0)),aZ b1 (.cells [tv.1,xv.1].toArray 47 (0,0)),aE (sl fh tv.1 ts),aE (au hY ts),aE (sl cV xv.1 fs)]) (fun k m=>k≤fs.length∧fq (ts.map ck) (fs.map ey)=il ts.length ((fs.take k).map gH.name) k ((fs.map ey).drop k)∧Aq m ((fs.take k).map gH.name)) (fun k m=>fs.length-k) 0 [] (aG.cons 1 rfl (aG.cons 2 rfl (aG.cons 10 rfl (aG.cons 67 rfl (aG.cons 68 rfl aG.nil))))) ⟨Nat.zero_le _,Qv,Aq.nil⟩ ?_;rintro k m ⟨hk,hv,wu⟩;refine St.sr ?_;refine St.ee Ev.ez ?_;refine St.nn (St.seq ?_);refine St.cond _ rfl (fun sN=> ?_) (fun sN=> ?_)
    ·try simp only[aA]at sN
     obtain⟨t,ht⟩:=aY (show k<fs.length by omega)
     have qM:=List.mem_of_getElem? ht
     have cq:=vp (n:=ts.length) (l:=fs.map ey) (k:=k) (t:=ey t) (by rw[List.getElem?_map,ht];rfl) ((fs.take k).map gH.name)
     rw[←hv]at cq
     have FQ:t.name.length≤9223372036854775807:=by have:=(Wn t qM).1;simp only[iK]at this;omega
     refine St.skip (St.a7 (St.seq (St.block (St.sr ?_))));refine St.mv ?_;refine St.ee (Ev.aa (k:=k) (.mk rfl) (.mk rfl) pI xj (by omega) (by omega)) ?_;refine St.ee (Ev.iH (.mk rfl) ht Tryz.underlying91 trivial xj fw.eq) ?_;refine St.alloc Jz rfl (fun Ij=> ?_);refine St.ao ?_;refine St.sA (.mk rfl) (.mk rfl) xj ?_ (h1:=(by simp only[List.all_cons,List.all_nil,Bool.and_true,Bool.and_eq_true];exact⟨rfl,rfl,rfl⟩));refine St.nn (St.seq (St.sr ?_));refine St.ee (Ev.aD (.mk rfl) xl) ?_;refine St.ee (Ev.l0 (.mk rfl) cZ) ?_;refine St.ee (Ev.call (fB t.name FQ) u5 (.cons (.mk rfl) .nil)) ?_;refine St.ee (Ev.not (.mk rfl)) ?_;refine St.nn ?_;refine St.cond _ rfl (fun uH=> ?_) (fun uH=> ?_)
     ·try simp only[aA]at uH
      rw[if_pos (show isName (ey t).1=false from(by simpa using uH:isName t.name=false))]at cq;refine St.sr ?_;refine St.mv ?_;refine St.ee (Ev.call (bX 10 k) qF (.cons (.mk rfl) (.cons (.mk rfl) .nil))) ?_;refine St.sA (.mk rfl) (.mk rfl) aR ?_;refine St.nn (St.ae (St.a8 (St.aN (St.a8 (St.a8 (St.aN (St.a8 ?_)))))));refine St.rT [_] [] Tryz.results53 ⟨⟨_,_,_,_,rfl,c4.mem,.inl ⟨⟨_,bC⟩,aR,rfl⟩⟩,trivial⟩ ?_;exact congrArg fv cq.symm
     ·try simp only[aA]at uH
      rw[if_neg (show ¬isName (ey t).1=false from(by simpa using uH:¬isName t.name=false))]at cq;refine St.skip (St.a7 (St.seq (St.sr ?_)));refine St.mv ?_;refine St.ee (Ev.aD (.mk rfl) xl) ?_;refine St.ee (Ev.l0 (.mk rfl) cZ) ?_;refine St.ee (Ev.jz mkStr (k:=t.name) (.mk rfl) (.mk rfl) pK (by exact cZ) dx) ?_;refine St.mv ?_;refine St.ee (Ev.extract (.mk rfl) rfl) ?_;refine St.ee (Ev.extract (.mk rfl) rfl) ?_;refine St.slot 86 (.bool (decide (t.name∈(fs.take k).map gH.name))) rfl (congrArg Value.bool (wu t.name)) ?_;refine St.ao ?_;refine St.ao ?_;refine St.nn (St.sr ?_);refine St.mv ?_;refine St.nn ?_;refine St.cond _ rfl (fun r9=> ?_) (fun r9=> ?_)
      ·try simp only[aA]at r9
       rw[if_pos (show(ey t).1∈(fs.take k).map gH.name from r9)]at cq;refine St.sr ?_;refine St.mv ?_;refine St.ee (Ev.call (bX 7 k) qF (.cons (.mk rfl) (.cons (.mk rfl) .nil))) ?_;refine St.sA (.mk rfl) (.mk rfl) aR ?_;refine St.nn (St.ae (St.a8 (St.aN (St.a8 (St.a8 (St.aN (St.a8 ?_)))))));refine St.rT [_] [] Tryz.results53 ⟨⟨_,_,_,_,rfl,c4.mem,.inl ⟨⟨_,bC⟩,aR,rfl⟩⟩,trivial⟩ ?_;exact congrArg fv cq.symm
      ·try simp only[aA]at r9
       rw[if_neg (show ¬(ey t).1∈(fs.take k).map gH.name from r9)]at cq;refine St.skip (St.a7 (St.sr ?_));refine St.mv ?_;refine St.ee (Ev.aD (.mk rfl) xl) ?_;refine St.ee (Ev.l0 (.mk rfl) cZ) ?_;refine St.mv ?_;refine St.mapUpdate mkStr (k:=t.name) (.mk rfl) (.mk rfl) (.mk rfl) pK (by exact cZ) ?_;refine St.nn (St.sr ?_);refine St.ee (Ev.aD (.mk rfl) xo) ?_;refine St.ee (Ev.l0 (.mk rfl) bf) ?_;refine St.ee Ev.ez ?_;refine St.mv ?_;refine St.gf _ rfl rfl (fun hg=>Ev.aD (.mk rfl) xo) rfl ?_;refine St.gf _ rfl rfl (fun hg=>Ev.cY (aL.gv rfl hg) bf trivial (by rfl)) rfl ?_;refine St.gf _ rfl rfl (fun hg=>Ev.aD (.mk rfl) iy) rfl ?_;refine St.gf _ rfl rfl (fun hg=>Ev.cY (aL.gv rfl hg) gQ trivial (by rfl)) rfl ?_;refine St.gf _ rfl rfl (fun hg=>Ev.bA (aL.gv rfl hg) gQ) rfl ?_;refine St.gf _ rfl rfl (fun hg=>Ev.geq (aL.gv rfl hg) (aL.gv rfl hg)) rfl ?_;refine St.ee Ev.o0 ?_;refine St.mv ?_;refine St.gf _ rfl rfl (fun hg=>Ev.aD (.mk rfl) xu) rfl ?_;refine St.gf _ rfl rfl (fun hg=>Ev.cY (aL.gv rfl hg) bf trivial (by rfl)) rfl ?_;refine St.gf _ rfl rfl (fun hg=>Ev.lss (aL.gv rfl hg) (.mk rfl)) rfl ?_;refine St.ee Ev.o0 ?_;refine St.mv ?_;refine St.gf _ rfl rfl (fun hg=>Ev.aD (.mk rfl) xu) rfl ?_;refine St.gf _ rfl rfl (fun hg=>Ev.cY (aL.gv rfl hg) bf trivial (by rfl)) rfl ?_;refine St.gf _ rfl rfl (fun hg=>Ev.aD (.mk rfl) iy) rfl ?_;refine St.gf _ rfl rfl (fun hg=>Ev.cY (aL.gv rfl hg) gQ trivial (by rfl)) rfl ?_;refine St.gf _ rfl rfl (fun hg=>Ev.bA (aL.gv rfl hg) gQ) rfl ?_;refine St.gf _ rfl rfl (fun hg=>Ev.geq (aL.gv rfl hg) (aL.gv rfl hg)) rfl ?_;refine St.ee Ev.o0 ?_;refine St.nn ?_;refine St.cond _ rfl (fun rQ=> ?_) (fun rQ=> ?_)
       ·try simp only[aA]at rQ
        rw[if_pos (show(ey t).2.1<0∨(ts.length:Int)≤(ey t).2.1∨(ey t).2.2<0∨(ts.length:Int)≤(ey t).2.2 from(by omega:t.sD<0∨(ts.length:Int)≤t.sD∨t.value<0∨(ts.length:Int)≤t.value))]at cq;refine St.sr ?_;refine St.mv ?_;refine St.ee (Ev.call (bX 3 k) qF (.cons (.mk rfl) (.cons (.mk rfl) .nil))) ?_;refine St.sA (.mk rfl) (.mk rfl) aR ?_;refine St.nn (St.ae (St.aN (St.a8 (St.a8 (St.aN (St.a8 ?_))))));refine St.rT [_] [] Tryz.results53 ⟨⟨_,_,_,_,rfl,c4.mem,.inl ⟨⟨_,bC⟩,aR,rfl⟩⟩,trivial⟩ ?_;exact congrArg fv cq.symm
       ·try simp only[aA]at rQ
        rw[if_neg (show ¬((ey t).2.1<0∨(ts.length:Int)≤(ey t).2.1∨(ey t).2.2<0∨(ts.length:Int)≤(ey t).2.2)from(by omega:¬(t.sD<0∨(ts.length:Int)≤t.sD∨t.value<0∨(ts.length:Int)≤t.value)))]at cq;refine St.skip (St.aW (St.a7 (St.rg ?_)));refine St.ee Ev.a0 ?_;refine St.mv ?_;refine St.nn ?_;refine St.ly (k+1) (gZ m t.name (iv k)) ⟨by omega,by rw[cq,c9 gH.name ht];rfl,by rw[c9 gH.name ht];exact wu.snoc _ _⟩
    ·try simp only[aA]at sN
     rw[yK (by rw[List.length_map];omega)]at hv;refine St.exit (St.aJ (St.aJ (St.bO (St.a7 (St.sr ?_)))));refine St.ee (Ev.build (ps:=[]) (aQ.nil) (fun w=>fK w)) ?_;refine St.sA (.mk rfl) (.mk rfl) aR ?_;refine St.nn (St.ae ?_);refine St.rT [_] [] Tryz.results53 ⟨⟨_,_,_,_,rfl,c4.mem,.inl ⟨⟨_,bC⟩,aR,rfl⟩⟩,trivial⟩ ?_;exact congrArg fv hv.symm
inductive Reach (g:gF):Nat→Prop where
 |root:Reach g 0
 |step {i:Nat} {x:Int×Int}:Reach g i→x∈(g.getD i sG).2→Reach g x.2.toNat
def jv (M N:List Bool):Prop:=M.length=N.length∧∀x:Nat,M[x]?=some true→N[x]?=some true
theorem jv.refl (M:List Bool):jv M M:=⟨rfl,fun _ h=>h⟩
theorem jv.trans {A B C:List Bool}(h:jv A B)(k:jv B C):jv A C:=⟨h.1.trans k.1,fun x hx=>k.2 x (h.2 x hx)⟩
theorem jv.N1 {A B:List Bool}(h:jv A B)(k:jv B A):A=B:=by
 refine List.ext_getElem? fun i=> ?_
 rcases Nat.lt_or_ge i A.length with hi|hi
 ·have Qf:i<B.length:=by rw[←h.1];exact hi
  rw[List.getElem?_eq_getElem hi,List.getElem?_eq_getElem Qf]
  have h1:=h.2 i
  have h2:=k.2 i
  rw[List.getElem?_eq_getElem hi,List.getElem?_eq_getElem Qf]at h1 h2
  cases e1:A[i]<;>cases e2:B[i]<;>simp_all
 ·rw[List.getElem?_eq_none hi,List.getElem?_eq_none (by rw[←h.1];exact hi)]
theorem jv.set (M:List Bool)(i:Nat):jv M (M.set i true):=⟨by rw[List.length_set],fun x hx=>by
 by_cases e:i=x
 ·subst e;rw[List.getElem?_set_self (cg hx)]
 ·rw[List.getElem?_set_ne e];exact hx⟩
theorem jv.mark (i:Nat)(M:List Bool)(x:Int×Int):jv M (vM i M x):=by
 unfold vM;split
 ·exact jv.set _ _
 ·exact jv.refl _
theorem jv.fold {γ:Type}{f:List Bool→γ→List Bool}(h:∀M c,jv M (f M c)):∀(l:List γ) (M:List Bool),jv M (l.foldl f M)
 | [],M=>jv.refl M
 |c::l,M=>(h M c).trans (jv.fold h l (f M c))
theorem qS {γ:Type}{f:List Bool→γ→List Bool}(h:∀M c,jv M (f M c)):∀(l:List γ) (M:List Bool),l.foldl f M=M→∀c∈l,f M c=M
 | [],_,_,c,hc=>by cases hc
 |c::l,M,he,d,hd=>by
  rw[List.foldl_cons]at he
  have h1:f M c=M:=jv.N1 (by have:=jv.fold h l (f M c);rw[he]at this;exact this) (h M c)
  rcases List.mem_cons.1 hd with rfl|hd
  ·exact h1
  ·rw[h1]at he;exact qS h l M he d hd
theorem jv.node (g:gF)(M:List Bool)(i:Nat):jv M (IG g M i):=jv.fold (fun M x=>jv.mark i M x) _ M
theorem jv.pass (g:gF)(M:List Bool):jv M (pass g M):=jv.fold (fun M i=>jv.node g M i) _ M
def kU (M:List Bool):Nat:=M.countP fun b=>b
theorem DE:∀{A B:List Bool},jv A B→kU A≤kU B∧(kU B≤kU A→A=B)
 | [],[],_=>⟨Nat.le_refl _,fun _=>rfl⟩
 | [],_::_,h=>absurd h.1 (by simp)
 |_::_,[],h=>absurd h.1 (by simp)
 |a::A,b::B,h=>by
  have ht:jv A B:=⟨by simpa using h.1,fun x hx=>by have:=h.2 (x+1) (by simpa using hx);simpa using this⟩
  have h0:=h.2 0
  obtain⟨i1,i2⟩:=DE ht;unfold kU at*
  cases a<;>cases b<;>simp_all<;>omega
theorem uI (M:List Bool):kU M≤M.length:=List.countP_le_length
theorem j1 (g:gF):∀k,(cm g k).length=g.length
 |0=>by simp[cm]
 |k+1=>by rw[cm,←(jv.pass g _).1,j1 g k]
theorem qT {g:gF}(hg:0<g.length):∀k,pass g (cm g k)=cm g k∨k+1≤kU (cm g k)
 |0=>by
  refine .inr ?_
  obtain⟨n,hn⟩:∃n,g.length=n+1:=⟨g.length-1,by omega⟩
  simp[cm,kU,hn,List.replicate_succ]
 |k+1=>by
  rcases qT hg k with h|h
  ·left;rw[cm,h,h]
  ·by_cases e:pass g (cm g (k+1))=cm g (k+1)
   ·exact .inl e
   ·right
    have h1:=DE (jv.pass g (cm g k))
    rw[cm]
    rcases Nat.lt_or_ge (kU (cm g k)) (kU (pass g (cm g k)))with h2|h2
    ·omega
    ·have:=h1.2 h2
     exact absurd (by rw[cm,←this,←this]) e
theorem yL {g:gF}(hg:0<g.length):pass g (cm g g.length)=cm g g.length:=by
 rcases qT hg g.length with h|h
 ·exact h
 ·have:=uI (cm g g.length)
  rw[j1]at this;omega
theorem yM {g:gF}{M:List Bool}(hM:M.length=g.length)(h:pass g M=M){i:Nat}(hi:M[i]?=some true){x:Int×Int}(hx:x∈(g.getD i sG).2)(iU:x.2.toNat<g.length):M[x.2.toNat]?=some true:=by
 have h1:=qS (fun M i=>jv.node g M i) _ M h i (List.mem_range.2 (by rw[←hM];exact cg hi))
 have h2:=qS (fun M x=>jv.mark i M x) _ M h1 x hx
 unfold vM at h2;rw[if_pos (by rw[List.getD_eq_getElem?_getD,hi];rfl)]at h2;rw[←h2,List.getElem?_set_self (by rw[hM];exact iU)]
def rR (g:gF)(M:List Bool):Prop:=∀x:Nat,M[x]?=some true→Reach g x
theorem rR.set {g:gF}{M:List Bool}(h:rR g M){i:Nat}(hi:Reach g i):rR g (M.set i true):=fun x hx=>by
 by_cases e:i=x
 ·subst e;exact hi
 ·rw[List.getElem?_set_ne e]at hx;exact h x hx
theorem rR.fold {γ:Type}{g:gF}{f:List Bool→γ→List Bool}:∀(l:List γ) (M:List Bool),(∀M,∀c∈l,rR g M→rR g (f M c))→rR g M→rR g (l.foldl f M)
 | [],_,_,h=>h
 |c::l,M,hf,h=>rR.fold l _ (fun M d hd=>hf M d (List.mem_cons_of_mem _ hd)) (hf M c (List.mem_cons_self ..) h)
theorem rR.pass {g:gF}{M:List Bool}(h:rR g M):rR g (pass g M):=
 rR.fold _ _ (fun M i _ hM=>rR.fold _ _ (fun M x hx hM=>by
  unfold vM
  split
  ·rename_i hi
   refine hM.set (Reach.step (hM i ?_) hx);rw[List.getD_eq_getElem?_getD]at hi
   cases e:M[i]? with
   |none=>rw[e]at hi;cases hi
   |some b=>rw[e]at hi;simp at hi;rw[hi]
  ·exact hM) hM) h
theorem rR.cm (g:gF):∀k,rR g (cm g k)
 |0=>fun x hx=>by
  by_cases e:0=x
  ·subst e;exact Reach.root
  ·rw[Proofs.YtoioijgdggkabaaGreatDoor.cm,List.getElem?_set_ne e,List.getElem?_replicate]at hx
   split at hx<;>simp at hx
 |k+1=>(rR.cm g k).pass
def yN (g:gF):Prop:=0<g.length∧∀n∈g,∀x∈n.2,0≤x.1∧0≤x.2∧x.2.toNat<g.length
theorem yN.at_ {g:gF}(h:yN g){i:Nat}{x:Int×Int}(hx:x∈(g.getD i sG).2):0≤x.1∧0≤x.2∧x.2.toNat<g.length:=by
 rcases Nat.lt_or_ge i g.length with hi|hi
 ·refine h.2 _ (List.getElem_mem hi) x ?_
  rw[List.getD_eq_getElem?_getD,List.getElem?_eq_getElem hi]at hx;exact hx
 ·rw[List.getD_eq_getElem?_getD,List.getElem?_eq_none hi]at hx;cases hx
theorem jQ {g:gF}(h:0<g.length):∀k,(cm g k)[0]?=some true
 |0=>by rw[cm,List.getElem?_set_self (by simp;exact h)]
 |k+1=>(jv.pass g _).2 0 (jQ h k)
theorem nL {g:gF}(h:yN g){x:Nat}:Reach g x↔(cm g g.length)[x]?=some true:=by
 refine⟨fun hr=> ?_,rR.cm g _ x⟩
 induction hr with
 |root=>exact jQ h.1 _
 |step _ hx ih=>exact yM (j1 g _) (yL h.1) ih hx (h.at_ hx).2.2
structure Gc (g:gF)(M:List Bool)(st:List Nat):Prop where
 len:M.length=g.length
 snd:rR g M
 root:M[0]?=some true
 KE:∀i∈st,M[i]?=some true
 cls:∀i,M[i]?=some true→i∉st→∀x∈(g.getD i sG).2,M[x.2.toNat]?=some true
theorem Gc.start {g:gF}(h:0<g.length):Gc g ((List.replicate g.length false).set 0 true) [0]:=by
 refine⟨by simp,rR.cm g 0,jQ h 0,fun i hi=>by rw[List.mem_singleton.1 hi];exact jQ h 0,fun i hm hi=> ?_⟩;rw[List.getElem?_set_ne (fun e=>hi (List.mem_singleton.2 e.symm)),List.getElem?_replicate]at hm
 split at hm<;>simp at hm
theorem Gc.fin {g:gF}(hg:yN g){M:List Bool}(h:Gc g M []):M=cm g g.length:=by
 refine jv.N1 ⟨by rw[h.len,j1],fun x hx=>(nL hg).1 (h.snd x hx)⟩ ⟨by rw[h.len,j1],fun x hx=> ?_⟩
 have:=(nL hg).2 hx
 clear hx
 induction this with
 |root=>exact h.root
 |step _ hx ih=>exact h.cls _ ih (by simp) _ hx
structure mH (g:gF)(i k:Nat)(M:List Bool)(st:List Nat):Prop where
 len:M.length=g.length
 snd:rR g M
 root:M[0]?=some true
 me:M[i]?=some true
 KE:∀j∈st,M[j]?=some true
 cls:∀j,M[j]?=some true→j≠i→j∉st→∀x∈(g.getD j sG).2,M[x.2.toNat]?=some true
 upto:∀x∈(g.getD i sG).2.take k,M[x.2.toNat]?=some true
theorem Gc.pop {g:gF}{M:List Bool}{st:List Nat}{i:Nat}(h:Gc g M (st++ [i])):mH g i 0 M st:=
 ⟨h.len,h.snd,h.root,h.KE i (by simp),fun j hj=>h.KE j (by simp[hj]),fun j hm er hj=>h.cls j hm (by simp[hj,er]),fun x hx=>by simp at hx⟩
theorem mH.done {g:gF}{M:List Bool}{st:List Nat}{i:Nat}(h:mH g i (g.getD i sG).2.length M st):Gc g M st:=
 ⟨h.len,h.snd,h.root,h.KE,fun j hm hj=>by
  by_cases e:j=i
  ·subst e;intro x hx;exact h.upto x (by rw[List.take_length];exact hx)
  ·exact h.cls j hm e hj⟩
theorem mH.wi {g:gF}{M:List Bool}{st:List Nat}{i k:Nat}{x:Int×Int}(h:mH g i k M st)(hx:(g.getD i sG).2[k]?=some x)(hm:M[x.2.toNat]?=some true):mH g i (k+1) M st:=
 ⟨h.len,h.snd,h.root,h.me,h.KE,h.cls,fun y hy=>by
  rw[bD hx]at hy
  rcases List.mem_append.1 hy with hy|hy
  ·exact h.upto y hy
  ·rw[List.mem_singleton.1 hy];exact hm⟩
theorem mH.new {g:gF}(hg:yN g){M:List Bool}{st:List Nat}{i k:Nat}{x:Int×Int}(h:mH g i k M st)(hx:(g.getD i sG).2[k]?=some x):mH g i (k+1) (M.set x.2.toNat true) (st++ [x.2.toNat]):=by
 have FT:=List.mem_of_getElem? hx
 have iU:=(hg.at_ FT).2.2
 have mono:=(jv.set M x.2.toNat).2
 have new:(M.set x.2.toNat true)[x.2.toNat]?=some true:=List.getElem?_set_self (by rw[h.len];exact iU)
 refine⟨by rw[List.length_set];exact h.len,h.snd.set (Reach.step (h.snd i h.me) FT),mono _ h.root,mono _ h.me,fun j hj=> ?_,fun j hm er hj y hy=> ?_,fun y hy=> ?_⟩
 ·rcases List.mem_append.1 hj with hj|hj
  ·exact mono _ (h.KE j hj)
  ·rw[List.mem_singleton.1 hj];exact new
 ·have Wo:j∉st∧j≠x.2.toNat:=by simpa using hj
  rw[List.getElem?_set_ne (fun e=>Wo.2 e.symm)]at hm;exact mono _ (h.cls j hm er Wo.1 y hy)
 ·rw[bD hx]at hy
  rcases List.mem_append.1 hy with hy|hy
  ·exact mono _ (h.upto y hy)
  ·rw[List.mem_singleton.1 hy];exact new
theorem Gd {M:List Bool}{i:Nat}(h:M[i]?=some false):kU (M.set i true)=kU M+1:=by
 induction M generalizing i with
 |nil=>cases h
 |cons b M ih=>
  cases i with
  |zero=>simp at h;subst h;simp[kU]
  |succ i=>
   have:=ih (i:=i) (by simpa using h)
   unfold kU at*
   cases b<;>simp_all<;>omega
end Go.Proofs.YtoioijgdggkabaaGreatDoor
