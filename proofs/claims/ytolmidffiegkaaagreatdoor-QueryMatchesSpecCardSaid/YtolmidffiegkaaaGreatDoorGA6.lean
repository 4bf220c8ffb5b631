/-
  Laws of walks through programs, and facts on grammars, trees and queries.
  Conditions: none.
-/
import Derived.Test.YtolmidffiegkaaaGreatDoorGA2
import Derived.Test.YtolmidffiegkaaaGreatDoorGA1
import Derived.Test.YtolmidffiegkaaaGreatDoorGA5
set_option maxRecDepth 20000
set_option linter.unusedSimpArgs false
set_option linter.unusedVariables false
namespace Go.Proofs.YtolmidffiegkaaaGreatDoor
open Go Go.J
abbrev e0:dY:= .mk sE []
abbrev t0:dY:= .mk sT []
abbrev ab (a b:dY):dY:= .mk [] [a,b]
abbrev aa (i:Int):dB:= .mk 2 [] i S0 []
abbrev aJ (a b:dB):dB:= .mk 4 [] 0 S0 [a,b]
abbrev ah (s:dY)(t:dB):dB:= .mk 3 [] 0 s [t]
abbrev bR (n:cQ)(s:dY):dB:= .mk 1 n 0 s []
abbrev p0:dY:=ab e0 t0
abbrev Tp (q c:cQ):dB:=aJ (bR q (ab p0 t0)) (ah e0 (aJ (aJ (bR c (ab t0 (ab t0 t0))) (aJ (aa 2) (aa 0))) (aJ (aa 1) (aa 0))))
abbrev Zq:cQ:=[110,111,116]
def kM (q c:cQ)(no:Bool):dB:=ah p0 (ah p0 (if no then aJ (bR Zq (ab t0 t0)) (Tp q c)else Tp q c))
set_option maxHeartbeats 2000000 in
theorem jV (q cc:cQ)(no:Bool)(hq:iL q)(LD:iL cc):fF Tryz.prog 56 #[sv q,sv cc,.bool no] ([].map aG) (fun v H'=>H'=[aG (isTerm (kM q cc no) v)]):=by
 refine fF.body (args:=[sv q,sv cc,.bool no]) 51 Tryz.func56 rfl Tryz.ntmps56 rfl (fun c=> ?_);refine St.cast (H':=[]) rfl ?_;refine St.sr ?_;refine St.alloc sM rfl (fun b6=> ?_);refine St.nn (St.sr ?_);refine St.aw (js [101] (by decide)) EX (.cons (.mk rfl) .nil) rfl ?_;rintro v11 _ rfl;refine St.bL ?_;refine St.au e0 v11 (fun xe Oz=> ?_);obtain⟨Hw,Tq,Ts⟩:=Oz;subst Hw;refine St.aw (js [116] (by decide)) EX (.cons (.mk rfl) .nil) rfl ?_;rintro v12 _ rfl;refine St.bL ?_;refine St.au t0 v12 (fun xt Tt=> ?_);obtain⟨Hy,Tu,Tv⟩:=Tt;subst Hy;refine St.alloc iP rfl (fun b7=> ?_);refine St.alloc iP rfl (fun b8=> ?_);refine St.sA (.mk rfl) (.mk rfl) bC ?_ (h1:=(by simp only[List.all_cons,List.all_nil,Bool.and_true,Bool.and_eq_true];exact⟨rfl,xe.av.2⟩));refine St.sA (.mk rfl) (.mk rfl) bC ?_ (h1:=(by simp only[List.all_cons,List.all_nil,Bool.and_true,Bool.and_eq_true];exact⟨rfl,xt.av.2⟩));refine St.nn (St.sr ?_);refine St.ee (Ev.bF (.mk rfl) bX trivial (by exact bC)) ?_;refine St.ee (Ev.bF (.mk rfl) bX trivial (by exact bC)) ?_;refine St.aw (eB (aQ xe) (aQ xt) e0 t0) nJ (.cons (.mk rfl) (.cons (.mk rfl) .nil)) rfl ?_;rintro Jt _ rfl;refine St.bL ?_;refine St.au p0 Jt (fun xp R6=> ?_);obtain⟨Hz,Tw,Tx⟩:=R6;subst Hz;refine St.alloc iP rfl (fun b9=> ?_);refine St.sA (.mk rfl) (.mk rfl) bC ?_ (h1:=(by simp only[List.all_cons,List.all_nil,Bool.and_true,Bool.and_eq_true];exact⟨rfl,xp.av.2⟩));refine St.nn (St.seq ?_);refine St.YP 23 24 16 [10] (⟨16,[],fun u=>cJ u ((sv q))⟩::⟨17,[],fun u=>cJ u ((aQ xp))⟩::⟨18,[],fun u=>cJ u ((aQ xt))⟩::⟨19,[1,2],fun u=>au (ab p0 t0) u⟩::⟨20,[0,3],fun u=>isTerm (bR q (ab p0 t0)) u⟩::⟨21,[],fun u=>cJ u ((aQ xe))⟩::⟨22,[],fun u=>cJ u ((sv cc))⟩::⟨23,[],fun u=>cJ u ((aQ xt))⟩::⟨24,[],fun u=>cJ u ((aQ xt))⟩::⟨25,[],fun u=>cJ u ((aQ xt))⟩::⟨26,[8,9],fun u=>au (ab t0 t0) u⟩::⟨27,[7,10],fun u=>au (ab t0 (ab t0 t0)) u⟩::⟨28,[6,11],fun u=>isTerm (bR cc (ab t0 (ab t0 t0))) u⟩::⟨29,[],fun u=>isTerm (aa 2) u⟩::⟨30,[],fun u=>isTerm (aa 0) u⟩::⟨31,[13,14],fun u=>isTerm (aJ (aa 2) (aa 0)) u⟩::⟨32,[12,15],fun u=>isTerm (aJ (bR cc (ab t0 (ab t0 t0))) (aJ (aa 2) (aa 0))) u⟩::⟨33,[],fun u=>isTerm (aa 1) u⟩::⟨34,[],fun u=>isTerm (aa 0) u⟩::⟨35,[17,18],fun u=>isTerm (aJ (aa 1) (aa 0)) u⟩::⟨36,[16,19],fun u=>isTerm (aJ (aJ (bR cc (ab t0 (ab t0 t0))) (aJ (aa 2) (aa 0))) (aJ (aa 1) (aa 0))) u⟩::⟨37,[5,20],fun u=>isTerm (ah e0 (aJ (aJ (bR cc (ab t0 (ab t0 t0))) (aJ (aa 2) (aa 0))) (aJ (aa 1) (aa 0)))) u⟩::⟨38,[4,21],fun u=>isTerm (aJ (bR q (ab p0 t0)) (ah e0 (aJ (aJ (bR cc (ab t0 (ab t0 t0))) (aJ (aa 2) (aa 0))) (aJ (aa 1) (aa 0))))) u⟩::⟨10,[],fun u=>cJ u u⟩::[]) ((16,[])::(17,[])::(18,[])::(19,[1,2])::(20,[0,3])::(21,[])::(22,[])::(23,[])::(24,[])::(25,[])::(26,[8,9])::(27,[7,10])::(28,[6,11])::(29,[])::(30,[])::(31,[13,14])::(32,[12,15])::(33,[])::(34,[])::(35,[17,18])::(36,[16,19])::(37,[5,20])::(38,[4,21])::(10,[])::[]) [23,22] rfl rfl sM rfl (by kernel_rfl) rfl rfl mixed (by kernel_rfl) (by kernel_rfl) (by rfl) (fun e=>[(10,e 23),(38,e 22)]) (fun e=>[aG (cJ (e 23) (e 23)),aG (isTerm (aJ (bR q (ab p0 t0)) (ah e0 (aJ (aJ (bR cc (ab t0 (ab t0 t0))) (aJ (aa 2) (aa 0))) (aJ (aa 1) (aa 0))))) (e 22))]) (fun _=>rfl) (fun _=>rfl) ?_ (fun e jc Zr=> ?_)
 ·refine aq.c0 (fun c e az=> ?_) ?_
  ·refine St.aJ ?_
   refine St.mv ?_;refine St.fact (cJ ((sv q)) ((sv q))) (fun _ _ _=>rfl) ?_;refine St.nn ?_;exact St.aP _ rfl _ rfl
  refine aq.c0 (fun c e az=> ?_) ?_
  ·refine St.aJ ?_
   refine St.ee (Ev.bF (.mk rfl) bX trivial (by exact bC)) ?_;refine St.fact (cJ ((aQ xp)) ((aQ xp))) (fun _ _ _=>rfl) ?_;refine St.nn ?_;exact St.aP _ rfl _ rfl
  refine aq.c0 (fun c e az=> ?_) ?_
  ·refine St.aJ ?_
   refine St.ee (Ev.bF (.mk rfl) bX trivial (by exact bC)) ?_;refine St.fact (cJ ((aQ xt)) ((aQ xt))) (fun _ _ _=>rfl) ?_;refine St.nn ?_;exact St.aP _ rfl _ rfl
  refine aq.cc (fun e=>[(17,e 1),(18,e 2)]) (fun e=>[aG (cJ (e 1) ((aQ xp))),aG (cJ (e 2) ((aQ xt)))]) (fun c e az=> ?_) ?_
  ·refine St.cb ?_
   refine St.bT (P:=Tryz.prog) 17 (e 1) ((aQ xp)) rfl ?_;refine St.bT (P:=Tryz.prog) 18 (e 2) ((aQ xt)) rfl ?_;refine St.aw (eB (aQ xp) (aQ xt) p0 t0) nJ (.cons (.mk rfl) (.cons (.mk rfl) .nil)) rfl ?_;rintro v19 _ rfl;refine St.bL ?_;refine St.nn ?_;exact St.aP _ rfl _ rfl
  refine aq.cc (fun e=>[(16,e 0),(19,e 3)]) (fun e=>[aG (cJ (e 0) ((sv q))),aG (au (ab p0 t0) (e 3))]) (fun c e az=> ?_) ?_
  ·refine St.cb ?_
   refine St.bT (P:=Tryz.prog) 16 (e 0) ((sv q)) rfl ?_;refine St.aw (dI q hq (e 3) (ab p0 t0)) lG (.cons (.mk rfl) (.cons (.mk rfl) .nil)) rfl ?_;rintro v20 _ rfl;refine St.bL ?_;refine St.nn ?_;exact St.aP _ rfl _ rfl
  refine aq.c0 (fun c e az=> ?_) ?_
  ·refine St.aJ ?_
   refine St.ee (Ev.bF (.mk rfl) bX trivial (by exact bC)) ?_;refine St.fact (cJ ((aQ xe)) ((aQ xe))) (fun _ _ _=>rfl) ?_;refine St.nn ?_;exact St.aP _ rfl _ rfl
  refine aq.c0 (fun c e az=> ?_) ?_
  ·refine St.aJ ?_
   refine St.mv ?_;refine St.fact (cJ ((sv cc)) ((sv cc))) (fun _ _ _=>rfl) ?_;refine St.nn ?_;exact St.aP _ rfl _ rfl
  refine aq.c0 (fun c e az=> ?_) ?_
  ·refine St.aJ ?_
   refine St.ee (Ev.bF (.mk rfl) bX trivial (by exact bC)) ?_;refine St.fact (cJ ((aQ xt)) ((aQ xt))) (fun _ _ _=>rfl) ?_;refine St.nn ?_;exact St.aP _ rfl _ rfl
  refine aq.c0 (fun c e az=> ?_) ?_
  ·refine St.aJ ?_
   refine St.ee (Ev.bF (.mk rfl) bX trivial (by exact bC)) ?_;refine St.fact (cJ ((aQ xt)) ((aQ xt))) (fun _ _ _=>rfl) ?_;refine St.nn ?_;exact St.aP _ rfl _ rfl
  refine aq.c0 (fun c e az=> ?_) ?_
  ·refine St.aJ ?_
   refine St.ee (Ev.bF (.mk rfl) bX trivial (by exact bC)) ?_;refine St.fact (cJ ((aQ xt)) ((aQ xt))) (fun _ _ _=>rfl) ?_;refine St.nn ?_;exact St.aP _ rfl _ rfl
  refine aq.cc (fun e=>[(24,e 8),(25,e 9)]) (fun e=>[aG (cJ (e 8) ((aQ xt))),aG (cJ (e 9) ((aQ xt)))]) (fun c e az=> ?_) ?_
  ·refine St.cb ?_
   refine St.bT (P:=Tryz.prog) 24 (e 8) ((aQ xt)) rfl ?_;refine St.bT (P:=Tryz.prog) 25 (e 9) ((aQ xt)) rfl ?_;refine St.aw (eB (aQ xt) (aQ xt) t0 t0) nJ (.cons (.mk rfl) (.cons (.mk rfl) .nil)) rfl ?_;rintro gr _ rfl;refine St.bL ?_;refine St.nn ?_;exact St.aP _ rfl _ rfl
  refine aq.cc (fun e=>[(23,e 7),(26,e 10)]) (fun e=>[aG (cJ (e 7) ((aQ xt))),aG (au (ab t0 t0) (e 10))]) (fun c e az=> ?_) ?_
  ·refine St.cb ?_
   refine St.bT (P:=Tryz.prog) 23 (e 7) ((aQ xt)) rfl ?_;refine St.aw (eB (aQ xt) (e 10) t0 (ab t0 t0)) nJ (.cons (.mk rfl) (.cons (.mk rfl) .nil)) rfl ?_;rintro v27 _ rfl;refine St.bL ?_;refine St.nn ?_;exact St.aP _ rfl _ rfl
  refine aq.cc (fun e=>[(22,e 6),(27,e 11)]) (fun e=>[aG (cJ (e 6) ((sv cc))),aG (au (ab t0 (ab t0 t0)) (e 11))]) (fun c e az=> ?_) ?_
  ·refine St.cb ?_
   refine St.bT (P:=Tryz.prog) 22 (e 6) ((sv cc)) rfl ?_;refine St.aw (dI cc LD (e 11) (ab t0 (ab t0 t0))) lG (.cons (.mk rfl) (.cons (.mk rfl) .nil)) rfl ?_;rintro v28 _ rfl;refine St.bL ?_;refine St.nn ?_;exact St.aP _ rfl _ rfl
  refine aq.c0 (fun c e az=> ?_) ?_
  ·refine St.aJ ?_
   refine St.aw (cP 2 (by unfold bD;decide)) kB (.cons (.mk rfl) .nil) rfl ?_;rintro v29 _ rfl;refine St.bL ?_;refine St.nn ?_;exact St.aP _ rfl _ rfl
  refine aq.c0 (fun c e az=> ?_) ?_
  ·refine St.aJ ?_
   refine St.aw (cP 0 (by unfold bD;decide)) kB (.cons (.mk rfl) .nil) rfl ?_;rintro v30 _ rfl;refine St.bL ?_;refine St.nn ?_;exact St.aP _ rfl _ rfl
  refine aq.cc (fun e=>[(29,e 13),(30,e 14)]) (fun e=>[aG (isTerm (aa 2) (e 13)),aG (isTerm (aa 0) (e 14))]) (fun c e az=> ?_) ?_
  ·refine St.cb ?_
   refine St.aw (dg (e 13) (e 14) (aa 2) (aa 0)) mN (.cons (.mk rfl) (.cons (.mk rfl) .nil)) rfl ?_;rintro v31 _ rfl;refine St.bL ?_;refine St.nn ?_;exact St.aP _ rfl _ rfl
  refine aq.cc (fun e=>[(28,e 12),(31,e 15)]) (fun e=>[aG (isTerm (bR cc (ab t0 (ab t0 t0))) (e 12)),aG (isTerm (aJ (aa 2) (aa 0)) (e 15))]) (fun c e az=> ?_) ?_
  ·refine St.cb ?_
   refine St.aw (dg (e 12) (e 15) (bR cc (ab t0 (ab t0 t0))) (aJ (aa 2) (aa 0))) mN (.cons (.mk rfl) (.cons (.mk rfl) .nil)) rfl ?_;rintro XM _ rfl;refine St.bL ?_;refine St.nn ?_;exact St.aP _ rfl _ rfl
  refine aq.c0 (fun c e az=> ?_) ?_
  ·refine St.aJ ?_
   refine St.aw (cP 1 (by unfold bD;decide)) kB (.cons (.mk rfl) .nil) rfl ?_;rintro v33 _ rfl;refine St.bL ?_;refine St.nn ?_;exact St.aP _ rfl _ rfl
  refine aq.c0 (fun c e az=> ?_) ?_
  ·refine St.aJ ?_
   refine St.aw (cP 0 (by unfold bD;decide)) kB (.cons (.mk rfl) .nil) rfl ?_;rintro LV _ rfl;refine St.bL ?_;refine St.nn ?_;exact St.aP _ rfl _ rfl
  refine aq.cc (fun e=>[(33,e 17),(34,e 18)]) (fun e=>[aG (isTerm (aa 1) (e 17)),aG (isTerm (aa 0) (e 18))]) (fun c e az=> ?_) ?_
  ·refine St.cb ?_
   refine St.aw (dg (e 17) (e 18) (aa 1) (aa 0)) mN (.cons (.mk rfl) (.cons (.mk rfl) .nil)) rfl ?_;rintro v35 _ rfl;refine St.bL ?_;refine St.nn ?_;exact St.aP _ rfl _ rfl
  refine aq.cc (fun e=>[(32,e 16),(35,e 19)]) (fun e=>[aG (isTerm (aJ (bR cc (ab t0 (ab t0 t0))) (aJ (aa 2) (aa 0))) (e 16)),aG (isTerm (aJ (aa 1) (aa 0)) (e 19))]) (fun c e az=> ?_) ?_
  ·refine St.cb ?_
   refine St.aw (dg (e 16) (e 19) (aJ (bR cc (ab t0 (ab t0 t0))) (aJ (aa 2) (aa 0))) (aJ (aa 1) (aa 0))) mN (.cons (.mk rfl) (.cons (.mk rfl) .nil)) rfl ?_;rintro v36 _ rfl;refine St.bL ?_;refine St.nn ?_;exact St.aP _ rfl _ rfl
  refine aq.cc (fun e=>[(21,e 5),(36,e 20)]) (fun e=>[aG (cJ (e 5) ((aQ xe))),aG (isTerm (aJ (aJ (bR cc (ab t0 (ab t0 t0))) (aJ (aa 2) (aa 0))) (aJ (aa 1) (aa 0))) (e 20))]) (fun c e az=> ?_) ?_
  ·refine St.cb ?_
   refine St.bT (P:=Tryz.prog) 21 (e 5) ((aQ xe)) rfl ?_;refine St.aw (cx (aQ xe) (e 20) e0 (aJ (aJ (bR cc (ab t0 (ab t0 t0))) (aJ (aa 2) (aa 0))) (aJ (aa 1) (aa 0)))) kC (.cons (.mk rfl) (.cons (.mk rfl) .nil)) rfl ?_;rintro v37 _ rfl;refine St.bL ?_;refine St.nn ?_;exact St.aP _ rfl _ rfl
  refine aq.cc (fun e=>[(20,e 4),(37,e 21)]) (fun e=>[aG (isTerm (bR q (ab p0 t0)) (e 4)),aG (isTerm (ah e0 (aJ (aJ (bR cc (ab t0 (ab t0 t0))) (aJ (aa 2) (aa 0))) (aJ (aa 1) (aa 0)))) (e 21))]) (fun c e az=> ?_) ?_
  ·refine St.cb ?_
   refine St.aw (dg (e 4) (e 21) (bR q (ab p0 t0)) (ah e0 (aJ (aJ (bR cc (ab t0 (ab t0 t0))) (aJ (aa 2) (aa 0))) (aJ (aa 1) (aa 0))))) mN (.cons (.mk rfl) (.cons (.mk rfl) .nil)) rfl ?_;rintro v38 _ rfl;refine St.bL ?_;refine St.nn ?_;exact St.aP _ rfl _ rfl
  refine aq.c0 (fun c e az=> ?_) ?_
  ·refine St.aJ ?_
   refine St.alloc sM rfl (fun jc=> ?_);refine St.fact (cJ (.pointer (some ⟨jc,0,none⟩)) (.pointer (some ⟨jc,0,none⟩))) (fun _ _ _=>rfl) ?_;refine St.nn ?_;exact St.aP _ rfl _ rfl
  exact aq.nil
 refine St.cb ?_;refine St.slot 10 _ rfl Zr ?_;refine St.isTerm (aJ (bR q (ab p0 t0)) (ah e0 (aJ (aJ (bR cc (ab t0 (ab t0 t0))) (aJ (aa 2) (aa 0))) (aJ (aa 1) (aa 0))))) (e 22) (fun xm Eu=> ?_);obtain⟨Zs,ad9,aeA⟩:=Eu;rw[Zs];refine St.sA (.mk rfl) (.mk rfl) dC ?_ (h1:=(by simp only[List.all_cons,List.all_nil,Bool.and_true,Bool.and_eq_true];exact⟨rfl,rfl,rfl,rfl,xm.type.av.2,xm.av.2⟩));refine St.nn (St.seq (St.sr ?_));refine St.mv ?_;refine St.nn ?_;refine St.cond _ rfl (fun A8=> ?_) (fun A8=> ?_)
 ·skip
  refine St.N7 6 40 [] (⟨40,[],fun u=>cJ u ((aQ xt))⟩::⟨41,[],fun u=>cJ u ((aQ xt))⟩::⟨42,[0,1],fun u=>au (ab t0 t0) u⟩::⟨43,[2],fun u=>isTerm (bR [110,111,116] (ab t0 t0)) u⟩::⟨44,[],fun u=>cJ u ((bb xm))⟩::⟨45,[3,4],fun u=>isTerm (aJ (bR [110,111,116] (ab t0 t0)) (aJ (bR q (ab p0 t0)) (ah e0 (aJ (aJ (bR cc (ab t0 (ab t0 t0))) (aJ (aa 2) (aa 0))) (aJ (aa 1) (aa 0)))))) u⟩::[]) ((40,[])::(41,[])::(42,[0,1])::(43,[2])::(44,[])::(45,[3,4])::[]) [5] rfl rfl mixed (by kernel_rfl) (by kernel_rfl) (by rfl) (fun e=>[(45,e 5)]) (fun e=>[aG (isTerm (aJ (bR [110,111,116] (ab t0 t0)) (aJ (bR q (ab p0 t0)) (ah e0 (aJ (aJ (bR cc (ab t0 (ab t0 t0))) (aJ (aa 2) (aa 0))) (aJ (aa 1) (aa 0)))))) (e 5))]) (fun _=>rfl) (fun _=>rfl) ?_ (fun e=> ?_)
  ·refine aq.c0 (fun c e az=> ?_) ?_
   ·refine St.aJ ?_
    refine St.ee (Ev.bF (.mk rfl) bX trivial (by exact bC)) ?_;refine St.fact (cJ ((aQ xt)) ((aQ xt))) (fun _ _ _=>rfl) ?_;refine St.nn ?_;exact St.aP _ rfl _ rfl
   refine aq.c0 (fun c e az=> ?_) ?_
   ·refine St.aJ ?_
    refine St.ee (Ev.bF (.mk rfl) bX trivial (by exact bC)) ?_;refine St.fact (cJ ((aQ xt)) ((aQ xt))) (fun _ _ _=>rfl) ?_;refine St.nn ?_;exact St.aP _ rfl _ rfl
   refine aq.cc (fun e=>[(40,e 0),(41,e 1)]) (fun e=>[aG (cJ (e 0) ((aQ xt))),aG (cJ (e 1) ((aQ xt)))]) (fun c e az=> ?_) ?_
   ·refine St.cb ?_
    refine St.bT (P:=Tryz.prog) 40 (e 0) ((aQ xt)) rfl ?_;refine St.bT (P:=Tryz.prog) 41 (e 1) ((aQ xt)) rfl ?_;refine St.aw (eB (aQ xt) (aQ xt) t0 t0) nJ (.cons (.mk rfl) (.cons (.mk rfl) .nil)) rfl ?_;rintro v42 _ rfl;refine St.bL ?_;refine St.nn ?_;exact St.aP _ rfl _ rfl
   refine aq.cc (fun e=>[(42,e 2)]) (fun e=>[aG (au (ab t0 t0) (e 2))]) (fun c e az=> ?_) ?_
   ·refine St.bL ?_
    refine St.aw (dI [110,111,116] (by decide) (e 2) (ab t0 t0)) lG (.cons (.mk rfl) (.cons (.mk rfl) .nil)) rfl ?_;rintro v43 _ rfl;refine St.bL ?_;refine St.nn ?_;exact St.aP _ rfl _ rfl
   refine aq.c0 (fun c e az=> ?_) ?_
   ·refine St.aJ ?_
    refine St.ee (Ev.bF (.mk rfl) fO trivial (by exact dC)) ?_;refine St.fact (cJ ((bb xm)) ((bb xm))) (fun _ _ _=>rfl) ?_;refine St.nn ?_;exact St.aP _ rfl _ rfl
   refine aq.cc (fun e=>[(43,e 3),(44,e 4)]) (fun e=>[aG (isTerm (bR [110,111,116] (ab t0 t0)) (e 3)),aG (cJ (e 4) ((bb xm)))]) (fun c e az=> ?_) ?_
   ·refine St.cb ?_
    refine St.bT (P:=Tryz.prog) 44 (e 4) ((bb xm)) rfl ?_;refine St.aw (dg (e 3) (bb xm) (bR [110,111,116] (ab t0 t0)) (aJ (bR q (ab p0 t0)) (ah e0 (aJ (aJ (bR cc (ab t0 (ab t0 t0))) (aJ (aa 2) (aa 0))) (aJ (aa 1) (aa 0)))))) mN (.cons (.mk rfl) (.cons (.mk rfl) .nil)) rfl ?_;rintro v45 _ rfl;refine St.bL ?_;refine St.nn ?_;exact St.aP _ rfl _ rfl
   exact aq.nil
  refine St.bL ?_;refine St.isTerm (aJ (bR [110,111,116] (ab t0 t0)) (aJ (bR q (ab p0 t0)) (ah e0 (aJ (aJ (bR cc (ab t0 (ab t0 t0))) (aJ (aa 2) (aa 0))) (aJ (aa 1) (aa 0)))))) (e 5) (fun xn hxn=> ?_);obtain⟨Zt,aeB,aeC⟩:=hxn;rw[Zt];refine St.sA (.mk rfl) (.mk rfl) dC ?_ (h1:=(by simp only[List.all_cons,List.all_nil,Bool.and_true,Bool.and_eq_true];exact⟨rfl,rfl,rfl,rfl,xn.type.av.2,xn.av.2⟩));refine St.nn (St.seq ?_);refine St.N7 5 46 [] (⟨46,[],fun u=>cJ u ((aQ xp))⟩::⟨47,[],fun u=>cJ u ((aQ xp))⟩::⟨48,[],fun u=>cJ u ((bb xn))⟩::⟨49,[1,2],fun u=>isTerm (ah p0 (aJ (bR [110,111,116] (ab t0 t0)) (aJ (bR q (ab p0 t0)) (ah e0 (aJ (aJ (bR cc (ab t0 (ab t0 t0))) (aJ (aa 2) (aa 0))) (aJ (aa 1) (aa 0))))))) u⟩::⟨50,[0,3],fun u=>isTerm (ah p0 (ah p0 (aJ (bR [110,111,116] (ab t0 t0)) (aJ (bR q (ab p0 t0)) (ah e0 (aJ (aJ (bR cc (ab t0 (ab t0 t0))) (aJ (aa 2) (aa 0))) (aJ (aa 1) (aa 0)))))))) u⟩::[]) ((46,[])::(47,[])::(48,[])::(49,[1,2])::(50,[0,3])::[]) [4] rfl rfl mixed (by kernel_rfl) (by kernel_rfl) (by rfl) (fun e=>[(50,e 4)]) (fun e=>[aG (isTerm (ah p0 (ah p0 (aJ (bR [110,111,116] (ab t0 t0)) (aJ (bR q (ab p0 t0)) (ah e0 (aJ (aJ (bR cc (ab t0 (ab t0 t0))) (aJ (aa 2) (aa 0))) (aJ (aa 1) (aa 0)))))))) (e 4))]) (fun _=>rfl) (fun _=>rfl) ?_ (fun e=> ?_)
  ·refine aq.c0 (fun c e az=> ?_) ?_
   ·refine St.aJ ?_
    refine St.ee (Ev.bF (.mk rfl) bX trivial (by exact bC)) ?_;refine St.fact (cJ ((aQ xp)) ((aQ xp))) (fun _ _ _=>rfl) ?_;refine St.nn ?_;exact St.aP _ rfl _ rfl
   refine aq.c0 (fun c e az=> ?_) ?_
   ·refine St.aJ ?_
    refine St.ee (Ev.bF (.mk rfl) bX trivial (by exact bC)) ?_;refine St.fact (cJ ((aQ xp)) ((aQ xp))) (fun _ _ _=>rfl) ?_;refine St.nn ?_;exact St.aP _ rfl _ rfl
   refine aq.c0 (fun c e az=> ?_) ?_
   ·refine St.aJ ?_
    refine St.ee (Ev.bF (.mk rfl) fO trivial (by exact dC)) ?_;refine St.fact (cJ ((bb xn)) ((bb xn))) (fun _ _ _=>rfl) ?_;refine St.nn ?_;exact St.aP _ rfl _ rfl
   refine aq.cc (fun e=>[(47,e 1),(48,e 2)]) (fun e=>[aG (cJ (e 1) ((aQ xp))),aG (cJ (e 2) ((bb xn)))]) (fun c e az=> ?_) ?_
   ·refine St.cb ?_
    refine St.bT (P:=Tryz.prog) 47 (e 1) ((aQ xp)) rfl ?_;refine St.bT (P:=Tryz.prog) 48 (e 2) ((bb xn)) rfl ?_;refine St.aw (cx (aQ xp) (bb xn) p0 (aJ (bR [110,111,116] (ab t0 t0)) (aJ (bR q (ab p0 t0)) (ah e0 (aJ (aJ (bR cc (ab t0 (ab t0 t0))) (aJ (aa 2) (aa 0))) (aJ (aa 1) (aa 0))))))) kC (.cons (.mk rfl) (.cons (.mk rfl) .nil)) rfl ?_;rintro v49 _ rfl;refine St.bL ?_;refine St.nn ?_;exact St.aP _ rfl _ rfl
   refine aq.cc (fun e=>[(46,e 0),(49,e 3)]) (fun e=>[aG (cJ (e 0) ((aQ xp))),aG (isTerm (ah p0 (aJ (bR [110,111,116] (ab t0 t0)) (aJ (bR q (ab p0 t0)) (ah e0 (aJ (aJ (bR cc (ab t0 (ab t0 t0))) (aJ (aa 2) (aa 0))) (aJ (aa 1) (aa 0))))))) (e 3))]) (fun c e az=> ?_) ?_
   ·refine St.cb ?_
    refine St.bT (P:=Tryz.prog) 46 (e 0) ((aQ xp)) rfl ?_;refine St.aw (cx (aQ xp) (e 3) p0 (ah p0 (aJ (bR [110,111,116] (ab t0 t0)) (aJ (bR q (ab p0 t0)) (ah e0 (aJ (aJ (bR cc (ab t0 (ab t0 t0))) (aJ (aa 2) (aa 0))) (aJ (aa 1) (aa 0)))))))) kC (.cons (.mk rfl) (.cons (.mk rfl) .nil)) rfl ?_;rintro Ty _ rfl;refine St.bL ?_;refine St.nn ?_;exact St.aP _ rfl _ rfl
   exact aq.nil
  refine St.bL ?_;refine St.isTerm (ah p0 (ah p0 (aJ (bR [110,111,116] (ab t0 t0)) (aJ (bR q (ab p0 t0)) (ah e0 (aJ (aJ (bR cc (ab t0 (ab t0 t0))) (aJ (aa 2) (aa 0))) (aJ (aa 1) (aa 0)))))))) (e 4) (fun xr Py=> ?_);obtain⟨CL,Pz,Q0⟩:=Py;rw[CL];refine St.sA (.mk rfl) (.mk rfl) dC ?_ (h1:=(by simp only[List.all_cons,List.all_nil,Bool.and_true,Bool.and_eq_true];exact⟨rfl,rfl,rfl,rfl,xr.type.av.2,xr.av.2⟩));refine St.nn (St.aX ?_)
  have hq:(ah p0 (ah p0 (aJ (bR [110,111,116] (ab t0 t0)) (aJ (bR q (ab p0 t0)) (ah e0 (aJ (aJ (bR cc (ab t0 (ab t0 t0))) (aJ (aa 2) (aa 0))) (aJ (aa 1) (aa 0))))))))=kM q cc no:=by rw[A8];rfl
  rw[hq];refine St.rT [_] [aG (isTerm (kM q cc no) (bb xr))] Tryz.results56 ⟨⟨_,_,_,_,rfl,ju.mem,.inl ⟨⟨_,fO⟩,dC,rfl⟩⟩,trivial⟩ ?_;rfl
 ·skip
  refine St.skip (St.aA (St.seq ?_));refine St.N7 5 46 [] (⟨46,[],fun u=>cJ u ((aQ xp))⟩::⟨47,[],fun u=>cJ u ((aQ xp))⟩::⟨48,[],fun u=>cJ u ((bb xm))⟩::⟨49,[1,2],fun u=>isTerm (ah p0 (aJ (bR q (ab p0 t0)) (ah e0 (aJ (aJ (bR cc (ab t0 (ab t0 t0))) (aJ (aa 2) (aa 0))) (aJ (aa 1) (aa 0)))))) u⟩::⟨50,[0,3],fun u=>isTerm (ah p0 (ah p0 (aJ (bR q (ab p0 t0)) (ah e0 (aJ (aJ (bR cc (ab t0 (ab t0 t0))) (aJ (aa 2) (aa 0))) (aJ (aa 1) (aa 0))))))) u⟩::[]) ((46,[])::(47,[])::(48,[])::(49,[1,2])::(50,[0,3])::[]) [4] rfl rfl mixed (by kernel_rfl) (by kernel_rfl) (by rfl) (fun e=>[(50,e 4)]) (fun e=>[aG (isTerm (ah p0 (ah p0 (aJ (bR q (ab p0 t0)) (ah e0 (aJ (aJ (bR cc (ab t0 (ab t0 t0))) (aJ (aa 2) (aa 0))) (aJ (aa 1) (aa 0))))))) (e 4))]) (fun _=>rfl) (fun _=>rfl) ?_ (fun e=> ?_)
  ·refine aq.c0 (fun c e az=> ?_) ?_
   ·refine St.aJ ?_
    refine St.ee (Ev.bF (.mk rfl) bX trivial (by exact bC)) ?_;refine St.fact (cJ ((aQ xp)) ((aQ xp))) (fun _ _ _=>rfl) ?_;refine St.nn ?_;exact St.aP _ rfl _ rfl
   refine aq.c0 (fun c e az=> ?_) ?_
   ·refine St.aJ ?_
    refine St.ee (Ev.bF (.mk rfl) bX trivial (by exact bC)) ?_;refine St.fact (cJ ((aQ xp)) ((aQ xp))) (fun _ _ _=>rfl) ?_;refine St.nn ?_;exact St.aP _ rfl _ rfl
   refine aq.c0 (fun c e az=> ?_) ?_
   ·refine St.aJ ?_
    refine St.ee (Ev.bF (.mk rfl) fO trivial (by exact dC)) ?_;refine St.fact (cJ ((bb xm)) ((bb xm))) (fun _ _ _=>rfl) ?_;refine St.nn ?_;exact St.aP _ rfl _ rfl
   refine aq.cc (fun e=>[(47,e 1),(48,e 2)]) (fun e=>[aG (cJ (e 1) ((aQ xp))),aG (cJ (e 2) ((bb xm)))]) (fun c e az=> ?_) ?_
   ·refine St.cb ?_
    refine St.bT (P:=Tryz.prog) 47 (e 1) ((aQ xp)) rfl ?_;refine St.bT (P:=Tryz.prog) 48 (e 2) ((bb xm)) rfl ?_;refine St.aw (cx (aQ xp) (bb xm) p0 (aJ (bR q (ab p0 t0)) (ah e0 (aJ (aJ (bR cc (ab t0 (ab t0 t0))) (aJ (aa 2) (aa 0))) (aJ (aa 1) (aa 0)))))) kC (.cons (.mk rfl) (.cons (.mk rfl) .nil)) rfl ?_;rintro v49 _ rfl;refine St.bL ?_;refine St.nn ?_;exact St.aP _ rfl _ rfl
   refine aq.cc (fun e=>[(46,e 0),(49,e 3)]) (fun e=>[aG (cJ (e 0) ((aQ xp))),aG (isTerm (ah p0 (aJ (bR q (ab p0 t0)) (ah e0 (aJ (aJ (bR cc (ab t0 (ab t0 t0))) (aJ (aa 2) (aa 0))) (aJ (aa 1) (aa 0)))))) (e 3))]) (fun c e az=> ?_) ?_
   ·refine St.cb ?_
    refine St.bT (P:=Tryz.prog) 46 (e 0) ((aQ xp)) rfl ?_;refine St.aw (cx (aQ xp) (e 3) p0 (ah p0 (aJ (bR q (ab p0 t0)) (ah e0 (aJ (aJ (bR cc (ab t0 (ab t0 t0))) (aJ (aa 2) (aa 0))) (aJ (aa 1) (aa 0))))))) kC (.cons (.mk rfl) (.cons (.mk rfl) .nil)) rfl ?_;rintro Ty _ rfl;refine St.bL ?_;refine St.nn ?_;exact St.aP _ rfl _ rfl
   exact aq.nil
  refine St.bL ?_;refine St.isTerm (ah p0 (ah p0 (aJ (bR q (ab p0 t0)) (ah e0 (aJ (aJ (bR cc (ab t0 (ab t0 t0))) (aJ (aa 2) (aa 0))) (aJ (aa 1) (aa 0))))))) (e 4) (fun xr Py=> ?_);obtain⟨CL,Pz,Q0⟩:=Py;rw[CL];refine St.sA (.mk rfl) (.mk rfl) dC ?_ (h1:=(by simp only[List.all_cons,List.all_nil,Bool.and_true,Bool.and_eq_true];exact⟨rfl,rfl,rfl,rfl,xr.type.av.2,xr.av.2⟩));refine St.nn (St.aX ?_)
  have hq:(ah p0 (ah p0 (aJ (bR q (ab p0 t0)) (ah e0 (aJ (aJ (bR cc (ab t0 (ab t0 t0))) (aJ (aa 2) (aa 0))) (aJ (aa 1) (aa 0)))))))=kM q cc no:=by rw[A8];rfl
  rw[hq];refine St.rT [_] [aG (isTerm (kM q cc no) (bb xr))] Tryz.results56 ⟨⟨_,_,_,_,rfl,ju.mem,.inl ⟨⟨_,fO⟩,dC,rfl⟩⟩,trivial⟩ ?_;rfl
theorem Dm {n:Nat}{F:Fr}{c:Ctx}{H:List bQ}{T:Act→World→Prop}{α:Type}(f:α→dm)(xs:List α)(ds:List dm)(RM:ds=xs.map f)[hd:p4 ds H](k:St n F (Mm c (aG (aY f xs)::H)) T):St n F (Mm c H) T:=
 St.gQ (aY f xs) ds (fun ρ h x hx=>h _ (by rw[RM];exact List.mem_map_of_mem hx)) k
theorem all_cons {α:Type}{p:α→Prop}{x:α}{l:List α}(h:p x)(k:∀y∈l,p y):∀y∈x::l,p y:=fun y hy=>by
 rcases List.mem_cons.1 hy with rfl|hy
 ·exact h
 ·exact k y hy
theorem all_nil {α:Type}{p:α→Prop}:∀y∈([]:List α),p y:=fun y hy=>by cases hy
def pK:List dB:=[(ah (ab (ab (.mk [101] []) (.mk [116] [])) (.mk [116] [])) (ah (ab (.mk [101] []) (.mk [116] [])) (aJ (aa 1) (aa 0)))),(ah (ab (ab (.mk [101] []) (.mk [116] [])) (ab (ab (.mk [101] []) (.mk [116] [])) (.mk [116] []))) (ah (ab (.mk [101] []) (.mk [116] [])) (aJ (aa 1) (aa 0)))),(ah (ab (.mk [101] []) (.mk [116] [])) (aa 0)),(ah (ab (.mk [101] []) (ab (.mk [101] []) (.mk [116] []))) (ah (ab (ab (.mk [101] []) (.mk [116] [])) (.mk [116] [])) (ah (.mk [101] []) (aJ (aa 1) (ah (.mk [101] []) (aJ (aJ (aa 3) (aa 1)) (aa 0))))))),(ah (ab (.mk [116] []) (.mk [116] [])) (ah (ab (.mk [101] []) (.mk [116] [])) (ah (.mk [101] []) (aJ (aa 2) (aJ (aa 1) (aa 0)))))),(ah (ab (ab (.mk [101] []) (.mk [116] [])) (.mk [116] [])) (ah (ab (.mk [116] []) (ab (.mk [116] []) (.mk [116] []))) (ah (ab (ab (.mk [101] []) (.mk [116] [])) (.mk [116] [])) (ah (ab (.mk [101] []) (.mk [116] [])) (aJ (aJ (aa 2) (aJ (aa 3) (aa 0))) (aJ (aa 1) (aa 0)))))))]
set_option maxHeartbeats 4000000 in
theorem vg:fF Tryz.prog 53 #[.bool false] ([].map aG) (fun v H'=>H'=[aG (jm pK v)]):=by
 refine fF.body (args:=[.bool false]) 128 Tryz.func53 rfl Tryz.ntmps53 rfl (fun c=> ?_);refine St.cast (H':=[]) rfl ?_;refine St.sr ?_;refine St.ak ?_;refine St.nn (St.sr ?_);refine St.aw (js [101] (by decide)) EX (.cons (.mk rfl) .nil) rfl ?_;rintro v10 _ rfl;refine St.bL ?_;refine St.au (.mk [101] []) v10 (fun xe Oz=> ?_);obtain⟨Hw,Tq,Ts⟩:=Oz;subst Hw;refine St.aw (js [116] (by decide)) EX (.cons (.mk rfl) .nil) rfl ?_;rintro v11 _ rfl;refine St.bL ?_;refine St.au (.mk [116] []) v11 (fun xt Tt=> ?_);obtain⟨Hy,Tu,Tv⟩:=Tt;subst Hy;refine St.alloc iP rfl (fun b3=> ?_);refine St.alloc iP rfl (fun b4=> ?_);refine St.sA (.mk rfl) (.mk rfl) bC ?_ (h1:=(by simp only[List.all_cons,List.all_nil,Bool.and_true,Bool.and_eq_true];exact⟨rfl,xe.av.2⟩));refine St.sA (.mk rfl) (.mk rfl) bC ?_ (h1:=(by simp only[List.all_cons,List.all_nil,Bool.and_true,Bool.and_eq_true];exact⟨rfl,xt.av.2⟩));refine St.nn (St.sr ?_);refine St.ee (Ev.bF (.mk rfl) bX trivial (by exact bC)) ?_;refine St.ee (Ev.bF (.mk rfl) bX trivial (by exact bC)) ?_;refine St.aw (eB (aQ xe) (aQ xt) (.mk [101] []) (.mk [116] [])) nJ (.cons (.mk rfl) (.cons (.mk rfl) .nil)) rfl ?_;rintro v14 _ rfl;refine St.bL ?_;refine St.au (ab (.mk [101] []) (.mk [116] [])) v14 (fun xp R6=> ?_);obtain⟨Hz,Tw,Tx⟩:=R6;subst Hz;refine St.alloc iP rfl (fun b5=> ?_);refine St.sA (.mk rfl) (.mk rfl) bC ?_ (h1:=(by simp only[List.all_cons,List.all_nil,Bool.and_true,Bool.and_eq_true];exact⟨rfl,xp.av.2⟩));refine St.nn (St.sr ?_);refine St.ee (Ev.bF (.mk rfl) bX trivial (by exact bC)) ?_;refine St.ee (Ev.bF (.mk rfl) bX trivial (by exact bC)) ?_;refine St.aw (eB (aQ xp) (aQ xt) (ab (.mk [101] []) (.mk [116] [])) (.mk [116] [])) nJ (.cons (.mk rfl) (.cons (.mk rfl) .nil)) rfl ?_;rintro v17 _ rfl;refine St.bL ?_;refine St.au (ab (ab (.mk [101] []) (.mk [116] [])) (.mk [116] [])) v17 (fun xq hxq=> ?_);obtain⟨Zu,aeD,aeE⟩:=hxq;subst Zu;refine St.alloc iP rfl (fun b6=> ?_);refine St.sA (.mk rfl) (.mk rfl) bC ?_ (h1:=(by simp only[List.all_cons,List.all_nil,Bool.and_true,Bool.and_eq_true];exact⟨rfl,xq.av.2⟩));refine St.nn (St.sr ?_);refine St.ee (Ev.bF (.mk rfl) bX trivial (by exact bC)) ?_;refine St.ee (Ev.bF (.mk rfl) bX trivial (by exact bC)) ?_;refine St.aw (eB (aQ xe) (aQ xp) (.mk [101] []) (ab (.mk [101] []) (.mk [116] []))) nJ (.cons (.mk rfl) (.cons (.mk rfl) .nil)) rfl ?_;rintro v20 _ rfl;refine St.bL ?_;refine St.au (ab (.mk [101] []) (ab (.mk [101] []) (.mk [116] []))) v20 (fun xr Py=> ?_);obtain⟨CL,Pz,Q0⟩:=Py;subst CL;refine St.alloc iP rfl (fun b7=> ?_);refine St.sA (.mk rfl) (.mk rfl) bC ?_ (h1:=(by simp only[List.all_cons,List.all_nil,Bool.and_true,Bool.and_eq_true];exact⟨rfl,xr.av.2⟩));refine St.nn (St.sr ?_);refine St.ee (Ev.bF (.mk rfl) bX trivial (by exact bC)) ?_;refine St.ee (Ev.bF (.mk rfl) bX trivial (by exact bC)) ?_;refine St.aw (eB (aQ xp) (aQ xq) (ab (.mk [101] []) (.mk [116] [])) (ab (ab (.mk [101] []) (.mk [116] [])) (.mk [116] []))) nJ (.cons (.mk rfl) (.cons (.mk rfl) .nil)) rfl ?_;rintro Tz _ rfl;refine St.bL ?_;refine St.au (ab (ab (.mk [101] []) (.mk [116] [])) (ab (ab (.mk [101] []) (.mk [116] [])) (.mk [116] []))) Tz (fun xd hxd=> ?_);obtain⟨Zv,aeF,aeG⟩:=hxd;subst Zv;refine St.alloc iP rfl (fun b8=> ?_);refine St.sA (.mk rfl) (.mk rfl) bC ?_ (h1:=(by simp only[List.all_cons,List.all_nil,Bool.and_true,Bool.and_eq_true];exact⟨rfl,xd.av.2⟩));refine St.nn (St.seq ?_);refine St.N7 67 24 [] (⟨24,[],fun u=>cJ u ((aQ xq))⟩::⟨25,[],fun u=>cJ u ((aQ xp))⟩::⟨26,[],fun u=>isTerm (aa 1) u⟩::⟨27,[],fun u=>isTerm (aa 0) u⟩::⟨28,[2,3],fun u=>isTerm (aJ (aa 1) (aa 0)) u⟩::⟨29,[1,4],fun u=>isTerm (ah (ab (.mk [101] []) (.mk [116] [])) (aJ (aa 1) (aa 0))) u⟩::⟨30,[0,5],fun u=>isTerm (ah (ab (ab (.mk [101] []) (.mk [116] [])) (.mk [116] [])) (ah (ab (.mk [101] []) (.mk [116] [])) (aJ (aa 1) (aa 0)))) u⟩::⟨31,[],fun u=>cJ u ((aQ xd))⟩::⟨32,[],fun u=>cJ u ((aQ xp))⟩::⟨33,[],fun u=>isTerm (aa 1) u⟩::⟨34,[],fun u=>isTerm (aa 0) u⟩::⟨35,[9,10],fun u=>isTerm (aJ (aa 1) (aa 0)) u⟩::⟨36,[8,11],fun u=>isTerm (ah (ab (.mk [101] []) (.mk [116] [])) (aJ (aa 1) (aa 0))) u⟩::⟨37,[7,12],fun u=>isTerm (ah (ab (ab (.mk [101] []) (.mk [116] [])) (ab (ab (.mk [101] []) (.mk [116] [])) (.mk [116] []))) (ah (ab (.mk [101] []) (.mk [116] [])) (aJ (aa 1) (aa 0)))) u⟩::⟨38,[],fun u=>cJ u ((aQ xp))⟩::⟨39,[],fun u=>isTerm (aa 0) u⟩::⟨40,[14,15],fun u=>isTerm (ah (ab (.mk [101] []) (.mk [116] [])) (aa 0)) u⟩::⟨41,[],fun u=>cJ u ((aQ xr))⟩::⟨42,[],fun u=>cJ u ((aQ xq))⟩::⟨43,[],fun u=>cJ u ((aQ xe))⟩::⟨44,[],fun u=>isTerm (aa 1) u⟩::⟨45,[],fun u=>cJ u ((aQ xe))⟩::⟨46,[],fun u=>isTerm (aa 3) u⟩::⟨47,[],fun u=>isTerm (aa 1) u⟩::⟨48,[22,23],fun u=>isTerm (aJ (aa 3) (aa 1)) u⟩::⟨49,[],fun u=>isTerm (aa 0) u⟩::⟨50,[24,25],fun u=>isTerm (aJ (aJ (aa 3) (aa 1)) (aa 0)) u⟩::⟨51,[21,26],fun u=>isTerm (ah (.mk [101] []) (aJ (aJ (aa 3) (aa 1)) (aa 0))) u⟩::⟨52,[20,27],fun u=>isTerm (aJ (aa 1) (ah (.mk [101] []) (aJ (aJ (aa 3) (aa 1)) (aa 0)))) u⟩::⟨53,[19,28],fun u=>isTerm (ah (.mk [101] []) (aJ (aa 1) (ah (.mk [101] []) (aJ (aJ (aa 3) (aa 1)) (aa 0))))) u⟩::⟨54,[18,29],fun u=>isTerm (ah (ab (ab (.mk [101] []) (.mk [116] [])) (.mk [116] [])) (ah (.mk [101] []) (aJ (aa 1) (ah (.mk [101] []) (aJ (aJ (aa 3) (aa 1)) (aa 0)))))) u⟩::⟨55,[17,30],fun u=>isTerm (ah (ab (.mk [101] []) (ab (.mk [101] []) (.mk [116] []))) (ah (ab (ab (.mk [101] []) (.mk [116] [])) (.mk [116] [])) (ah (.mk [101] []) (aJ (aa 1) (ah (.mk [101] []) (aJ (aJ (aa 3) (aa 1)) (aa 0))))))) u⟩::⟨56,[],fun u=>cJ u ((aQ xt))⟩::⟨57,[],fun u=>cJ u ((aQ xt))⟩::⟨58,[32,33],fun u=>au (ab (.mk [116] []) (.mk [116] [])) u⟩::⟨59,[],fun u=>cJ u ((aQ xp))⟩::⟨60,[],fun u=>cJ u ((aQ xe))⟩::⟨61,[],fun u=>isTerm (aa 2) u⟩::⟨62,[],fun u=>isTerm (aa 1) u⟩::⟨63,[],fun u=>isTerm (aa 0) u⟩::⟨64,[38,39],fun u=>isTerm (aJ (aa 1) (aa 0)) u⟩::⟨65,[37,40],fun u=>isTerm (aJ (aa 2) (aJ (aa 1) (aa 0))) u⟩::⟨66,[36,41],fun u=>isTerm (ah (.mk [101] []) (aJ (aa 2) (aJ (aa 1) (aa 0)))) u⟩::⟨67,[35,42],fun u=>isTerm (ah (ab (.mk [101] []) (.mk [116] [])) (ah (.mk [101] []) (aJ (aa 2) (aJ (aa 1) (aa 0))))) u⟩::⟨68,[34,43],fun u=>isTerm (ah (ab (.mk [116] []) (.mk [116] [])) (ah (ab (.mk [101] []) (.mk [116] [])) (ah (.mk [101] []) (aJ (aa 2) (aJ (aa 1) (aa 0)))))) u⟩::⟨69,[],fun u=>cJ u ((aQ xq))⟩::⟨70,[],fun u=>cJ u ((aQ xt))⟩::⟨71,[],fun u=>cJ u ((aQ xt))⟩::⟨72,[],fun u=>cJ u ((aQ xt))⟩::⟨73,[47,48],fun u=>au (ab (.mk [116] []) (.mk [116] [])) u⟩::⟨74,[46,49],fun u=>au (ab (.mk [116] []) (ab (.mk [116] []) (.mk [116] []))) u⟩::⟨75,[],fun u=>cJ u ((aQ xq))⟩::⟨76,[],fun u=>cJ u ((aQ xp))⟩::⟨77,[],fun u=>isTerm (aa 2) u⟩::⟨78,[],fun u=>isTerm (aa 3) u⟩::⟨79,[],fun u=>isTerm (aa 0) u⟩::⟨80,[54,55],fun u=>isTerm (aJ (aa 3) (aa 0)) u⟩::⟨81,[53,56],fun u=>isTerm (aJ (aa 2) (aJ (aa 3) (aa 0))) u⟩::⟨82,[],fun u=>isTerm (aa 1) u⟩::⟨83,[],fun u=>isTerm (aa 0) u⟩::⟨84,[58,59],fun u=>isTerm (aJ (aa 1) (aa 0)) u⟩::⟨85,[57,60],fun u=>isTerm (aJ (aJ (aa 2) (aJ (aa 3) (aa 0))) (aJ (aa 1) (aa 0))) u⟩::⟨86,[52,61],fun u=>isTerm (ah (ab (.mk [101] []) (.mk [116] [])) (aJ (aJ (aa 2) (aJ (aa 3) (aa 0))) (aJ (aa 1) (aa 0)))) u⟩::⟨87,[51,62],fun u=>isTerm (ah (ab (ab (.mk [101] []) (.mk [116] [])) (.mk [116] [])) (ah (ab (.mk [101] []) (.mk [116] [])) (aJ (aJ (aa 2) (aJ (aa 3) (aa 0))) (aJ (aa 1) (aa 0))))) u⟩::⟨88,[50,63],fun u=>isTerm (ah (ab (.mk [116] []) (ab (.mk [116] []) (.mk [116] []))) (ah (ab (ab (.mk [101] []) (.mk [116] [])) (.mk [116] [])) (ah (ab (.mk [101] []) (.mk [116] [])) (aJ (aJ (aa 2) (aJ (aa 3) (aa 0))) (aJ (aa 1) (aa 0)))))) u⟩::⟨89,[45,64],fun u=>isTerm (ah (ab (ab (.mk [101] []) (.mk [116] [])) (.mk [116] [])) (ah (ab (.mk [116] []) (ab (.mk [116] []) (.mk [116] []))) (ah (ab (ab (.mk [101] []) (.mk [116] [])) (.mk [116] [])) (ah (ab (.mk [101] []) (.mk [116] [])) (aJ (aJ (aa 2) (aJ (aa 3) (aa 0))) (aJ (aa 1) (aa 0))))))) u⟩::⟨90,[6,13,16,31,44,65],fun u=>jm pK u⟩::[]) ((24,[])::(25,[])::(26,[])::(27,[])::(28,[2,3])::(29,[1,4])::(30,[0,5])::(31,[])::(32,[])::(33,[])::(34,[])::(35,[9,10])::(36,[8,11])::(37,[7,12])::(38,[])::(39,[])::(40,[14,15])::(41,[])::(42,[])::(43,[])::(44,[])::(45,[])::(46,[])::(47,[])::(48,[22,23])::(49,[])::(50,[24,25])::(51,[21,26])::(52,[20,27])::(53,[19,28])::(54,[18,29])::(55,[17,30])::(56,[])::(57,[])::(58,[32,33])::(59,[])::(60,[])::(61,[])::(62,[])::(63,[])::(64,[38,39])::(65,[37,40])::(66,[36,41])::(67,[35,42])::(68,[34,43])::(69,[])::(70,[])::(71,[])::(72,[])::(73,[47,48])::(74,[46,49])::(75,[])::(76,[])::(77,[])::(78,[])::(79,[])::(80,[54,55])::(81,[53,56])::(82,[])::(83,[])::(84,[58,59])::(85,[57,60])::(86,[52,61])::(87,[51,62])::(88,[50,63])::(89,[45,64])::(90,[6,13,16,31,44,65])::[]) [66] rfl rfl mixed (by kernel_rfl) (by kernel_rfl) (by rfl) (fun e=>[(90,e 66)]) (fun e=>[aG (jm pK (e 66))]) (fun _=>rfl) (fun _=>rfl) ?_ (fun e=> ?_)
 ·refine aq.c0 (fun c e az=> ?_) ?_
  ·refine St.aJ ?_
   refine St.ee (Ev.bF (.mk rfl) bX trivial (by exact bC)) ?_;refine St.fact (cJ ((aQ xq)) ((aQ xq))) (fun _ _ _=>rfl) ?_;refine St.nn ?_;exact St.aP _ rfl _ rfl
  refine aq.c0 (fun c e az=> ?_) ?_
  ·refine St.aJ ?_
   refine St.ee (Ev.bF (.mk rfl) bX trivial (by exact bC)) ?_;refine St.fact (cJ ((aQ xp)) ((aQ xp))) (fun _ _ _=>rfl) ?_;refine St.nn ?_;exact St.aP _ rfl _ rfl
  refine aq.c0 (fun c e az=> ?_) ?_
  ·refine St.aJ ?_
   refine St.aw (cP 1 (by unfold bD;decide)) kB (.cons (.mk rfl) .nil) rfl ?_;rintro gr _ rfl;refine St.bL ?_;refine St.nn ?_;exact St.aP _ rfl _ rfl
  refine aq.c0 (fun c e az=> ?_) ?_
  ·refine St.aJ ?_
   refine St.aw (cP 0 (by unfold bD;decide)) kB (.cons (.mk rfl) .nil) rfl ?_;rintro v27 _ rfl;refine St.bL ?_;refine St.nn ?_;exact St.aP _ rfl _ rfl
  refine aq.cc (fun e=>[(26,e 2),(27,e 3)]) (fun e=>[aG (isTerm (aa 1) (e 2)),aG (isTerm (aa 0) (e 3))]) (fun c e az=> ?_) ?_
  ·refine St.cb ?_
   refine St.aw (dg (e 2) (e 3) (aa 1) (aa 0)) mN (.cons (.mk rfl) (.cons (.mk rfl) .nil)) rfl ?_;rintro v28 _ rfl;refine St.bL ?_;refine St.nn ?_;exact St.aP _ rfl _ rfl
  refine aq.cc (fun e=>[(25,e 1),(28,e 4)]) (fun e=>[aG (cJ (e 1) ((aQ xp))),aG (isTerm (aJ (aa 1) (aa 0)) (e 4))]) (fun c e az=> ?_) ?_
  ·refine St.cb ?_
   refine St.bT (P:=Tryz.prog) 25 (e 1) ((aQ xp)) rfl ?_;refine St.aw (cx (aQ xp) (e 4) (ab (.mk [101] []) (.mk [116] [])) (aJ (aa 1) (aa 0))) kC (.cons (.mk rfl) (.cons (.mk rfl) .nil)) rfl ?_;rintro v29 _ rfl;refine St.bL ?_;refine St.nn ?_;exact St.aP _ rfl _ rfl
  refine aq.cc (fun e=>[(24,e 0),(29,e 5)]) (fun e=>[aG (cJ (e 0) ((aQ xq))),aG (isTerm (ah (ab (.mk [101] []) (.mk [116] [])) (aJ (aa 1) (aa 0))) (e 5))]) (fun c e az=> ?_) ?_
  ·refine St.cb ?_
   refine St.bT (P:=Tryz.prog) 24 (e 0) ((aQ xq)) rfl ?_;refine St.aw (cx (aQ xq) (e 5) (ab (ab (.mk [101] []) (.mk [116] [])) (.mk [116] [])) (ah (ab (.mk [101] []) (.mk [116] [])) (aJ (aa 1) (aa 0)))) kC (.cons (.mk rfl) (.cons (.mk rfl) .nil)) rfl ?_;rintro v30 _ rfl;refine St.bL ?_;refine St.nn ?_;exact St.aP _ rfl _ rfl
  refine aq.c0 (fun c e az=> ?_) ?_
  ·refine St.aJ ?_
   refine St.ee (Ev.bF (.mk rfl) bX trivial (by exact bC)) ?_;refine St.fact (cJ ((aQ xd)) ((aQ xd))) (fun _ _ _=>rfl) ?_;refine St.nn ?_;exact St.aP _ rfl _ rfl
  refine aq.c0 (fun c e az=> ?_) ?_
  ·refine St.aJ ?_
   refine St.ee (Ev.bF (.mk rfl) bX trivial (by exact bC)) ?_;refine St.fact (cJ ((aQ xp)) ((aQ xp))) (fun _ _ _=>rfl) ?_;refine St.nn ?_;exact St.aP _ rfl _ rfl
  refine aq.c0 (fun c e az=> ?_) ?_
  ·refine St.aJ ?_
   refine St.aw (cP 1 (by unfold bD;decide)) kB (.cons (.mk rfl) .nil) rfl ?_;rintro v33 _ rfl;refine St.bL ?_;refine St.nn ?_;exact St.aP _ rfl _ rfl
  refine aq.c0 (fun c e az=> ?_) ?_
  ·refine St.aJ ?_
   refine St.aw (cP 0 (by unfold bD;decide)) kB (.cons (.mk rfl) .nil) rfl ?_;rintro LV _ rfl;refine St.bL ?_;refine St.nn ?_;exact St.aP _ rfl _ rfl
  refine aq.cc (fun e=>[(33,e 9),(34,e 10)]) (fun e=>[aG (isTerm (aa 1) (e 9)),aG (isTerm (aa 0) (e 10))]) (fun c e az=> ?_) ?_
  ·refine St.cb ?_
   refine St.aw (dg (e 9) (e 10) (aa 1) (aa 0)) mN (.cons (.mk rfl) (.cons (.mk rfl) .nil)) rfl ?_;rintro v35 _ rfl;refine St.bL ?_;refine St.nn ?_;exact St.aP _ rfl _ rfl
  refine aq.cc (fun e=>[(32,e 8),(35,e 11)]) (fun e=>[aG (cJ (e 8) ((aQ xp))),aG (isTerm (aJ (aa 1) (aa 0)) (e 11))]) (fun c e az=> ?_) ?_
  ·refine St.cb ?_
   refine St.bT (P:=Tryz.prog) 32 (e 8) ((aQ xp)) rfl ?_;refine St.aw (cx (aQ xp) (e 11) (ab (.mk [101] []) (.mk [116] [])) (aJ (aa 1) (aa 0))) kC (.cons (.mk rfl) (.cons (.mk rfl) .nil)) rfl ?_;rintro v36 _ rfl;refine St.bL ?_;refine St.nn ?_;exact St.aP _ rfl _ rfl
  refine aq.cc (fun e=>[(31,e 7),(36,e 12)]) (fun e=>[aG (cJ (e 7) ((aQ xd))),aG (isTerm (ah (ab (.mk [101] []) (.mk [116] [])) (aJ (aa 1) (aa 0))) (e 12))]) (fun c e az=> ?_) ?_
  ·refine St.cb ?_
   refine St.bT (P:=Tryz.prog) 31 (e 7) ((aQ xd)) rfl ?_;refine St.aw (cx (aQ xd) (e 12) (ab (ab (.mk [101] []) (.mk [116] [])) (ab (ab (.mk [101] []) (.mk [116] [])) (.mk [116] []))) (ah (ab (.mk [101] []) (.mk [116] [])) (aJ (aa 1) (aa 0)))) kC (.cons (.mk rfl) (.cons (.mk rfl) .nil)) rfl ?_;rintro v37 _ rfl;refine St.bL ?_;refine St.nn ?_;exact St.aP _ rfl _ rfl
  refine aq.c0 (fun c e az=> ?_) ?_
  ·refine St.aJ ?_
   refine St.ee (Ev.bF (.mk rfl) bX trivial (by exact bC)) ?_;refine St.fact (cJ ((aQ xp)) ((aQ xp))) (fun _ _ _=>rfl) ?_;refine St.nn ?_;exact St.aP _ rfl _ rfl
  refine aq.c0 (fun c e az=> ?_) ?_
  ·refine St.aJ ?_
   refine St.aw (cP 0 (by unfold bD;decide)) kB (.cons (.mk rfl) .nil) rfl ?_;rintro v39 _ rfl;refine St.bL ?_;refine St.nn ?_;exact St.aP _ rfl _ rfl
  refine aq.cc (fun e=>[(38,e 14),(39,e 15)]) (fun e=>[aG (cJ (e 14) ((aQ xp))),aG (isTerm (aa 0) (e 15))]) (fun c e az=> ?_) ?_
  ·refine St.cb ?_
   refine St.bT (P:=Tryz.prog) 38 (e 14) ((aQ xp)) rfl ?_;refine St.aw (cx (aQ xp) (e 15) (ab (.mk [101] []) (.mk [116] [])) (aa 0)) kC (.cons (.mk rfl) (.cons (.mk rfl) .nil)) rfl ?_;rintro v40 _ rfl;refine St.bL ?_;refine St.nn ?_;exact St.aP _ rfl _ rfl
  refine aq.c0 (fun c e az=> ?_) ?_
  ·refine St.aJ ?_
   refine St.ee (Ev.bF (.mk rfl) bX trivial (by exact bC)) ?_;refine St.fact (cJ ((aQ xr)) ((aQ xr))) (fun _ _ _=>rfl) ?_;refine St.nn ?_;exact St.aP _ rfl _ rfl
  refine aq.c0 (fun c e az=> ?_) ?_
  ·refine St.aJ ?_
   refine St.ee (Ev.bF (.mk rfl) bX trivial (by exact bC)) ?_;refine St.fact (cJ ((aQ xq)) ((aQ xq))) (fun _ _ _=>rfl) ?_;refine St.nn ?_;exact St.aP _ rfl _ rfl
  refine aq.c0 (fun c e az=> ?_) ?_
  ·refine St.aJ ?_
   refine St.ee (Ev.bF (.mk rfl) bX trivial (by exact bC)) ?_;refine St.fact (cJ ((aQ xe)) ((aQ xe))) (fun _ _ _=>rfl) ?_;refine St.nn ?_;exact St.aP _ rfl _ rfl
  refine aq.c0 (fun c e az=> ?_) ?_
  ·refine St.aJ ?_
   refine St.aw (cP 1 (by unfold bD;decide)) kB (.cons (.mk rfl) .nil) rfl ?_;rintro v44 _ rfl;refine St.bL ?_;refine St.nn ?_;exact St.aP _ rfl _ rfl
  refine aq.c0 (fun c e az=> ?_) ?_
  ·refine St.aJ ?_
   refine St.ee (Ev.bF (.mk rfl) bX trivial (by exact bC)) ?_;refine St.fact (cJ ((aQ xe)) ((aQ xe))) (fun _ _ _=>rfl) ?_;refine St.nn ?_;exact St.aP _ rfl _ rfl
  refine aq.c0 (fun c e az=> ?_) ?_
  ·refine St.aJ ?_
   refine St.aw (cP 3 (by unfold bD;decide)) kB (.cons (.mk rfl) .nil) rfl ?_;rintro v46 _ rfl;refine St.bL ?_;refine St.nn ?_;exact St.aP _ rfl _ rfl
  refine aq.c0 (fun c e az=> ?_) ?_
  ·refine St.aJ ?_
   refine St.aw (cP 1 (by unfold bD;decide)) kB (.cons (.mk rfl) .nil) rfl ?_;rintro v47 _ rfl;refine St.bL ?_;refine St.nn ?_;exact St.aP _ rfl _ rfl
  refine aq.cc (fun e=>[(46,e 22),(47,e 23)]) (fun e=>[aG (isTerm (aa 3) (e 22)),aG (isTerm (aa 1) (e 23))]) (fun c e az=> ?_) ?_
  ·refine St.cb ?_
   refine St.aw (dg (e 22) (e 23) (aa 3) (aa 1)) mN (.cons (.mk rfl) (.cons (.mk rfl) .nil)) rfl ?_;rintro v48 _ rfl;refine St.bL ?_;refine St.nn ?_;exact St.aP _ rfl _ rfl
  refine aq.c0 (fun c e az=> ?_) ?_
  ·refine St.aJ ?_
   refine St.aw (cP 0 (by unfold bD;decide)) kB (.cons (.mk rfl) .nil) rfl ?_;rintro v49 _ rfl;refine St.bL ?_;refine St.nn ?_;exact St.aP _ rfl _ rfl
  refine aq.cc (fun e=>[(48,e 24),(49,e 25)]) (fun e=>[aG (isTerm (aJ (aa 3) (aa 1)) (e 24)),aG (isTerm (aa 0) (e 25))]) (fun c e az=> ?_) ?_
  ·refine St.cb ?_
   refine St.aw (dg (e 24) (e 25) (aJ (aa 3) (aa 1)) (aa 0)) mN (.cons (.mk rfl) (.cons (.mk rfl) .nil)) rfl ?_;rintro Ty _ rfl;refine St.bL ?_;refine St.nn ?_;exact St.aP _ rfl _ rfl
  refine aq.cc (fun e=>[(45,e 21),(50,e 26)]) (fun e=>[aG (cJ (e 21) ((aQ xe))),aG (isTerm (aJ (aJ (aa 3) (aa 1)) (aa 0)) (e 26))]) (fun c e az=> ?_) ?_
  ·refine St.cb ?_
   refine St.bT (P:=Tryz.prog) 45 (e 21) ((aQ xe)) rfl ?_;refine St.aw (cx (aQ xe) (e 26) (.mk [101] []) (aJ (aJ (aa 3) (aa 1)) (aa 0))) kC (.cons (.mk rfl) (.cons (.mk rfl) .nil)) rfl ?_;rintro v51 _ rfl;refine St.bL ?_;refine St.nn ?_;exact St.aP _ rfl _ rfl
  refine aq.cc (fun e=>[(44,e 20),(51,e 27)]) (fun e=>[aG (isTerm (aa 1) (e 20)),aG (isTerm (ah (.mk [101] []) (aJ (aJ (aa 3) (aa 1)) (aa 0))) (e 27))]) (fun c e az=> ?_) ?_
  ·refine St.cb ?_
   refine St.aw (dg (e 20) (e 27) (aa 1) (ah (.mk [101] []) (aJ (aJ (aa 3) (aa 1)) (aa 0)))) mN (.cons (.mk rfl) (.cons (.mk rfl) .nil)) rfl ?_;rintro v52 _ rfl;refine St.bL ?_;refine St.nn ?_;exact St.aP _ rfl _ rfl
  refine aq.cc (fun e=>[(43,e 19),(52,e 28)]) (fun e=>[aG (cJ (e 19) ((aQ xe))),aG (isTerm (aJ (aa 1) (ah (.mk [101] []) (aJ (aJ (aa 3) (aa 1)) (aa 0)))) (e 28))]) (fun c e az=> ?_) ?_
  ·refine St.cb ?_
   refine St.bT (P:=Tryz.prog) 43 (e 19) ((aQ xe)) rfl ?_;refine St.aw (cx (aQ xe) (e 28) (.mk [101] []) (aJ (aa 1) (ah (.mk [101] []) (aJ (aJ (aa 3) (aa 1)) (aa 0))))) kC (.cons (.mk rfl) (.cons (.mk rfl) .nil)) rfl ?_;rintro v53 _ rfl;refine St.bL ?_;refine St.nn ?_;exact St.aP _ rfl _ rfl
  refine aq.cc (fun e=>[(42,e 18),(53,e 29)]) (fun e=>[aG (cJ (e 18) ((aQ xq))),aG (isTerm (ah (.mk [101] []) (aJ (aa 1) (ah (.mk [101] []) (aJ (aJ (aa 3) (aa 1)) (aa 0))))) (e 29))]) (fun c e az=> ?_) ?_
  ·refine St.cb ?_
   refine St.bT (P:=Tryz.prog) 42 (e 18) ((aQ xq)) rfl ?_;refine St.aw (cx (aQ xq) (e 29) (ab (ab (.mk [101] []) (.mk [116] [])) (.mk [116] [])) (ah (.mk [101] []) (aJ (aa 1) (ah (.mk [101] []) (aJ (aJ (aa 3) (aa 1)) (aa 0)))))) kC (.cons (.mk rfl) (.cons (.mk rfl) .nil)) rfl ?_;rintro Yt _ rfl;refine St.bL ?_;refine St.nn ?_;exact St.aP _ rfl _ rfl
  refine aq.cc (fun e=>[(41,e 17),(54,e 30)]) (fun e=>[aG (cJ (e 17) ((aQ xr))),aG (isTerm (ah (ab (ab (.mk [101] []) (.mk [116] [])) (.mk [116] [])) (ah (.mk [101] []) (aJ (aa 1) (ah (.mk [101] []) (aJ (aJ (aa 3) (aa 1)) (aa 0)))))) (e 30))]) (fun c e az=> ?_) ?_
  ·refine St.cb ?_
   refine St.bT (P:=Tryz.prog) 41 (e 17) ((aQ xr)) rfl ?_;refine St.aw (cx (aQ xr) (e 30) (ab (.mk [101] []) (ab (.mk [101] []) (.mk [116] []))) (ah (ab (ab (.mk [101] []) (.mk [116] [])) (.mk [116] [])) (ah (.mk [101] []) (aJ (aa 1) (ah (.mk [101] []) (aJ (aJ (aa 3) (aa 1)) (aa 0))))))) kC (.cons (.mk rfl) (.cons (.mk rfl) .nil)) rfl ?_;rintro XN _ rfl;refine St.bL ?_;refine St.nn ?_;exact St.aP _ rfl _ rfl
  refine aq.c0 (fun c e az=> ?_) ?_
  ·refine St.aJ ?_
   refine St.ee (Ev.bF (.mk rfl) bX trivial (by exact bC)) ?_;refine St.fact (cJ ((aQ xt)) ((aQ xt))) (fun _ _ _=>rfl) ?_;refine St.nn ?_;exact St.aP _ rfl _ rfl
  refine aq.c0 (fun c e az=> ?_) ?_
  ·refine St.aJ ?_
   refine St.ee (Ev.bF (.mk rfl) bX trivial (by exact bC)) ?_;refine St.fact (cJ ((aQ xt)) ((aQ xt))) (fun _ _ _=>rfl) ?_;refine St.nn ?_;exact St.aP _ rfl _ rfl
  refine aq.cc (fun e=>[(56,e 32),(57,e 33)]) (fun e=>[aG (cJ (e 32) ((aQ xt))),aG (cJ (e 33) ((aQ xt)))]) (fun c e az=> ?_) ?_
  ·refine St.cb ?_
   refine St.bT (P:=Tryz.prog) 56 (e 32) ((aQ xt)) rfl ?_;refine St.bT (P:=Tryz.prog) 57 (e 33) ((aQ xt)) rfl ?_;refine St.aw (eB (aQ xt) (aQ xt) (.mk [116] []) (.mk [116] [])) nJ (.cons (.mk rfl) (.cons (.mk rfl) .nil)) rfl ?_;rintro v58 _ rfl;refine St.bL ?_;refine St.nn ?_;exact St.aP _ rfl _ rfl
  refine aq.c0 (fun c e az=> ?_) ?_
  ·refine St.aJ ?_
   refine St.ee (Ev.bF (.mk rfl) bX trivial (by exact bC)) ?_;refine St.fact (cJ ((aQ xp)) ((aQ xp))) (fun _ _ _=>rfl) ?_;refine St.nn ?_;exact St.aP _ rfl _ rfl
  refine aq.c0 (fun c e az=> ?_) ?_
  ·refine St.aJ ?_
   refine St.ee (Ev.bF (.mk rfl) bX trivial (by exact bC)) ?_;refine St.fact (cJ ((aQ xe)) ((aQ xe))) (fun _ _ _=>rfl) ?_;refine St.nn ?_;exact St.aP _ rfl _ rfl
  refine aq.c0 (fun c e az=> ?_) ?_
  ·refine St.aJ ?_
   refine St.aw (cP 2 (by unfold bD;decide)) kB (.cons (.mk rfl) .nil) rfl ?_;rintro Zw _ rfl;refine St.bL ?_;refine St.nn ?_;exact St.aP _ rfl _ rfl
  refine aq.c0 (fun c e az=> ?_) ?_
  ·refine St.aJ ?_
   refine St.aw (cP 1 (by unfold bD;decide)) kB (.cons (.mk rfl) .nil) rfl ?_;rintro v62 _ rfl;refine St.bL ?_;refine St.nn ?_;exact St.aP _ rfl _ rfl
  refine aq.c0 (fun c e az=> ?_) ?_
  ·refine St.aJ ?_
   refine St.aw (cP 0 (by unfold bD;decide)) kB (.cons (.mk rfl) .nil) rfl ?_;rintro v63 _ rfl;refine St.bL ?_;refine St.nn ?_;exact St.aP _ rfl _ rfl
  refine aq.cc (fun e=>[(62,e 38),(63,e 39)]) (fun e=>[aG (isTerm (aa 1) (e 38)),aG (isTerm (aa 0) (e 39))]) (fun c e az=> ?_) ?_
  ·refine St.cb ?_
   refine St.aw (dg (e 38) (e 39) (aa 1) (aa 0)) mN (.cons (.mk rfl) (.cons (.mk rfl) .nil)) rfl ?_;rintro v64 _ rfl;refine St.bL ?_;refine St.nn ?_;exact St.aP _ rfl _ rfl
  refine aq.cc (fun e=>[(61,e 37),(64,e 40)]) (fun e=>[aG (isTerm (aa 2) (e 37)),aG (isTerm (aJ (aa 1) (aa 0)) (e 40))]) (fun c e az=> ?_) ?_
  ·refine St.cb ?_
   refine St.aw (dg (e 37) (e 40) (aa 2) (aJ (aa 1) (aa 0))) mN (.cons (.mk rfl) (.cons (.mk rfl) .nil)) rfl ?_;rintro v65 _ rfl;refine St.bL ?_;refine St.nn ?_;exact St.aP _ rfl _ rfl
  refine aq.cc (fun e=>[(60,e 36),(65,e 41)]) (fun e=>[aG (cJ (e 36) ((aQ xe))),aG (isTerm (aJ (aa 2) (aJ (aa 1) (aa 0))) (e 41))]) (fun c e az=> ?_) ?_
  ·refine St.cb ?_
   refine St.bT (P:=Tryz.prog) 60 (e 36) ((aQ xe)) rfl ?_;refine St.aw (cx (aQ xe) (e 41) (.mk [101] []) (aJ (aa 2) (aJ (aa 1) (aa 0)))) kC (.cons (.mk rfl) (.cons (.mk rfl) .nil)) rfl ?_;rintro v66 _ rfl;refine St.bL ?_;refine St.nn ?_;exact St.aP _ rfl _ rfl
  refine aq.cc (fun e=>[(59,e 35),(66,e 42)]) (fun e=>[aG (cJ (e 35) ((aQ xp))),aG (isTerm (ah (.mk [101] []) (aJ (aa 2) (aJ (aa 1) (aa 0)))) (e 42))]) (fun c e az=> ?_) ?_
  ·refine St.cb ?_
   refine St.bT (P:=Tryz.prog) 59 (e 35) ((aQ xp)) rfl ?_;refine St.aw (cx (aQ xp) (e 42) (ab (.mk [101] []) (.mk [116] [])) (ah (.mk [101] []) (aJ (aa 2) (aJ (aa 1) (aa 0))))) kC (.cons (.mk rfl) (.cons (.mk rfl) .nil)) rfl ?_;rintro v67 _ rfl;refine St.bL ?_;refine St.nn ?_;exact St.aP _ rfl _ rfl
  refine aq.cc (fun e=>[(58,e 34),(67,e 43)]) (fun e=>[aG (au (ab (.mk [116] []) (.mk [116] [])) (e 34)),aG (isTerm (ah (ab (.mk [101] []) (.mk [116] [])) (ah (.mk [101] []) (aJ (aa 2) (aJ (aa 1) (aa 0))))) (e 43))]) (fun c e az=> ?_) ?_
  ·refine St.cb ?_
   refine St.aw (cx (e 34) (e 43) (ab (.mk [116] []) (.mk [116] [])) (ah (ab (.mk [101] []) (.mk [116] [])) (ah (.mk [101] []) (aJ (aa 2) (aJ (aa 1) (aa 0)))))) kC (.cons (.mk rfl) (.cons (.mk rfl) .nil)) rfl ?_;rintro v68 _ rfl;refine St.bL ?_;refine St.nn ?_;exact St.aP _ rfl _ rfl
  refine aq.c0 (fun c e az=> ?_) ?_
  ·refine St.aJ ?_
   refine St.ee (Ev.bF (.mk rfl) bX trivial (by exact bC)) ?_;refine St.fact (cJ ((aQ xq)) ((aQ xq))) (fun _ _ _=>rfl) ?_;refine St.nn ?_;exact St.aP _ rfl _ rfl
  refine aq.c0 (fun c e az=> ?_) ?_
  ·refine St.aJ ?_
   refine St.ee (Ev.bF (.mk rfl) bX trivial (by exact bC)) ?_;refine St.fact (cJ ((aQ xt)) ((aQ xt))) (fun _ _ _=>rfl) ?_;refine St.nn ?_;exact St.aP _ rfl _ rfl
  refine aq.c0 (fun c e az=> ?_) ?_
  ·refine St.aJ ?_
   refine St.ee (Ev.bF (.mk rfl) bX trivial (by exact bC)) ?_;refine St.fact (cJ ((aQ xt)) ((aQ xt))) (fun _ _ _=>rfl) ?_;refine St.nn ?_;exact St.aP _ rfl _ rfl
  refine aq.c0 (fun c e az=> ?_) ?_
  ·refine St.aJ ?_
   refine St.ee (Ev.bF (.mk rfl) bX trivial (by exact bC)) ?_;refine St.fact (cJ ((aQ xt)) ((aQ xt))) (fun _ _ _=>rfl) ?_;refine St.nn ?_;exact St.aP _ rfl _ rfl
  refine aq.cc (fun e=>[(71,e 47),(72,e 48)]) (fun e=>[aG (cJ (e 47) ((aQ xt))),aG (cJ (e 48) ((aQ xt)))]) (fun c e az=> ?_) ?_
  ·refine St.cb ?_
   refine St.bT (P:=Tryz.prog) 71 (e 47) ((aQ xt)) rfl ?_;refine St.bT (P:=Tryz.prog) 72 (e 48) ((aQ xt)) rfl ?_;refine St.aw (eB (aQ xt) (aQ xt) (.mk [116] []) (.mk [116] [])) nJ (.cons (.mk rfl) (.cons (.mk rfl) .nil)) rfl ?_;rintro v73 _ rfl;refine St.bL ?_;refine St.nn ?_;exact St.aP _ rfl _ rfl
  refine aq.cc (fun e=>[(70,e 46),(73,e 49)]) (fun e=>[aG (cJ (e 46) ((aQ xt))),aG (au (ab (.mk [116] []) (.mk [116] [])) (e 49))]) (fun c e az=> ?_) ?_
  ·refine St.cb ?_
   refine St.bT (P:=Tryz.prog) 70 (e 46) ((aQ xt)) rfl ?_;refine St.aw (eB (aQ xt) (e 49) (.mk [116] []) (ab (.mk [116] []) (.mk [116] []))) nJ (.cons (.mk rfl) (.cons (.mk rfl) .nil)) rfl ?_;rintro v74 _ rfl;refine St.bL ?_;refine St.nn ?_;exact St.aP _ rfl _ rfl
  refine aq.c0 (fun c e az=> ?_) ?_
  ·refine St.aJ ?_
   refine St.ee (Ev.bF (.mk rfl) bX trivial (by exact bC)) ?_;refine St.fact (cJ ((aQ xq)) ((aQ xq))) (fun _ _ _=>rfl) ?_;refine St.nn ?_;exact St.aP _ rfl _ rfl
  refine aq.c0 (fun c e az=> ?_) ?_
  ·refine St.aJ ?_
   refine St.ee (Ev.bF (.mk rfl) bX trivial (by exact bC)) ?_;refine St.fact (cJ ((aQ xp)) ((aQ xp))) (fun _ _ _=>rfl) ?_;refine St.nn ?_;exact St.aP _ rfl _ rfl
  refine aq.c0 (fun c e az=> ?_) ?_
  ·refine St.aJ ?_
   refine St.aw (cP 2 (by unfold bD;decide)) kB (.cons (.mk rfl) .nil) rfl ?_;rintro v77 _ rfl;refine St.bL ?_;refine St.nn ?_;exact St.aP _ rfl _ rfl
  refine aq.c0 (fun c e az=> ?_) ?_
  ·refine St.aJ ?_
   refine St.aw (cP 3 (by unfold bD;decide)) kB (.cons (.mk rfl) .nil) rfl ?_;rintro v78 _ rfl;refine St.bL ?_;refine St.nn ?_;exact St.aP _ rfl _ rfl
  refine aq.c0 (fun c e az=> ?_) ?_
  ·refine St.aJ ?_
   refine St.aw (cP 0 (by unfold bD;decide)) kB (.cons (.mk rfl) .nil) rfl ?_;rintro v79 _ rfl;refine St.bL ?_;refine St.nn ?_;exact St.aP _ rfl _ rfl
  refine aq.cc (fun e=>[(78,e 54),(79,e 55)]) (fun e=>[aG (isTerm (aa 3) (e 54)),aG (isTerm (aa 0) (e 55))]) (fun c e az=> ?_) ?_
  ·refine St.cb ?_
   refine St.aw (dg (e 54) (e 55) (aa 3) (aa 0)) mN (.cons (.mk rfl) (.cons (.mk rfl) .nil)) rfl ?_;rintro v80 _ rfl;refine St.bL ?_;refine St.nn ?_;exact St.aP _ rfl _ rfl
  refine aq.cc (fun e=>[(77,e 53),(80,e 56)]) (fun e=>[aG (isTerm (aa 2) (e 53)),aG (isTerm (aJ (aa 3) (aa 0)) (e 56))]) (fun c e az=> ?_) ?_
  ·refine St.cb ?_
   refine St.aw (dg (e 53) (e 56) (aa 2) (aJ (aa 3) (aa 0))) mN (.cons (.mk rfl) (.cons (.mk rfl) .nil)) rfl ?_;rintro v81 _ rfl;refine St.bL ?_;refine St.nn ?_;exact St.aP _ rfl _ rfl
  refine aq.c0 (fun c e az=> ?_) ?_
  ·refine St.aJ ?_
   refine St.aw (cP 1 (by unfold bD;decide)) kB (.cons (.mk rfl) .nil) rfl ?_;rintro v82 _ rfl;refine St.bL ?_;refine St.nn ?_;exact St.aP _ rfl _ rfl
  refine aq.c0 (fun c e az=> ?_) ?_
  ·refine St.aJ ?_
   refine St.aw (cP 0 (by unfold bD;decide)) kB (.cons (.mk rfl) .nil) rfl ?_;rintro v83 _ rfl;refine St.bL ?_;refine St.nn ?_;exact St.aP _ rfl _ rfl
  refine aq.cc (fun e=>[(82,e 58),(83,e 59)]) (fun e=>[aG (isTerm (aa 1) (e 58)),aG (isTerm (aa 0) (e 59))]) (fun c e az=> ?_) ?_
  ·refine St.cb ?_
   refine St.aw (dg (e 58) (e 59) (aa 1) (aa 0)) mN (.cons (.mk rfl) (.cons (.mk rfl) .nil)) rfl ?_;rintro v84 _ rfl;refine St.bL ?_;refine St.nn ?_;exact St.aP _ rfl _ rfl
  refine aq.cc (fun e=>[(81,e 57),(84,e 60)]) (fun e=>[aG (isTerm (aJ (aa 2) (aJ (aa 3) (aa 0))) (e 57)),aG (isTerm (aJ (aa 1) (aa 0)) (e 60))]) (fun c e az=> ?_) ?_
  ·refine St.cb ?_
   refine St.aw (dg (e 57) (e 60) (aJ (aa 2) (aJ (aa 3) (aa 0))) (aJ (aa 1) (aa 0))) mN (.cons (.mk rfl) (.cons (.mk rfl) .nil)) rfl ?_;rintro v85 _ rfl;refine St.bL ?_;refine St.nn ?_;exact St.aP _ rfl _ rfl
  refine aq.cc (fun e=>[(76,e 52),(85,e 61)]) (fun e=>[aG (cJ (e 52) ((aQ xp))),aG (isTerm (aJ (aJ (aa 2) (aJ (aa 3) (aa 0))) (aJ (aa 1) (aa 0))) (e 61))]) (fun c e az=> ?_) ?_
  ·refine St.cb ?_
   refine St.bT (P:=Tryz.prog) 76 (e 52) ((aQ xp)) rfl ?_;refine St.aw (cx (aQ xp) (e 61) (ab (.mk [101] []) (.mk [116] [])) (aJ (aJ (aa 2) (aJ (aa 3) (aa 0))) (aJ (aa 1) (aa 0)))) kC (.cons (.mk rfl) (.cons (.mk rfl) .nil)) rfl ?_;rintro v86 _ rfl;refine St.bL ?_;refine St.nn ?_;exact St.aP _ rfl _ rfl
  refine aq.cc (fun e=>[(75,e 51),(86,e 62)]) (fun e=>[aG (cJ (e 51) ((aQ xq))),aG (isTerm (ah (ab (.mk [101] []) (.mk [116] [])) (aJ (aJ (aa 2) (aJ (aa 3) (aa 0))) (aJ (aa 1) (aa 0)))) (e 62))]) (fun c e az=> ?_) ?_
  ·refine St.cb ?_
   refine St.bT (P:=Tryz.prog) 75 (e 51) ((aQ xq)) rfl ?_;refine St.aw (cx (aQ xq) (e 62) (ab (ab (.mk [101] []) (.mk [116] [])) (.mk [116] [])) (ah (ab (.mk [101] []) (.mk [116] [])) (aJ (aJ (aa 2) (aJ (aa 3) (aa 0))) (aJ (aa 1) (aa 0))))) kC (.cons (.mk rfl) (.cons (.mk rfl) .nil)) rfl ?_;rintro v87 _ rfl;refine St.bL ?_;refine St.nn ?_;exact St.aP _ rfl _ rfl
  refine aq.cc (fun e=>[(74,e 50),(87,e 63)]) (fun e=>[aG (au (ab (.mk [116] []) (ab (.mk [116] []) (.mk [116] []))) (e 50)),aG (isTerm (ah (ab (ab (.mk [101] []) (.mk [116] [])) (.mk [116] [])) (ah (ab (.mk [101] []) (.mk [116] [])) (aJ (aJ (aa 2) (aJ (aa 3) (aa 0))) (aJ (aa 1) (aa 0))))) (e 63))]) (fun c e az=> ?_) ?_
  ·refine St.cb ?_
   refine St.aw (cx (e 50) (e 63) (ab (.mk [116] []) (ab (.mk [116] []) (.mk [116] []))) (ah (ab (ab (.mk [101] []) (.mk [116] [])) (.mk [116] [])) (ah (ab (.mk [101] []) (.mk [116] [])) (aJ (aJ (aa 2) (aJ (aa 3) (aa 0))) (aJ (aa 1) (aa 0)))))) kC (.cons (.mk rfl) (.cons (.mk rfl) .nil)) rfl ?_;rintro v88 _ rfl;refine St.bL ?_;refine St.nn ?_;exact St.aP _ rfl _ rfl
  refine aq.cc (fun e=>[(69,e 45),(88,e 64)]) (fun e=>[aG (cJ (e 45) ((aQ xq))),aG (isTerm (ah (ab (.mk [116] []) (ab (.mk [116] []) (.mk [116] []))) (ah (ab (ab (.mk [101] []) (.mk [116] [])) (.mk [116] [])) (ah (ab (.mk [101] []) (.mk [116] [])) (aJ (aJ (aa 2) (aJ (aa 3) (aa 0))) (aJ (aa 1) (aa 0)))))) (e 64))]) (fun c e az=> ?_) ?_
  ·refine St.cb ?_
   refine St.bT (P:=Tryz.prog) 69 (e 45) ((aQ xq)) rfl ?_;refine St.aw (cx (aQ xq) (e 64) (ab (ab (.mk [101] []) (.mk [116] [])) (.mk [116] [])) (ah (ab (.mk [116] []) (ab (.mk [116] []) (.mk [116] []))) (ah (ab (ab (.mk [101] []) (.mk [116] [])) (.mk [116] [])) (ah (ab (.mk [101] []) (.mk [116] [])) (aJ (aJ (aa 2) (aJ (aa 3) (aa 0))) (aJ (aa 1) (aa 0))))))) kC (.cons (.mk rfl) (.cons (.mk rfl) .nil)) rfl ?_;rintro v89 _ rfl;refine St.bL ?_;refine St.nn ?_;exact St.aP _ rfl _ rfl
  refine aq.cc (fun e=>[(30,e 6),(37,e 13),(40,e 16),(55,e 31),(68,e 44),(89,e 65)]) (fun e=>[aG (isTerm (ah (ab (ab (.mk [101] []) (.mk [116] [])) (.mk [116] [])) (ah (ab (.mk [101] []) (.mk [116] [])) (aJ (aa 1) (aa 0)))) (e 6)),aG (isTerm (ah (ab (ab (.mk [101] []) (.mk [116] [])) (ab (ab (.mk [101] []) (.mk [116] [])) (.mk [116] []))) (ah (ab (.mk [101] []) (.mk [116] [])) (aJ (aa 1) (aa 0)))) (e 13)),aG (isTerm (ah (ab (.mk [101] []) (.mk [116] [])) (aa 0)) (e 16)),aG (isTerm (ah (ab (.mk [101] []) (ab (.mk [101] []) (.mk [116] []))) (ah (ab (ab (.mk [101] []) (.mk [116] [])) (.mk [116] [])) (ah (.mk [101] []) (aJ (aa 1) (ah (.mk [101] []) (aJ (aJ (aa 3) (aa 1)) (aa 0))))))) (e 31)),aG (isTerm (ah (ab (.mk [116] []) (.mk [116] [])) (ah (ab (.mk [101] []) (.mk [116] [])) (ah (.mk [101] []) (aJ (aa 2) (aJ (aa 1) (aa 0)))))) (e 44)),aG (isTerm (ah (ab (ab (.mk [101] []) (.mk [116] [])) (.mk [116] [])) (ah (ab (.mk [116] []) (ab (.mk [116] []) (.mk [116] []))) (ah (ab (ab (.mk [101] []) (.mk [116] [])) (.mk [116] [])) (ah (ab (.mk [101] []) (.mk [116] [])) (aJ (aJ (aa 2) (aJ (aa 3) (aa 0))) (aJ (aa 1) (aa 0))))))) (e 65))]) (fun c e az=> ?_) ?_
  ·refine St.Oy ?_
   refine St.isTerm (ah (ab (ab (.mk [101] []) (.mk [116] [])) (.mk [116] [])) (ah (ab (.mk [101] []) (.mk [116] [])) (aJ (aa 1) (aa 0)))) (e 6) (fun Nb Zx=> ?_);obtain⟨U0,U1,U2⟩:=Zx;rw[U0];refine St.isTerm (ah (ab (ab (.mk [101] []) (.mk [116] [])) (ab (ab (.mk [101] []) (.mk [116] [])) (.mk [116] []))) (ah (ab (.mk [101] []) (.mk [116] [])) (aJ (aa 1) (aa 0)))) (e 13) (fun Nc Zy=> ?_);obtain⟨U3,U4,U5⟩:=Zy;rw[U3];refine St.isTerm (ah (ab (.mk [101] []) (.mk [116] [])) (aa 0)) (e 16) (fun Nd Zz=> ?_);obtain⟨U6,U7,U8⟩:=Zz;rw[U6];refine St.isTerm (ah (ab (.mk [101] []) (ab (.mk [101] []) (.mk [116] []))) (ah (ab (ab (.mk [101] []) (.mk [116] [])) (.mk [116] [])) (ah (.mk [101] []) (aJ (aa 1) (ah (.mk [101] []) (aJ (aJ (aa 3) (aa 1)) (aa 0))))))) (e 31) (fun Nf aaA=> ?_);obtain⟨U9,UA,UB⟩:=aaA;rw[U9];refine St.isTerm (ah (ab (.mk [116] []) (.mk [116] [])) (ah (ab (.mk [101] []) (.mk [116] [])) (ah (.mk [101] []) (aJ (aa 2) (aJ (aa 1) (aa 0)))))) (e 44) (fun Ng aaB=> ?_);obtain⟨UC,UD,UE⟩:=aaB;rw[UC];refine St.isTerm (ah (ab (ab (.mk [101] []) (.mk [116] [])) (.mk [116] [])) (ah (ab (.mk [116] []) (ab (.mk [116] []) (.mk [116] []))) (ah (ab (ab (.mk [101] []) (.mk [116] [])) (.mk [116] [])) (ah (ab (.mk [101] []) (.mk [116] [])) (aJ (aJ (aa 2) (aJ (aa 3) (aa 0))) (aJ (aa 1) (aa 0))))))) (e 65) (fun Nh aaC=> ?_);obtain⟨UF,UG,UH⟩:=aaC;rw[UF];refine St.cn rfl (.cons (.mk rfl) (.cons (.mk rfl) (.cons (.mk rfl) (.cons (.mk rfl) (.cons (.mk rfl) (.cons (.mk rfl) .nil)))))) ez dC P6 rfl rfl (by simp[Value.cells]) rfl rfl (fun Ni=> ?_);refine St.aV (.slice (some ⟨Ni,0,none⟩) 6 6) cG [Nb,Nc,Nd,Nf,Ng,Nh] rfl rfl (all_cons U2 (all_cons U5 (all_cons U8 (all_cons UB (all_cons UE (all_cons UH (all_nil))))))) ?_;refine Dm bO [Nb,Nc,Nd,Nf,Ng,Nh] [bO Nb,bO Nc,bO Nd,bO Nf,bO Ng,bO Nh] rfl ?_;refine St.gQ (jm pK (.slice (some ⟨Ni,0,none⟩) 6 6)) [sl cG (.slice (some ⟨Ni,0,none⟩) 6 6) [Nb,Nc,Nd,Nf,Ng,Nh],aY bO [Nb,Nc,Nd,Nf,Ng,Nh]] (fun ρ h=>⟨rfl,[Nb,Nc,Nd,Nf,Ng,Nh],by simp only[List.map_cons,List.map_nil,U1,U4,U7,UA,UD,UG];rfl,h (sl cG (.slice (some ⟨Ni,0,none⟩) 6 6) [Nb,Nc,Nd,Nf,Ng,Nh]) (by simp),h (aY bO [Nb,Nc,Nd,Nf,Ng,Nh]) (by simp)⟩) ?_;refine St.nn ?_;exact St.aP _ rfl _ rfl
  exact aq.nil
 refine St.bL ?_;refine St.ak ?_;refine St.nn (St.seq (St.sr ?_));refine St.mv ?_;refine St.nn ?_;refine St.zA _ rfl rfl ?_;refine St.skip (St.aA (St.sr ?_));refine St.mv ?_;refine St.ak ?_;refine St.nn (St.aX ?_);refine St.rU [_] [aG (jm pK (e 66))] Tryz.results53 ?_;rfl
end Go.Proofs.YtolmidffiegkaaaGreatDoor
namespace Go.J
open Go
def z6:List Int→List Int→Bool
 | [],[]=>false
 | [],_::_=>true
 |_::_,[]=>false
 |a::x,b::y=>decide (a<b)||(decide (a=b)&&z6 x y)
theorem xD:∀{x y z:List Int},z6 x y=true→z6 y z=true→z6 x z=true
 | [],[],_,h,_=>by simp[z6]at h
 | [],_::_,[],_,h=>by simp[z6]at h
 | [],_::_,_::_,_,_=>rfl
 |_::_,[],_,h,_=>by simp[z6]at h
 |_::_,_::_,[],_,h=>by simp[z6]at h
 |a::x,b::y,c::z,h,k=>by
  simp only[z6,Bool.or_eq_true,Bool.and_eq_true,decide_eq_true_eq]at h k⊢
  rcases h with h|⟨h,h'⟩
  ·left;rcases k with k|⟨k,_⟩<;>omega
  ·rcases k with k|⟨k,k'⟩
   ·left;omega
   ·right;exact⟨by omega,xD h' k'⟩
theorem Dn:∀(x y:List Int),z6 x y=true∨x=y∨z6 y x=true
 | [],[]=> .inr (.inl rfl)
 | [],_::_=> .inl rfl
 |_::_,[]=> .inr (.inr rfl)
 |a::x,b::y=>by
  simp only[z6,Bool.or_eq_true,Bool.and_eq_true,decide_eq_true_eq,List.cons.injEq]
  rcases Int.lt_trichotomy a b with h|h|h
  ·exact .inl (.inl h)
  ·rcases Dn x y with k|k|k
   ·exact .inl (.inr ⟨h,k⟩)
   ·exact .inr (.inl ⟨h,k⟩)
   ·exact .inr (.inr (.inr ⟨h.symm,k⟩))
  ·exact .inr (.inr (.inl h))
section
variable (p:List Int)
def pre (L i:Nat):List Int:=(p.drop i).take L
variable {p}
end
section
variable {n:Nat}{key:Nat→List Int}{cf:Nat→Nat→Int}{l:List Nat}
end
section
variable {p:List Int}{L:Nat}{cf:Nat→Nat→Int}{l:List Nat}{rk:List Int}
end
section
variable {p:List Int}
theorem I0 {a b:Nat}(ha:a≤p.length)(hb:b≤p.length)(h:p.drop a=p.drop b):a=b:=by
 have:=congrArg List.length h
 simp only[List.length_drop]at this
 omega
abbrev Sx (p:List Int)(l:List Nat):Prop:=l.Pairwise (fun a b=>z6 (p.drop a) (p.drop b)=true)
structure I1 (p:List Int)(i:Nat)(A B:List Nat):Prop where
 perm:(A++B).Perm (List.range i)
 srt:Sx p (A++B)
 less:∀b∈B,z6 (p.drop i) (p.drop b)=true
theorem I1.step {i a:Nat}{A B:List Nat}(h:I1 p i (A++ [a]) B)(hl:z6 (p.drop i) (p.drop a)=true):I1 p i A (a::B):=
 ⟨by simpa using h.perm,by simpa using h.srt,fun b hb=>by rcases List.mem_cons.1 hb with rfl|hb;exact hl;exact h.less b hb⟩
theorem I1.done {i:Nat}{A B:List Nat}(h:I1 p i A B)(hi:i<p.length)(hl:A=[]∨∃A' a,A=A'++ [a]∧z6 (p.drop i) (p.drop a)=false):(A++i::B).Perm (List.range (i+1))∧Sx p (A++i::B):=by
 have vh:∀x∈A++B,x<i:=fun x hx=>List.mem_range.1 (h.perm.mem_iff.1 hx)
 constructor
 ·rw[List.range_succ]
  exact List.perm_middle.trans ((h.perm.cons i).trans (List.perm_append_singleton i _).symm)
 ·have hs:=List.pairwise_append.1 h.srt
  have hA:∀x∈A,z6 (p.drop x) (p.drop i)=true:=by
   rcases hl with rfl|⟨A',a,rfl,XG⟩
   ·intro x hx;cases hx
   ·have last:z6 (p.drop a) (p.drop i)=true:=by
     have hai:=vh a (by simp)
     rcases Dn (p.drop a) (p.drop i)with q|q|q
     ·exact q
     ·have:=I0 (by omega) (by omega) q;omega
     ·rw[XG]at q;cases q
    intro x hx
    rcases List.mem_append.1 hx with hx|hx
    ·exact xD ((List.pairwise_append.1 hs.1).2.2 x hx a (List.mem_singleton_self _)) last
    ·rw[List.mem_singleton.1 hx];exact last
  refine List.pairwise_append.2 ⟨hs.1,List.pairwise_cons.2 ⟨h.less,hs.2.1⟩,?_⟩;intro x hx y hy
  rcases List.mem_cons.1 hy with rfl|hy
  ·exact hA x hx
  ·exact hs.2.2 x hx y hy
end
section
variable {n:Nat}{cf:Nat→Nat→Int}{l:List Nat}
end
structure UI (l:List (List cQ)):Prop where
 len:l.length≤100
 each:∀s∈l,0<s.length∧s.length≤12∧s.all isWord=true
theorem UI.nil:UI []:=⟨by simp,fun s h=>by cases h⟩
def hz {β:Type}(q:List Nat):List Nat→List β→List β
 |x::pts,z::zs=>if(x::pts).take q.length=q then z::hz q pts zs else hz q pts zs
 |_,_=>[]
end Go.J
namespace Go.Proofs.YtolmidffiegkaaaGreatDoor
open Go Go.J
def cZ:List Int→List fY
 |a::b::r=>⟨a,b⟩::cZ r
 |_=>[]
theorem s6:∀xs:List Int,(cZ xs).length=xs.length/2
 | []=>rfl
 | [_]=>by simp[cZ]
 |a::b::r=>by rw[cZ,List.length_cons,s6 r];simp only[List.length_cons];omega
theorem s7:∀{xs:List Int} {j:Nat} {a b:Int},xs[2*j]?=some a→xs[2*j+1]?=some b→(cZ xs)[j]?=some ⟨a,b⟩
 | [],_,_,_,h,_=>by simp at h
 | [_],0,_,_,_,h=>by simp at h
 | [_],j+1,_,_,h,_=>by simp at h
 |x::y::r,0,a,b,h,k=>by
  simp at h k;subst h k;rfl
 |x::y::r,j+1,a,b,h,k=>by
  rw[show 2*(j+1)=(2*j)+1+1 by omega,List.getElem?_cons_succ,List.getElem?_cons_succ]at h;rw[show 2*(j+1)+1=(2*j+1)+1+1 by omega,List.getElem?_cons_succ,List.getElem?_cons_succ]at k;rw[cZ,List.getElem?_cons_succ];exact s7 h k
theorem nd:∀{xs:List Int} {x:fY},x∈cZ xs→x.dq∈xs∧x.to∈xs
 | [],_,h=>by cases h
 | [_],_,h=>by cases h
 |a::b::r,x,h=>by
  rw[cZ]at h
  rcases List.mem_cons.1 h with rfl|h
  ·exact⟨by simp,by simp⟩
  ·have:=nd h
   exact⟨by simp[this.1],by simp[this.2]⟩
def Q1 (xs:List Int):Ri:=(xs.headD 0,(cZ xs.tail).map gS)
def bN (iK:List (List Int)):iE:=iK.map Q1
theorem uQ {X Y:List fY}{x:fY}(h:Y=X++ [x]):rows fC X++ [iv x.dq,iv x.to]=rows fC Y:=by rw[h,cz];rfl
theorem CM {X:List k5}{x:k5}:rows ep X++ [iv x.type,x.lv.1]=rows ep (X++ [x]):=by rw[cz];rfl
theorem FF {xs:List Int}{x:Int}(h:xs[0]?=some x):Q1 xs=(x,(cZ (xs.drop 1)).map gS):=by
 cases xs with
 |nil=>simp at h
 |cons y r=>simp at h;subst h;rfl
theorem drop_at {xs:List Int}{j:Nat}:(xs.drop 1)[j]?=xs[1+j]?:=by rw[List.getElem?_drop]
set_option maxHeartbeats 4000000 in
theorem eN (u:Value)(iK:List (List Int))(fz:iK.all (fun xs=>decide (0<xs.length)&&decide (xs.length≤60))=true)(hl:iK.length≤60):fF Tryz.prog 54 #[u] ([fD aK iK u].map aG) (fun v H'=>H'=[aG (cw (bN iK) v)]):=by
 refine fF.body (args:=[u]) 48 Tryz.func54 rfl Tryz.ntmps54 rfl (fun c=> ?_);refine St.cast (H':=[aG (fD aK iK u)]) rfl ?_;refine St.seq ?_;refine St.fD aK iK u (fun OQ=> ?_);refine St.lD u (fun vs Fw=> ?_);refine St.Rd vs Fw (fun p5=> ?_);refine St.rg ?_;refine St.alloc SA rfl (fun b2=> ?_);refine St.nn (St.sr ?_);refine St.alloc SA rfl (fun b3=> ?_);refine St.nn (St.seq (St.sr ?_));refine St.mv ?_;refine St.ee (Ev.ao (.mk rfl) dE) ?_;refine St.mv ?_;refine St.nn (St.block ?_);refine St.jw 143 2 ?_;refine St.bB (.slice none 0 0) (show _=([]:List k5).length from rfl) (show _=rows ep []from rfl) ?_;refine St.da dW ?_;refine St.mf (ι:=Nat) (κ:=Value×List k5) (fun k z T=>(10,iv k)::T) (fun k z=>[ae b3 (.cells [z.1].toArray 30 (0,0)),row z.1 143 2 (z.2).length (rows ep (z.2)),aG (aY dW z.2),ae b2 (.cells [(.slice none 0 0)].toArray 30 (0,0)),aG (sl cC u vs),aG (jx aK vs iK)]) (fun k z=>k≤iK.length∧z.1.oneCell'=true∧z.2.map kX=bN (iK.take k)∧∀x∈z.2,ep.wf x) (fun k z=>iK.length-k) 0 ((.slice none 0 0),[]) (aE.cons 2 rfl (aE.cons 3 rfl (aE.cons 8 rfl (aE.cons 9 rfl aE.nil)))) ⟨Nat.zero_le _,rfl,rfl,fun x hx=>by cases hx⟩ ?_;rintro k ⟨vz,X⟩ ⟨hk,hz,hX,Q2⟩
 dsimp only at hz hX Q2⊢
 have R3:=congrArg List.length hX
 rw[List.length_map,bN,List.length_map,List.length_take]at R3;refine St.sr ?_;refine St.ee Ev.dn ?_;refine St.nn (St.seq ?_);refine St.cond _ rfl (fun vE=> ?_) (fun vE=> ?_)
 ·try simp only[aC]at vE
  obtain⟨s,hs⟩:=aO (show k<iK.length by omega);obtain⟨w,hw⟩:=aO (show k<vs.length by omega);refine St.jx (vs:=vs) k hw hs ?_
  have cu:=p5 s (List.mem_of_getElem? hs)
  have TH:=List.all_eq_true.1 fz s (List.mem_of_getElem? hs)
  simp only[Bool.and_eq_true,decide_eq_true_eq]at TH
  obtain⟨x0,Qr⟩:=aO (show 0<s.length by omega)
  have DL:=s6 (s.drop 1)
  rw[List.length_drop]at DL;refine St.skip (St.aA (St.seq (St.block (St.sr ?_))));refine St.ee (Ev.aR (k:=k) (.mk rfl) (.mk rfl) dE eI (by omega) (by omega)) ?_;refine St.ee (Ev.ff (.mk rfl) hw bE trivial rfl) ?_;refine St.ak ?_;refine St.nn (St.sr ?_);refine St.mv ?_;refine St.ee (Ev.aR (k:=0) (.mk rfl) (.mk rfl) bE cr rfl (by omega)) ?_;refine St.ee (Ev.ff (.mk rfl) Qr bP trivial rfl) ?_;refine St.ee (Ev.build (ps:=[(0,(.tmp 16))]) (aU.cons (aL.mk rfl) aU.nil) (fun w=>Gi rfl w)) ?_;refine St.alloc tb rfl (fun b6=> ?_);refine St.sA (.mk rfl) (.mk rfl) fc ?_;refine St.nn (St.seq (St.sr ?_));refine St.ak ?_;refine St.nn (St.block ?_);refine St.jw 145 2 ?_;refine St.bB (.slice none 0 0) (show _=((cZ (s.drop 1)).take 0).length from rfl) (show _=rows fC ((cZ (s.drop 1)).take 0)from rfl) ?_;refine St.mf (ι:=Nat) (κ:=Value) (fun j y T=>(7,iv (1+2*(j:Nat)))::T) (fun j y=>[ae b6 (.cells [iv x0,y].toArray 143 (0,0)),row y 145 2 ((cZ (s.drop 1)).take j).length (rows fC ((cZ (s.drop 1)).take j)),aG (sl aK w.1 s),ae b3 (.cells [vz].toArray 30 (0,0)),row vz 143 2 (X).length (rows ep (X)),aG (aY dW X),ae b2 (.cells [(.slice none 0 0)].toArray 30 (0,0)),aG (sl cC u vs),aG (jx aK vs iK)]) (fun j y=>j≤(s.length-1)/2∧y.oneCell'=true) (fun j y=>(s.length-1)/2-j) 0 (.slice none 0 0) (aE.cons 2 rfl (aE.cons 3 rfl (aE.cons 5 rfl (aE.cons 6 rfl (aE.cons 8 rfl (aE.cons 9 rfl (aE.cons 10 rfl aE.nil))))))) ⟨Nat.zero_le _,rfl⟩ ?_;rintro j y ⟨hj,hy⟩
  have EE:((cZ (s.drop 1)).take j).length≤60:=by rw[List.length_take];omega
  refine St.seq (St.sr ?_);refine St.mv ?_;refine St.ee Ev.a0 ?_;refine St.mv ?_;refine St.ee (Ev.ao (.mk rfl) bE) ?_;refine St.ee Ev.dn ?_;refine St.nn ?_;refine St.cond _ rfl (fun vR=> ?_) (fun vR=> ?_)
  ·try simp only[aC]at vR
   have ZV:1+2*j+1<s.length:=by omega
   obtain⟨xa,XE⟩:=aO (show 1+2*j<s.length by omega);obtain⟨xb,XF⟩:=aO (show 1+2*j+1<s.length by omega)
   have C6:(cZ (s.drop 1))[j]?=some ⟨xa,xb⟩:=s7 (by rw[drop_at];exact XE) (by rw[drop_at,←Nat.add_assoc];exact XF)
   refine St.skip (St.aA (St.seq (St.block ?_)));refine St.eV [ae b6 (.cells [iv x0,y].toArray 143 (0,0)),row y 145 2 ((cZ (s.drop 1)).take j).length (rows fC ((cZ (s.drop 1)).take j))] mixed (fun np ns=> ?_);refine SW.dd 0 rfl (fun _=>Ev.aD (.mk rfl) gR) ?_;refine SW.dd 2 rfl (fun _=>Ev.move (.mk rfl)) ?_;refine SW.dd 3 rfl (fun _=>Ev.move (.mk rfl)) ?_;refine SW.dd 4 rfl (fun _=>Ev.aR (k:=(1+2*j)) (.mk rfl) (.mk rfl) bE cr (by omega) (by omega)) ?_;refine SW.dd 5 rfl (fun _=>Ev.ff (.mk rfl) XE bP trivial rfl) ?_;refine SW.dd 6 rfl (fun _=>Ev.move (.mk rfl)) ?_;refine SW.dd 7 rfl (fun _=>Ev.move (.mk rfl)) ?_;refine SW.dd 8 rfl (fun _=>Ev.a0) ?_;refine SW.dd 9 rfl (fun _=>Ev.aR (k:=(1+2*j+1)) (.mk rfl) (.mk rfl) bE cr (by omega) (by omega)) ?_;refine SW.dd 10 rfl (fun _=>Ev.ff (.mk rfl) XF bP trivial rfl) ?_;refine SW.dd 11 rfl (fun _=>Ev.build (ps:=[(0,(.tmp 30)),(1,(.tmp 35))]) (aU.cons (aL.mk rfl) (aU.cons (aL.mk rfl) aU.nil)) (fun w=>Bk rfl rfl w)) ?_;refine SW.jC (i:=1) (j:=12) (by kernel_rfl) rfl rfl ?_ ?_
   ·refine St.ee (Ev.l0 (.mk rfl) eA) ?_
    refine St.nn ?_;refine SW.go ?_;refine SW.bG (i:=12) (by kernel_rfl) rfl ?_;refine St.cn rfl (.cons (.mk rfl) .nil) eA eZ DH rfl rfl (by simp[Value.cells]) rfl rfl (fun b37=> ?_);refine St.nn ?_;refine SW.go ?_;refine SW.bG (i:=13) (by kernel_rfl) rfl ?_;refine St.cS (.mk rfl) (.mk rfl) eA eZ DH N8 (by simp[Value.oneCell',Value.cells]) (by omega) (by omega) rfl rfl rfl rfl (fun v38 aaD=> ?_);refine St.bB v38 (show _=((cZ (s.drop 1)).take (j+1)).length by rw[bI C6];exact fX) (show _=rows fC ((cZ (s.drop 1)).take (j+1))from uQ (x:=⟨xa,xb⟩) (bI C6)) ?_;refine St.eG v38 (fun sj _=> ?_);refine St.nn ?_;refine SW.go ?_;refine SW.dd 14 rfl (fun _=>Ev.aD (.mk rfl) gR) ?_;refine SW.bG (i:=15) (by kernel_rfl) rfl ?_;refine St.cW (.mk rfl) (.mk rfl) N9 sj (by rfl) ?_;refine St.nn ?_;refine SW.go ?_;refine SW.done (by kernel_rfl) ?_;refine St.aN (St.aA (St.rg ?_));refine St.mv ?_;refine St.ee Ev.a0 ?_;refine St.ak ?_;refine St.nn ?_;refine St.jb (j+1) v38 ⟨by omega,sj⟩
   ·refine St.cn rfl (.cons (.mk rfl) .nil) eA eZ DH rfl rfl (by simp[Value.cells]) rfl rfl (fun b37=> ?_)
    refine St.nn ?_;refine SW.go ?_;refine SW.bG (i:=1) (by kernel_rfl) rfl ?_;refine St.ee (Ev.l0 (.mk rfl) eA) ?_;refine St.nn ?_;refine SW.go ?_;refine SW.bG (i:=13) (by kernel_rfl) rfl ?_;refine St.cS (.mk rfl) (.mk rfl) eA eZ DH N8 (by simp[Value.oneCell',Value.cells]) (by omega) (by omega) rfl rfl rfl rfl (fun v38 aaD=> ?_);refine St.bB v38 (show _=((cZ (s.drop 1)).take (j+1)).length by rw[bI C6];exact fX) (show _=rows fC ((cZ (s.drop 1)).take (j+1))from uQ (x:=⟨xa,xb⟩) (bI C6)) ?_;refine St.eG v38 (fun sj _=> ?_);refine St.nn ?_;refine SW.go ?_;refine SW.dd 14 rfl (fun _=>Ev.aD (.mk rfl) gR) ?_;refine SW.bG (i:=15) (by kernel_rfl) rfl ?_;refine St.cW (.mk rfl) (.mk rfl) N9 sj (by rfl) ?_;refine St.nn ?_;refine SW.go ?_;refine SW.done (by kernel_rfl) ?_;refine St.aN (St.aA (St.rg ?_));refine St.mv ?_;refine St.ee Ev.a0 ?_;refine St.ak ?_;refine St.nn ?_;refine St.jb (j+1) v38 ⟨by omega,sj⟩
  ·try simp only[aC]at vR
   obtain rfl:j=(s.length-1)/2:=by omega
   have v7:(cZ (s.drop 1)).take ((s.length-1)/2)=(cZ (s.drop 1)):=List.take_of_length_le (by omega)
   rw[v7];refine St.aV y fC (cZ (s.drop 1)) rfl rfl (fun x hx=>⟨cu _ (List.mem_of_mem_drop (nd hx).1),cu _ (List.mem_of_mem_drop (nd hx).2)⟩) ?_;refine St.gQ (dW ⟨x0,⟨y,hy⟩,(cZ (s.drop 1))⟩) [sl fC y (cZ (s.drop 1))] (fun ρ h=>h _ (List.mem_cons_self ..)) ?_;refine St.exit (St.aF (St.aF (St.bH (St.aA (St.rg ?_)))));refine St.ee (Ev.aD (.mk rfl) eb) ?_;refine St.ee (Ev.l0 (.mk rfl) eQ) ?_;refine St.ee (Ev.bF (.mk rfl) wG trivial (by exact fc)) ?_;refine St.cn rfl (.cons (.mk rfl) .nil) eQ fc NA rfl rfl (by simp[J.aI hy,Value.cells]) rfl rfl (fun TZ=> ?_);refine St.cS (.mk rfl) (.mk rfl) eQ fc NA SD (by intro q hq;simp[Value.cells]at hq;rcases hq with rfl|rfl;rfl;exact hy) (by omega) (by omega) rfl rfl rfl rfl (fun v44 aeH=> ?_);refine St.bB v44 (show _=(X++ [(⟨x0,⟨y,hy⟩,(cZ (s.drop 1))⟩:k5)]).length from fX) (show _=rows ep (X++ [(⟨x0,⟨y,hy⟩,(cZ (s.drop 1))⟩:k5)])from CM (x:=⟨x0,⟨y,hy⟩,(cZ (s.drop 1))⟩)) ?_;refine St.eG v44 (fun vC _=> ?_);refine St.lb dW (xs:=X) (x:=⟨x0,⟨y,hy⟩,(cZ (s.drop 1))⟩) ?_;refine St.ee (Ev.aD (.mk rfl) eb) ?_;refine St.cW (.mk rfl) (.mk rfl) YR vC (by rfl) ?_;refine St.nil (St.aN (St.aA (St.rg ?_)));refine St.ee Ev.a0 ?_;refine St.mv ?_;refine St.nn ?_;refine St.jb (k+1) (v44,X++ [(⟨x0,⟨y,hy⟩,(cZ (s.drop 1))⟩:k5)]) ⟨by omega,vC,by rw[bI hs,List.map_append,hX,bN,bN,List.map_append];exact congrArg (fun q=>List.map Q1 (List.take k iK)++ [q]) (FF Qr).symm,fun x hx=>(List.mem_append.1 hx).elim (Q2 x) fun q=>by rw[List.mem_singleton.1 q];exact cu x0 (List.mem_of_getElem? Qr)⟩
 ·try simp only[aC]at vE
  obtain rfl:k=iK.length:=by omega
  rw[List.take_length]at hX;refine St.exit (St.aF (St.aF (St.bH (St.aA (St.sr ?_)))));refine St.ee (Ev.bF (.mk rfl) p9 trivial (by exact nK)) ?_;refine St.sA (.mk rfl) (.mk rfl) nK ?_ (h1:=(by simp[hz]));refine St.nn (St.aX ?_);refine St.aV vz ep X rfl rfl Q2 ?_;refine St.gQ (bU ⟨⟨vz,hz⟩,X⟩) [sl ep vz X,aY dW X] (fun ρ h=>h) ?_;refine St.KJ ⟨⟨vz,hz⟩,X⟩ (g:=bN iK) (dQ ⟨⟨vz,hz⟩,X⟩) rfl hX ?_;refine St.rT [_] [aG (cw (bN iK) (dQ ⟨⟨vz,hz⟩,X⟩))] Tryz.results54 ⟨⟨_,_,_,_,rfl,ju.mem,.inl ⟨⟨_,p9⟩,nK,rfl⟩⟩,trivial⟩ ?_;rfl
def uR (names:List cQ)(ps:List Int)(k:Nat):List dc:=(List.range k).map fun i=>(names.getD i [],if i=0 then []else [ps.getD i 0])
theorem CN (names:List cQ)(ps:List Int)(k:Nat):uR names ps (k+1)=uR names ps k++ [(names.getD k [],if k=0 then []else [ps.getD k 0])]:=by
 unfold uR;rw[List.range_succ,List.map_append];rfl
theorem CO {X:List jj}{x:jj}:rows e6 X++ [sv x.name,x.pv.1]=rows e6 (X++ [x]):=by rw[cz];rfl
theorem pL {X:List cv}{x:cv}:rows cI X++EN x=rows cI (X++ [x]):=by rw[cz];rfl
set_option maxHeartbeats 800000 in
theorem r9 (u1 u2 u3:Value)(names:List cQ)(ps:List Int)(hu3:u3.oneCell'=true)(hlen:ps.length=names.length)(hl:names.length≤60):fF Tryz.prog 52 #[u1,u2,u3] ([bp fx names u1,bp aK ps u2].map aG) (fun v H'=>∃(tv:ck) (ts:List jj),v= .agg #[tv.1,u3]∧ts.map bf=uR names ps names.length∧H'=[aG (sl e6 tv.1 ts),aG (aY ew ts)]):=by
 refine fF.body (args:=[u1,u2,u3]) 38 Tryz.func52 rfl Tryz.ntmps52 rfl (fun c=> ?_);refine St.cast (H':=[aG (bp fx names u1),aG (bp aK ps u2)]) rfl ?_;refine St.seq ?_;refine St.bp fx names u1 (fun OQ=> ?_);refine St.bp aK ps u2 (fun hu2=> ?_);refine St.wf u1 (fun Ti _=> ?_);refine St.wf u2 (fun aaE _=> ?_);refine St.rg ?_;refine St.alloc P7 rfl (fun b6=> ?_);refine St.nn (St.sr ?_);refine St.alloc P7 rfl (fun b7=> ?_);refine St.nn (St.seq (St.sr ?_));refine St.mv ?_;refine St.ee (Ev.ao (.mk rfl) ll) ?_;refine St.mv ?_;refine St.nn (St.block ?_);refine St.jw 165 2 ?_;refine St.bB (.slice none 0 0) (show _=([]:List jj).length from rfl) (show _=rows e6 []from rfl) ?_;refine St.da ew ?_;refine St.mf (ι:=Nat) (κ:=Value×List jj) (fun k z T=>(13,iv k)::T) (fun k z=>[ae b7 (.cells [z.1,(.slice none 0 0)].toArray 25 (0,0)),row z.1 165 2 (z.2).length (rows e6 (z.2)),aG (aY ew z.2),ae b6 (.cells [(.slice none 0 0),(.slice none 0 0)].toArray 25 (0,0)),aG (sl fx u1 names),aG (sl aK u2 ps)]) (fun k z=>k≤names.length∧z.1.oneCell'=true∧z.2.map bf=uR names ps k∧∀x∈z.2,e6.wf x) (fun k z=>names.length-k) 0 ((.slice none 0 0),[]) (aE.cons 1 rfl (aE.cons 2 rfl (aE.cons 6 rfl (aE.cons 7 rfl (aE.cons 11 rfl (aE.cons 12 rfl aE.nil)))))) ⟨Nat.zero_le _,rfl,rfl,fun x hx=>by cases hx⟩ ?_;rintro k ⟨vz,X⟩ ⟨hk,hz,hX,Q2⟩
 dsimp only at hz hX Q2⊢
 have R3:=congrArg List.length hX
 rw[List.length_map,uR,List.length_map,List.length_range]at R3;refine St.sr ?_;refine St.ee Ev.dn ?_;refine St.nn (St.seq ?_);refine St.cond _ rfl (fun pF=> ?_) (fun pF=> ?_)
 ·try simp only[aC]at pF
  obtain⟨nm,UJ⟩:=aO (show k<names.length by omega);obtain⟨p,hp⟩:=aO (show k<ps.length by omega)
  have hgn:names.getD k []=nm:=by rw[List.getD_eq_getElem?_getD,UJ];rfl
  have hgp:ps.getD k 0=p:=by rw[List.getD_eq_getElem?_getD,hp];rfl
  have Ss:=Ti nm (List.mem_of_getElem? UJ)
  have Kz:=aaE p (List.mem_of_getElem? hp)
  have cE:=CN names ps k
  refine St.skip (St.aA (St.seq (St.block (St.sr ?_))));refine St.mv ?_;refine St.ee (Ev.aR (k:=k) (.mk rfl) (.mk rfl) ll EY (by omega) (by omega)) ?_;refine St.ee (Ev.ff (.mk rfl) UJ df trivial rfl) ?_;refine St.ak ?_;refine St.ak ?_;refine St.nn (St.sr ?_);refine St.mv ?_;refine St.ee (Ev.build (ps:=[(0,(.tmp 18))]) (aU.cons (aL.mk rfl) aU.nil) (fun w=>Gj rfl w)) ?_;refine St.alloc wI rfl (fun jc=> ?_);refine St.sA (.mk rfl) (.mk rfl) im ?_;refine St.nn ?_;refine St.join (ι:=Value) (fun y T=>T) (fun y=>[ae jc (.cells [sv nm,y].toArray 165 (0,0)),aG (sl aK y (if k=0 then []else [p])),ae b7 (.cells [vz,(.slice none 0 0)].toArray 25 (0,0)),row vz 165 2 (X).length (rows e6 (X)),aG (aY ew X),ae b6 (.cells [(.slice none 0 0),(.slice none 0 0)].toArray 25 (0,0)),aG (sl fx u1 names),aG (sl aK u2 ps)]) (fun y=>y.oneCell'=true) (aE.cons 1 rfl (aE.cons 2 rfl (aE.cons 6 rfl (aE.cons 7 rfl (aE.cons 10 rfl (aE.cons 11 rfl (aE.cons 12 rfl (aE.cons 13 rfl aE.nil)))))))) ?_ ?_
  ·refine St.sr ?_
   refine St.mv ?_;refine St.ee Ev.qn ?_;refine St.nn ?_;refine St.cond _ rfl (fun qs=> ?_) (fun qs=> ?_)
   ·try simp only[aC]at qs
    rw[if_neg (show ¬k=0 by omega)];refine St.rg ?_;refine St.mv ?_;refine St.mv ?_;refine St.ee (Ev.aR (k:=k) (.mk rfl) (.mk rfl) bE cr (by omega) (by omega)) ?_;refine St.ee (Ev.ff (.mk rfl) hp bP trivial rfl) ?_;refine St.cn rfl (.cons (.mk rfl) .nil) bE cr eJ rfl rfl (by simp[Value.cells]) rfl rfl (fun b26=> ?_);refine St.aV (.slice (some ⟨b26,0,none⟩) 1 1) aK [p] rfl rfl (Gr Kz) ?_;refine St.ee (Ev.aD (.mk rfl) kk) ?_;refine St.cW (.mk rfl) (.mk rfl) eI rfl (by rfl) ?_;refine St.nn ?_;refine St.mE (.slice (some ⟨b26,0,none⟩) 1 1) rfl
   ·try simp only[aC]at qs
    rw[if_pos (show k=0 by omega)];refine St.hY aK ?_;refine St.skip (St.aA ?_);refine St.mE (.slice none 0 0) rfl
  ·intro y hy
   have A9:(⟨nm,⟨y,hy⟩,if k=0 then []else [p]⟩:jj)=⟨nm,⟨y,hy⟩,if k=0 then []else [p]⟩:=rfl
   refine St.rg ?_;refine St.ee (Ev.aD (.mk rfl) fm) ?_;refine St.ee (Ev.l0 (.mk rfl) eW) ?_;refine St.ee (Ev.bF (.mk rfl) za trivial (by exact im)) ?_;refine St.cn rfl (.cons (.mk rfl) .nil) eW im NB rfl rfl (by simp[J.aI hy,Value.cells]) rfl rfl (fun b31=> ?_);refine St.cS (.mk rfl) (.mk rfl) eW im NB SF (by intro q hq;simp[Value.cells]at hq;rcases hq with rfl|rfl;rfl;exact hy) (by omega) (by omega) rfl rfl rfl rfl (fun XM aeI=> ?_);refine St.gQ (ew ⟨nm,⟨y,hy⟩,if k=0 then []else [p]⟩) [sl aK y (if k=0 then []else [p])] (fun ρ h=>h _ (List.mem_cons_self ..)) ?_;refine St.bB XM (show _=(X++ [(⟨nm,⟨y,hy⟩,if k=0 then []else [p]⟩:jj)]).length from fX) (show _=rows e6 (X++ [(⟨nm,⟨y,hy⟩,if k=0 then []else [p]⟩:jj)])from CO (x:=⟨nm,⟨y,hy⟩,if k=0 then []else [p]⟩)) ?_;refine St.eG XM (fun oE _=> ?_);refine St.lb ew (xs:=X) (x:=⟨nm,⟨y,hy⟩,if k=0 then []else [p]⟩) ?_;refine St.ee (Ev.aD (.mk rfl) fm) ?_;refine St.cW (.mk rfl) (.mk rfl) YT oE (by rfl) ?_;refine St.nil (St.aN (St.aA (St.rg ?_)));refine St.ee Ev.a0 ?_;refine St.mv ?_;refine St.nn ?_;refine St.jb (k+1) (XM,X++ [(⟨nm,⟨y,hy⟩,if k=0 then []else [p]⟩:jj)]) ⟨by omega,oE,by rw[List.map_append,hX,cE,hgn,hgp];rfl,fun x hx=>(List.mem_append.1 hx).elim (Q2 x) fun q=>by rw[List.mem_singleton.1 q];exact Ss⟩
 ·try simp only[aC]at pF
  obtain rfl:k=names.length:=by omega
  refine St.exit (St.aF (St.aF (St.bH (St.aA (St.sr ?_)))));refine St.mv ?_;refine St.ee (Ev.aD (.mk rfl) jQ) ?_;refine St.cW (.mk rfl) (.mk rfl) YU hu3 (by rfl) ?_;refine St.nn (St.sr ?_);refine St.ee (Ev.bF (.mk rfl) nI trivial (by exact ln)) ?_;refine St.sA (.mk rfl) (.mk rfl) ln ?_ (h1:=(by simp[hz,hu3]));refine St.nn (St.aX ?_);refine St.aV vz e6 X rfl rfl Q2 ?_;refine St.rT [_] [aG (sl e6 vz X),aG (aY ew X)] Tryz.results52 ⟨⟨_,_,_,_,rfl,ju.mem,.inl ⟨⟨_,nI⟩,ln,rfl⟩⟩,trivial⟩ ?_;exact⟨⟨vz,hz⟩,X,rfl,hX,rfl⟩
set_option maxHeartbeats 800000 in
theorem dJ (b:Nat)(q0 q1 q2 q4 xv:Value)(X:List cv)(word:cQ)(wt:Int)(u w:Value)(t:dB)(iK:List (List Int))(hw:iL word)(qd:bD wt)(Wl:xv.oneCell'=true)(R3:X.length≤100)(hX:∀x∈X,cI.wf x)
 (fz:iK.all (fun xs=>decide (0<xs.length)&&decide (xs.length≤60))=true) (hl:iK.length≤60):fF Tryz.prog 55 ([sv word,iv wt,u,w]++ [Value.pointer (some ⟨b,0,none⟩)]).toArray [aG (isTerm t u),aG (fD aK iK w),aG (aY dX X),ae b (.cells [q0,q1,q2,xv,q4].toArray 32 (0,0)),row xv 96 9 (X).length (rows cI (X))]
 (fun v H'=>∃(xv':Value) (x:cv),v= .tuple #[]∧xv'.oneCell'=true∧jr x=⟨word,bN iK,wt,t⟩∧cI.wf x∧H'=[ae b (.cells [q0,q1,q2,xv',q4].toArray 32 (0,0)),row xv' 96 9 (X++ [x]).length (rows cI (X++ [x])),aG (aY dX (X++ [x]))]):=by
 refine fF.body (args:=[sv word,iv wt,u,w]++ [Value.pointer (some ⟨b,0,none⟩)]) 20 Tryz.func55 rfl Tryz.ntmps55 rfl (fun c=> ?_);refine St.seq ?_;refine St.cast (H':=[aG (isTerm t u),aG (fD aK iK w),aG (aY dX X),ae b (.cells [q0,q1,q2,xv,q4].toArray 32 (0,0)),row xv 96 9 (X).length (rows cI (X))]) rfl ?_;refine St.isTerm t u (fun x hx=> ?_);obtain⟨rfl,rfl,lq⟩:=hx;obtain⟨Pe,TV,R0,NU⟩:=lq;refine St.rg ?_;refine St.cV (.mk rfl) rfl (fun b7=> ?_);refine St.nn ?_;refine St.eV [ae b (.cells [q0,q1,q2,xv,q4].toArray 32 (0,0)),row xv 96 9 (X).length (rows cI (X))] mixed (fun np ns=> ?_);refine SW.dd 0 rfl (fun _=>Ev.aD (.mk rfl) jR) ?_;refine SW.dd 2 rfl (fun _=>Ev.move (.mk rfl)) ?_;refine SW.dd 3 rfl (fun _=>Ev.move (.mk rfl)) ?_;refine SW.dd 4 rfl (fun _=>Ev.bF (.mk rfl) fO trivial (by exact dC)) ?_;refine SW.dd 5 rfl (fun _=>Ev.move (.mk rfl)) ?_;refine SW.jC (i:=1) (j:=6) (by kernel_rfl) rfl rfl ?_ ?_
 ·refine St.ee (Ev.l0 (.mk rfl) j1) ?_
  refine St.nn ?_;refine SW.go ?_;refine SW.bG (i:=6) (by kernel_rfl) rfl ?_;refine St.aw (eN w iK fz hl) y8 (.cons (.mk rfl) .nil) rfl ?_;rintro Jt _ rfl;refine St.bL ?_;refine St.cw (bN iK) Jt (fun y hy=> ?_);obtain⟨rfl,qA⟩:=hy;refine St.nn ?_;refine SW.go ?_;refine SW.dd 7 rfl (fun _=>Ev.build (ps:=[(0,(.tmp 11)),(2,(.tmp 12)),(3,(.tmp 13)),(1,(.tmp 15))]) (aU.cons (aL.mk rfl) (aU.cons (aL.mk rfl) (aU.cons (aL.mk rfl) (aU.cons (aL.mk rfl) aU.nil)))) (fun w=>oq rfl rfl w)) ?_;refine SW.bG (i:=8) (by kernel_rfl) rfl ?_;refine St.cn rfl (.cons (.mk rfl) .nil) j1 oQ EZ rfl rfl (by simp[J.aI y.nv.2,J.aI x.type.av.2,J.aI x.av.2,Value.cells]) rfl rfl (fun NR=> ?_);refine St.nn ?_;refine SW.go ?_;refine SW.bG (i:=9) (by kernel_rfl) rfl ?_;refine St.cS (.mk rfl) (.mk rfl) j1 oQ EZ P9 (by intro q hq;exact cI.one (⟨word,y,wt,x⟩:cv) q (by show q∈EN (⟨word,y,wt,x⟩:cv);simpa[Value.cells]using hq)) (by omega) (by omega) rfl rfl rfl rfl (fun iD F5=> ?_);refine St.gQ (dX (⟨word,y,wt,x⟩:cv)) [bU y,bO x] (fun ρ h=>h) ?_;refine St.bB iD (show _=(X++ [(⟨word,y,wt,x⟩:cv)]).length from fX) (show _=rows cI (X++ [(⟨word,y,wt,x⟩:cv)])from pL (x:=(⟨word,y,wt,x⟩:cv))) ?_;refine St.eG iD (fun fN _=> ?_);refine St.lb dX (xs:=X) (x:=(⟨word,y,wt,x⟩:cv)) ?_;refine St.nn ?_;refine SW.go ?_;refine SW.dd 10 rfl (fun _=>Ev.aD (.mk rfl) jR) ?_;refine SW.bG (i:=11) (by kernel_rfl) rfl ?_;refine St.cW (.mk rfl) (.mk rfl) PA fN (by rfl) ?_;refine St.nn ?_;refine SW.go ?_;refine SW.done (by kernel_rfl) ?_;refine St.jB ?_;refine St.rT [] [ae b (.cells [q0,q1,q2,iD,q4].toArray 32 (0,0)),row iD 96 9 (X++ [(⟨word,y,wt,x⟩:cv)]).length (rows cI (X++ [(⟨word,y,wt,x⟩:cv)])),aG (aY dX (X++ [(⟨word,y,wt,x⟩:cv)]))] Tryz.results55 trivial ?_;exact⟨iD,(⟨word,y,wt,x⟩:cv),rfl,fN,by rw[←qA];rfl,⟨hw,qd,Pe,TV,R0,NU⟩,rfl⟩
 ·refine St.aw (eN w iK fz hl) y8 (.cons (.mk rfl) .nil) rfl ?_
  rintro Jt _ rfl;refine St.bL ?_;refine St.cw (bN iK) Jt (fun y hy=> ?_);obtain⟨rfl,qA⟩:=hy;refine St.nn ?_;refine SW.go ?_;refine SW.dd 7 rfl (fun _=>Ev.build (ps:=[(0,(.tmp 11)),(2,(.tmp 12)),(3,(.tmp 13)),(1,(.tmp 15))]) (aU.cons (aL.mk rfl) (aU.cons (aL.mk rfl) (aU.cons (aL.mk rfl) (aU.cons (aL.mk rfl) aU.nil)))) (fun w=>oq rfl rfl w)) ?_;refine SW.jC (i:=1) (j:=8) (by kernel_rfl) rfl rfl ?_ ?_
  ·refine St.ee (Ev.l0 (.mk rfl) j1) ?_
   refine St.nn ?_;refine SW.go ?_;refine SW.bG (i:=8) (by kernel_rfl) rfl ?_;refine St.cn rfl (.cons (.mk rfl) .nil) j1 oQ EZ rfl rfl (by simp[J.aI y.nv.2,J.aI x.type.av.2,J.aI x.av.2,Value.cells]) rfl rfl (fun NR=> ?_);refine St.nn ?_;refine SW.go ?_;refine SW.bG (i:=9) (by kernel_rfl) rfl ?_;refine St.cS (.mk rfl) (.mk rfl) j1 oQ EZ P9 (by intro q hq;exact cI.one (⟨word,y,wt,x⟩:cv) q (by show q∈EN (⟨word,y,wt,x⟩:cv);simpa[Value.cells]using hq)) (by omega) (by omega) rfl rfl rfl rfl (fun iD F5=> ?_);refine St.gQ (dX (⟨word,y,wt,x⟩:cv)) [bU y,bO x] (fun ρ h=>h) ?_;refine St.bB iD (show _=(X++ [(⟨word,y,wt,x⟩:cv)]).length from fX) (show _=rows cI (X++ [(⟨word,y,wt,x⟩:cv)])from pL (x:=(⟨word,y,wt,x⟩:cv))) ?_;refine St.eG iD (fun fN _=> ?_);refine St.lb dX (xs:=X) (x:=(⟨word,y,wt,x⟩:cv)) ?_;refine St.nn ?_;refine SW.go ?_;refine SW.dd 10 rfl (fun _=>Ev.aD (.mk rfl) jR) ?_;refine SW.bG (i:=11) (by kernel_rfl) rfl ?_;refine St.cW (.mk rfl) (.mk rfl) PA fN (by rfl) ?_;refine St.nn ?_;refine SW.go ?_;refine SW.done (by kernel_rfl) ?_;refine St.jB ?_;refine St.rT [] [ae b (.cells [q0,q1,q2,iD,q4].toArray 32 (0,0)),row iD 96 9 (X++ [(⟨word,y,wt,x⟩:cv)]).length (rows cI (X++ [(⟨word,y,wt,x⟩:cv)])),aG (aY dX (X++ [(⟨word,y,wt,x⟩:cv)]))] Tryz.results55 trivial ?_;exact⟨iD,(⟨word,y,wt,x⟩:cv),rfl,fN,by rw[←qA];rfl,⟨hw,qd,Pe,TV,R0,NU⟩,rfl⟩
  ·refine St.cn rfl (.cons (.mk rfl) .nil) j1 oQ EZ rfl rfl (by simp[J.aI y.nv.2,J.aI x.type.av.2,J.aI x.av.2,Value.cells]) rfl rfl (fun NR=> ?_)
   refine St.nn ?_;refine SW.go ?_;refine SW.bG (i:=1) (by kernel_rfl) rfl ?_;refine St.ee (Ev.l0 (.mk rfl) j1) ?_;refine St.nn ?_;refine SW.go ?_;refine SW.bG (i:=9) (by kernel_rfl) rfl ?_;refine St.cS (.mk rfl) (.mk rfl) j1 oQ EZ P9 (by intro q hq;exact cI.one (⟨word,y,wt,x⟩:cv) q (by show q∈EN (⟨word,y,wt,x⟩:cv);simpa[Value.cells]using hq)) (by omega) (by omega) rfl rfl rfl rfl (fun iD F5=> ?_);refine St.gQ (dX (⟨word,y,wt,x⟩:cv)) [bU y,bO x] (fun ρ h=>h) ?_;refine St.bB iD (show _=(X++ [(⟨word,y,wt,x⟩:cv)]).length from fX) (show _=rows cI (X++ [(⟨word,y,wt,x⟩:cv)])from pL (x:=(⟨word,y,wt,x⟩:cv))) ?_;refine St.eG iD (fun fN _=> ?_);refine St.lb dX (xs:=X) (x:=(⟨word,y,wt,x⟩:cv)) ?_;refine St.nn ?_;refine SW.go ?_;refine SW.dd 10 rfl (fun _=>Ev.aD (.mk rfl) jR) ?_;refine SW.bG (i:=11) (by kernel_rfl) rfl ?_;refine St.cW (.mk rfl) (.mk rfl) PA fN (by rfl) ?_;refine St.nn ?_;refine SW.go ?_;refine SW.done (by kernel_rfl) ?_;refine St.jB ?_;refine St.rT [] [ae b (.cells [q0,q1,q2,iD,q4].toArray 32 (0,0)),row iD 96 9 (X++ [(⟨word,y,wt,x⟩:cv)]).length (rows cI (X++ [(⟨word,y,wt,x⟩:cv)])),aG (aY dX (X++ [(⟨word,y,wt,x⟩:cv)]))] Tryz.results55 trivial ?_;exact⟨iD,(⟨word,y,wt,x⟩:cv),rfl,fN,by rw[←qA];rfl,⟨hw,qd,Pe,TV,R0,NU⟩,rfl⟩
end Go.Proofs.YtolmidffiegkaaaGreatDoor
