/-
  Laws of walks through programs, and facts on grammars, trees and queries.
  Conditions: none.
-/
import Derived.Test.YtolmidffiegkaaaGreatDoorGB2
import Derived.Test.YtolmidffiegkaaaGreatDoorGB1
import Derived.Test.YtolmidffiegkaaaGreatDoorGB5
set_option maxRecDepth 20000
set_option linter.unusedSimpArgs false
set_option linter.unusedVariables false
namespace Go.Proofs.YtolmidffiegkaaaGreatDoor
open Go Go.J
abbrev e0:dU:= .mk sE []
abbrev t0:dU:= .mk sT []
abbrev aa (a b:dU):dU:= .mk [] [a,b]
abbrev aZ (i:Int):cx:= .mk 2 [] i S0 []
abbrev aJ (a b:cx):cx:= .mk 4 [] 0 S0 [a,b]
abbrev ak (s:dU)(t:cx):cx:= .mk 3 [] 0 s [t]
abbrev bR (n:cV)(s:dU):cx:= .mk 1 n 0 s []
abbrev p0:dU:=aa e0 t0
abbrev Si (q c:cV):cx:=aJ (bR q (aa p0 t0)) (ak e0 (aJ (aJ (bR c (aa t0 (aa t0 t0))) (aJ (aZ 2) (aZ 0))) (aJ (aZ 1) (aZ 0))))
abbrev Yv:cV:=[110,111,116]
def kC (q c:cV)(no:Bool):cx:=ak p0 (ak p0 (if no then aJ (bR Yv (aa t0 t0)) (Si q c)else Si q c))
set_option maxHeartbeats 2000000 in
theorem jP (q cc:cV)(no:Bool)(hq:hP q)(KJ:hP cc):fC Tryz.prog 56 #[sv q,sv cc,.bool no] ([].map aF) (fun v H'=>H'=[aF (isTerm (kC q cc no) v)]):=by
 refine fC.body (args:=[sv q,sv cc,.bool no]) 51 Tryz.func56 rfl Tryz.ntmps56 rfl (fun c=> ?_);refine St.cast (H':=[]) rfl ?_;refine St.sr ?_;refine St.alloc rb rfl (fun b6=> ?_);refine St.nn (St.sr ?_);refine St.ay (jk [101] (by decide)) Dg (.cons (.mk rfl) .nil) rfl ?_;rintro v11 _ rfl;refine St.bK ?_;refine St.aw e0 v11 (fun xe Nt=> ?_);obtain⟨H6,Sj,Sk⟩:=Nt;subst H6;refine St.ay (jk [116] (by decide)) Dg (.cons (.mk rfl) .nil) rfl ?_;rintro v12 _ rfl;refine St.bK ?_;refine St.aw t0 v12 (fun xt Sl=> ?_);obtain⟨H7,Sm,Sn⟩:=Sl;subst H7;refine St.alloc iA rfl (fun b7=> ?_);refine St.alloc iA rfl (fun b8=> ?_);refine St.sA (.mk rfl) (.mk rfl) bD ?_ (h1:=(by simp only[List.all_cons,List.all_nil,Bool.and_true,Bool.and_eq_true];exact⟨rfl,xe.av.2⟩));refine St.sA (.mk rfl) (.mk rfl) bD ?_ (h1:=(by simp only[List.all_cons,List.all_nil,Bool.and_true,Bool.and_eq_true];exact⟨rfl,xt.av.2⟩));refine St.nn (St.sr ?_);refine St.ee (Ev.bH (.mk rfl) bX trivial (by exact bD)) ?_;refine St.ee (Ev.bH (.mk rfl) bX trivial (by exact bD)) ?_;refine St.ay (e8 (aP xe) (aP xt) e0 t0) n1 (.cons (.mk rfl) (.cons (.mk rfl) .nil)) rfl ?_;rintro J3 _ rfl;refine St.bK ?_;refine St.aw p0 J3 (fun xp Q9=> ?_);obtain⟨H8,So,Sp⟩:=Q9;subst H8;refine St.alloc iA rfl (fun b9=> ?_);refine St.sA (.mk rfl) (.mk rfl) bD ?_ (h1:=(by simp only[List.all_cons,List.all_nil,Bool.and_true,Bool.and_eq_true];exact⟨rfl,xp.av.2⟩));refine St.nn (St.seq ?_);refine St.XW 23 24 16 [10] (⟨16,[],fun u=>cJ u ((sv q))⟩::⟨17,[],fun u=>cJ u ((aP xp))⟩::⟨18,[],fun u=>cJ u ((aP xt))⟩::⟨19,[1,2],fun u=>aw (aa p0 t0) u⟩::⟨20,[0,3],fun u=>isTerm (bR q (aa p0 t0)) u⟩::⟨21,[],fun u=>cJ u ((aP xe))⟩::⟨22,[],fun u=>cJ u ((sv cc))⟩::⟨23,[],fun u=>cJ u ((aP xt))⟩::⟨24,[],fun u=>cJ u ((aP xt))⟩::⟨25,[],fun u=>cJ u ((aP xt))⟩::⟨26,[8,9],fun u=>aw (aa t0 t0) u⟩::⟨27,[7,10],fun u=>aw (aa t0 (aa t0 t0)) u⟩::⟨28,[6,11],fun u=>isTerm (bR cc (aa t0 (aa t0 t0))) u⟩::⟨29,[],fun u=>isTerm (aZ 2) u⟩::⟨30,[],fun u=>isTerm (aZ 0) u⟩::⟨31,[13,14],fun u=>isTerm (aJ (aZ 2) (aZ 0)) u⟩::⟨32,[12,15],fun u=>isTerm (aJ (bR cc (aa t0 (aa t0 t0))) (aJ (aZ 2) (aZ 0))) u⟩::⟨33,[],fun u=>isTerm (aZ 1) u⟩::⟨34,[],fun u=>isTerm (aZ 0) u⟩::⟨35,[17,18],fun u=>isTerm (aJ (aZ 1) (aZ 0)) u⟩::⟨36,[16,19],fun u=>isTerm (aJ (aJ (bR cc (aa t0 (aa t0 t0))) (aJ (aZ 2) (aZ 0))) (aJ (aZ 1) (aZ 0))) u⟩::⟨37,[5,20],fun u=>isTerm (ak e0 (aJ (aJ (bR cc (aa t0 (aa t0 t0))) (aJ (aZ 2) (aZ 0))) (aJ (aZ 1) (aZ 0)))) u⟩::⟨38,[4,21],fun u=>isTerm (aJ (bR q (aa p0 t0)) (ak e0 (aJ (aJ (bR cc (aa t0 (aa t0 t0))) (aJ (aZ 2) (aZ 0))) (aJ (aZ 1) (aZ 0))))) u⟩::⟨10,[],fun u=>cJ u u⟩::[]) ((16,[])::(17,[])::(18,[])::(19,[1,2])::(20,[0,3])::(21,[])::(22,[])::(23,[])::(24,[])::(25,[])::(26,[8,9])::(27,[7,10])::(28,[6,11])::(29,[])::(30,[])::(31,[13,14])::(32,[12,15])::(33,[])::(34,[])::(35,[17,18])::(36,[16,19])::(37,[5,20])::(38,[4,21])::(10,[])::[]) [23,22] rfl rfl rb rfl (by kernel_rfl) rfl rfl mixed (by kernel_rfl) (by kernel_rfl) (by rfl) (fun e=>[(10,e 23),(38,e 22)]) (fun e=>[aF (cJ (e 23) (e 23)),aF (isTerm (aJ (bR q (aa p0 t0)) (ak e0 (aJ (aJ (bR cc (aa t0 (aa t0 t0))) (aJ (aZ 2) (aZ 0))) (aJ (aZ 1) (aZ 0))))) (e 22))]) (fun _=>rfl) (fun _=>rfl) ?_ (fun e jT Yw=> ?_)
 ·refine ao.c0 (fun c e az=> ?_) ?_
  ·refine St.aJ ?_
   refine St.mv ?_;refine St.fact (cJ ((sv q)) ((sv q))) (fun _ _ _=>rfl) ?_;refine St.nn ?_;exact St.aM _ rfl _ rfl
  refine ao.c0 (fun c e az=> ?_) ?_
  ·refine St.aJ ?_
   refine St.ee (Ev.bH (.mk rfl) bX trivial (by exact bD)) ?_;refine St.fact (cJ ((aP xp)) ((aP xp))) (fun _ _ _=>rfl) ?_;refine St.nn ?_;exact St.aM _ rfl _ rfl
  refine ao.c0 (fun c e az=> ?_) ?_
  ·refine St.aJ ?_
   refine St.ee (Ev.bH (.mk rfl) bX trivial (by exact bD)) ?_;refine St.fact (cJ ((aP xt)) ((aP xt))) (fun _ _ _=>rfl) ?_;refine St.nn ?_;exact St.aM _ rfl _ rfl
  refine ao.cc (fun e=>[(17,e 1),(18,e 2)]) (fun e=>[aF (cJ (e 1) ((aP xp))),aF (cJ (e 2) ((aP xt)))]) (fun c e az=> ?_) ?_
  ·refine St.ca ?_
   refine St.bT (P:=Tryz.prog) 17 (e 1) ((aP xp)) rfl ?_;refine St.bT (P:=Tryz.prog) 18 (e 2) ((aP xt)) rfl ?_;refine St.ay (e8 (aP xp) (aP xt) p0 t0) n1 (.cons (.mk rfl) (.cons (.mk rfl) .nil)) rfl ?_;rintro v19 _ rfl;refine St.bK ?_;refine St.nn ?_;exact St.aM _ rfl _ rfl
  refine ao.cc (fun e=>[(16,e 0),(19,e 3)]) (fun e=>[aF (cJ (e 0) ((sv q))),aF (aw (aa p0 t0) (e 3))]) (fun c e az=> ?_) ?_
  ·refine St.ca ?_
   refine St.bT (P:=Tryz.prog) 16 (e 0) ((sv q)) rfl ?_;refine St.ay (dD q hq (e 3) (aa p0 t0)) l9 (.cons (.mk rfl) (.cons (.mk rfl) .nil)) rfl ?_;rintro v20 _ rfl;refine St.bK ?_;refine St.nn ?_;exact St.aM _ rfl _ rfl
  refine ao.c0 (fun c e az=> ?_) ?_
  ·refine St.aJ ?_
   refine St.ee (Ev.bH (.mk rfl) bX trivial (by exact bD)) ?_;refine St.fact (cJ ((aP xe)) ((aP xe))) (fun _ _ _=>rfl) ?_;refine St.nn ?_;exact St.aM _ rfl _ rfl
  refine ao.c0 (fun c e az=> ?_) ?_
  ·refine St.aJ ?_
   refine St.mv ?_;refine St.fact (cJ ((sv cc)) ((sv cc))) (fun _ _ _=>rfl) ?_;refine St.nn ?_;exact St.aM _ rfl _ rfl
  refine ao.c0 (fun c e az=> ?_) ?_
  ·refine St.aJ ?_
   refine St.ee (Ev.bH (.mk rfl) bX trivial (by exact bD)) ?_;refine St.fact (cJ ((aP xt)) ((aP xt))) (fun _ _ _=>rfl) ?_;refine St.nn ?_;exact St.aM _ rfl _ rfl
  refine ao.c0 (fun c e az=> ?_) ?_
  ·refine St.aJ ?_
   refine St.ee (Ev.bH (.mk rfl) bX trivial (by exact bD)) ?_;refine St.fact (cJ ((aP xt)) ((aP xt))) (fun _ _ _=>rfl) ?_;refine St.nn ?_;exact St.aM _ rfl _ rfl
  refine ao.c0 (fun c e az=> ?_) ?_
  ·refine St.aJ ?_
   refine St.ee (Ev.bH (.mk rfl) bX trivial (by exact bD)) ?_;refine St.fact (cJ ((aP xt)) ((aP xt))) (fun _ _ _=>rfl) ?_;refine St.nn ?_;exact St.aM _ rfl _ rfl
  refine ao.cc (fun e=>[(24,e 8),(25,e 9)]) (fun e=>[aF (cJ (e 8) ((aP xt))),aF (cJ (e 9) ((aP xt)))]) (fun c e az=> ?_) ?_
  ·refine St.ca ?_
   refine St.bT (P:=Tryz.prog) 24 (e 8) ((aP xt)) rfl ?_;refine St.bT (P:=Tryz.prog) 25 (e 9) ((aP xt)) rfl ?_;refine St.ay (e8 (aP xt) (aP xt) t0 t0) n1 (.cons (.mk rfl) (.cons (.mk rfl) .nil)) rfl ?_;rintro gh _ rfl;refine St.bK ?_;refine St.nn ?_;exact St.aM _ rfl _ rfl
  refine ao.cc (fun e=>[(23,e 7),(26,e 10)]) (fun e=>[aF (cJ (e 7) ((aP xt))),aF (aw (aa t0 t0) (e 10))]) (fun c e az=> ?_) ?_
  ·refine St.ca ?_
   refine St.bT (P:=Tryz.prog) 23 (e 7) ((aP xt)) rfl ?_;refine St.ay (e8 (aP xt) (e 10) t0 (aa t0 t0)) n1 (.cons (.mk rfl) (.cons (.mk rfl) .nil)) rfl ?_;rintro v27 _ rfl;refine St.bK ?_;refine St.nn ?_;exact St.aM _ rfl _ rfl
  refine ao.cc (fun e=>[(22,e 6),(27,e 11)]) (fun e=>[aF (cJ (e 6) ((sv cc))),aF (aw (aa t0 (aa t0 t0)) (e 11))]) (fun c e az=> ?_) ?_
  ·refine St.ca ?_
   refine St.bT (P:=Tryz.prog) 22 (e 6) ((sv cc)) rfl ?_;refine St.ay (dD cc KJ (e 11) (aa t0 (aa t0 t0))) l9 (.cons (.mk rfl) (.cons (.mk rfl) .nil)) rfl ?_;rintro v28 _ rfl;refine St.bK ?_;refine St.nn ?_;exact St.aM _ rfl _ rfl
  refine ao.c0 (fun c e az=> ?_) ?_
  ·refine St.aJ ?_
   refine St.ay (cP 2 (by unfold bF;decide)) jz (.cons (.mk rfl) .nil) rfl ?_;rintro v29 _ rfl;refine St.bK ?_;refine St.nn ?_;exact St.aM _ rfl _ rfl
  refine ao.c0 (fun c e az=> ?_) ?_
  ·refine St.aJ ?_
   refine St.ay (cP 0 (by unfold bF;decide)) jz (.cons (.mk rfl) .nil) rfl ?_;rintro v30 _ rfl;refine St.bK ?_;refine St.nn ?_;exact St.aM _ rfl _ rfl
  refine ao.cc (fun e=>[(29,e 13),(30,e 14)]) (fun e=>[aF (isTerm (aZ 2) (e 13)),aF (isTerm (aZ 0) (e 14))]) (fun c e az=> ?_) ?_
  ·refine St.ca ?_
   refine St.ay (db (e 13) (e 14) (aZ 2) (aZ 0)) m6 (.cons (.mk rfl) (.cons (.mk rfl) .nil)) rfl ?_;rintro v31 _ rfl;refine St.bK ?_;refine St.nn ?_;exact St.aM _ rfl _ rfl
  refine ao.cc (fun e=>[(28,e 12),(31,e 15)]) (fun e=>[aF (isTerm (bR cc (aa t0 (aa t0 t0))) (e 12)),aF (isTerm (aJ (aZ 2) (aZ 0)) (e 15))]) (fun c e az=> ?_) ?_
  ·refine St.ca ?_
   refine St.ay (db (e 12) (e 15) (bR cc (aa t0 (aa t0 t0))) (aJ (aZ 2) (aZ 0))) m6 (.cons (.mk rfl) (.cons (.mk rfl) .nil)) rfl ?_;rintro WD _ rfl;refine St.bK ?_;refine St.nn ?_;exact St.aM _ rfl _ rfl
  refine ao.c0 (fun c e az=> ?_) ?_
  ·refine St.aJ ?_
   refine St.ay (cP 1 (by unfold bF;decide)) jz (.cons (.mk rfl) .nil) rfl ?_;rintro v33 _ rfl;refine St.bK ?_;refine St.nn ?_;exact St.aM _ rfl _ rfl
  refine ao.c0 (fun c e az=> ?_) ?_
  ·refine St.aJ ?_
   refine St.ay (cP 0 (by unfold bF;decide)) jz (.cons (.mk rfl) .nil) rfl ?_;rintro Kb _ rfl;refine St.bK ?_;refine St.nn ?_;exact St.aM _ rfl _ rfl
  refine ao.cc (fun e=>[(33,e 17),(34,e 18)]) (fun e=>[aF (isTerm (aZ 1) (e 17)),aF (isTerm (aZ 0) (e 18))]) (fun c e az=> ?_) ?_
  ·refine St.ca ?_
   refine St.ay (db (e 17) (e 18) (aZ 1) (aZ 0)) m6 (.cons (.mk rfl) (.cons (.mk rfl) .nil)) rfl ?_;rintro v35 _ rfl;refine St.bK ?_;refine St.nn ?_;exact St.aM _ rfl _ rfl
  refine ao.cc (fun e=>[(32,e 16),(35,e 19)]) (fun e=>[aF (isTerm (aJ (bR cc (aa t0 (aa t0 t0))) (aJ (aZ 2) (aZ 0))) (e 16)),aF (isTerm (aJ (aZ 1) (aZ 0)) (e 19))]) (fun c e az=> ?_) ?_
  ·refine St.ca ?_
   refine St.ay (db (e 16) (e 19) (aJ (bR cc (aa t0 (aa t0 t0))) (aJ (aZ 2) (aZ 0))) (aJ (aZ 1) (aZ 0))) m6 (.cons (.mk rfl) (.cons (.mk rfl) .nil)) rfl ?_;rintro v36 _ rfl;refine St.bK ?_;refine St.nn ?_;exact St.aM _ rfl _ rfl
  refine ao.cc (fun e=>[(21,e 5),(36,e 20)]) (fun e=>[aF (cJ (e 5) ((aP xe))),aF (isTerm (aJ (aJ (bR cc (aa t0 (aa t0 t0))) (aJ (aZ 2) (aZ 0))) (aJ (aZ 1) (aZ 0))) (e 20))]) (fun c e az=> ?_) ?_
  ·refine St.ca ?_
   refine St.bT (P:=Tryz.prog) 21 (e 5) ((aP xe)) rfl ?_;refine St.ay (cu (aP xe) (e 20) e0 (aJ (aJ (bR cc (aa t0 (aa t0 t0))) (aJ (aZ 2) (aZ 0))) (aJ (aZ 1) (aZ 0)))) k5 (.cons (.mk rfl) (.cons (.mk rfl) .nil)) rfl ?_;rintro v37 _ rfl;refine St.bK ?_;refine St.nn ?_;exact St.aM _ rfl _ rfl
  refine ao.cc (fun e=>[(20,e 4),(37,e 21)]) (fun e=>[aF (isTerm (bR q (aa p0 t0)) (e 4)),aF (isTerm (ak e0 (aJ (aJ (bR cc (aa t0 (aa t0 t0))) (aJ (aZ 2) (aZ 0))) (aJ (aZ 1) (aZ 0)))) (e 21))]) (fun c e az=> ?_) ?_
  ·refine St.ca ?_
   refine St.ay (db (e 4) (e 21) (bR q (aa p0 t0)) (ak e0 (aJ (aJ (bR cc (aa t0 (aa t0 t0))) (aJ (aZ 2) (aZ 0))) (aJ (aZ 1) (aZ 0))))) m6 (.cons (.mk rfl) (.cons (.mk rfl) .nil)) rfl ?_;rintro v38 _ rfl;refine St.bK ?_;refine St.nn ?_;exact St.aM _ rfl _ rfl
  refine ao.c0 (fun c e az=> ?_) ?_
  ·refine St.aJ ?_
   refine St.alloc rb rfl (fun jT=> ?_);refine St.fact (cJ (.pointer (some ⟨jT,0,none⟩)) (.pointer (some ⟨jT,0,none⟩))) (fun _ _ _=>rfl) ?_;refine St.nn ?_;exact St.aM _ rfl _ rfl
  exact ao.nil
 refine St.ca ?_;refine St.slot 10 _ rfl Yw ?_;refine St.isTerm (aJ (bR q (aa p0 t0)) (ak e0 (aJ (aJ (bR cc (aa t0 (aa t0 t0))) (aJ (aZ 2) (aZ 0))) (aJ (aZ 1) (aZ 0))))) (e 22) (fun xm E2=> ?_);obtain⟨Yx,acT,acU⟩:=E2;rw[Yx];refine St.sA (.mk rfl) (.mk rfl) cy ?_ (h1:=(by simp only[List.all_cons,List.all_nil,Bool.and_true,Bool.and_eq_true];exact⟨rfl,rfl,rfl,rfl,xm.type.av.2,xm.av.2⟩));refine St.nn (St.seq (St.sr ?_));refine St.mv ?_;refine St.nn ?_;refine St.cond _ rfl (fun zG=> ?_) (fun zG=> ?_)
 ·skip
  refine St.MB 6 40 [] (⟨40,[],fun u=>cJ u ((aP xt))⟩::⟨41,[],fun u=>cJ u ((aP xt))⟩::⟨42,[0,1],fun u=>aw (aa t0 t0) u⟩::⟨43,[2],fun u=>isTerm (bR [110,111,116] (aa t0 t0)) u⟩::⟨44,[],fun u=>cJ u ((bc xm))⟩::⟨45,[3,4],fun u=>isTerm (aJ (bR [110,111,116] (aa t0 t0)) (aJ (bR q (aa p0 t0)) (ak e0 (aJ (aJ (bR cc (aa t0 (aa t0 t0))) (aJ (aZ 2) (aZ 0))) (aJ (aZ 1) (aZ 0)))))) u⟩::[]) ((40,[])::(41,[])::(42,[0,1])::(43,[2])::(44,[])::(45,[3,4])::[]) [5] rfl rfl mixed (by kernel_rfl) (by kernel_rfl) (by rfl) (fun e=>[(45,e 5)]) (fun e=>[aF (isTerm (aJ (bR [110,111,116] (aa t0 t0)) (aJ (bR q (aa p0 t0)) (ak e0 (aJ (aJ (bR cc (aa t0 (aa t0 t0))) (aJ (aZ 2) (aZ 0))) (aJ (aZ 1) (aZ 0)))))) (e 5))]) (fun _=>rfl) (fun _=>rfl) ?_ (fun e=> ?_)
  ·refine ao.c0 (fun c e az=> ?_) ?_
   ·refine St.aJ ?_
    refine St.ee (Ev.bH (.mk rfl) bX trivial (by exact bD)) ?_;refine St.fact (cJ ((aP xt)) ((aP xt))) (fun _ _ _=>rfl) ?_;refine St.nn ?_;exact St.aM _ rfl _ rfl
   refine ao.c0 (fun c e az=> ?_) ?_
   ·refine St.aJ ?_
    refine St.ee (Ev.bH (.mk rfl) bX trivial (by exact bD)) ?_;refine St.fact (cJ ((aP xt)) ((aP xt))) (fun _ _ _=>rfl) ?_;refine St.nn ?_;exact St.aM _ rfl _ rfl
   refine ao.cc (fun e=>[(40,e 0),(41,e 1)]) (fun e=>[aF (cJ (e 0) ((aP xt))),aF (cJ (e 1) ((aP xt)))]) (fun c e az=> ?_) ?_
   ·refine St.ca ?_
    refine St.bT (P:=Tryz.prog) 40 (e 0) ((aP xt)) rfl ?_;refine St.bT (P:=Tryz.prog) 41 (e 1) ((aP xt)) rfl ?_;refine St.ay (e8 (aP xt) (aP xt) t0 t0) n1 (.cons (.mk rfl) (.cons (.mk rfl) .nil)) rfl ?_;rintro v42 _ rfl;refine St.bK ?_;refine St.nn ?_;exact St.aM _ rfl _ rfl
   refine ao.cc (fun e=>[(42,e 2)]) (fun e=>[aF (aw (aa t0 t0) (e 2))]) (fun c e az=> ?_) ?_
   ·refine St.bK ?_
    refine St.ay (dD [110,111,116] (by decide) (e 2) (aa t0 t0)) l9 (.cons (.mk rfl) (.cons (.mk rfl) .nil)) rfl ?_;rintro v43 _ rfl;refine St.bK ?_;refine St.nn ?_;exact St.aM _ rfl _ rfl
   refine ao.c0 (fun c e az=> ?_) ?_
   ·refine St.aJ ?_
    refine St.ee (Ev.bH (.mk rfl) fH trivial (by exact cy)) ?_;refine St.fact (cJ ((bc xm)) ((bc xm))) (fun _ _ _=>rfl) ?_;refine St.nn ?_;exact St.aM _ rfl _ rfl
   refine ao.cc (fun e=>[(43,e 3),(44,e 4)]) (fun e=>[aF (isTerm (bR [110,111,116] (aa t0 t0)) (e 3)),aF (cJ (e 4) ((bc xm)))]) (fun c e az=> ?_) ?_
   ·refine St.ca ?_
    refine St.bT (P:=Tryz.prog) 44 (e 4) ((bc xm)) rfl ?_;refine St.ay (db (e 3) (bc xm) (bR [110,111,116] (aa t0 t0)) (aJ (bR q (aa p0 t0)) (ak e0 (aJ (aJ (bR cc (aa t0 (aa t0 t0))) (aJ (aZ 2) (aZ 0))) (aJ (aZ 1) (aZ 0)))))) m6 (.cons (.mk rfl) (.cons (.mk rfl) .nil)) rfl ?_;rintro v45 _ rfl;refine St.bK ?_;refine St.nn ?_;exact St.aM _ rfl _ rfl
   exact ao.nil
  refine St.bK ?_;refine St.isTerm (aJ (bR [110,111,116] (aa t0 t0)) (aJ (bR q (aa p0 t0)) (ak e0 (aJ (aJ (bR cc (aa t0 (aa t0 t0))) (aJ (aZ 2) (aZ 0))) (aJ (aZ 1) (aZ 0)))))) (e 5) (fun xn hxn=> ?_);obtain⟨Yy,acV,acW⟩:=hxn;rw[Yy];refine St.sA (.mk rfl) (.mk rfl) cy ?_ (h1:=(by simp only[List.all_cons,List.all_nil,Bool.and_true,Bool.and_eq_true];exact⟨rfl,rfl,rfl,rfl,xn.type.av.2,xn.av.2⟩));refine St.nn (St.seq ?_);refine St.MB 5 46 [] (⟨46,[],fun u=>cJ u ((aP xp))⟩::⟨47,[],fun u=>cJ u ((aP xp))⟩::⟨48,[],fun u=>cJ u ((bc xn))⟩::⟨49,[1,2],fun u=>isTerm (ak p0 (aJ (bR [110,111,116] (aa t0 t0)) (aJ (bR q (aa p0 t0)) (ak e0 (aJ (aJ (bR cc (aa t0 (aa t0 t0))) (aJ (aZ 2) (aZ 0))) (aJ (aZ 1) (aZ 0))))))) u⟩::⟨50,[0,3],fun u=>isTerm (ak p0 (ak p0 (aJ (bR [110,111,116] (aa t0 t0)) (aJ (bR q (aa p0 t0)) (ak e0 (aJ (aJ (bR cc (aa t0 (aa t0 t0))) (aJ (aZ 2) (aZ 0))) (aJ (aZ 1) (aZ 0)))))))) u⟩::[]) ((46,[])::(47,[])::(48,[])::(49,[1,2])::(50,[0,3])::[]) [4] rfl rfl mixed (by kernel_rfl) (by kernel_rfl) (by rfl) (fun e=>[(50,e 4)]) (fun e=>[aF (isTerm (ak p0 (ak p0 (aJ (bR [110,111,116] (aa t0 t0)) (aJ (bR q (aa p0 t0)) (ak e0 (aJ (aJ (bR cc (aa t0 (aa t0 t0))) (aJ (aZ 2) (aZ 0))) (aJ (aZ 1) (aZ 0)))))))) (e 4))]) (fun _=>rfl) (fun _=>rfl) ?_ (fun e=> ?_)
  ·refine ao.c0 (fun c e az=> ?_) ?_
   ·refine St.aJ ?_
    refine St.ee (Ev.bH (.mk rfl) bX trivial (by exact bD)) ?_;refine St.fact (cJ ((aP xp)) ((aP xp))) (fun _ _ _=>rfl) ?_;refine St.nn ?_;exact St.aM _ rfl _ rfl
   refine ao.c0 (fun c e az=> ?_) ?_
   ·refine St.aJ ?_
    refine St.ee (Ev.bH (.mk rfl) bX trivial (by exact bD)) ?_;refine St.fact (cJ ((aP xp)) ((aP xp))) (fun _ _ _=>rfl) ?_;refine St.nn ?_;exact St.aM _ rfl _ rfl
   refine ao.c0 (fun c e az=> ?_) ?_
   ·refine St.aJ ?_
    refine St.ee (Ev.bH (.mk rfl) fH trivial (by exact cy)) ?_;refine St.fact (cJ ((bc xn)) ((bc xn))) (fun _ _ _=>rfl) ?_;refine St.nn ?_;exact St.aM _ rfl _ rfl
   refine ao.cc (fun e=>[(47,e 1),(48,e 2)]) (fun e=>[aF (cJ (e 1) ((aP xp))),aF (cJ (e 2) ((bc xn)))]) (fun c e az=> ?_) ?_
   ·refine St.ca ?_
    refine St.bT (P:=Tryz.prog) 47 (e 1) ((aP xp)) rfl ?_;refine St.bT (P:=Tryz.prog) 48 (e 2) ((bc xn)) rfl ?_;refine St.ay (cu (aP xp) (bc xn) p0 (aJ (bR [110,111,116] (aa t0 t0)) (aJ (bR q (aa p0 t0)) (ak e0 (aJ (aJ (bR cc (aa t0 (aa t0 t0))) (aJ (aZ 2) (aZ 0))) (aJ (aZ 1) (aZ 0))))))) k5 (.cons (.mk rfl) (.cons (.mk rfl) .nil)) rfl ?_;rintro v49 _ rfl;refine St.bK ?_;refine St.nn ?_;exact St.aM _ rfl _ rfl
   refine ao.cc (fun e=>[(46,e 0),(49,e 3)]) (fun e=>[aF (cJ (e 0) ((aP xp))),aF (isTerm (ak p0 (aJ (bR [110,111,116] (aa t0 t0)) (aJ (bR q (aa p0 t0)) (ak e0 (aJ (aJ (bR cc (aa t0 (aa t0 t0))) (aJ (aZ 2) (aZ 0))) (aJ (aZ 1) (aZ 0))))))) (e 3))]) (fun c e az=> ?_) ?_
   ·refine St.ca ?_
    refine St.bT (P:=Tryz.prog) 46 (e 0) ((aP xp)) rfl ?_;refine St.ay (cu (aP xp) (e 3) p0 (ak p0 (aJ (bR [110,111,116] (aa t0 t0)) (aJ (bR q (aa p0 t0)) (ak e0 (aJ (aJ (bR cc (aa t0 (aa t0 t0))) (aJ (aZ 2) (aZ 0))) (aJ (aZ 1) (aZ 0)))))))) k5 (.cons (.mk rfl) (.cons (.mk rfl) .nil)) rfl ?_;rintro Sr _ rfl;refine St.bK ?_;refine St.nn ?_;exact St.aM _ rfl _ rfl
   exact ao.nil
  refine St.bK ?_;refine St.isTerm (ak p0 (ak p0 (aJ (bR [110,111,116] (aa t0 t0)) (aJ (bR q (aa p0 t0)) (ak e0 (aJ (aJ (bR cc (aa t0 (aa t0 t0))) (aJ (aZ 2) (aZ 0))) (aJ (aZ 1) (aZ 0)))))))) (e 4) (fun xr P3=> ?_);obtain⟨BV,P4,P5⟩:=P3;rw[BV];refine St.sA (.mk rfl) (.mk rfl) cy ?_ (h1:=(by simp only[List.all_cons,List.all_nil,Bool.and_true,Bool.and_eq_true];exact⟨rfl,rfl,rfl,rfl,xr.type.av.2,xr.av.2⟩));refine St.nn (St.ab ?_)
  have hq:(ak p0 (ak p0 (aJ (bR [110,111,116] (aa t0 t0)) (aJ (bR q (aa p0 t0)) (ak e0 (aJ (aJ (bR cc (aa t0 (aa t0 t0))) (aJ (aZ 2) (aZ 0))) (aJ (aZ 1) (aZ 0))))))))=kC q cc no:=by rw[zG];rfl
  rw[hq];refine St.rT [_] [aF (isTerm (kC q cc no) (bc xr))] Tryz.results56 ⟨⟨_,_,_,_,rfl,jm.mem,.inl ⟨⟨_,fH⟩,cy,rfl⟩⟩,trivial⟩ ?_;rfl
 ·skip
  refine St.skip (St.aA (St.seq ?_));refine St.MB 5 46 [] (⟨46,[],fun u=>cJ u ((aP xp))⟩::⟨47,[],fun u=>cJ u ((aP xp))⟩::⟨48,[],fun u=>cJ u ((bc xm))⟩::⟨49,[1,2],fun u=>isTerm (ak p0 (aJ (bR q (aa p0 t0)) (ak e0 (aJ (aJ (bR cc (aa t0 (aa t0 t0))) (aJ (aZ 2) (aZ 0))) (aJ (aZ 1) (aZ 0)))))) u⟩::⟨50,[0,3],fun u=>isTerm (ak p0 (ak p0 (aJ (bR q (aa p0 t0)) (ak e0 (aJ (aJ (bR cc (aa t0 (aa t0 t0))) (aJ (aZ 2) (aZ 0))) (aJ (aZ 1) (aZ 0))))))) u⟩::[]) ((46,[])::(47,[])::(48,[])::(49,[1,2])::(50,[0,3])::[]) [4] rfl rfl mixed (by kernel_rfl) (by kernel_rfl) (by rfl) (fun e=>[(50,e 4)]) (fun e=>[aF (isTerm (ak p0 (ak p0 (aJ (bR q (aa p0 t0)) (ak e0 (aJ (aJ (bR cc (aa t0 (aa t0 t0))) (aJ (aZ 2) (aZ 0))) (aJ (aZ 1) (aZ 0))))))) (e 4))]) (fun _=>rfl) (fun _=>rfl) ?_ (fun e=> ?_)
  ·refine ao.c0 (fun c e az=> ?_) ?_
   ·refine St.aJ ?_
    refine St.ee (Ev.bH (.mk rfl) bX trivial (by exact bD)) ?_;refine St.fact (cJ ((aP xp)) ((aP xp))) (fun _ _ _=>rfl) ?_;refine St.nn ?_;exact St.aM _ rfl _ rfl
   refine ao.c0 (fun c e az=> ?_) ?_
   ·refine St.aJ ?_
    refine St.ee (Ev.bH (.mk rfl) bX trivial (by exact bD)) ?_;refine St.fact (cJ ((aP xp)) ((aP xp))) (fun _ _ _=>rfl) ?_;refine St.nn ?_;exact St.aM _ rfl _ rfl
   refine ao.c0 (fun c e az=> ?_) ?_
   ·refine St.aJ ?_
    refine St.ee (Ev.bH (.mk rfl) fH trivial (by exact cy)) ?_;refine St.fact (cJ ((bc xm)) ((bc xm))) (fun _ _ _=>rfl) ?_;refine St.nn ?_;exact St.aM _ rfl _ rfl
   refine ao.cc (fun e=>[(47,e 1),(48,e 2)]) (fun e=>[aF (cJ (e 1) ((aP xp))),aF (cJ (e 2) ((bc xm)))]) (fun c e az=> ?_) ?_
   ·refine St.ca ?_
    refine St.bT (P:=Tryz.prog) 47 (e 1) ((aP xp)) rfl ?_;refine St.bT (P:=Tryz.prog) 48 (e 2) ((bc xm)) rfl ?_;refine St.ay (cu (aP xp) (bc xm) p0 (aJ (bR q (aa p0 t0)) (ak e0 (aJ (aJ (bR cc (aa t0 (aa t0 t0))) (aJ (aZ 2) (aZ 0))) (aJ (aZ 1) (aZ 0)))))) k5 (.cons (.mk rfl) (.cons (.mk rfl) .nil)) rfl ?_;rintro v49 _ rfl;refine St.bK ?_;refine St.nn ?_;exact St.aM _ rfl _ rfl
   refine ao.cc (fun e=>[(46,e 0),(49,e 3)]) (fun e=>[aF (cJ (e 0) ((aP xp))),aF (isTerm (ak p0 (aJ (bR q (aa p0 t0)) (ak e0 (aJ (aJ (bR cc (aa t0 (aa t0 t0))) (aJ (aZ 2) (aZ 0))) (aJ (aZ 1) (aZ 0)))))) (e 3))]) (fun c e az=> ?_) ?_
   ·refine St.ca ?_
    refine St.bT (P:=Tryz.prog) 46 (e 0) ((aP xp)) rfl ?_;refine St.ay (cu (aP xp) (e 3) p0 (ak p0 (aJ (bR q (aa p0 t0)) (ak e0 (aJ (aJ (bR cc (aa t0 (aa t0 t0))) (aJ (aZ 2) (aZ 0))) (aJ (aZ 1) (aZ 0))))))) k5 (.cons (.mk rfl) (.cons (.mk rfl) .nil)) rfl ?_;rintro Sr _ rfl;refine St.bK ?_;refine St.nn ?_;exact St.aM _ rfl _ rfl
   exact ao.nil
  refine St.bK ?_;refine St.isTerm (ak p0 (ak p0 (aJ (bR q (aa p0 t0)) (ak e0 (aJ (aJ (bR cc (aa t0 (aa t0 t0))) (aJ (aZ 2) (aZ 0))) (aJ (aZ 1) (aZ 0))))))) (e 4) (fun xr P3=> ?_);obtain⟨BV,P4,P5⟩:=P3;rw[BV];refine St.sA (.mk rfl) (.mk rfl) cy ?_ (h1:=(by simp only[List.all_cons,List.all_nil,Bool.and_true,Bool.and_eq_true];exact⟨rfl,rfl,rfl,rfl,xr.type.av.2,xr.av.2⟩));refine St.nn (St.ab ?_)
  have hq:(ak p0 (ak p0 (aJ (bR q (aa p0 t0)) (ak e0 (aJ (aJ (bR cc (aa t0 (aa t0 t0))) (aJ (aZ 2) (aZ 0))) (aJ (aZ 1) (aZ 0)))))))=kC q cc no:=by rw[zG];rfl
  rw[hq];refine St.rT [_] [aF (isTerm (kC q cc no) (bc xr))] Tryz.results56 ⟨⟨_,_,_,_,rfl,jm.mem,.inl ⟨⟨_,fH⟩,cy,rfl⟩⟩,trivial⟩ ?_;rfl
theorem Cu {n:Nat}{F:Fr}{c:Ctx}{H:List bQ}{T:Act→World→Prop}{α:Type}(f:α→df)(xs:List α)(ds:List df)(QO:ds=xs.map f)[hd:oP ds H](k:St n F (Mm c (aF (aX f xs)::H)) T):St n F (Mm c H) T:=
 St.fo (aX f xs) ds (fun ρ h x hx=>h _ (by rw[QO];exact List.mem_map_of_mem hx)) k
theorem all_cons {α:Type}{p:α→Prop}{x:α}{l:List α}(h:p x)(k:∀y∈l,p y):∀y∈x::l,p y:=fun y hy=>by
 rcases List.mem_cons.1 hy with rfl|hy
 ·exact h
 ·exact k y hy
theorem all_nil {α:Type}{p:α→Prop}:∀y∈([]:List α),p y:=fun y hy=>by cases hy
def om:List cx:=[(ak (aa (aa (.mk [101] []) (.mk [116] [])) (.mk [116] [])) (ak (aa (.mk [101] []) (.mk [116] [])) (aJ (aZ 1) (aZ 0)))),(ak (aa (aa (.mk [101] []) (.mk [116] [])) (aa (aa (.mk [101] []) (.mk [116] [])) (.mk [116] []))) (ak (aa (.mk [101] []) (.mk [116] [])) (aJ (aZ 1) (aZ 0)))),(ak (aa (.mk [101] []) (.mk [116] [])) (aZ 0)),(ak (aa (.mk [101] []) (aa (.mk [101] []) (.mk [116] []))) (ak (aa (aa (.mk [101] []) (.mk [116] [])) (.mk [116] [])) (ak (.mk [101] []) (aJ (aZ 1) (ak (.mk [101] []) (aJ (aJ (aZ 3) (aZ 1)) (aZ 0))))))),(ak (aa (.mk [116] []) (.mk [116] [])) (ak (aa (.mk [101] []) (.mk [116] [])) (ak (.mk [101] []) (aJ (aZ 2) (aJ (aZ 1) (aZ 0)))))),(ak (aa (aa (.mk [101] []) (.mk [116] [])) (.mk [116] [])) (ak (aa (.mk [116] []) (aa (.mk [116] []) (.mk [116] []))) (ak (aa (aa (.mk [101] []) (.mk [116] [])) (.mk [116] [])) (ak (aa (.mk [101] []) (.mk [116] [])) (aJ (aJ (aZ 2) (aJ (aZ 3) (aZ 0))) (aJ (aZ 1) (aZ 0)))))))]
set_option maxHeartbeats 4000000 in
theorem uw:fC Tryz.prog 53 #[.bool false] ([].map aF) (fun v H'=>H'=[aF (jd om v)]):=by
 refine fC.body (args:=[.bool false]) 128 Tryz.func53 rfl Tryz.ntmps53 rfl (fun c=> ?_);refine St.cast (H':=[]) rfl ?_;refine St.sr ?_;refine St.ar ?_;refine St.nn (St.sr ?_);refine St.ay (jk [101] (by decide)) Dg (.cons (.mk rfl) .nil) rfl ?_;rintro v10 _ rfl;refine St.bK ?_;refine St.aw (.mk [101] []) v10 (fun xe Nt=> ?_);obtain⟨H6,Sj,Sk⟩:=Nt;subst H6;refine St.ay (jk [116] (by decide)) Dg (.cons (.mk rfl) .nil) rfl ?_;rintro v11 _ rfl;refine St.bK ?_;refine St.aw (.mk [116] []) v11 (fun xt Sl=> ?_);obtain⟨H7,Sm,Sn⟩:=Sl;subst H7;refine St.alloc iA rfl (fun b3=> ?_);refine St.alloc iA rfl (fun b4=> ?_);refine St.sA (.mk rfl) (.mk rfl) bD ?_ (h1:=(by simp only[List.all_cons,List.all_nil,Bool.and_true,Bool.and_eq_true];exact⟨rfl,xe.av.2⟩));refine St.sA (.mk rfl) (.mk rfl) bD ?_ (h1:=(by simp only[List.all_cons,List.all_nil,Bool.and_true,Bool.and_eq_true];exact⟨rfl,xt.av.2⟩));refine St.nn (St.sr ?_);refine St.ee (Ev.bH (.mk rfl) bX trivial (by exact bD)) ?_;refine St.ee (Ev.bH (.mk rfl) bX trivial (by exact bD)) ?_;refine St.ay (e8 (aP xe) (aP xt) (.mk [101] []) (.mk [116] [])) n1 (.cons (.mk rfl) (.cons (.mk rfl) .nil)) rfl ?_;rintro v14 _ rfl;refine St.bK ?_;refine St.aw (aa (.mk [101] []) (.mk [116] [])) v14 (fun xp Q9=> ?_);obtain⟨H8,So,Sp⟩:=Q9;subst H8;refine St.alloc iA rfl (fun b5=> ?_);refine St.sA (.mk rfl) (.mk rfl) bD ?_ (h1:=(by simp only[List.all_cons,List.all_nil,Bool.and_true,Bool.and_eq_true];exact⟨rfl,xp.av.2⟩));refine St.nn (St.sr ?_);refine St.ee (Ev.bH (.mk rfl) bX trivial (by exact bD)) ?_;refine St.ee (Ev.bH (.mk rfl) bX trivial (by exact bD)) ?_;refine St.ay (e8 (aP xp) (aP xt) (aa (.mk [101] []) (.mk [116] [])) (.mk [116] [])) n1 (.cons (.mk rfl) (.cons (.mk rfl) .nil)) rfl ?_;rintro v17 _ rfl;refine St.bK ?_;refine St.aw (aa (aa (.mk [101] []) (.mk [116] [])) (.mk [116] [])) v17 (fun xq hxq=> ?_);obtain⟨Yz,acX,acY⟩:=hxq;subst Yz;refine St.alloc iA rfl (fun b6=> ?_);refine St.sA (.mk rfl) (.mk rfl) bD ?_ (h1:=(by simp only[List.all_cons,List.all_nil,Bool.and_true,Bool.and_eq_true];exact⟨rfl,xq.av.2⟩));refine St.nn (St.sr ?_);refine St.ee (Ev.bH (.mk rfl) bX trivial (by exact bD)) ?_;refine St.ee (Ev.bH (.mk rfl) bX trivial (by exact bD)) ?_;refine St.ay (e8 (aP xe) (aP xp) (.mk [101] []) (aa (.mk [101] []) (.mk [116] []))) n1 (.cons (.mk rfl) (.cons (.mk rfl) .nil)) rfl ?_;rintro v20 _ rfl;refine St.bK ?_;refine St.aw (aa (.mk [101] []) (aa (.mk [101] []) (.mk [116] []))) v20 (fun xr P3=> ?_);obtain⟨BV,P4,P5⟩:=P3;subst BV;refine St.alloc iA rfl (fun b7=> ?_);refine St.sA (.mk rfl) (.mk rfl) bD ?_ (h1:=(by simp only[List.all_cons,List.all_nil,Bool.and_true,Bool.and_eq_true];exact⟨rfl,xr.av.2⟩));refine St.nn (St.sr ?_);refine St.ee (Ev.bH (.mk rfl) bX trivial (by exact bD)) ?_;refine St.ee (Ev.bH (.mk rfl) bX trivial (by exact bD)) ?_;refine St.ay (e8 (aP xp) (aP xq) (aa (.mk [101] []) (.mk [116] [])) (aa (aa (.mk [101] []) (.mk [116] [])) (.mk [116] []))) n1 (.cons (.mk rfl) (.cons (.mk rfl) .nil)) rfl ?_;rintro Ss _ rfl;refine St.bK ?_;refine St.aw (aa (aa (.mk [101] []) (.mk [116] [])) (aa (aa (.mk [101] []) (.mk [116] [])) (.mk [116] []))) Ss (fun xd hxd=> ?_);obtain⟨Z0,acZ,ac0⟩:=hxd;subst Z0;refine St.alloc iA rfl (fun b8=> ?_);refine St.sA (.mk rfl) (.mk rfl) bD ?_ (h1:=(by simp only[List.all_cons,List.all_nil,Bool.and_true,Bool.and_eq_true];exact⟨rfl,xd.av.2⟩));refine St.nn (St.seq ?_);refine St.MB 67 24 [] (⟨24,[],fun u=>cJ u ((aP xq))⟩::⟨25,[],fun u=>cJ u ((aP xp))⟩::⟨26,[],fun u=>isTerm (aZ 1) u⟩::⟨27,[],fun u=>isTerm (aZ 0) u⟩::⟨28,[2,3],fun u=>isTerm (aJ (aZ 1) (aZ 0)) u⟩::⟨29,[1,4],fun u=>isTerm (ak (aa (.mk [101] []) (.mk [116] [])) (aJ (aZ 1) (aZ 0))) u⟩::⟨30,[0,5],fun u=>isTerm (ak (aa (aa (.mk [101] []) (.mk [116] [])) (.mk [116] [])) (ak (aa (.mk [101] []) (.mk [116] [])) (aJ (aZ 1) (aZ 0)))) u⟩::⟨31,[],fun u=>cJ u ((aP xd))⟩::⟨32,[],fun u=>cJ u ((aP xp))⟩::⟨33,[],fun u=>isTerm (aZ 1) u⟩::⟨34,[],fun u=>isTerm (aZ 0) u⟩::⟨35,[9,10],fun u=>isTerm (aJ (aZ 1) (aZ 0)) u⟩::⟨36,[8,11],fun u=>isTerm (ak (aa (.mk [101] []) (.mk [116] [])) (aJ (aZ 1) (aZ 0))) u⟩::⟨37,[7,12],fun u=>isTerm (ak (aa (aa (.mk [101] []) (.mk [116] [])) (aa (aa (.mk [101] []) (.mk [116] [])) (.mk [116] []))) (ak (aa (.mk [101] []) (.mk [116] [])) (aJ (aZ 1) (aZ 0)))) u⟩::⟨38,[],fun u=>cJ u ((aP xp))⟩::⟨39,[],fun u=>isTerm (aZ 0) u⟩::⟨40,[14,15],fun u=>isTerm (ak (aa (.mk [101] []) (.mk [116] [])) (aZ 0)) u⟩::⟨41,[],fun u=>cJ u ((aP xr))⟩::⟨42,[],fun u=>cJ u ((aP xq))⟩::⟨43,[],fun u=>cJ u ((aP xe))⟩::⟨44,[],fun u=>isTerm (aZ 1) u⟩::⟨45,[],fun u=>cJ u ((aP xe))⟩::⟨46,[],fun u=>isTerm (aZ 3) u⟩::⟨47,[],fun u=>isTerm (aZ 1) u⟩::⟨48,[22,23],fun u=>isTerm (aJ (aZ 3) (aZ 1)) u⟩::⟨49,[],fun u=>isTerm (aZ 0) u⟩::⟨50,[24,25],fun u=>isTerm (aJ (aJ (aZ 3) (aZ 1)) (aZ 0)) u⟩::⟨51,[21,26],fun u=>isTerm (ak (.mk [101] []) (aJ (aJ (aZ 3) (aZ 1)) (aZ 0))) u⟩::⟨52,[20,27],fun u=>isTerm (aJ (aZ 1) (ak (.mk [101] []) (aJ (aJ (aZ 3) (aZ 1)) (aZ 0)))) u⟩::⟨53,[19,28],fun u=>isTerm (ak (.mk [101] []) (aJ (aZ 1) (ak (.mk [101] []) (aJ (aJ (aZ 3) (aZ 1)) (aZ 0))))) u⟩::⟨54,[18,29],fun u=>isTerm (ak (aa (aa (.mk [101] []) (.mk [116] [])) (.mk [116] [])) (ak (.mk [101] []) (aJ (aZ 1) (ak (.mk [101] []) (aJ (aJ (aZ 3) (aZ 1)) (aZ 0)))))) u⟩::⟨55,[17,30],fun u=>isTerm (ak (aa (.mk [101] []) (aa (.mk [101] []) (.mk [116] []))) (ak (aa (aa (.mk [101] []) (.mk [116] [])) (.mk [116] [])) (ak (.mk [101] []) (aJ (aZ 1) (ak (.mk [101] []) (aJ (aJ (aZ 3) (aZ 1)) (aZ 0))))))) u⟩::⟨56,[],fun u=>cJ u ((aP xt))⟩::⟨57,[],fun u=>cJ u ((aP xt))⟩::⟨58,[32,33],fun u=>aw (aa (.mk [116] []) (.mk [116] [])) u⟩::⟨59,[],fun u=>cJ u ((aP xp))⟩::⟨60,[],fun u=>cJ u ((aP xe))⟩::⟨61,[],fun u=>isTerm (aZ 2) u⟩::⟨62,[],fun u=>isTerm (aZ 1) u⟩::⟨63,[],fun u=>isTerm (aZ 0) u⟩::⟨64,[38,39],fun u=>isTerm (aJ (aZ 1) (aZ 0)) u⟩::⟨65,[37,40],fun u=>isTerm (aJ (aZ 2) (aJ (aZ 1) (aZ 0))) u⟩::⟨66,[36,41],fun u=>isTerm (ak (.mk [101] []) (aJ (aZ 2) (aJ (aZ 1) (aZ 0)))) u⟩::⟨67,[35,42],fun u=>isTerm (ak (aa (.mk [101] []) (.mk [116] [])) (ak (.mk [101] []) (aJ (aZ 2) (aJ (aZ 1) (aZ 0))))) u⟩::⟨68,[34,43],fun u=>isTerm (ak (aa (.mk [116] []) (.mk [116] [])) (ak (aa (.mk [101] []) (.mk [116] [])) (ak (.mk [101] []) (aJ (aZ 2) (aJ (aZ 1) (aZ 0)))))) u⟩::⟨69,[],fun u=>cJ u ((aP xq))⟩::⟨70,[],fun u=>cJ u ((aP xt))⟩::⟨71,[],fun u=>cJ u ((aP xt))⟩::⟨72,[],fun u=>cJ u ((aP xt))⟩::⟨73,[47,48],fun u=>aw (aa (.mk [116] []) (.mk [116] [])) u⟩::⟨74,[46,49],fun u=>aw (aa (.mk [116] []) (aa (.mk [116] []) (.mk [116] []))) u⟩::⟨75,[],fun u=>cJ u ((aP xq))⟩::⟨76,[],fun u=>cJ u ((aP xp))⟩::⟨77,[],fun u=>isTerm (aZ 2) u⟩::⟨78,[],fun u=>isTerm (aZ 3) u⟩::⟨79,[],fun u=>isTerm (aZ 0) u⟩::⟨80,[54,55],fun u=>isTerm (aJ (aZ 3) (aZ 0)) u⟩::⟨81,[53,56],fun u=>isTerm (aJ (aZ 2) (aJ (aZ 3) (aZ 0))) u⟩::⟨82,[],fun u=>isTerm (aZ 1) u⟩::⟨83,[],fun u=>isTerm (aZ 0) u⟩::⟨84,[58,59],fun u=>isTerm (aJ (aZ 1) (aZ 0)) u⟩::⟨85,[57,60],fun u=>isTerm (aJ (aJ (aZ 2) (aJ (aZ 3) (aZ 0))) (aJ (aZ 1) (aZ 0))) u⟩::⟨86,[52,61],fun u=>isTerm (ak (aa (.mk [101] []) (.mk [116] [])) (aJ (aJ (aZ 2) (aJ (aZ 3) (aZ 0))) (aJ (aZ 1) (aZ 0)))) u⟩::⟨87,[51,62],fun u=>isTerm (ak (aa (aa (.mk [101] []) (.mk [116] [])) (.mk [116] [])) (ak (aa (.mk [101] []) (.mk [116] [])) (aJ (aJ (aZ 2) (aJ (aZ 3) (aZ 0))) (aJ (aZ 1) (aZ 0))))) u⟩::⟨88,[50,63],fun u=>isTerm (ak (aa (.mk [116] []) (aa (.mk [116] []) (.mk [116] []))) (ak (aa (aa (.mk [101] []) (.mk [116] [])) (.mk [116] [])) (ak (aa (.mk [101] []) (.mk [116] [])) (aJ (aJ (aZ 2) (aJ (aZ 3) (aZ 0))) (aJ (aZ 1) (aZ 0)))))) u⟩::⟨89,[45,64],fun u=>isTerm (ak (aa (aa (.mk [101] []) (.mk [116] [])) (.mk [116] [])) (ak (aa (.mk [116] []) (aa (.mk [116] []) (.mk [116] []))) (ak (aa (aa (.mk [101] []) (.mk [116] [])) (.mk [116] [])) (ak (aa (.mk [101] []) (.mk [116] [])) (aJ (aJ (aZ 2) (aJ (aZ 3) (aZ 0))) (aJ (aZ 1) (aZ 0))))))) u⟩::⟨90,[6,13,16,31,44,65],fun u=>jd om u⟩::[]) ((24,[])::(25,[])::(26,[])::(27,[])::(28,[2,3])::(29,[1,4])::(30,[0,5])::(31,[])::(32,[])::(33,[])::(34,[])::(35,[9,10])::(36,[8,11])::(37,[7,12])::(38,[])::(39,[])::(40,[14,15])::(41,[])::(42,[])::(43,[])::(44,[])::(45,[])::(46,[])::(47,[])::(48,[22,23])::(49,[])::(50,[24,25])::(51,[21,26])::(52,[20,27])::(53,[19,28])::(54,[18,29])::(55,[17,30])::(56,[])::(57,[])::(58,[32,33])::(59,[])::(60,[])::(61,[])::(62,[])::(63,[])::(64,[38,39])::(65,[37,40])::(66,[36,41])::(67,[35,42])::(68,[34,43])::(69,[])::(70,[])::(71,[])::(72,[])::(73,[47,48])::(74,[46,49])::(75,[])::(76,[])::(77,[])::(78,[])::(79,[])::(80,[54,55])::(81,[53,56])::(82,[])::(83,[])::(84,[58,59])::(85,[57,60])::(86,[52,61])::(87,[51,62])::(88,[50,63])::(89,[45,64])::(90,[6,13,16,31,44,65])::[]) [66] rfl rfl mixed (by kernel_rfl) (by kernel_rfl) (by rfl) (fun e=>[(90,e 66)]) (fun e=>[aF (jd om (e 66))]) (fun _=>rfl) (fun _=>rfl) ?_ (fun e=> ?_)
 ·refine ao.c0 (fun c e az=> ?_) ?_
  ·refine St.aJ ?_
   refine St.ee (Ev.bH (.mk rfl) bX trivial (by exact bD)) ?_;refine St.fact (cJ ((aP xq)) ((aP xq))) (fun _ _ _=>rfl) ?_;refine St.nn ?_;exact St.aM _ rfl _ rfl
  refine ao.c0 (fun c e az=> ?_) ?_
  ·refine St.aJ ?_
   refine St.ee (Ev.bH (.mk rfl) bX trivial (by exact bD)) ?_;refine St.fact (cJ ((aP xp)) ((aP xp))) (fun _ _ _=>rfl) ?_;refine St.nn ?_;exact St.aM _ rfl _ rfl
  refine ao.c0 (fun c e az=> ?_) ?_
  ·refine St.aJ ?_
   refine St.ay (cP 1 (by unfold bF;decide)) jz (.cons (.mk rfl) .nil) rfl ?_;rintro gh _ rfl;refine St.bK ?_;refine St.nn ?_;exact St.aM _ rfl _ rfl
  refine ao.c0 (fun c e az=> ?_) ?_
  ·refine St.aJ ?_
   refine St.ay (cP 0 (by unfold bF;decide)) jz (.cons (.mk rfl) .nil) rfl ?_;rintro v27 _ rfl;refine St.bK ?_;refine St.nn ?_;exact St.aM _ rfl _ rfl
  refine ao.cc (fun e=>[(26,e 2),(27,e 3)]) (fun e=>[aF (isTerm (aZ 1) (e 2)),aF (isTerm (aZ 0) (e 3))]) (fun c e az=> ?_) ?_
  ·refine St.ca ?_
   refine St.ay (db (e 2) (e 3) (aZ 1) (aZ 0)) m6 (.cons (.mk rfl) (.cons (.mk rfl) .nil)) rfl ?_;rintro v28 _ rfl;refine St.bK ?_;refine St.nn ?_;exact St.aM _ rfl _ rfl
  refine ao.cc (fun e=>[(25,e 1),(28,e 4)]) (fun e=>[aF (cJ (e 1) ((aP xp))),aF (isTerm (aJ (aZ 1) (aZ 0)) (e 4))]) (fun c e az=> ?_) ?_
  ·refine St.ca ?_
   refine St.bT (P:=Tryz.prog) 25 (e 1) ((aP xp)) rfl ?_;refine St.ay (cu (aP xp) (e 4) (aa (.mk [101] []) (.mk [116] [])) (aJ (aZ 1) (aZ 0))) k5 (.cons (.mk rfl) (.cons (.mk rfl) .nil)) rfl ?_;rintro v29 _ rfl;refine St.bK ?_;refine St.nn ?_;exact St.aM _ rfl _ rfl
  refine ao.cc (fun e=>[(24,e 0),(29,e 5)]) (fun e=>[aF (cJ (e 0) ((aP xq))),aF (isTerm (ak (aa (.mk [101] []) (.mk [116] [])) (aJ (aZ 1) (aZ 0))) (e 5))]) (fun c e az=> ?_) ?_
  ·refine St.ca ?_
   refine St.bT (P:=Tryz.prog) 24 (e 0) ((aP xq)) rfl ?_;refine St.ay (cu (aP xq) (e 5) (aa (aa (.mk [101] []) (.mk [116] [])) (.mk [116] [])) (ak (aa (.mk [101] []) (.mk [116] [])) (aJ (aZ 1) (aZ 0)))) k5 (.cons (.mk rfl) (.cons (.mk rfl) .nil)) rfl ?_;rintro v30 _ rfl;refine St.bK ?_;refine St.nn ?_;exact St.aM _ rfl _ rfl
  refine ao.c0 (fun c e az=> ?_) ?_
  ·refine St.aJ ?_
   refine St.ee (Ev.bH (.mk rfl) bX trivial (by exact bD)) ?_;refine St.fact (cJ ((aP xd)) ((aP xd))) (fun _ _ _=>rfl) ?_;refine St.nn ?_;exact St.aM _ rfl _ rfl
  refine ao.c0 (fun c e az=> ?_) ?_
  ·refine St.aJ ?_
   refine St.ee (Ev.bH (.mk rfl) bX trivial (by exact bD)) ?_;refine St.fact (cJ ((aP xp)) ((aP xp))) (fun _ _ _=>rfl) ?_;refine St.nn ?_;exact St.aM _ rfl _ rfl
  refine ao.c0 (fun c e az=> ?_) ?_
  ·refine St.aJ ?_
   refine St.ay (cP 1 (by unfold bF;decide)) jz (.cons (.mk rfl) .nil) rfl ?_;rintro v33 _ rfl;refine St.bK ?_;refine St.nn ?_;exact St.aM _ rfl _ rfl
  refine ao.c0 (fun c e az=> ?_) ?_
  ·refine St.aJ ?_
   refine St.ay (cP 0 (by unfold bF;decide)) jz (.cons (.mk rfl) .nil) rfl ?_;rintro Kb _ rfl;refine St.bK ?_;refine St.nn ?_;exact St.aM _ rfl _ rfl
  refine ao.cc (fun e=>[(33,e 9),(34,e 10)]) (fun e=>[aF (isTerm (aZ 1) (e 9)),aF (isTerm (aZ 0) (e 10))]) (fun c e az=> ?_) ?_
  ·refine St.ca ?_
   refine St.ay (db (e 9) (e 10) (aZ 1) (aZ 0)) m6 (.cons (.mk rfl) (.cons (.mk rfl) .nil)) rfl ?_;rintro v35 _ rfl;refine St.bK ?_;refine St.nn ?_;exact St.aM _ rfl _ rfl
  refine ao.cc (fun e=>[(32,e 8),(35,e 11)]) (fun e=>[aF (cJ (e 8) ((aP xp))),aF (isTerm (aJ (aZ 1) (aZ 0)) (e 11))]) (fun c e az=> ?_) ?_
  ·refine St.ca ?_
   refine St.bT (P:=Tryz.prog) 32 (e 8) ((aP xp)) rfl ?_;refine St.ay (cu (aP xp) (e 11) (aa (.mk [101] []) (.mk [116] [])) (aJ (aZ 1) (aZ 0))) k5 (.cons (.mk rfl) (.cons (.mk rfl) .nil)) rfl ?_;rintro v36 _ rfl;refine St.bK ?_;refine St.nn ?_;exact St.aM _ rfl _ rfl
  refine ao.cc (fun e=>[(31,e 7),(36,e 12)]) (fun e=>[aF (cJ (e 7) ((aP xd))),aF (isTerm (ak (aa (.mk [101] []) (.mk [116] [])) (aJ (aZ 1) (aZ 0))) (e 12))]) (fun c e az=> ?_) ?_
  ·refine St.ca ?_
   refine St.bT (P:=Tryz.prog) 31 (e 7) ((aP xd)) rfl ?_;refine St.ay (cu (aP xd) (e 12) (aa (aa (.mk [101] []) (.mk [116] [])) (aa (aa (.mk [101] []) (.mk [116] [])) (.mk [116] []))) (ak (aa (.mk [101] []) (.mk [116] [])) (aJ (aZ 1) (aZ 0)))) k5 (.cons (.mk rfl) (.cons (.mk rfl) .nil)) rfl ?_;rintro v37 _ rfl;refine St.bK ?_;refine St.nn ?_;exact St.aM _ rfl _ rfl
  refine ao.c0 (fun c e az=> ?_) ?_
  ·refine St.aJ ?_
   refine St.ee (Ev.bH (.mk rfl) bX trivial (by exact bD)) ?_;refine St.fact (cJ ((aP xp)) ((aP xp))) (fun _ _ _=>rfl) ?_;refine St.nn ?_;exact St.aM _ rfl _ rfl
  refine ao.c0 (fun c e az=> ?_) ?_
  ·refine St.aJ ?_
   refine St.ay (cP 0 (by unfold bF;decide)) jz (.cons (.mk rfl) .nil) rfl ?_;rintro v39 _ rfl;refine St.bK ?_;refine St.nn ?_;exact St.aM _ rfl _ rfl
  refine ao.cc (fun e=>[(38,e 14),(39,e 15)]) (fun e=>[aF (cJ (e 14) ((aP xp))),aF (isTerm (aZ 0) (e 15))]) (fun c e az=> ?_) ?_
  ·refine St.ca ?_
   refine St.bT (P:=Tryz.prog) 38 (e 14) ((aP xp)) rfl ?_;refine St.ay (cu (aP xp) (e 15) (aa (.mk [101] []) (.mk [116] [])) (aZ 0)) k5 (.cons (.mk rfl) (.cons (.mk rfl) .nil)) rfl ?_;rintro v40 _ rfl;refine St.bK ?_;refine St.nn ?_;exact St.aM _ rfl _ rfl
  refine ao.c0 (fun c e az=> ?_) ?_
  ·refine St.aJ ?_
   refine St.ee (Ev.bH (.mk rfl) bX trivial (by exact bD)) ?_;refine St.fact (cJ ((aP xr)) ((aP xr))) (fun _ _ _=>rfl) ?_;refine St.nn ?_;exact St.aM _ rfl _ rfl
  refine ao.c0 (fun c e az=> ?_) ?_
  ·refine St.aJ ?_
   refine St.ee (Ev.bH (.mk rfl) bX trivial (by exact bD)) ?_;refine St.fact (cJ ((aP xq)) ((aP xq))) (fun _ _ _=>rfl) ?_;refine St.nn ?_;exact St.aM _ rfl _ rfl
  refine ao.c0 (fun c e az=> ?_) ?_
  ·refine St.aJ ?_
   refine St.ee (Ev.bH (.mk rfl) bX trivial (by exact bD)) ?_;refine St.fact (cJ ((aP xe)) ((aP xe))) (fun _ _ _=>rfl) ?_;refine St.nn ?_;exact St.aM _ rfl _ rfl
  refine ao.c0 (fun c e az=> ?_) ?_
  ·refine St.aJ ?_
   refine St.ay (cP 1 (by unfold bF;decide)) jz (.cons (.mk rfl) .nil) rfl ?_;rintro v44 _ rfl;refine St.bK ?_;refine St.nn ?_;exact St.aM _ rfl _ rfl
  refine ao.c0 (fun c e az=> ?_) ?_
  ·refine St.aJ ?_
   refine St.ee (Ev.bH (.mk rfl) bX trivial (by exact bD)) ?_;refine St.fact (cJ ((aP xe)) ((aP xe))) (fun _ _ _=>rfl) ?_;refine St.nn ?_;exact St.aM _ rfl _ rfl
  refine ao.c0 (fun c e az=> ?_) ?_
  ·refine St.aJ ?_
   refine St.ay (cP 3 (by unfold bF;decide)) jz (.cons (.mk rfl) .nil) rfl ?_;rintro v46 _ rfl;refine St.bK ?_;refine St.nn ?_;exact St.aM _ rfl _ rfl
  refine ao.c0 (fun c e az=> ?_) ?_
  ·refine St.aJ ?_
   refine St.ay (cP 1 (by unfold bF;decide)) jz (.cons (.mk rfl) .nil) rfl ?_;rintro v47 _ rfl;refine St.bK ?_;refine St.nn ?_;exact St.aM _ rfl _ rfl
  refine ao.cc (fun e=>[(46,e 22),(47,e 23)]) (fun e=>[aF (isTerm (aZ 3) (e 22)),aF (isTerm (aZ 1) (e 23))]) (fun c e az=> ?_) ?_
  ·refine St.ca ?_
   refine St.ay (db (e 22) (e 23) (aZ 3) (aZ 1)) m6 (.cons (.mk rfl) (.cons (.mk rfl) .nil)) rfl ?_;rintro v48 _ rfl;refine St.bK ?_;refine St.nn ?_;exact St.aM _ rfl _ rfl
  refine ao.c0 (fun c e az=> ?_) ?_
  ·refine St.aJ ?_
   refine St.ay (cP 0 (by unfold bF;decide)) jz (.cons (.mk rfl) .nil) rfl ?_;rintro v49 _ rfl;refine St.bK ?_;refine St.nn ?_;exact St.aM _ rfl _ rfl
  refine ao.cc (fun e=>[(48,e 24),(49,e 25)]) (fun e=>[aF (isTerm (aJ (aZ 3) (aZ 1)) (e 24)),aF (isTerm (aZ 0) (e 25))]) (fun c e az=> ?_) ?_
  ·refine St.ca ?_
   refine St.ay (db (e 24) (e 25) (aJ (aZ 3) (aZ 1)) (aZ 0)) m6 (.cons (.mk rfl) (.cons (.mk rfl) .nil)) rfl ?_;rintro Sr _ rfl;refine St.bK ?_;refine St.nn ?_;exact St.aM _ rfl _ rfl
  refine ao.cc (fun e=>[(45,e 21),(50,e 26)]) (fun e=>[aF (cJ (e 21) ((aP xe))),aF (isTerm (aJ (aJ (aZ 3) (aZ 1)) (aZ 0)) (e 26))]) (fun c e az=> ?_) ?_
  ·refine St.ca ?_
   refine St.bT (P:=Tryz.prog) 45 (e 21) ((aP xe)) rfl ?_;refine St.ay (cu (aP xe) (e 26) (.mk [101] []) (aJ (aJ (aZ 3) (aZ 1)) (aZ 0))) k5 (.cons (.mk rfl) (.cons (.mk rfl) .nil)) rfl ?_;rintro v51 _ rfl;refine St.bK ?_;refine St.nn ?_;exact St.aM _ rfl _ rfl
  refine ao.cc (fun e=>[(44,e 20),(51,e 27)]) (fun e=>[aF (isTerm (aZ 1) (e 20)),aF (isTerm (ak (.mk [101] []) (aJ (aJ (aZ 3) (aZ 1)) (aZ 0))) (e 27))]) (fun c e az=> ?_) ?_
  ·refine St.ca ?_
   refine St.ay (db (e 20) (e 27) (aZ 1) (ak (.mk [101] []) (aJ (aJ (aZ 3) (aZ 1)) (aZ 0)))) m6 (.cons (.mk rfl) (.cons (.mk rfl) .nil)) rfl ?_;rintro v52 _ rfl;refine St.bK ?_;refine St.nn ?_;exact St.aM _ rfl _ rfl
  refine ao.cc (fun e=>[(43,e 19),(52,e 28)]) (fun e=>[aF (cJ (e 19) ((aP xe))),aF (isTerm (aJ (aZ 1) (ak (.mk [101] []) (aJ (aJ (aZ 3) (aZ 1)) (aZ 0)))) (e 28))]) (fun c e az=> ?_) ?_
  ·refine St.ca ?_
   refine St.bT (P:=Tryz.prog) 43 (e 19) ((aP xe)) rfl ?_;refine St.ay (cu (aP xe) (e 28) (.mk [101] []) (aJ (aZ 1) (ak (.mk [101] []) (aJ (aJ (aZ 3) (aZ 1)) (aZ 0))))) k5 (.cons (.mk rfl) (.cons (.mk rfl) .nil)) rfl ?_;rintro v53 _ rfl;refine St.bK ?_;refine St.nn ?_;exact St.aM _ rfl _ rfl
  refine ao.cc (fun e=>[(42,e 18),(53,e 29)]) (fun e=>[aF (cJ (e 18) ((aP xq))),aF (isTerm (ak (.mk [101] []) (aJ (aZ 1) (ak (.mk [101] []) (aJ (aJ (aZ 3) (aZ 1)) (aZ 0))))) (e 29))]) (fun c e az=> ?_) ?_
  ·refine St.ca ?_
   refine St.bT (P:=Tryz.prog) 42 (e 18) ((aP xq)) rfl ?_;refine St.ay (cu (aP xq) (e 29) (aa (aa (.mk [101] []) (.mk [116] [])) (.mk [116] [])) (ak (.mk [101] []) (aJ (aZ 1) (ak (.mk [101] []) (aJ (aJ (aZ 3) (aZ 1)) (aZ 0)))))) k5 (.cons (.mk rfl) (.cons (.mk rfl) .nil)) rfl ?_;rintro Xz _ rfl;refine St.bK ?_;refine St.nn ?_;exact St.aM _ rfl _ rfl
  refine ao.cc (fun e=>[(41,e 17),(54,e 30)]) (fun e=>[aF (cJ (e 17) ((aP xr))),aF (isTerm (ak (aa (aa (.mk [101] []) (.mk [116] [])) (.mk [116] [])) (ak (.mk [101] []) (aJ (aZ 1) (ak (.mk [101] []) (aJ (aJ (aZ 3) (aZ 1)) (aZ 0)))))) (e 30))]) (fun c e az=> ?_) ?_
  ·refine St.ca ?_
   refine St.bT (P:=Tryz.prog) 41 (e 17) ((aP xr)) rfl ?_;refine St.ay (cu (aP xr) (e 30) (aa (.mk [101] []) (aa (.mk [101] []) (.mk [116] []))) (ak (aa (aa (.mk [101] []) (.mk [116] [])) (.mk [116] [])) (ak (.mk [101] []) (aJ (aZ 1) (ak (.mk [101] []) (aJ (aJ (aZ 3) (aZ 1)) (aZ 0))))))) k5 (.cons (.mk rfl) (.cons (.mk rfl) .nil)) rfl ?_;rintro v55 _ rfl;refine St.bK ?_;refine St.nn ?_;exact St.aM _ rfl _ rfl
  refine ao.c0 (fun c e az=> ?_) ?_
  ·refine St.aJ ?_
   refine St.ee (Ev.bH (.mk rfl) bX trivial (by exact bD)) ?_;refine St.fact (cJ ((aP xt)) ((aP xt))) (fun _ _ _=>rfl) ?_;refine St.nn ?_;exact St.aM _ rfl _ rfl
  refine ao.c0 (fun c e az=> ?_) ?_
  ·refine St.aJ ?_
   refine St.ee (Ev.bH (.mk rfl) bX trivial (by exact bD)) ?_;refine St.fact (cJ ((aP xt)) ((aP xt))) (fun _ _ _=>rfl) ?_;refine St.nn ?_;exact St.aM _ rfl _ rfl
  refine ao.cc (fun e=>[(56,e 32),(57,e 33)]) (fun e=>[aF (cJ (e 32) ((aP xt))),aF (cJ (e 33) ((aP xt)))]) (fun c e az=> ?_) ?_
  ·refine St.ca ?_
   refine St.bT (P:=Tryz.prog) 56 (e 32) ((aP xt)) rfl ?_;refine St.bT (P:=Tryz.prog) 57 (e 33) ((aP xt)) rfl ?_;refine St.ay (e8 (aP xt) (aP xt) (.mk [116] []) (.mk [116] [])) n1 (.cons (.mk rfl) (.cons (.mk rfl) .nil)) rfl ?_;rintro v58 _ rfl;refine St.bK ?_;refine St.nn ?_;exact St.aM _ rfl _ rfl
  refine ao.c0 (fun c e az=> ?_) ?_
  ·refine St.aJ ?_
   refine St.ee (Ev.bH (.mk rfl) bX trivial (by exact bD)) ?_;refine St.fact (cJ ((aP xp)) ((aP xp))) (fun _ _ _=>rfl) ?_;refine St.nn ?_;exact St.aM _ rfl _ rfl
  refine ao.c0 (fun c e az=> ?_) ?_
  ·refine St.aJ ?_
   refine St.ee (Ev.bH (.mk rfl) bX trivial (by exact bD)) ?_;refine St.fact (cJ ((aP xe)) ((aP xe))) (fun _ _ _=>rfl) ?_;refine St.nn ?_;exact St.aM _ rfl _ rfl
  refine ao.c0 (fun c e az=> ?_) ?_
  ·refine St.aJ ?_
   refine St.ay (cP 2 (by unfold bF;decide)) jz (.cons (.mk rfl) .nil) rfl ?_;rintro Z1 _ rfl;refine St.bK ?_;refine St.nn ?_;exact St.aM _ rfl _ rfl
  refine ao.c0 (fun c e az=> ?_) ?_
  ·refine St.aJ ?_
   refine St.ay (cP 1 (by unfold bF;decide)) jz (.cons (.mk rfl) .nil) rfl ?_;rintro v62 _ rfl;refine St.bK ?_;refine St.nn ?_;exact St.aM _ rfl _ rfl
  refine ao.c0 (fun c e az=> ?_) ?_
  ·refine St.aJ ?_
   refine St.ay (cP 0 (by unfold bF;decide)) jz (.cons (.mk rfl) .nil) rfl ?_;rintro v63 _ rfl;refine St.bK ?_;refine St.nn ?_;exact St.aM _ rfl _ rfl
  refine ao.cc (fun e=>[(62,e 38),(63,e 39)]) (fun e=>[aF (isTerm (aZ 1) (e 38)),aF (isTerm (aZ 0) (e 39))]) (fun c e az=> ?_) ?_
  ·refine St.ca ?_
   refine St.ay (db (e 38) (e 39) (aZ 1) (aZ 0)) m6 (.cons (.mk rfl) (.cons (.mk rfl) .nil)) rfl ?_;rintro v64 _ rfl;refine St.bK ?_;refine St.nn ?_;exact St.aM _ rfl _ rfl
  refine ao.cc (fun e=>[(61,e 37),(64,e 40)]) (fun e=>[aF (isTerm (aZ 2) (e 37)),aF (isTerm (aJ (aZ 1) (aZ 0)) (e 40))]) (fun c e az=> ?_) ?_
  ·refine St.ca ?_
   refine St.ay (db (e 37) (e 40) (aZ 2) (aJ (aZ 1) (aZ 0))) m6 (.cons (.mk rfl) (.cons (.mk rfl) .nil)) rfl ?_;rintro v65 _ rfl;refine St.bK ?_;refine St.nn ?_;exact St.aM _ rfl _ rfl
  refine ao.cc (fun e=>[(60,e 36),(65,e 41)]) (fun e=>[aF (cJ (e 36) ((aP xe))),aF (isTerm (aJ (aZ 2) (aJ (aZ 1) (aZ 0))) (e 41))]) (fun c e az=> ?_) ?_
  ·refine St.ca ?_
   refine St.bT (P:=Tryz.prog) 60 (e 36) ((aP xe)) rfl ?_;refine St.ay (cu (aP xe) (e 41) (.mk [101] []) (aJ (aZ 2) (aJ (aZ 1) (aZ 0)))) k5 (.cons (.mk rfl) (.cons (.mk rfl) .nil)) rfl ?_;rintro v66 _ rfl;refine St.bK ?_;refine St.nn ?_;exact St.aM _ rfl _ rfl
  refine ao.cc (fun e=>[(59,e 35),(66,e 42)]) (fun e=>[aF (cJ (e 35) ((aP xp))),aF (isTerm (ak (.mk [101] []) (aJ (aZ 2) (aJ (aZ 1) (aZ 0)))) (e 42))]) (fun c e az=> ?_) ?_
  ·refine St.ca ?_
   refine St.bT (P:=Tryz.prog) 59 (e 35) ((aP xp)) rfl ?_;refine St.ay (cu (aP xp) (e 42) (aa (.mk [101] []) (.mk [116] [])) (ak (.mk [101] []) (aJ (aZ 2) (aJ (aZ 1) (aZ 0))))) k5 (.cons (.mk rfl) (.cons (.mk rfl) .nil)) rfl ?_;rintro v67 _ rfl;refine St.bK ?_;refine St.nn ?_;exact St.aM _ rfl _ rfl
  refine ao.cc (fun e=>[(58,e 34),(67,e 43)]) (fun e=>[aF (aw (aa (.mk [116] []) (.mk [116] [])) (e 34)),aF (isTerm (ak (aa (.mk [101] []) (.mk [116] [])) (ak (.mk [101] []) (aJ (aZ 2) (aJ (aZ 1) (aZ 0))))) (e 43))]) (fun c e az=> ?_) ?_
  ·refine St.ca ?_
   refine St.ay (cu (e 34) (e 43) (aa (.mk [116] []) (.mk [116] [])) (ak (aa (.mk [101] []) (.mk [116] [])) (ak (.mk [101] []) (aJ (aZ 2) (aJ (aZ 1) (aZ 0)))))) k5 (.cons (.mk rfl) (.cons (.mk rfl) .nil)) rfl ?_;rintro v68 _ rfl;refine St.bK ?_;refine St.nn ?_;exact St.aM _ rfl _ rfl
  refine ao.c0 (fun c e az=> ?_) ?_
  ·refine St.aJ ?_
   refine St.ee (Ev.bH (.mk rfl) bX trivial (by exact bD)) ?_;refine St.fact (cJ ((aP xq)) ((aP xq))) (fun _ _ _=>rfl) ?_;refine St.nn ?_;exact St.aM _ rfl _ rfl
  refine ao.c0 (fun c e az=> ?_) ?_
  ·refine St.aJ ?_
   refine St.ee (Ev.bH (.mk rfl) bX trivial (by exact bD)) ?_;refine St.fact (cJ ((aP xt)) ((aP xt))) (fun _ _ _=>rfl) ?_;refine St.nn ?_;exact St.aM _ rfl _ rfl
  refine ao.c0 (fun c e az=> ?_) ?_
  ·refine St.aJ ?_
   refine St.ee (Ev.bH (.mk rfl) bX trivial (by exact bD)) ?_;refine St.fact (cJ ((aP xt)) ((aP xt))) (fun _ _ _=>rfl) ?_;refine St.nn ?_;exact St.aM _ rfl _ rfl
  refine ao.c0 (fun c e az=> ?_) ?_
  ·refine St.aJ ?_
   refine St.ee (Ev.bH (.mk rfl) bX trivial (by exact bD)) ?_;refine St.fact (cJ ((aP xt)) ((aP xt))) (fun _ _ _=>rfl) ?_;refine St.nn ?_;exact St.aM _ rfl _ rfl
  refine ao.cc (fun e=>[(71,e 47),(72,e 48)]) (fun e=>[aF (cJ (e 47) ((aP xt))),aF (cJ (e 48) ((aP xt)))]) (fun c e az=> ?_) ?_
  ·refine St.ca ?_
   refine St.bT (P:=Tryz.prog) 71 (e 47) ((aP xt)) rfl ?_;refine St.bT (P:=Tryz.prog) 72 (e 48) ((aP xt)) rfl ?_;refine St.ay (e8 (aP xt) (aP xt) (.mk [116] []) (.mk [116] [])) n1 (.cons (.mk rfl) (.cons (.mk rfl) .nil)) rfl ?_;rintro v73 _ rfl;refine St.bK ?_;refine St.nn ?_;exact St.aM _ rfl _ rfl
  refine ao.cc (fun e=>[(70,e 46),(73,e 49)]) (fun e=>[aF (cJ (e 46) ((aP xt))),aF (aw (aa (.mk [116] []) (.mk [116] [])) (e 49))]) (fun c e az=> ?_) ?_
  ·refine St.ca ?_
   refine St.bT (P:=Tryz.prog) 70 (e 46) ((aP xt)) rfl ?_;refine St.ay (e8 (aP xt) (e 49) (.mk [116] []) (aa (.mk [116] []) (.mk [116] []))) n1 (.cons (.mk rfl) (.cons (.mk rfl) .nil)) rfl ?_;rintro v74 _ rfl;refine St.bK ?_;refine St.nn ?_;exact St.aM _ rfl _ rfl
  refine ao.c0 (fun c e az=> ?_) ?_
  ·refine St.aJ ?_
   refine St.ee (Ev.bH (.mk rfl) bX trivial (by exact bD)) ?_;refine St.fact (cJ ((aP xq)) ((aP xq))) (fun _ _ _=>rfl) ?_;refine St.nn ?_;exact St.aM _ rfl _ rfl
  refine ao.c0 (fun c e az=> ?_) ?_
  ·refine St.aJ ?_
   refine St.ee (Ev.bH (.mk rfl) bX trivial (by exact bD)) ?_;refine St.fact (cJ ((aP xp)) ((aP xp))) (fun _ _ _=>rfl) ?_;refine St.nn ?_;exact St.aM _ rfl _ rfl
  refine ao.c0 (fun c e az=> ?_) ?_
  ·refine St.aJ ?_
   refine St.ay (cP 2 (by unfold bF;decide)) jz (.cons (.mk rfl) .nil) rfl ?_;rintro v77 _ rfl;refine St.bK ?_;refine St.nn ?_;exact St.aM _ rfl _ rfl
  refine ao.c0 (fun c e az=> ?_) ?_
  ·refine St.aJ ?_
   refine St.ay (cP 3 (by unfold bF;decide)) jz (.cons (.mk rfl) .nil) rfl ?_;rintro v78 _ rfl;refine St.bK ?_;refine St.nn ?_;exact St.aM _ rfl _ rfl
  refine ao.c0 (fun c e az=> ?_) ?_
  ·refine St.aJ ?_
   refine St.ay (cP 0 (by unfold bF;decide)) jz (.cons (.mk rfl) .nil) rfl ?_;rintro v79 _ rfl;refine St.bK ?_;refine St.nn ?_;exact St.aM _ rfl _ rfl
  refine ao.cc (fun e=>[(78,e 54),(79,e 55)]) (fun e=>[aF (isTerm (aZ 3) (e 54)),aF (isTerm (aZ 0) (e 55))]) (fun c e az=> ?_) ?_
  ·refine St.ca ?_
   refine St.ay (db (e 54) (e 55) (aZ 3) (aZ 0)) m6 (.cons (.mk rfl) (.cons (.mk rfl) .nil)) rfl ?_;rintro v80 _ rfl;refine St.bK ?_;refine St.nn ?_;exact St.aM _ rfl _ rfl
  refine ao.cc (fun e=>[(77,e 53),(80,e 56)]) (fun e=>[aF (isTerm (aZ 2) (e 53)),aF (isTerm (aJ (aZ 3) (aZ 0)) (e 56))]) (fun c e az=> ?_) ?_
  ·refine St.ca ?_
   refine St.ay (db (e 53) (e 56) (aZ 2) (aJ (aZ 3) (aZ 0))) m6 (.cons (.mk rfl) (.cons (.mk rfl) .nil)) rfl ?_;rintro v81 _ rfl;refine St.bK ?_;refine St.nn ?_;exact St.aM _ rfl _ rfl
  refine ao.c0 (fun c e az=> ?_) ?_
  ·refine St.aJ ?_
   refine St.ay (cP 1 (by unfold bF;decide)) jz (.cons (.mk rfl) .nil) rfl ?_;rintro v82 _ rfl;refine St.bK ?_;refine St.nn ?_;exact St.aM _ rfl _ rfl
  refine ao.c0 (fun c e az=> ?_) ?_
  ·refine St.aJ ?_
   refine St.ay (cP 0 (by unfold bF;decide)) jz (.cons (.mk rfl) .nil) rfl ?_;rintro v83 _ rfl;refine St.bK ?_;refine St.nn ?_;exact St.aM _ rfl _ rfl
  refine ao.cc (fun e=>[(82,e 58),(83,e 59)]) (fun e=>[aF (isTerm (aZ 1) (e 58)),aF (isTerm (aZ 0) (e 59))]) (fun c e az=> ?_) ?_
  ·refine St.ca ?_
   refine St.ay (db (e 58) (e 59) (aZ 1) (aZ 0)) m6 (.cons (.mk rfl) (.cons (.mk rfl) .nil)) rfl ?_;rintro v84 _ rfl;refine St.bK ?_;refine St.nn ?_;exact St.aM _ rfl _ rfl
  refine ao.cc (fun e=>[(81,e 57),(84,e 60)]) (fun e=>[aF (isTerm (aJ (aZ 2) (aJ (aZ 3) (aZ 0))) (e 57)),aF (isTerm (aJ (aZ 1) (aZ 0)) (e 60))]) (fun c e az=> ?_) ?_
  ·refine St.ca ?_
   refine St.ay (db (e 57) (e 60) (aJ (aZ 2) (aJ (aZ 3) (aZ 0))) (aJ (aZ 1) (aZ 0))) m6 (.cons (.mk rfl) (.cons (.mk rfl) .nil)) rfl ?_;rintro v85 _ rfl;refine St.bK ?_;refine St.nn ?_;exact St.aM _ rfl _ rfl
  refine ao.cc (fun e=>[(76,e 52),(85,e 61)]) (fun e=>[aF (cJ (e 52) ((aP xp))),aF (isTerm (aJ (aJ (aZ 2) (aJ (aZ 3) (aZ 0))) (aJ (aZ 1) (aZ 0))) (e 61))]) (fun c e az=> ?_) ?_
  ·refine St.ca ?_
   refine St.bT (P:=Tryz.prog) 76 (e 52) ((aP xp)) rfl ?_;refine St.ay (cu (aP xp) (e 61) (aa (.mk [101] []) (.mk [116] [])) (aJ (aJ (aZ 2) (aJ (aZ 3) (aZ 0))) (aJ (aZ 1) (aZ 0)))) k5 (.cons (.mk rfl) (.cons (.mk rfl) .nil)) rfl ?_;rintro v86 _ rfl;refine St.bK ?_;refine St.nn ?_;exact St.aM _ rfl _ rfl
  refine ao.cc (fun e=>[(75,e 51),(86,e 62)]) (fun e=>[aF (cJ (e 51) ((aP xq))),aF (isTerm (ak (aa (.mk [101] []) (.mk [116] [])) (aJ (aJ (aZ 2) (aJ (aZ 3) (aZ 0))) (aJ (aZ 1) (aZ 0)))) (e 62))]) (fun c e az=> ?_) ?_
  ·refine St.ca ?_
   refine St.bT (P:=Tryz.prog) 75 (e 51) ((aP xq)) rfl ?_;refine St.ay (cu (aP xq) (e 62) (aa (aa (.mk [101] []) (.mk [116] [])) (.mk [116] [])) (ak (aa (.mk [101] []) (.mk [116] [])) (aJ (aJ (aZ 2) (aJ (aZ 3) (aZ 0))) (aJ (aZ 1) (aZ 0))))) k5 (.cons (.mk rfl) (.cons (.mk rfl) .nil)) rfl ?_;rintro v87 _ rfl;refine St.bK ?_;refine St.nn ?_;exact St.aM _ rfl _ rfl
  refine ao.cc (fun e=>[(74,e 50),(87,e 63)]) (fun e=>[aF (aw (aa (.mk [116] []) (aa (.mk [116] []) (.mk [116] []))) (e 50)),aF (isTerm (ak (aa (aa (.mk [101] []) (.mk [116] [])) (.mk [116] [])) (ak (aa (.mk [101] []) (.mk [116] [])) (aJ (aJ (aZ 2) (aJ (aZ 3) (aZ 0))) (aJ (aZ 1) (aZ 0))))) (e 63))]) (fun c e az=> ?_) ?_
  ·refine St.ca ?_
   refine St.ay (cu (e 50) (e 63) (aa (.mk [116] []) (aa (.mk [116] []) (.mk [116] []))) (ak (aa (aa (.mk [101] []) (.mk [116] [])) (.mk [116] [])) (ak (aa (.mk [101] []) (.mk [116] [])) (aJ (aJ (aZ 2) (aJ (aZ 3) (aZ 0))) (aJ (aZ 1) (aZ 0)))))) k5 (.cons (.mk rfl) (.cons (.mk rfl) .nil)) rfl ?_;rintro v88 _ rfl;refine St.bK ?_;refine St.nn ?_;exact St.aM _ rfl _ rfl
  refine ao.cc (fun e=>[(69,e 45),(88,e 64)]) (fun e=>[aF (cJ (e 45) ((aP xq))),aF (isTerm (ak (aa (.mk [116] []) (aa (.mk [116] []) (.mk [116] []))) (ak (aa (aa (.mk [101] []) (.mk [116] [])) (.mk [116] [])) (ak (aa (.mk [101] []) (.mk [116] [])) (aJ (aJ (aZ 2) (aJ (aZ 3) (aZ 0))) (aJ (aZ 1) (aZ 0)))))) (e 64))]) (fun c e az=> ?_) ?_
  ·refine St.ca ?_
   refine St.bT (P:=Tryz.prog) 69 (e 45) ((aP xq)) rfl ?_;refine St.ay (cu (aP xq) (e 64) (aa (aa (.mk [101] []) (.mk [116] [])) (.mk [116] [])) (ak (aa (.mk [116] []) (aa (.mk [116] []) (.mk [116] []))) (ak (aa (aa (.mk [101] []) (.mk [116] [])) (.mk [116] [])) (ak (aa (.mk [101] []) (.mk [116] [])) (aJ (aJ (aZ 2) (aJ (aZ 3) (aZ 0))) (aJ (aZ 1) (aZ 0))))))) k5 (.cons (.mk rfl) (.cons (.mk rfl) .nil)) rfl ?_;rintro v89 _ rfl;refine St.bK ?_;refine St.nn ?_;exact St.aM _ rfl _ rfl
  refine ao.cc (fun e=>[(30,e 6),(37,e 13),(40,e 16),(55,e 31),(68,e 44),(89,e 65)]) (fun e=>[aF (isTerm (ak (aa (aa (.mk [101] []) (.mk [116] [])) (.mk [116] [])) (ak (aa (.mk [101] []) (.mk [116] [])) (aJ (aZ 1) (aZ 0)))) (e 6)),aF (isTerm (ak (aa (aa (.mk [101] []) (.mk [116] [])) (aa (aa (.mk [101] []) (.mk [116] [])) (.mk [116] []))) (ak (aa (.mk [101] []) (.mk [116] [])) (aJ (aZ 1) (aZ 0)))) (e 13)),aF (isTerm (ak (aa (.mk [101] []) (.mk [116] [])) (aZ 0)) (e 16)),aF (isTerm (ak (aa (.mk [101] []) (aa (.mk [101] []) (.mk [116] []))) (ak (aa (aa (.mk [101] []) (.mk [116] [])) (.mk [116] [])) (ak (.mk [101] []) (aJ (aZ 1) (ak (.mk [101] []) (aJ (aJ (aZ 3) (aZ 1)) (aZ 0))))))) (e 31)),aF (isTerm (ak (aa (.mk [116] []) (.mk [116] [])) (ak (aa (.mk [101] []) (.mk [116] [])) (ak (.mk [101] []) (aJ (aZ 2) (aJ (aZ 1) (aZ 0)))))) (e 44)),aF (isTerm (ak (aa (aa (.mk [101] []) (.mk [116] [])) (.mk [116] [])) (ak (aa (.mk [116] []) (aa (.mk [116] []) (.mk [116] []))) (ak (aa (aa (.mk [101] []) (.mk [116] [])) (.mk [116] [])) (ak (aa (.mk [101] []) (.mk [116] [])) (aJ (aJ (aZ 2) (aJ (aZ 3) (aZ 0))) (aJ (aZ 1) (aZ 0))))))) (e 65))]) (fun c e az=> ?_) ?_
  ·refine St.Ns ?_
   refine St.isTerm (ak (aa (aa (.mk [101] []) (.mk [116] [])) (.mk [116] [])) (ak (aa (.mk [101] []) (.mk [116] [])) (aJ (aZ 1) (aZ 0)))) (e 6) (fun Mb Z2=> ?_);obtain⟨Su,Sv,Sw⟩:=Z2;rw[Su];refine St.isTerm (ak (aa (aa (.mk [101] []) (.mk [116] [])) (aa (aa (.mk [101] []) (.mk [116] [])) (.mk [116] []))) (ak (aa (.mk [101] []) (.mk [116] [])) (aJ (aZ 1) (aZ 0)))) (e 13) (fun Mc Z3=> ?_);obtain⟨Sy,Sz,T0⟩:=Z3;rw[Sy];refine St.isTerm (ak (aa (.mk [101] []) (.mk [116] [])) (aZ 0)) (e 16) (fun Md Z4=> ?_);obtain⟨T1,T2,T6⟩:=Z4;rw[T1];refine St.isTerm (ak (aa (.mk [101] []) (aa (.mk [101] []) (.mk [116] []))) (ak (aa (aa (.mk [101] []) (.mk [116] [])) (.mk [116] [])) (ak (.mk [101] []) (aJ (aZ 1) (ak (.mk [101] []) (aJ (aJ (aZ 3) (aZ 1)) (aZ 0))))))) (e 31) (fun Me Z5=> ?_);obtain⟨T7,T8,T9⟩:=Z5;rw[T7];refine St.isTerm (ak (aa (.mk [116] []) (.mk [116] [])) (ak (aa (.mk [101] []) (.mk [116] [])) (ak (.mk [101] []) (aJ (aZ 2) (aJ (aZ 1) (aZ 0)))))) (e 44) (fun Mf Z6=> ?_);obtain⟨TA,TB,TC⟩:=Z6;rw[TA];refine St.isTerm (ak (aa (aa (.mk [101] []) (.mk [116] [])) (.mk [116] [])) (ak (aa (.mk [116] []) (aa (.mk [116] []) (.mk [116] []))) (ak (aa (aa (.mk [101] []) (.mk [116] [])) (.mk [116] [])) (ak (aa (.mk [101] []) (.mk [116] [])) (aJ (aJ (aZ 2) (aJ (aZ 3) (aZ 0))) (aJ (aZ 1) (aZ 0))))))) (e 65) (fun Mg Z7=> ?_);obtain⟨TD,TE,TF⟩:=Z7;rw[TD];refine St.cn rfl (.cons (.mk rfl) (.cons (.mk rfl) (.cons (.mk rfl) (.cons (.mk rfl) (.cons (.mk rfl) (.cons (.mk rfl) .nil)))))) eo cy Nz rfl rfl (by simp[Value.cells]) rfl rfl (fun Mh=> ?_);refine St.aU (.slice (some ⟨Mh,0,none⟩) 6 6) cE [Mb,Mc,Md,Me,Mf,Mg] rfl rfl (all_cons Sw (all_cons T0 (all_cons T6 (all_cons T9 (all_cons TC (all_cons TF (all_nil))))))) ?_;refine Cu bN [Mb,Mc,Md,Me,Mf,Mg] [bN Mb,bN Mc,bN Md,bN Me,bN Mf,bN Mg] rfl ?_;refine St.fo (jd om (.slice (some ⟨Mh,0,none⟩) 6 6)) [sl cE (.slice (some ⟨Mh,0,none⟩) 6 6) [Mb,Mc,Md,Me,Mf,Mg],aX bN [Mb,Mc,Md,Me,Mf,Mg]] (fun ρ h=>⟨rfl,[Mb,Mc,Md,Me,Mf,Mg],by simp only[List.map_cons,List.map_nil,Sv,Sz,T2,T8,TB,TE];rfl,h (sl cE (.slice (some ⟨Mh,0,none⟩) 6 6) [Mb,Mc,Md,Me,Mf,Mg]) (by simp),h (aX bN [Mb,Mc,Md,Me,Mf,Mg]) (by simp)⟩) ?_;refine St.nn ?_;exact St.aM _ rfl _ rfl
  exact ao.nil
 refine St.bK ?_;refine St.ar ?_;refine St.nn (St.seq (St.sr ?_));refine St.mv ?_;refine St.nn ?_;refine St.oy _ rfl rfl ?_;refine St.skip (St.aA (St.sr ?_));refine St.mv ?_;refine St.ar ?_;refine St.nn (St.ab ?_);refine St.rU [_] [aF (jd om (e 66))] Tryz.results53 ?_;rfl
end Go.Proofs.YtolmidffiegkaaaGreatDoor
namespace Go.J
open Go
def yG:List Int→List Int→Bool
 | [],[]=>false
 | [],_::_=>true
 |_::_,[]=>false
 |a::x,b::y=>decide (a<b)||(decide (a=b)&&yG x y)
theorem wC:∀{x y z:List Int},yG x y=true→yG y z=true→yG x z=true
 | [],[],_,h,_=>by simp[yG]at h
 | [],_::_,[],_,h=>by simp[yG]at h
 | [],_::_,_::_,_,_=>rfl
 |_::_,[],_,h,_=>by simp[yG]at h
 |_::_,_::_,[],_,h=>by simp[yG]at h
 |a::x,b::y,c::z,h,k=>by
  simp only[yG,Bool.or_eq_true,Bool.and_eq_true,decide_eq_true_eq]at h k⊢
  rcases h with h|⟨h,h'⟩
  ·left;rcases k with k|⟨k,_⟩<;>omega
  ·rcases k with k|⟨k,k'⟩
   ·left;omega
   ·right;exact⟨by omega,wC h' k'⟩
theorem Cv:∀(x y:List Int),yG x y=true∨x=y∨yG y x=true
 | [],[]=> .inr (.inl rfl)
 | [],_::_=> .inl rfl
 |_::_,[]=> .inr (.inr rfl)
 |a::x,b::y=>by
  simp only[yG,Bool.or_eq_true,Bool.and_eq_true,decide_eq_true_eq,List.cons.injEq]
  rcases Int.lt_trichotomy a b with h|h|h
  ·exact .inl (.inl h)
  ·rcases Cv x y with k|k|k
   ·exact .inl (.inr ⟨h,k⟩)
   ·exact .inr (.inl ⟨h,k⟩)
   ·exact .inr (.inr (.inr ⟨h.symm,k⟩))
  ·exact .inr (.inr (.inl h))
section
variable (p:List Int)
def pre (L i:Nat):List Int:=(p.drop i).take L
variable {p}
end
section
variable {n:Nat}{key:Nat→List Int}{cf:Nat→Nat→Int}{l:List Nat}
end
section
variable {p:List Int}{L:Nat}{cf:Nat→Nat→Int}{l:List Nat}{rk:List Int}
end
section
variable {p:List Int}
theorem H9 {a b:Nat}(ha:a≤p.length)(hb:b≤p.length)(h:p.drop a=p.drop b):a=b:=by
 have:=congrArg List.length h
 simp only[List.length_drop]at this
 omega
abbrev Sx (p:List Int)(l:List Nat):Prop:=l.Pairwise (fun a b=>yG (p.drop a) (p.drop b)=true)
structure HD (p:List Int)(i:Nat)(A B:List Nat):Prop where
 perm:(A++B).Perm (List.range i)
 srt:Sx p (A++B)
 less:∀b∈B,yG (p.drop i) (p.drop b)=true
theorem HD.step {i a:Nat}{A B:List Nat}(h:HD p i (A++ [a]) B)(hl:yG (p.drop i) (p.drop a)=true):HD p i A (a::B):=
 ⟨by simpa using h.perm,by simpa using h.srt,fun b hb=>by rcases List.mem_cons.1 hb with rfl|hb;exact hl;exact h.less b hb⟩
theorem HD.done {i:Nat}{A B:List Nat}(h:HD p i A B)(hi:i<p.length)(hl:A=[]∨∃A' a,A=A'++ [a]∧yG (p.drop i) (p.drop a)=false):(A++i::B).Perm (List.range (i+1))∧Sx p (A++i::B):=by
 have ux:∀x∈A++B,x<i:=fun x hx=>List.mem_range.1 (h.perm.mem_iff.1 hx)
 constructor
 ·rw[List.range_succ]
  exact List.perm_middle.trans ((h.perm.cons i).trans (List.perm_append_singleton i _).symm)
 ·have hs:=List.pairwise_append.1 h.srt
  have hA:∀x∈A,yG (p.drop x) (p.drop i)=true:=by
   rcases hl with rfl|⟨A',a,rfl,W8⟩
   ·intro x hx;cases hx
   ·have last:yG (p.drop a) (p.drop i)=true:=by
     have hai:=ux a (by simp)
     rcases Cv (p.drop a) (p.drop i)with q|q|q
     ·exact q
     ·have:=H9 (by omega) (by omega) q;omega
     ·rw[W8]at q;cases q
    intro x hx
    rcases List.mem_append.1 hx with hx|hx
    ·exact wC ((List.pairwise_append.1 hs.1).2.2 x hx a (List.mem_singleton_self _)) last
    ·rw[List.mem_singleton.1 hx];exact last
  refine List.pairwise_append.2 ⟨hs.1,List.pairwise_cons.2 ⟨h.less,hs.2.1⟩,?_⟩;intro x hx y hy
  rcases List.mem_cons.1 hy with rfl|hy
  ·exact hA x hx
  ·exact hs.2.2 x hx y hy
end
section
variable {n:Nat}{cf:Nat→Nat→Int}{l:List Nat}
end
structure TG (l:List (List cV)):Prop where
 len:l.length≤100
 each:∀s∈l,0<s.length∧s.length≤12∧s.all isWord=true
theorem TG.nil:TG []:=⟨by simp,fun s h=>by cases h⟩
def hz {β:Type}(q:List Nat):List Nat→List β→List β
 |x::Z8,z::zs=>if(x::Z8).take q.length=q then z::hz q Z8 zs else hz q Z8 zs
 |_,_=>[]
end Go.J
namespace Go.Proofs.YtolmidffiegkaaaGreatDoor
open Go Go.J
def cY:List Int→List fO
 |a::b::r=>⟨a,b⟩::cY r
 |_=>[]
theorem rO:∀xs:List Int,(cY xs).length=xs.length/2
 | []=>rfl
 | [_]=>by simp[cY]
 |a::b::r=>by rw[cY,List.length_cons,rO r];simp only[List.length_cons];omega
theorem rP:∀{xs:List Int} {j:Nat} {a b:Int},xs[2*j]?=some a→xs[2*j+1]?=some b→(cY xs)[j]?=some ⟨a,b⟩
 | [],_,_,_,h,_=>by simp at h
 | [_],0,_,_,_,h=>by simp at h
 | [_],j+1,_,_,h,_=>by simp at h
 |x::y::r,0,a,b,h,k=>by
  simp at h k;subst h k;rfl
 |x::y::r,j+1,a,b,h,k=>by
  rw[show 2*(j+1)=(2*j)+1+1 by omega,List.getElem?_cons_succ,List.getElem?_cons_succ]at h;rw[show 2*(j+1)+1=(2*j+1)+1+1 by omega,List.getElem?_cons_succ,List.getElem?_cons_succ]at k;rw[cY,List.getElem?_cons_succ];exact rP h k
theorem nM:∀{xs:List Int} {x:fO},x∈cY xs→x.dh∈xs∧x.to∈xs
 | [],_,h=>by cases h
 | [_],_,h=>by cases h
 |a::b::r,x,h=>by
  rw[cY]at h
  rcases List.mem_cons.1 h with rfl|h
  ·exact⟨by simp,by simp⟩
  ·have:=nM h
   exact⟨by simp[this.1],by simp[this.2]⟩
def P6 (xs:List Int):Qj:=(xs.headD 0,(cY xs.tail).map gI)
def bL (hG:List (List Int)):gx:=hG.map P6
theorem tm {X Y:List fO}{x:fO}(h:Y=X++ [x]):rows eu X++ [iv x.dh,iv x.to]=rows eu Y:=by rw[h,cl];rfl
theorem BW {X:List jr}{x:jr}:rows ej X++ [iv x.type,x.lv.1]=rows ej (X++ [x]):=by rw[cl];rfl
theorem EL {xs:List Int}{x:Int}(h:xs[0]?=some x):P6 xs=(x,(cY (xs.drop 1)).map gI):=by
 cases xs with
 |nil=>simp at h
 |cons y r=>simp at h;subst h;rfl
theorem drop_at {xs:List Int}{j:Nat}:(xs.drop 1)[j]?=xs[1+j]?:=by rw[List.getElem?_drop]
set_option maxHeartbeats 4000000 in
theorem eI (u:Value)(hG:List (List Int))(fj:hG.all (fun xs=>decide (0<xs.length)&&decide (xs.length≤60))=true)(hl:hG.length≤60):fC Tryz.prog 54 #[u] ([ew aK hG u].map aF) (fun v H'=>H'=[aF (ct (bL hG) v)]):=by
 refine fC.body (args:=[u]) 48 Tryz.func54 rfl Tryz.ntmps54 rfl (fun c=> ?_);refine St.cast (H':=[aF (ew aK hG u)]) rfl ?_;refine St.seq ?_;refine St.ew aK hG u (fun NN=> ?_);refine St.oT u (fun vs Er=> ?_);refine St.Qe vs Er (fun oQ=> ?_);refine St.rg ?_;refine St.alloc R7 rfl (fun b2=> ?_);refine St.nn (St.sr ?_);refine St.alloc R7 rfl (fun b3=> ?_);refine St.nn (St.seq (St.sr ?_));refine St.mv ?_;refine St.ee (Ev.au (.mk rfl) dB) ?_;refine St.mv ?_;refine St.nn (St.block ?_);refine St.jD 143 2 ?_;refine St.bB (.slice none 0 0) (show _=([]:List jr).length from rfl) (show _=rows ej []from rfl) ?_;refine St.dX dS ?_;refine St.my (ι:=Nat) (κ:=Value×List jr) (fun k z T=>(10,iv k)::T) (fun k z=>[ae b3 (.cells [z.1].toArray 30 (0,0)),row z.1 143 2 (z.2).length (rows ej (z.2)),aF (aX dS z.2),ae b2 (.cells [(.slice none 0 0)].toArray 30 (0,0)),aF (sl cK u vs),aF (ku aK vs hG)]) (fun k z=>k≤hG.length∧z.1.oneCell'=true∧z.2.map kN=bL (hG.take k)∧∀x∈z.2,ej.wf x) (fun k z=>hG.length-k) 0 ((.slice none 0 0),[]) (aE.cons 2 rfl (aE.cons 3 rfl (aE.cons 8 rfl (aE.cons 9 rfl aE.nil)))) ⟨Nat.zero_le _,rfl,rfl,fun x hx=>by cases hx⟩ ?_;rintro k ⟨vz,X⟩ ⟨hk,hz,hX,P7⟩
 dsimp only at hz hX P7⊢
 have Q6:=congrArg List.length hX
 rw[List.length_map,bL,List.length_map,List.length_take]at Q6;refine St.sr ?_;refine St.ee Ev.dz ?_;refine St.nn (St.seq ?_);refine St.cond _ rfl (fun uS=> ?_) (fun uS=> ?_)
 ·try simp only[aC]at uS
  obtain⟨s,hs⟩:=aQ (show k<hG.length by omega);obtain⟨w,hw⟩:=aQ (show k<vs.length by omega);refine St.ku (vs:=vs) k hw hs ?_
  have cp:=oQ s (List.mem_of_getElem? hs)
  have SD:=List.all_eq_true.1 fj s (List.mem_of_getElem? hs)
  simp only[Bool.and_eq_true,decide_eq_true_eq]at SD
  obtain⟨x0,Pw⟩:=aQ (show 0<s.length by omega)
  have AJ:=rO (s.drop 1)
  rw[List.length_drop]at AJ;refine St.skip (St.aA (St.seq (St.block (St.sr ?_))));refine St.ee (Ev.aR (k:=k) (.mk rfl) (.mk rfl) dB e7 (by omega) (by omega)) ?_;refine St.ee (Ev.fL (.mk rfl) hw bE trivial rfl) ?_;refine St.ar ?_;refine St.nn (St.sr ?_);refine St.mv ?_;refine St.ee (Ev.aR (k:=0) (.mk rfl) (.mk rfl) bE cr rfl (by omega)) ?_;refine St.ee (Ev.fL (.mk rfl) Pw bP trivial rfl) ?_;refine St.ee (Ev.build (ps:=[(0,(.tmp 16))]) (aV.cons (aL.mk rfl) aV.nil) (fun w=>Fo rfl w)) ?_;refine St.alloc sx rfl (fun b6=> ?_);refine St.sA (.mk rfl) (.mk rfl) fS ?_;refine St.nn (St.seq (St.sr ?_));refine St.ar ?_;refine St.nn (St.block ?_);refine St.jD 145 2 ?_;refine St.bB (.slice none 0 0) (show _=((cY (s.drop 1)).take 0).length from rfl) (show _=rows eu ((cY (s.drop 1)).take 0)from rfl) ?_;refine St.my (ι:=Nat) (κ:=Value) (fun j y T=>(7,iv (1+2*(j:Nat)))::T) (fun j y=>[ae b6 (.cells [iv x0,y].toArray 143 (0,0)),row y 145 2 ((cY (s.drop 1)).take j).length (rows eu ((cY (s.drop 1)).take j)),aF (sl aK w.1 s),ae b3 (.cells [vz].toArray 30 (0,0)),row vz 143 2 (X).length (rows ej (X)),aF (aX dS X),ae b2 (.cells [(.slice none 0 0)].toArray 30 (0,0)),aF (sl cK u vs),aF (ku aK vs hG)]) (fun j y=>j≤(s.length-1)/2∧y.oneCell'=true) (fun j y=>(s.length-1)/2-j) 0 (.slice none 0 0) (aE.cons 2 rfl (aE.cons 3 rfl (aE.cons 5 rfl (aE.cons 6 rfl (aE.cons 8 rfl (aE.cons 9 rfl (aE.cons 10 rfl aE.nil))))))) ⟨Nat.zero_le _,rfl⟩ ?_;rintro j y ⟨hj,hy⟩
  have DQ:((cY (s.drop 1)).take j).length≤60:=by rw[List.length_take];omega
  refine St.seq (St.sr ?_);refine St.mv ?_;refine St.ee Ev.a0 ?_;refine St.mv ?_;refine St.ee (Ev.au (.mk rfl) bE) ?_;refine St.ee Ev.dz ?_;refine St.nn ?_;refine St.cond _ rfl (fun uf=> ?_) (fun uf=> ?_)
  ·try simp only[aC]at uf
   have Yc:1+2*j+1<s.length:=by omega
   obtain⟨xa,W6⟩:=aQ (show 1+2*j<s.length by omega);obtain⟨xb,W7⟩:=aQ (show 1+2*j+1<s.length by omega)
   have xV:(cY (s.drop 1))[j]?=some ⟨xa,xb⟩:=rP (by rw[drop_at];exact W6) (by rw[drop_at,←Nat.add_assoc];exact W7)
   refine St.skip (St.aA (St.seq (St.block ?_)));refine St.eK [ae b6 (.cells [iv x0,y].toArray 143 (0,0)),row y 145 2 ((cY (s.drop 1)).take j).length (rows eu ((cY (s.drop 1)).take j))] mixed (fun np ns=> ?_);refine SW.dd 0 rfl (fun _=>Ev.aD (.mk rfl) gG) ?_;refine SW.dd 2 rfl (fun _=>Ev.move (.mk rfl)) ?_;refine SW.dd 3 rfl (fun _=>Ev.move (.mk rfl)) ?_;refine SW.dd 4 rfl (fun _=>Ev.aR (k:=(1+2*j)) (.mk rfl) (.mk rfl) bE cr (by omega) (by omega)) ?_;refine SW.dd 5 rfl (fun _=>Ev.fL (.mk rfl) W6 bP trivial rfl) ?_;refine SW.dd 6 rfl (fun _=>Ev.move (.mk rfl)) ?_;refine SW.dd 7 rfl (fun _=>Ev.move (.mk rfl)) ?_;refine SW.dd 8 rfl (fun _=>Ev.a0) ?_;refine SW.dd 9 rfl (fun _=>Ev.aR (k:=(1+2*j+1)) (.mk rfl) (.mk rfl) bE cr (by omega) (by omega)) ?_;refine SW.dd 10 rfl (fun _=>Ev.fL (.mk rfl) W7 bP trivial rfl) ?_;refine SW.dd 11 rfl (fun _=>Ev.build (ps:=[(0,(.tmp 30)),(1,(.tmp 35))]) (aV.cons (aL.mk rfl) (aV.cons (aL.mk rfl) aV.nil)) (fun w=>Ar rfl rfl w)) ?_;refine SW.iP (i:=1) (j:=12) (by kernel_rfl) rfl rfl ?_ ?_
   ·refine St.ee (Ev.l0 (.mk rfl) e6) ?_
    refine St.nn ?_;refine SW.go ?_;refine SW.bG (i:=12) (by kernel_rfl) rfl ?_;refine St.cn rfl (.cons (.mk rfl) .nil) e6 eV CT rfl rfl (by simp[Value.cells]) rfl rfl (fun b37=> ?_);refine St.nn ?_;refine SW.go ?_;refine SW.bG (i:=13) (by kernel_rfl) rfl ?_;refine St.cL (.mk rfl) (.mk rfl) e6 eV CT MC (by simp[Value.oneCell',Value.cells]) (by omega) (by omega) rfl rfl rfl rfl (fun v38 Z9=> ?_);refine St.bB v38 (show _=((cY (s.drop 1)).take (j+1)).length by rw[bJ xV];exact eg) (show _=rows eu ((cY (s.drop 1)).take (j+1))from tm (x:=⟨xa,xb⟩) (bJ xV)) ?_;refine St.dm v38 (fun s9 _=> ?_);refine St.nn ?_;refine SW.go ?_;refine SW.dd 14 rfl (fun _=>Ev.aD (.mk rfl) gG) ?_;refine SW.bG (i:=15) (by kernel_rfl) rfl ?_;refine St.cR (.mk rfl) (.mk rfl) MD s9 (by rfl) ?_;refine St.nn ?_;refine SW.go ?_;refine SW.done (by kernel_rfl) ?_;refine St.aO (St.aA (St.rg ?_));refine St.mv ?_;refine St.ee Ev.a0 ?_;refine St.ar ?_;refine St.nn ?_;refine St.ji (j+1) v38 ⟨by omega,s9⟩
   ·refine St.cn rfl (.cons (.mk rfl) .nil) e6 eV CT rfl rfl (by simp[Value.cells]) rfl rfl (fun b37=> ?_)
    refine St.nn ?_;refine SW.go ?_;refine SW.bG (i:=1) (by kernel_rfl) rfl ?_;refine St.ee (Ev.l0 (.mk rfl) e6) ?_;refine St.nn ?_;refine SW.go ?_;refine SW.bG (i:=13) (by kernel_rfl) rfl ?_;refine St.cL (.mk rfl) (.mk rfl) e6 eV CT MC (by simp[Value.oneCell',Value.cells]) (by omega) (by omega) rfl rfl rfl rfl (fun v38 Z9=> ?_);refine St.bB v38 (show _=((cY (s.drop 1)).take (j+1)).length by rw[bJ xV];exact eg) (show _=rows eu ((cY (s.drop 1)).take (j+1))from tm (x:=⟨xa,xb⟩) (bJ xV)) ?_;refine St.dm v38 (fun s9 _=> ?_);refine St.nn ?_;refine SW.go ?_;refine SW.dd 14 rfl (fun _=>Ev.aD (.mk rfl) gG) ?_;refine SW.bG (i:=15) (by kernel_rfl) rfl ?_;refine St.cR (.mk rfl) (.mk rfl) MD s9 (by rfl) ?_;refine St.nn ?_;refine SW.go ?_;refine SW.done (by kernel_rfl) ?_;refine St.aO (St.aA (St.rg ?_));refine St.mv ?_;refine St.ee Ev.a0 ?_;refine St.ar ?_;refine St.nn ?_;refine St.ji (j+1) v38 ⟨by omega,s9⟩
  ·try simp only[aC]at uf
   obtain rfl:j=(s.length-1)/2:=by omega
   have uN:(cY (s.drop 1)).take ((s.length-1)/2)=(cY (s.drop 1)):=List.take_of_length_le (by omega)
   rw[uN];refine St.aU y eu (cY (s.drop 1)) rfl rfl (fun x hx=>⟨cp _ (List.mem_of_mem_drop (nM hx).1),cp _ (List.mem_of_mem_drop (nM hx).2)⟩) ?_;refine St.fo (dS ⟨x0,⟨y,hy⟩,(cY (s.drop 1))⟩) [sl eu y (cY (s.drop 1))] (fun ρ h=>h _ (List.mem_cons_self ..)) ?_;refine St.exit (St.aI (St.aI (St.bM (St.aA (St.rg ?_)))));refine St.ee (Ev.aD (.mk rfl) eX) ?_;refine St.ee (Ev.l0 (.mk rfl) eM) ?_;refine St.ee (Ev.bH (.mk rfl) vN trivial (by exact fS)) ?_;refine St.cn rfl (.cons (.mk rfl) .nil) eM fS ME rfl rfl (by simp[J.aG hy,Value.cells]) rfl rfl (fun SS=> ?_);refine St.cL (.mk rfl) (.mk rfl) eM fS ME RA (by intro q hq;simp[Value.cells]at hq;rcases hq with rfl|rfl;rfl;exact hy) (by omega) (by omega) rfl rfl rfl rfl (fun v44 ac1=> ?_);refine St.bB v44 (show _=(X++ [(⟨x0,⟨y,hy⟩,(cY (s.drop 1))⟩:jr)]).length from eg) (show _=rows ej (X++ [(⟨x0,⟨y,hy⟩,(cY (s.drop 1))⟩:jr)])from BW (x:=⟨x0,⟨y,hy⟩,(cY (s.drop 1))⟩)) ?_;refine St.dm v44 (fun CW _=> ?_);refine St.lP dS (xs:=X) (x:=⟨x0,⟨y,hy⟩,(cY (s.drop 1))⟩) ?_;refine St.ee (Ev.aD (.mk rfl) eX) ?_;refine St.cR (.mk rfl) (.mk rfl) XZ CW (by rfl) ?_;refine St.nil (St.aO (St.aA (St.rg ?_)));refine St.ee Ev.a0 ?_;refine St.mv ?_;refine St.nn ?_;refine St.ji (k+1) (v44,X++ [(⟨x0,⟨y,hy⟩,(cY (s.drop 1))⟩:jr)]) ⟨by omega,CW,by rw[bJ hs,List.map_append,hX,bL,bL,List.map_append];exact congrArg (fun q=>List.map P6 (List.take k hG)++ [q]) (EL Pw).symm,fun x hx=>(List.mem_append.1 hx).elim (P7 x) fun q=>by rw[List.mem_singleton.1 q];exact cp x0 (List.mem_of_getElem? Pw)⟩
 ·try simp only[aC]at uS
  obtain rfl:k=hG.length:=by omega
  rw[List.take_length]at hX;refine St.exit (St.aI (St.aI (St.bM (St.aA (St.sr ?_)))));refine St.ee (Ev.bH (.mk rfl) oW trivial (by exact n5)) ?_;refine St.sA (.mk rfl) (.mk rfl) n5 ?_ (h1:=(by simp[hz]));refine St.nn (St.ab ?_);refine St.aU vz ej X rfl rfl P7 ?_;refine St.fo (bU ⟨⟨vz,hz⟩,X⟩) [sl ej vz X,aX dS X] (fun ρ h=>h) ?_;refine St.JQ ⟨⟨vz,hz⟩,X⟩ (g:=bL hG) (dJ ⟨⟨vz,hz⟩,X⟩) rfl hX ?_;refine St.rT [_] [aF (ct (bL hG) (dJ ⟨⟨vz,hz⟩,X⟩))] Tryz.results54 ⟨⟨_,_,_,_,rfl,jm.mem,.inl ⟨⟨_,oW⟩,n5,rfl⟩⟩,trivial⟩ ?_;rfl
def tn (names:List cV)(ps:List Int)(k:Nat):List dZ:=(List.range k).map fun i=>(names.getD i [],if i=0 then []else [ps.getD i 0])
theorem BX (names:List cV)(ps:List Int)(k:Nat):tn names ps (k+1)=tn names ps k++ [(names.getD k [],if k=0 then []else [ps.getD k 0])]:=by
 unfold tn;rw[List.range_succ,List.map_append];rfl
theorem BZ {X:List ja}{x:ja}:rows du X++ [sv x.name,x.pv.1]=rows du (X++ [x]):=by rw[cl];rfl
theorem oo {X:List cq}{x:cq}:rows cI X++DX x=rows cI (X++ [x]):=by rw[cl];rfl
set_option maxHeartbeats 800000 in
theorem qk (u1 u2 u3:Value)(names:List cV)(ps:List Int)(hu3:u3.oneCell'=true)(hlen:ps.length=names.length)(hl:names.length≤60):fC Tryz.prog 52 #[u1,u2,u3] ([bu ff names u1,bu aK ps u2].map aF) (fun v H'=>∃(tv:cm) (ts:List ja),v= .agg #[tv.1,u3]∧ts.map bh=tn names ps names.length∧H'=[aF (sl du tv.1 ts),aF (aX ek ts)]):=by
 refine fC.body (args:=[u1,u2,u3]) 38 Tryz.func52 rfl Tryz.ntmps52 rfl (fun c=> ?_);refine St.cast (H':=[aF (bu ff names u1),aF (bu aK ps u2)]) rfl ?_;refine St.seq ?_;refine St.bu ff names u1 (fun NN=> ?_);refine St.bu aK ps u2 (fun hu2=> ?_);refine St.wf u1 (fun Sd _=> ?_);refine St.wf u2 (fun ZA _=> ?_);refine St.rg ?_;refine St.alloc O0 rfl (fun b6=> ?_);refine St.nn (St.sr ?_);refine St.alloc O0 rfl (fun b7=> ?_);refine St.nn (St.seq (St.sr ?_));refine St.mv ?_;refine St.ee (Ev.au (.mk rfl) lU) ?_;refine St.mv ?_;refine St.nn (St.block ?_);refine St.jD 165 2 ?_;refine St.bB (.slice none 0 0) (show _=([]:List ja).length from rfl) (show _=rows du []from rfl) ?_;refine St.dX ek ?_;refine St.my (ι:=Nat) (κ:=Value×List ja) (fun k z T=>(13,iv k)::T) (fun k z=>[ae b7 (.cells [z.1,(.slice none 0 0)].toArray 25 (0,0)),row z.1 165 2 (z.2).length (rows du (z.2)),aF (aX ek z.2),ae b6 (.cells [(.slice none 0 0),(.slice none 0 0)].toArray 25 (0,0)),aF (sl ff u1 names),aF (sl aK u2 ps)]) (fun k z=>k≤names.length∧z.1.oneCell'=true∧z.2.map bh=tn names ps k∧∀x∈z.2,du.wf x) (fun k z=>names.length-k) 0 ((.slice none 0 0),[]) (aE.cons 1 rfl (aE.cons 2 rfl (aE.cons 6 rfl (aE.cons 7 rfl (aE.cons 11 rfl (aE.cons 12 rfl aE.nil)))))) ⟨Nat.zero_le _,rfl,rfl,fun x hx=>by cases hx⟩ ?_;rintro k ⟨vz,X⟩ ⟨hk,hz,hX,P7⟩
 dsimp only at hz hX P7⊢
 have Q6:=congrArg List.length hX
 rw[List.length_map,tn,List.length_map,List.length_range]at Q6;refine St.sr ?_;refine St.ee Ev.dz ?_;refine St.nn (St.seq ?_);refine St.cond _ rfl (fun qX=> ?_) (fun qX=> ?_)
 ·try simp only[aC]at qX
  obtain⟨nm,TH⟩:=aQ (show k<names.length by omega);obtain⟨p,hp⟩:=aQ (show k<ps.length by omega)
  have hgn:names.getD k []=nm:=by rw[List.getD_eq_getElem?_getD,TH];rfl
  have hgp:ps.getD k 0=p:=by rw[List.getD_eq_getElem?_getD,hp];rfl
  have Rq:=Sd nm (List.mem_of_getElem? TH)
  have OA:=ZA p (List.mem_of_getElem? hp)
  have cQ:=BX names ps k
  refine St.skip (St.aA (St.seq (St.block (St.sr ?_))));refine St.mv ?_;refine St.ee (Ev.aR (k:=k) (.mk rfl) (.mk rfl) lU Dh (by omega) (by omega)) ?_;refine St.ee (Ev.fL (.mk rfl) TH eG trivial rfl) ?_;refine St.ar ?_;refine St.ar ?_;refine St.nn (St.sr ?_);refine St.mv ?_;refine St.ee (Ev.build (ps:=[(0,(.tmp 18))]) (aV.cons (aL.mk rfl) aV.nil) (fun w=>Fq rfl w)) ?_;refine St.alloc vP rfl (fun jT=> ?_);refine St.sA (.mk rfl) (.mk rfl) iV ?_;refine St.nn ?_;refine St.join (ι:=Value) (fun y T=>T) (fun y=>[ae jT (.cells [sv nm,y].toArray 165 (0,0)),aF (sl aK y (if k=0 then []else [p])),ae b7 (.cells [vz,(.slice none 0 0)].toArray 25 (0,0)),row vz 165 2 (X).length (rows du (X)),aF (aX ek X),ae b6 (.cells [(.slice none 0 0),(.slice none 0 0)].toArray 25 (0,0)),aF (sl ff u1 names),aF (sl aK u2 ps)]) (fun y=>y.oneCell'=true) (aE.cons 1 rfl (aE.cons 2 rfl (aE.cons 6 rfl (aE.cons 7 rfl (aE.cons 10 rfl (aE.cons 11 rfl (aE.cons 12 rfl (aE.cons 13 rfl aE.nil)))))))) ?_ ?_
  ·refine St.sr ?_
   refine St.mv ?_;refine St.ee Ev.s5 ?_;refine St.nn ?_;refine St.cond _ rfl (fun qU=> ?_) (fun qU=> ?_)
   ·try simp only[aC]at qU
    rw[if_neg (show ¬k=0 by omega)];refine St.rg ?_;refine St.mv ?_;refine St.mv ?_;refine St.ee (Ev.aR (k:=k) (.mk rfl) (.mk rfl) bE cr (by omega) (by omega)) ?_;refine St.ee (Ev.fL (.mk rfl) hp bP trivial rfl) ?_;refine St.cn rfl (.cons (.mk rfl) .nil) bE cr eE rfl rfl (by simp[Value.cells]) rfl rfl (fun b26=> ?_);refine St.aU (.slice (some ⟨b26,0,none⟩) 1 1) aK [p] rfl rfl (G0 OA) ?_;refine St.ee (Ev.aD (.mk rfl) kU) ?_;refine St.cR (.mk rfl) (.mk rfl) e7 rfl (by rfl) ?_;refine St.nn ?_;refine St.mE (.slice (some ⟨b26,0,none⟩) 1 1) rfl
   ·try simp only[aC]at qU
    rw[if_pos (show k=0 by omega)];refine St.hJ aK ?_;refine St.skip (St.aA ?_);refine St.mE (.slice none 0 0) rfl
  ·intro y hy
   have zI:(⟨nm,⟨y,hy⟩,if k=0 then []else [p]⟩:ja)=⟨nm,⟨y,hy⟩,if k=0 then []else [p]⟩:=rfl
   refine St.rg ?_;refine St.ee (Ev.aD (.mk rfl) fX) ?_;refine St.ee (Ev.l0 (.mk rfl) eT) ?_;refine St.ee (Ev.bH (.mk rfl) yd trivial (by exact iV)) ?_;refine St.cn rfl (.cons (.mk rfl) .nil) eT iV MF rfl rfl (by simp[J.aG hy,Value.cells]) rfl rfl (fun ZB=> ?_);refine St.cL (.mk rfl) (.mk rfl) eT iV MF RC (by intro q hq;simp[Value.cells]at hq;rcases hq with rfl|rfl;rfl;exact hy) (by omega) (by omega) rfl rfl rfl rfl (fun WD ac2=> ?_);refine St.fo (ek ⟨nm,⟨y,hy⟩,if k=0 then []else [p]⟩) [sl aK y (if k=0 then []else [p])] (fun ρ h=>h _ (List.mem_cons_self ..)) ?_;refine St.bB WD (show _=(X++ [(⟨nm,⟨y,hy⟩,if k=0 then []else [p]⟩:ja)]).length from eg) (show _=rows du (X++ [(⟨nm,⟨y,hy⟩,if k=0 then []else [p]⟩:ja)])from BZ (x:=⟨nm,⟨y,hy⟩,if k=0 then []else [p]⟩)) ?_;refine St.dm WD (fun sF _=> ?_);refine St.lP ek (xs:=X) (x:=⟨nm,⟨y,hy⟩,if k=0 then []else [p]⟩) ?_;refine St.ee (Ev.aD (.mk rfl) fX) ?_;refine St.cR (.mk rfl) (.mk rfl) Xa sF (by rfl) ?_;refine St.nil (St.aO (St.aA (St.rg ?_)));refine St.ee Ev.a0 ?_;refine St.mv ?_;refine St.nn ?_;refine St.ji (k+1) (WD,X++ [(⟨nm,⟨y,hy⟩,if k=0 then []else [p]⟩:ja)]) ⟨by omega,sF,by rw[List.map_append,hX,cQ,hgn,hgp];rfl,fun x hx=>(List.mem_append.1 hx).elim (P7 x) fun q=>by rw[List.mem_singleton.1 q];exact Rq⟩
 ·try simp only[aC]at qX
  obtain rfl:k=names.length:=by omega
  refine St.exit (St.aI (St.aI (St.bM (St.aA (St.sr ?_)))));refine St.mv ?_;refine St.ee (Ev.aD (.mk rfl) jK) ?_;refine St.cR (.mk rfl) (.mk rfl) Xb hu3 (by rfl) ?_;refine St.nn (St.sr ?_);refine St.ee (Ev.bH (.mk rfl) mz trivial (by exact lV)) ?_;refine St.sA (.mk rfl) (.mk rfl) lV ?_ (h1:=(by simp[hz,hu3]));refine St.nn (St.ab ?_);refine St.aU vz du X rfl rfl P7 ?_;refine St.rT [_] [aF (sl du vz X),aF (aX ek X)] Tryz.results52 ⟨⟨_,_,_,_,rfl,jm.mem,.inl ⟨⟨_,mz⟩,lV,rfl⟩⟩,trivial⟩ ?_;exact⟨⟨vz,hz⟩,X,rfl,hX,rfl⟩
set_option maxHeartbeats 800000 in
theorem dE (b:Nat)(q0 q1 q2 q4 xv:Value)(X:List cq)(word:cV)(wt:Int)(u w:Value)(t:cx)(hG:List (List Int))(hw:hP word)(qE:bF wt)(Vj:xv.oneCell'=true)(Q6:X.length≤100)(hX:∀x∈X,cI.wf x)
 (fj:hG.all (fun xs=>decide (0<xs.length)&&decide (xs.length≤60))=true) (hl:hG.length≤60):fC Tryz.prog 55 ([sv word,iv wt,u,w]++ [Value.pointer (some ⟨b,0,none⟩)]).toArray [aF (isTerm t u),aF (ew aK hG w),aF (aX dT X),ae b (.cells [q0,q1,q2,xv,q4].toArray 32 (0,0)),row xv 96 9 (X).length (rows cI (X))]
 (fun v H'=>∃(ZC:Value) (x:cq),v= .tuple #[]∧ZC.oneCell'=true∧jh x=⟨word,bL hG,wt,t⟩∧cI.wf x∧H'=[ae b (.cells [q0,q1,q2,ZC,q4].toArray 32 (0,0)),row ZC 96 9 (X++ [x]).length (rows cI (X++ [x])),aF (aX dT (X++ [x]))]):=by
 refine fC.body (args:=[sv word,iv wt,u,w]++ [Value.pointer (some ⟨b,0,none⟩)]) 20 Tryz.func55 rfl Tryz.ntmps55 rfl (fun c=> ?_);refine St.seq ?_;refine St.cast (H':=[aF (isTerm t u),aF (ew aK hG w),aF (aX dT X),ae b (.cells [q0,q1,q2,xv,q4].toArray 32 (0,0)),row xv 96 9 (X).length (rows cI (X))]) rfl ?_;refine St.isTerm t u (fun x hx=> ?_);obtain⟨rfl,rfl,lX⟩:=hx;obtain⟨Q3,W5,SO,Ok⟩:=lX;refine St.rg ?_;refine St.cX (.mk rfl) rfl (fun b7=> ?_);refine St.nn ?_;refine St.eK [ae b (.cells [q0,q1,q2,xv,q4].toArray 32 (0,0)),row xv 96 9 (X).length (rows cI (X))] mixed (fun np ns=> ?_);refine SW.dd 0 rfl (fun _=>Ev.aD (.mk rfl) jL) ?_;refine SW.dd 2 rfl (fun _=>Ev.move (.mk rfl)) ?_;refine SW.dd 3 rfl (fun _=>Ev.move (.mk rfl)) ?_;refine SW.dd 4 rfl (fun _=>Ev.bH (.mk rfl) fH trivial (by exact cy)) ?_;refine SW.dd 5 rfl (fun _=>Ev.move (.mk rfl)) ?_;refine SW.iP (i:=1) (j:=6) (by kernel_rfl) rfl rfl ?_ ?_
 ·refine St.ee (Ev.l0 (.mk rfl) ig) ?_
  refine St.nn ?_;refine SW.go ?_;refine SW.bG (i:=6) (by kernel_rfl) rfl ?_;refine St.ay (eI w hG fj hl) xG (.cons (.mk rfl) .nil) rfl ?_;rintro J3 _ rfl;refine St.bK ?_;refine St.ct (bL hG) J3 (fun y hy=> ?_);obtain⟨rfl,pb⟩:=hy;refine St.nn ?_;refine SW.go ?_;refine SW.dd 7 rfl (fun _=>Ev.build (ps:=[(0,(.tmp 11)),(2,(.tmp 12)),(3,(.tmp 13)),(1,(.tmp 15))]) (aV.cons (aL.mk rfl) (aV.cons (aL.mk rfl) (aV.cons (aL.mk rfl) (aV.cons (aL.mk rfl) aV.nil)))) (fun w=>oE rfl rfl w)) ?_;refine SW.bG (i:=8) (by kernel_rfl) rfl ?_;refine St.cn rfl (.cons (.mk rfl) .nil) ig o4 Di rfl rfl (by simp[J.aG y.nv.2,J.aG x.type.av.2,J.aG x.av.2,Value.cells]) rfl rfl (fun MT=> ?_);refine St.nn ?_;refine SW.go ?_;refine SW.bG (i:=9) (by kernel_rfl) rfl ?_;refine St.cL (.mk rfl) (.mk rfl) ig o4 Di O2 (by intro q hq;exact cI.one (⟨word,y,wt,x⟩:cq) q (by show q∈DX (⟨word,y,wt,x⟩:cq);simpa[Value.cells]using hq)) (by omega) (by omega) rfl rfl rfl rfl (fun gw EB=> ?_);refine St.fo (dT (⟨word,y,wt,x⟩:cq)) [bU y,bN x] (fun ρ h=>h) ?_;refine St.bB gw (show _=(X++ [(⟨word,y,wt,x⟩:cq)]).length from eg) (show _=rows cI (X++ [(⟨word,y,wt,x⟩:cq)])from oo (x:=(⟨word,y,wt,x⟩:cq))) ?_;refine St.dm gw (fun fM _=> ?_);refine St.lP dT (xs:=X) (x:=(⟨word,y,wt,x⟩:cq)) ?_;refine St.nn ?_;refine SW.go ?_;refine SW.dd 10 rfl (fun _=>Ev.aD (.mk rfl) jL) ?_;refine SW.bG (i:=11) (by kernel_rfl) rfl ?_;refine St.cR (.mk rfl) (.mk rfl) O3 fM (by rfl) ?_;refine St.nn ?_;refine SW.go ?_;refine SW.done (by kernel_rfl) ?_;refine St.j0 ?_;refine St.rT [] [ae b (.cells [q0,q1,q2,gw,q4].toArray 32 (0,0)),row gw 96 9 (X++ [(⟨word,y,wt,x⟩:cq)]).length (rows cI (X++ [(⟨word,y,wt,x⟩:cq)])),aF (aX dT (X++ [(⟨word,y,wt,x⟩:cq)]))] Tryz.results55 trivial ?_;exact⟨gw,(⟨word,y,wt,x⟩:cq),rfl,fM,by rw[←pb];rfl,⟨hw,qE,Q3,W5,SO,Ok⟩,rfl⟩
 ·refine St.ay (eI w hG fj hl) xG (.cons (.mk rfl) .nil) rfl ?_
  rintro J3 _ rfl;refine St.bK ?_;refine St.ct (bL hG) J3 (fun y hy=> ?_);obtain⟨rfl,pb⟩:=hy;refine St.nn ?_;refine SW.go ?_;refine SW.dd 7 rfl (fun _=>Ev.build (ps:=[(0,(.tmp 11)),(2,(.tmp 12)),(3,(.tmp 13)),(1,(.tmp 15))]) (aV.cons (aL.mk rfl) (aV.cons (aL.mk rfl) (aV.cons (aL.mk rfl) (aV.cons (aL.mk rfl) aV.nil)))) (fun w=>oE rfl rfl w)) ?_;refine SW.iP (i:=1) (j:=8) (by kernel_rfl) rfl rfl ?_ ?_
  ·refine St.ee (Ev.l0 (.mk rfl) ig) ?_
   refine St.nn ?_;refine SW.go ?_;refine SW.bG (i:=8) (by kernel_rfl) rfl ?_;refine St.cn rfl (.cons (.mk rfl) .nil) ig o4 Di rfl rfl (by simp[J.aG y.nv.2,J.aG x.type.av.2,J.aG x.av.2,Value.cells]) rfl rfl (fun MT=> ?_);refine St.nn ?_;refine SW.go ?_;refine SW.bG (i:=9) (by kernel_rfl) rfl ?_;refine St.cL (.mk rfl) (.mk rfl) ig o4 Di O2 (by intro q hq;exact cI.one (⟨word,y,wt,x⟩:cq) q (by show q∈DX (⟨word,y,wt,x⟩:cq);simpa[Value.cells]using hq)) (by omega) (by omega) rfl rfl rfl rfl (fun gw EB=> ?_);refine St.fo (dT (⟨word,y,wt,x⟩:cq)) [bU y,bN x] (fun ρ h=>h) ?_;refine St.bB gw (show _=(X++ [(⟨word,y,wt,x⟩:cq)]).length from eg) (show _=rows cI (X++ [(⟨word,y,wt,x⟩:cq)])from oo (x:=(⟨word,y,wt,x⟩:cq))) ?_;refine St.dm gw (fun fM _=> ?_);refine St.lP dT (xs:=X) (x:=(⟨word,y,wt,x⟩:cq)) ?_;refine St.nn ?_;refine SW.go ?_;refine SW.dd 10 rfl (fun _=>Ev.aD (.mk rfl) jL) ?_;refine SW.bG (i:=11) (by kernel_rfl) rfl ?_;refine St.cR (.mk rfl) (.mk rfl) O3 fM (by rfl) ?_;refine St.nn ?_;refine SW.go ?_;refine SW.done (by kernel_rfl) ?_;refine St.j0 ?_;refine St.rT [] [ae b (.cells [q0,q1,q2,gw,q4].toArray 32 (0,0)),row gw 96 9 (X++ [(⟨word,y,wt,x⟩:cq)]).length (rows cI (X++ [(⟨word,y,wt,x⟩:cq)])),aF (aX dT (X++ [(⟨word,y,wt,x⟩:cq)]))] Tryz.results55 trivial ?_;exact⟨gw,(⟨word,y,wt,x⟩:cq),rfl,fM,by rw[←pb];rfl,⟨hw,qE,Q3,W5,SO,Ok⟩,rfl⟩
  ·refine St.cn rfl (.cons (.mk rfl) .nil) ig o4 Di rfl rfl (by simp[J.aG y.nv.2,J.aG x.type.av.2,J.aG x.av.2,Value.cells]) rfl rfl (fun MT=> ?_)
   refine St.nn ?_;refine SW.go ?_;refine SW.bG (i:=1) (by kernel_rfl) rfl ?_;refine St.ee (Ev.l0 (.mk rfl) ig) ?_;refine St.nn ?_;refine SW.go ?_;refine SW.bG (i:=9) (by kernel_rfl) rfl ?_;refine St.cL (.mk rfl) (.mk rfl) ig o4 Di O2 (by intro q hq;exact cI.one (⟨word,y,wt,x⟩:cq) q (by show q∈DX (⟨word,y,wt,x⟩:cq);simpa[Value.cells]using hq)) (by omega) (by omega) rfl rfl rfl rfl (fun gw EB=> ?_);refine St.fo (dT (⟨word,y,wt,x⟩:cq)) [bU y,bN x] (fun ρ h=>h) ?_;refine St.bB gw (show _=(X++ [(⟨word,y,wt,x⟩:cq)]).length from eg) (show _=rows cI (X++ [(⟨word,y,wt,x⟩:cq)])from oo (x:=(⟨word,y,wt,x⟩:cq))) ?_;refine St.dm gw (fun fM _=> ?_);refine St.lP dT (xs:=X) (x:=(⟨word,y,wt,x⟩:cq)) ?_;refine St.nn ?_;refine SW.go ?_;refine SW.dd 10 rfl (fun _=>Ev.aD (.mk rfl) jL) ?_;refine SW.bG (i:=11) (by kernel_rfl) rfl ?_;refine St.cR (.mk rfl) (.mk rfl) O3 fM (by rfl) ?_;refine St.nn ?_;refine SW.go ?_;refine SW.done (by kernel_rfl) ?_;refine St.j0 ?_;refine St.rT [] [ae b (.cells [q0,q1,q2,gw,q4].toArray 32 (0,0)),row gw 96 9 (X++ [(⟨word,y,wt,x⟩:cq)]).length (rows cI (X++ [(⟨word,y,wt,x⟩:cq)])),aF (aX dT (X++ [(⟨word,y,wt,x⟩:cq)]))] Tryz.results55 trivial ?_;exact⟨gw,(⟨word,y,wt,x⟩:cq),rfl,fM,by rw[←pb];rfl,⟨hw,qE,Q3,W5,SO,Ok⟩,rfl⟩
end Go.Proofs.YtolmidffiegkaaaGreatDoor
