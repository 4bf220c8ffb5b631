/-
  Laws of walks through programs, and facts on grammars, trees and queries.
  Conditions: none.
-/
import Derived.Test.YtoioijgdggkabaaGreatDoorGC5
import Derived.Test.YtoioijgdggkabaaGreatDoorGC2
import Derived.Test.YtoioijgdggkabaaGreatDoorGC1
set_option linter.unusedVariables false
set_option linter.unusedSimpArgs false
set_option maxRecDepth 20000
namespace Go.Proofs.YtoioijgdggkabaaGreatDoor
open Go Go.J
theorem A0 {n:Nat}{F:Fr}{c:Ctx}{H:List bE}{T:Act→World→Prop}{α:Type}(f:α→dJ)(xs:List α)(ds:List dJ)(Lh:ds=xs.map f)[hd:mK ds H](k:St n F (Mm c (aE (au f xs)::H)) T):St n F (Mm c H) T:=
 St.iJ (au f xs) ds (fun ρ h x hx=>h _ (by rw[Lh];exact List.mem_map_of_mem hx)) k
theorem all_cons {α:Type}{p:α→Prop}{x:α}{l:List α}(h:p x)(k:∀y∈l,p y):∀y∈x::l,p y:=fun y hy=>by
 rcases List.mem_cons.1 hy with rfl|hy
 ·exact h
 ·exact k y hy
theorem all_nil {α:Type}{p:α→Prop}:∀y∈([]:List α),p y:=fun y hy=>by cases hy
def mY:List fS:=[(aX (aP (aP (.mk [101] []) (.mk [116] [])) (.mk [116] [])) (aX (aP (.mk [101] []) (.mk [116] [])) (aC (aO 1) (aO 0)))),(aX (aP (aP (.mk [101] []) (.mk [116] [])) (aP (aP (.mk [101] []) (.mk [116] [])) (.mk [116] []))) (aX (aP (.mk [101] []) (.mk [116] [])) (aC (aO 1) (aO 0)))),(aX (aP (.mk [101] []) (.mk [116] [])) (aO 0)),(aX (aP (.mk [101] []) (aP (.mk [101] []) (.mk [116] []))) (aX (aP (aP (.mk [101] []) (.mk [116] [])) (.mk [116] [])) (aX (.mk [101] []) (aC (aO 1) (aX (.mk [101] []) (aC (aC (aO 3) (aO 1)) (aO 0))))))),(aX (aP (.mk [116] []) (.mk [116] [])) (aX (aP (.mk [101] []) (.mk [116] [])) (aX (.mk [101] []) (aC (aO 2) (aC (aO 1) (aO 0)))))),(aX (aP (aP (.mk [101] []) (.mk [116] [])) (.mk [116] [])) (aX (aP (.mk [116] []) (aP (.mk [116] []) (.mk [116] []))) (aX (aP (aP (.mk [101] []) (.mk [116] [])) (.mk [116] [])) (aX (aP (.mk [101] []) (.mk [116] [])) (aC (aC (aO 2) (aC (aO 3) (aO 0))) (aC (aO 1) (aO 0)))))))]
set_option maxHeartbeats 4000000 in
theorem rf:eI Tryz.prog 35 #[.bool false] ([].map aE) (fun v H'=>H'=[aE (iM mY v)]):=by
 refine eI.body (args:=[.bool false]) 128 Tryz.func35 rfl Tryz.ntmps35 rfl (fun c=> ?_);refine St.cast (H':=[]) rfl ?_;refine St.sr ?_;refine St.ao ?_;refine St.nn (St.sr ?_);refine St.ag (iX [101] (by decide)) AZ (.cons (.mk rfl) .nil) rfl ?_;rintro v10 _ rfl;refine St.aq ?_;refine St.ah (.mk [101] []) v10 (fun xe Jr=> ?_);obtain⟨Dy,O0,O1⟩:=Jr;subst Dy;refine St.ag (iX [116] (by decide)) AZ (.cons (.mk rfl) .nil) rfl ?_;rintro v11 _ rfl;refine St.aq ?_;refine St.ah (.mk [116] []) v11 (fun xt O2=> ?_);obtain⟨Dz,O3,O4⟩:=O2;subst Dz;refine St.alloc iP rfl (fun b3=> ?_);refine St.alloc iP rfl (fun b4=> ?_);refine St.sA (.mk rfl) (.mk rfl) bB ?_ (h1:=(by simp only[List.all_cons,List.all_nil,Bool.and_true,Bool.and_eq_true];exact⟨rfl,xe.av.2⟩));refine St.sA (.mk rfl) (.mk rfl) bB ?_ (h1:=(by simp only[List.all_cons,List.all_nil,Bool.and_true,Bool.and_eq_true];exact⟨rfl,xt.av.2⟩));refine St.nn (St.sr ?_);refine St.ee (Ev.an (.mk rfl) bb trivial (by exact bB)) ?_;refine St.ee (Ev.an (.mk rfl) bb trivial (by exact bB)) ?_;refine St.ag (dT (aK xe) (aK xt) (.mk [101] []) (.mk [116] [])) l2 (.cons (.mk rfl) (.cons (.mk rfl) .nil)) rfl ?_;rintro Zs _ rfl;refine St.aq ?_;refine St.ah (aP (.mk [101] []) (.mk [116] [])) Zs (fun xp O5=> ?_);obtain⟨E0,O6,O7⟩:=O5;subst E0;refine St.alloc iP rfl (fun b5=> ?_);refine St.sA (.mk rfl) (.mk rfl) bB ?_ (h1:=(by simp only[List.all_cons,List.all_nil,Bool.and_true,Bool.and_eq_true];exact⟨rfl,xp.av.2⟩));refine St.nn (St.sr ?_);refine St.ee (Ev.an (.mk rfl) bb trivial (by exact bB)) ?_;refine St.ee (Ev.an (.mk rfl) bb trivial (by exact bB)) ?_;refine St.ag (dT (aK xp) (aK xt) (aP (.mk [101] []) (.mk [116] [])) (.mk [116] [])) l2 (.cons (.mk rfl) (.cons (.mk rfl) .nil)) rfl ?_;rintro Ws _ rfl;refine St.aq ?_;refine St.ah (aP (aP (.mk [101] []) (.mk [116] [])) (.mk [116] [])) Ws (fun xq Zt=> ?_);obtain⟨Ty,Zu,Zv⟩:=Zt;subst Ty;refine St.alloc iP rfl (fun b6=> ?_);refine St.sA (.mk rfl) (.mk rfl) bB ?_ (h1:=(by simp only[List.all_cons,List.all_nil,Bool.and_true,Bool.and_eq_true];exact⟨rfl,xq.av.2⟩));refine St.nn (St.sr ?_);refine St.ee (Ev.an (.mk rfl) bb trivial (by exact bB)) ?_;refine St.ee (Ev.an (.mk rfl) bb trivial (by exact bB)) ?_;refine St.ag (dT (aK xe) (aK xp) (.mk [101] []) (aP (.mk [101] []) (.mk [116] []))) l2 (.cons (.mk rfl) (.cons (.mk rfl) .nil)) rfl ?_;rintro v20 _ rfl;refine St.aq ?_;refine St.ah (aP (.mk [101] []) (aP (.mk [101] []) (.mk [116] []))) v20 (fun xr Kh=> ?_);obtain⟨yk,Ki,Kj⟩:=Kh;subst yk;refine St.alloc iP rfl (fun b7=> ?_);refine St.sA (.mk rfl) (.mk rfl) bB ?_ (h1:=(by simp only[List.all_cons,List.all_nil,Bool.and_true,Bool.and_eq_true];exact⟨rfl,xr.av.2⟩));refine St.nn (St.sr ?_);refine St.ee (Ev.an (.mk rfl) bb trivial (by exact bB)) ?_;refine St.ee (Ev.an (.mk rfl) bb trivial (by exact bB)) ?_;refine St.ag (dT (aK xp) (aK xq) (aP (.mk [101] []) (.mk [116] [])) (aP (aP (.mk [101] []) (.mk [116] [])) (.mk [116] []))) l2 (.cons (.mk rfl) (.cons (.mk rfl) .nil)) rfl ?_;rintro Zw _ rfl;refine St.aq ?_;refine St.ah (aP (aP (.mk [101] []) (.mk [116] [])) (aP (aP (.mk [101] []) (.mk [116] [])) (.mk [116] []))) Zw (fun xd Zx=> ?_);obtain⟨Tz,Zy,Zz⟩:=Zx;subst Tz;refine St.alloc iP rfl (fun b8=> ?_);refine St.sA (.mk rfl) (.mk rfl) bB ?_ (h1:=(by simp only[List.all_cons,List.all_nil,Bool.and_true,Bool.and_eq_true];exact⟨rfl,xd.av.2⟩));refine St.nn (St.seq ?_);refine St.IK 67 24 [] (⟨24,[],fun u=>bZ u ((aK xq))⟩::⟨25,[],fun u=>bZ u ((aK xp))⟩::⟨26,[],fun u=>isTerm (aO 1) u⟩::⟨27,[],fun u=>isTerm (aO 0) u⟩::⟨28,[2,3],fun u=>isTerm (aC (aO 1) (aO 0)) u⟩::⟨29,[1,4],fun u=>isTerm (aX (aP (.mk [101] []) (.mk [116] [])) (aC (aO 1) (aO 0))) u⟩::⟨30,[0,5],fun u=>isTerm (aX (aP (aP (.mk [101] []) (.mk [116] [])) (.mk [116] [])) (aX (aP (.mk [101] []) (.mk [116] [])) (aC (aO 1) (aO 0)))) u⟩::⟨31,[],fun u=>bZ u ((aK xd))⟩::⟨32,[],fun u=>bZ u ((aK xp))⟩::⟨33,[],fun u=>isTerm (aO 1) u⟩::⟨34,[],fun u=>isTerm (aO 0) u⟩::⟨35,[9,10],fun u=>isTerm (aC (aO 1) (aO 0)) u⟩::⟨36,[8,11],fun u=>isTerm (aX (aP (.mk [101] []) (.mk [116] [])) (aC (aO 1) (aO 0))) u⟩::⟨37,[7,12],fun u=>isTerm (aX (aP (aP (.mk [101] []) (.mk [116] [])) (aP (aP (.mk [101] []) (.mk [116] [])) (.mk [116] []))) (aX (aP (.mk [101] []) (.mk [116] [])) (aC (aO 1) (aO 0)))) u⟩::⟨38,[],fun u=>bZ u ((aK xp))⟩::⟨39,[],fun u=>isTerm (aO 0) u⟩::⟨40,[14,15],fun u=>isTerm (aX (aP (.mk [101] []) (.mk [116] [])) (aO 0)) u⟩::⟨41,[],fun u=>bZ u ((aK xr))⟩::⟨42,[],fun u=>bZ u ((aK xq))⟩::⟨43,[],fun u=>bZ u ((aK xe))⟩::⟨44,[],fun u=>isTerm (aO 1) u⟩::⟨45,[],fun u=>bZ u ((aK xe))⟩::⟨46,[],fun u=>isTerm (aO 3) u⟩::⟨47,[],fun u=>isTerm (aO 1) u⟩::⟨48,[22,23],fun u=>isTerm (aC (aO 3) (aO 1)) u⟩::⟨49,[],fun u=>isTerm (aO 0) u⟩::⟨50,[24,25],fun u=>isTerm (aC (aC (aO 3) (aO 1)) (aO 0)) u⟩::⟨51,[21,26],fun u=>isTerm (aX (.mk [101] []) (aC (aC (aO 3) (aO 1)) (aO 0))) u⟩::⟨52,[20,27],fun u=>isTerm (aC (aO 1) (aX (.mk [101] []) (aC (aC (aO 3) (aO 1)) (aO 0)))) u⟩::⟨53,[19,28],fun u=>isTerm (aX (.mk [101] []) (aC (aO 1) (aX (.mk [101] []) (aC (aC (aO 3) (aO 1)) (aO 0))))) u⟩::⟨54,[18,29],fun u=>isTerm (aX (aP (aP (.mk [101] []) (.mk [116] [])) (.mk [116] [])) (aX (.mk [101] []) (aC (aO 1) (aX (.mk [101] []) (aC (aC (aO 3) (aO 1)) (aO 0)))))) u⟩::⟨55,[17,30],fun u=>isTerm (aX (aP (.mk [101] []) (aP (.mk [101] []) (.mk [116] []))) (aX (aP (aP (.mk [101] []) (.mk [116] [])) (.mk [116] [])) (aX (.mk [101] []) (aC (aO 1) (aX (.mk [101] []) (aC (aC (aO 3) (aO 1)) (aO 0))))))) u⟩::⟨56,[],fun u=>bZ u ((aK xt))⟩::⟨57,[],fun u=>bZ u ((aK xt))⟩::⟨58,[32,33],fun u=>ah (aP (.mk [116] []) (.mk [116] [])) u⟩::⟨59,[],fun u=>bZ u ((aK xp))⟩::⟨60,[],fun u=>bZ u ((aK xe))⟩::⟨61,[],fun u=>isTerm (aO 2) u⟩::⟨62,[],fun u=>isTerm (aO 1) u⟩::⟨63,[],fun u=>isTerm (aO 0) u⟩::⟨64,[38,39],fun u=>isTerm (aC (aO 1) (aO 0)) u⟩::⟨65,[37,40],fun u=>isTerm (aC (aO 2) (aC (aO 1) (aO 0))) u⟩::⟨66,[36,41],fun u=>isTerm (aX (.mk [101] []) (aC (aO 2) (aC (aO 1) (aO 0)))) u⟩::⟨67,[35,42],fun u=>isTerm (aX (aP (.mk [101] []) (.mk [116] [])) (aX (.mk [101] []) (aC (aO 2) (aC (aO 1) (aO 0))))) u⟩::⟨68,[34,43],fun u=>isTerm (aX (aP (.mk [116] []) (.mk [116] [])) (aX (aP (.mk [101] []) (.mk [116] [])) (aX (.mk [101] []) (aC (aO 2) (aC (aO 1) (aO 0)))))) u⟩::⟨69,[],fun u=>bZ u ((aK xq))⟩::⟨70,[],fun u=>bZ u ((aK xt))⟩::⟨71,[],fun u=>bZ u ((aK xt))⟩::⟨72,[],fun u=>bZ u ((aK xt))⟩::⟨73,[47,48],fun u=>ah (aP (.mk [116] []) (.mk [116] [])) u⟩::⟨74,[46,49],fun u=>ah (aP (.mk [116] []) (aP (.mk [116] []) (.mk [116] []))) u⟩::⟨75,[],fun u=>bZ u ((aK xq))⟩::⟨76,[],fun u=>bZ u ((aK xp))⟩::⟨77,[],fun u=>isTerm (aO 2) u⟩::⟨78,[],fun u=>isTerm (aO 3) u⟩::⟨79,[],fun u=>isTerm (aO 0) u⟩::⟨80,[54,55],fun u=>isTerm (aC (aO 3) (aO 0)) u⟩::⟨81,[53,56],fun u=>isTerm (aC (aO 2) (aC (aO 3) (aO 0))) u⟩::⟨82,[],fun u=>isTerm (aO 1) u⟩::⟨83,[],fun u=>isTerm (aO 0) u⟩::⟨84,[58,59],fun u=>isTerm (aC (aO 1) (aO 0)) u⟩::⟨85,[57,60],fun u=>isTerm (aC (aC (aO 2) (aC (aO 3) (aO 0))) (aC (aO 1) (aO 0))) u⟩::⟨86,[52,61],fun u=>isTerm (aX (aP (.mk [101] []) (.mk [116] [])) (aC (aC (aO 2) (aC (aO 3) (aO 0))) (aC (aO 1) (aO 0)))) u⟩::⟨87,[51,62],fun u=>isTerm (aX (aP (aP (.mk [101] []) (.mk [116] [])) (.mk [116] [])) (aX (aP (.mk [101] []) (.mk [116] [])) (aC (aC (aO 2) (aC (aO 3) (aO 0))) (aC (aO 1) (aO 0))))) u⟩::⟨88,[50,63],fun u=>isTerm (aX (aP (.mk [116] []) (aP (.mk [116] []) (.mk [116] []))) (aX (aP (aP (.mk [101] []) (.mk [116] [])) (.mk [116] [])) (aX (aP (.mk [101] []) (.mk [116] [])) (aC (aC (aO 2) (aC (aO 3) (aO 0))) (aC (aO 1) (aO 0)))))) u⟩::⟨89,[45,64],fun u=>isTerm (aX (aP (aP (.mk [101] []) (.mk [116] [])) (.mk [116] [])) (aX (aP (.mk [116] []) (aP (.mk [116] []) (.mk [116] []))) (aX (aP (aP (.mk [101] []) (.mk [116] [])) (.mk [116] [])) (aX (aP (.mk [101] []) (.mk [116] [])) (aC (aC (aO 2) (aC (aO 3) (aO 0))) (aC (aO 1) (aO 0))))))) u⟩::⟨90,[6,13,16,31,44,65],fun u=>iM mY u⟩::[]) ((24,[])::(25,[])::(26,[])::(27,[])::(28,[2,3])::(29,[1,4])::(30,[0,5])::(31,[])::(32,[])::(33,[])::(34,[])::(35,[9,10])::(36,[8,11])::(37,[7,12])::(38,[])::(39,[])::(40,[14,15])::(41,[])::(42,[])::(43,[])::(44,[])::(45,[])::(46,[])::(47,[])::(48,[22,23])::(49,[])::(50,[24,25])::(51,[21,26])::(52,[20,27])::(53,[19,28])::(54,[18,29])::(55,[17,30])::(56,[])::(57,[])::(58,[32,33])::(59,[])::(60,[])::(61,[])::(62,[])::(63,[])::(64,[38,39])::(65,[37,40])::(66,[36,41])::(67,[35,42])::(68,[34,43])::(69,[])::(70,[])::(71,[])::(72,[])::(73,[47,48])::(74,[46,49])::(75,[])::(76,[])::(77,[])::(78,[])::(79,[])::(80,[54,55])::(81,[53,56])::(82,[])::(83,[])::(84,[58,59])::(85,[57,60])::(86,[52,61])::(87,[51,62])::(88,[50,63])::(89,[45,64])::(90,[6,13,16,31,44,65])::[]) [66] rfl rfl mixed (by kernel_rfl) (by kernel_rfl) (by rfl) (fun e=>[(90,e 66)]) (fun e=>[aE (iM mY (e 66))]) (fun _=>rfl) (fun _=>rfl) ?_ (fun e=> ?_)
 ·refine ab.c0 (fun c e ai=> ?_) ?_
  ·refine St.aC ?_
   refine St.ee (Ev.an (.mk rfl) bb trivial (by exact bB)) ?_;refine St.fact (bZ ((aK xq)) ((aK xq))) (fun _ _ _=>rfl) ?_;refine St.nn ?_;exact St.aI _ rfl _ rfl
  refine ab.c0 (fun c e ai=> ?_) ?_
  ·refine St.aC ?_
   refine St.ee (Ev.an (.mk rfl) bb trivial (by exact bB)) ?_;refine St.fact (bZ ((aK xp)) ((aK xp))) (fun _ _ _=>rfl) ?_;refine St.nn ?_;exact St.aI _ rfl _ rfl
  refine ab.c0 (fun c e ai=> ?_) ?_
  ·refine St.aC ?_
   refine St.ag (bc 1 (by unfold aj;decide)) iu (.cons (.mk rfl) .nil) rfl ?_;rintro fg _ rfl;refine St.aq ?_;refine St.nn ?_;exact St.aI _ rfl _ rfl
  refine ab.c0 (fun c e ai=> ?_) ?_
  ·refine St.aC ?_
   refine St.ag (bc 0 (by unfold aj;decide)) iu (.cons (.mk rfl) .nil) rfl ?_;rintro v27 _ rfl;refine St.aq ?_;refine St.nn ?_;exact St.aI _ rfl _ rfl
  refine ab.cc (fun e=>[(26,e 2),(27,e 3)]) (fun e=>[aE (isTerm (aO 1) (e 2)),aE (isTerm (aO 0) (e 3))]) (fun c e ai=> ?_) ?_
  ·refine St.cI ?_
   refine St.ag (cx (e 2) (e 3) (aO 1) (aO 0)) kF (.cons (.mk rfl) (.cons (.mk rfl) .nil)) rfl ?_;rintro v28 _ rfl;refine St.aq ?_;refine St.nn ?_;exact St.aI _ rfl _ rfl
  refine ab.cc (fun e=>[(25,e 1),(28,e 4)]) (fun e=>[aE (bZ (e 1) ((aK xp))),aE (isTerm (aC (aO 1) (aO 0)) (e 4))]) (fun c e ai=> ?_) ?_
  ·refine St.cI ?_
   refine St.bH (P:=Tryz.prog) 25 (e 1) ((aK xp)) rfl ?_;refine St.ag (cQ (aK xp) (e 4) (aP (.mk [101] []) (.mk [116] [])) (aC (aO 1) (aO 0))) iw (.cons (.mk rfl) (.cons (.mk rfl) .nil)) rfl ?_;rintro Zl _ rfl;refine St.aq ?_;refine St.nn ?_;exact St.aI _ rfl _ rfl
  refine ab.cc (fun e=>[(24,e 0),(29,e 5)]) (fun e=>[aE (bZ (e 0) ((aK xq))),aE (isTerm (aX (aP (.mk [101] []) (.mk [116] [])) (aC (aO 1) (aO 0))) (e 5))]) (fun c e ai=> ?_) ?_
  ·refine St.cI ?_
   refine St.bH (P:=Tryz.prog) 24 (e 0) ((aK xq)) rfl ?_;refine St.ag (cQ (aK xq) (e 5) (aP (aP (.mk [101] []) (.mk [116] [])) (.mk [116] [])) (aX (aP (.mk [101] []) (.mk [116] [])) (aC (aO 1) (aO 0)))) iw (.cons (.mk rfl) (.cons (.mk rfl) .nil)) rfl ?_;rintro v30 _ rfl;refine St.aq ?_;refine St.nn ?_;exact St.aI _ rfl _ rfl
  refine ab.c0 (fun c e ai=> ?_) ?_
  ·refine St.aC ?_
   refine St.ee (Ev.an (.mk rfl) bb trivial (by exact bB)) ?_;refine St.fact (bZ ((aK xd)) ((aK xd))) (fun _ _ _=>rfl) ?_;refine St.nn ?_;exact St.aI _ rfl _ rfl
  refine ab.c0 (fun c e ai=> ?_) ?_
  ·refine St.aC ?_
   refine St.ee (Ev.an (.mk rfl) bb trivial (by exact bB)) ?_;refine St.fact (bZ ((aK xp)) ((aK xp))) (fun _ _ _=>rfl) ?_;refine St.nn ?_;exact St.aI _ rfl _ rfl
  refine ab.c0 (fun c e ai=> ?_) ?_
  ·refine St.aC ?_
   refine St.ag (bc 1 (by unfold aj;decide)) iu (.cons (.mk rfl) .nil) rfl ?_;rintro v33 _ rfl;refine St.aq ?_;refine St.nn ?_;exact St.aI _ rfl _ rfl
  refine ab.c0 (fun c e ai=> ?_) ?_
  ·refine St.aC ?_
   refine St.ag (bc 0 (by unfold aj;decide)) iu (.cons (.mk rfl) .nil) rfl ?_;rintro Zm _ rfl;refine St.aq ?_;refine St.nn ?_;exact St.aI _ rfl _ rfl
  refine ab.cc (fun e=>[(33,e 9),(34,e 10)]) (fun e=>[aE (isTerm (aO 1) (e 9)),aE (isTerm (aO 0) (e 10))]) (fun c e ai=> ?_) ?_
  ·refine St.cI ?_
   refine St.ag (cx (e 9) (e 10) (aO 1) (aO 0)) kF (.cons (.mk rfl) (.cons (.mk rfl) .nil)) rfl ?_;rintro v35 _ rfl;refine St.aq ?_;refine St.nn ?_;exact St.aI _ rfl _ rfl
  refine ab.cc (fun e=>[(32,e 8),(35,e 11)]) (fun e=>[aE (bZ (e 8) ((aK xp))),aE (isTerm (aC (aO 1) (aO 0)) (e 11))]) (fun c e ai=> ?_) ?_
  ·refine St.cI ?_
   refine St.bH (P:=Tryz.prog) 32 (e 8) ((aK xp)) rfl ?_;refine St.ag (cQ (aK xp) (e 11) (aP (.mk [101] []) (.mk [116] [])) (aC (aO 1) (aO 0))) iw (.cons (.mk rfl) (.cons (.mk rfl) .nil)) rfl ?_;rintro v36 _ rfl;refine St.aq ?_;refine St.nn ?_;exact St.aI _ rfl _ rfl
  refine ab.cc (fun e=>[(31,e 7),(36,e 12)]) (fun e=>[aE (bZ (e 7) ((aK xd))),aE (isTerm (aX (aP (.mk [101] []) (.mk [116] [])) (aC (aO 1) (aO 0))) (e 12))]) (fun c e ai=> ?_) ?_
  ·refine St.cI ?_
   refine St.bH (P:=Tryz.prog) 31 (e 7) ((aK xd)) rfl ?_;refine St.ag (cQ (aK xd) (e 12) (aP (aP (.mk [101] []) (.mk [116] [])) (aP (aP (.mk [101] []) (.mk [116] [])) (.mk [116] []))) (aX (aP (.mk [101] []) (.mk [116] [])) (aC (aO 1) (aO 0)))) iw (.cons (.mk rfl) (.cons (.mk rfl) .nil)) rfl ?_;rintro v37 _ rfl;refine St.aq ?_;refine St.nn ?_;exact St.aI _ rfl _ rfl
  refine ab.c0 (fun c e ai=> ?_) ?_
  ·refine St.aC ?_
   refine St.ee (Ev.an (.mk rfl) bb trivial (by exact bB)) ?_;refine St.fact (bZ ((aK xp)) ((aK xp))) (fun _ _ _=>rfl) ?_;refine St.nn ?_;exact St.aI _ rfl _ rfl
  refine ab.c0 (fun c e ai=> ?_) ?_
  ·refine St.aC ?_
   refine St.ag (bc 0 (by unfold aj;decide)) iu (.cons (.mk rfl) .nil) rfl ?_;rintro v39 _ rfl;refine St.aq ?_;refine St.nn ?_;exact St.aI _ rfl _ rfl
  refine ab.cc (fun e=>[(38,e 14),(39,e 15)]) (fun e=>[aE (bZ (e 14) ((aK xp))),aE (isTerm (aO 0) (e 15))]) (fun c e ai=> ?_) ?_
  ·refine St.cI ?_
   refine St.bH (P:=Tryz.prog) 38 (e 14) ((aK xp)) rfl ?_;refine St.ag (cQ (aK xp) (e 15) (aP (.mk [101] []) (.mk [116] [])) (aO 0)) iw (.cons (.mk rfl) (.cons (.mk rfl) .nil)) rfl ?_;rintro v40 _ rfl;refine St.aq ?_;refine St.nn ?_;exact St.aI _ rfl _ rfl
  refine ab.c0 (fun c e ai=> ?_) ?_
  ·refine St.aC ?_
   refine St.ee (Ev.an (.mk rfl) bb trivial (by exact bB)) ?_;refine St.fact (bZ ((aK xr)) ((aK xr))) (fun _ _ _=>rfl) ?_;refine St.nn ?_;exact St.aI _ rfl _ rfl
  refine ab.c0 (fun c e ai=> ?_) ?_
  ·refine St.aC ?_
   refine St.ee (Ev.an (.mk rfl) bb trivial (by exact bB)) ?_;refine St.fact (bZ ((aK xq)) ((aK xq))) (fun _ _ _=>rfl) ?_;refine St.nn ?_;exact St.aI _ rfl _ rfl
  refine ab.c0 (fun c e ai=> ?_) ?_
  ·refine St.aC ?_
   refine St.ee (Ev.an (.mk rfl) bb trivial (by exact bB)) ?_;refine St.fact (bZ ((aK xe)) ((aK xe))) (fun _ _ _=>rfl) ?_;refine St.nn ?_;exact St.aI _ rfl _ rfl
  refine ab.c0 (fun c e ai=> ?_) ?_
  ·refine St.aC ?_
   refine St.ag (bc 1 (by unfold aj;decide)) iu (.cons (.mk rfl) .nil) rfl ?_;rintro v44 _ rfl;refine St.aq ?_;refine St.nn ?_;exact St.aI _ rfl _ rfl
  refine ab.c0 (fun c e ai=> ?_) ?_
  ·refine St.aC ?_
   refine St.ee (Ev.an (.mk rfl) bb trivial (by exact bB)) ?_;refine St.fact (bZ ((aK xe)) ((aK xe))) (fun _ _ _=>rfl) ?_;refine St.nn ?_;exact St.aI _ rfl _ rfl
  refine ab.c0 (fun c e ai=> ?_) ?_
  ·refine St.aC ?_
   refine St.ag (bc 3 (by unfold aj;decide)) iu (.cons (.mk rfl) .nil) rfl ?_;rintro v46 _ rfl;refine St.aq ?_;refine St.nn ?_;exact St.aI _ rfl _ rfl
  refine ab.c0 (fun c e ai=> ?_) ?_
  ·refine St.aC ?_
   refine St.ag (bc 1 (by unfold aj;decide)) iu (.cons (.mk rfl) .nil) rfl ?_;rintro v47 _ rfl;refine St.aq ?_;refine St.nn ?_;exact St.aI _ rfl _ rfl
  refine ab.cc (fun e=>[(46,e 22),(47,e 23)]) (fun e=>[aE (isTerm (aO 3) (e 22)),aE (isTerm (aO 1) (e 23))]) (fun c e ai=> ?_) ?_
  ·refine St.cI ?_
   refine St.ag (cx (e 22) (e 23) (aO 3) (aO 1)) kF (.cons (.mk rfl) (.cons (.mk rfl) .nil)) rfl ?_;rintro v48 _ rfl;refine St.aq ?_;refine St.nn ?_;exact St.aI _ rfl _ rfl
  refine ab.c0 (fun c e ai=> ?_) ?_
  ·refine St.aC ?_
   refine St.ag (bc 0 (by unfold aj;decide)) iu (.cons (.mk rfl) .nil) rfl ?_;rintro v49 _ rfl;refine St.aq ?_;refine St.nn ?_;exact St.aI _ rfl _ rfl
  refine ab.cc (fun e=>[(48,e 24),(49,e 25)]) (fun e=>[aE (isTerm (aC (aO 3) (aO 1)) (e 24)),aE (isTerm (aO 0) (e 25))]) (fun c e ai=> ?_) ?_
  ·refine St.cI ?_
   refine St.ag (cx (e 24) (e 25) (aC (aO 3) (aO 1)) (aO 0)) kF (.cons (.mk rfl) (.cons (.mk rfl) .nil)) rfl ?_;rintro XR _ rfl;refine St.aq ?_;refine St.nn ?_;exact St.aI _ rfl _ rfl
  refine ab.cc (fun e=>[(45,e 21),(50,e 26)]) (fun e=>[aE (bZ (e 21) ((aK xe))),aE (isTerm (aC (aC (aO 3) (aO 1)) (aO 0)) (e 26))]) (fun c e ai=> ?_) ?_
  ·refine St.cI ?_
   refine St.bH (P:=Tryz.prog) 45 (e 21) ((aK xe)) rfl ?_;refine St.ag (cQ (aK xe) (e 26) (.mk [101] []) (aC (aC (aO 3) (aO 1)) (aO 0))) iw (.cons (.mk rfl) (.cons (.mk rfl) .nil)) rfl ?_;rintro v51 _ rfl;refine St.aq ?_;refine St.nn ?_;exact St.aI _ rfl _ rfl
  refine ab.cc (fun e=>[(44,e 20),(51,e 27)]) (fun e=>[aE (isTerm (aO 1) (e 20)),aE (isTerm (aX (.mk [101] []) (aC (aC (aO 3) (aO 1)) (aO 0))) (e 27))]) (fun c e ai=> ?_) ?_
  ·refine St.cI ?_
   refine St.ag (cx (e 20) (e 27) (aO 1) (aX (.mk [101] []) (aC (aC (aO 3) (aO 1)) (aO 0)))) kF (.cons (.mk rfl) (.cons (.mk rfl) .nil)) rfl ?_;rintro v52 _ rfl;refine St.aq ?_;refine St.nn ?_;exact St.aI _ rfl _ rfl
  refine ab.cc (fun e=>[(43,e 19),(52,e 28)]) (fun e=>[aE (bZ (e 19) ((aK xe))),aE (isTerm (aC (aO 1) (aX (.mk [101] []) (aC (aC (aO 3) (aO 1)) (aO 0)))) (e 28))]) (fun c e ai=> ?_) ?_
  ·refine St.cI ?_
   refine St.bH (P:=Tryz.prog) 43 (e 19) ((aK xe)) rfl ?_;refine St.ag (cQ (aK xe) (e 28) (.mk [101] []) (aC (aO 1) (aX (.mk [101] []) (aC (aC (aO 3) (aO 1)) (aO 0))))) iw (.cons (.mk rfl) (.cons (.mk rfl) .nil)) rfl ?_;rintro v53 _ rfl;refine St.aq ?_;refine St.nn ?_;exact St.aI _ rfl _ rfl
  refine ab.cc (fun e=>[(42,e 18),(53,e 29)]) (fun e=>[aE (bZ (e 18) ((aK xq))),aE (isTerm (aX (.mk [101] []) (aC (aO 1) (aX (.mk [101] []) (aC (aC (aO 3) (aO 1)) (aO 0))))) (e 29))]) (fun c e ai=> ?_) ?_
  ·refine St.cI ?_
   refine St.bH (P:=Tryz.prog) 42 (e 18) ((aK xq)) rfl ?_;refine St.ag (cQ (aK xq) (e 29) (aP (aP (.mk [101] []) (.mk [116] [])) (.mk [116] [])) (aX (.mk [101] []) (aC (aO 1) (aX (.mk [101] []) (aC (aC (aO 3) (aO 1)) (aO 0)))))) iw (.cons (.mk rfl) (.cons (.mk rfl) .nil)) rfl ?_;rintro Sp _ rfl;refine St.aq ?_;refine St.nn ?_;exact St.aI _ rfl _ rfl
  refine ab.cc (fun e=>[(41,e 17),(54,e 30)]) (fun e=>[aE (bZ (e 17) ((aK xr))),aE (isTerm (aX (aP (aP (.mk [101] []) (.mk [116] [])) (.mk [116] [])) (aX (.mk [101] []) (aC (aO 1) (aX (.mk [101] []) (aC (aC (aO 3) (aO 1)) (aO 0)))))) (e 30))]) (fun c e ai=> ?_) ?_
  ·refine St.cI ?_
   refine St.bH (P:=Tryz.prog) 41 (e 17) ((aK xr)) rfl ?_;refine St.ag (cQ (aK xr) (e 30) (aP (.mk [101] []) (aP (.mk [101] []) (.mk [116] []))) (aX (aP (aP (.mk [101] []) (.mk [116] [])) (.mk [116] [])) (aX (.mk [101] []) (aC (aO 1) (aX (.mk [101] []) (aC (aC (aO 3) (aO 1)) (aO 0))))))) iw (.cons (.mk rfl) (.cons (.mk rfl) .nil)) rfl ?_;rintro v55 _ rfl;refine St.aq ?_;refine St.nn ?_;exact St.aI _ rfl _ rfl
  refine ab.c0 (fun c e ai=> ?_) ?_
  ·refine St.aC ?_
   refine St.ee (Ev.an (.mk rfl) bb trivial (by exact bB)) ?_;refine St.fact (bZ ((aK xt)) ((aK xt))) (fun _ _ _=>rfl) ?_;refine St.nn ?_;exact St.aI _ rfl _ rfl
  refine ab.c0 (fun c e ai=> ?_) ?_
  ·refine St.aC ?_
   refine St.ee (Ev.an (.mk rfl) bb trivial (by exact bB)) ?_;refine St.fact (bZ ((aK xt)) ((aK xt))) (fun _ _ _=>rfl) ?_;refine St.nn ?_;exact St.aI _ rfl _ rfl
  refine ab.cc (fun e=>[(56,e 32),(57,e 33)]) (fun e=>[aE (bZ (e 32) ((aK xt))),aE (bZ (e 33) ((aK xt)))]) (fun c e ai=> ?_) ?_
  ·refine St.cI ?_
   refine St.bH (P:=Tryz.prog) 56 (e 32) ((aK xt)) rfl ?_;refine St.bH (P:=Tryz.prog) 57 (e 33) ((aK xt)) rfl ?_;refine St.ag (dT (aK xt) (aK xt) (.mk [116] []) (.mk [116] [])) l2 (.cons (.mk rfl) (.cons (.mk rfl) .nil)) rfl ?_;rintro v58 _ rfl;refine St.aq ?_;refine St.nn ?_;exact St.aI _ rfl _ rfl
  refine ab.c0 (fun c e ai=> ?_) ?_
  ·refine St.aC ?_
   refine St.ee (Ev.an (.mk rfl) bb trivial (by exact bB)) ?_;refine St.fact (bZ ((aK xp)) ((aK xp))) (fun _ _ _=>rfl) ?_;refine St.nn ?_;exact St.aI _ rfl _ rfl
  refine ab.c0 (fun c e ai=> ?_) ?_
  ·refine St.aC ?_
   refine St.ee (Ev.an (.mk rfl) bb trivial (by exact bB)) ?_;refine St.fact (bZ ((aK xe)) ((aK xe))) (fun _ _ _=>rfl) ?_;refine St.nn ?_;exact St.aI _ rfl _ rfl
  refine ab.c0 (fun c e ai=> ?_) ?_
  ·refine St.aC ?_
   refine St.ag (bc 2 (by unfold aj;decide)) iu (.cons (.mk rfl) .nil) rfl ?_;rintro v61 _ rfl;refine St.aq ?_;refine St.nn ?_;exact St.aI _ rfl _ rfl
  refine ab.c0 (fun c e ai=> ?_) ?_
  ·refine St.aC ?_
   refine St.ag (bc 1 (by unfold aj;decide)) iu (.cons (.mk rfl) .nil) rfl ?_;rintro v62 _ rfl;refine St.aq ?_;refine St.nn ?_;exact St.aI _ rfl _ rfl
  refine ab.c0 (fun c e ai=> ?_) ?_
  ·refine St.aC ?_
   refine St.ag (bc 0 (by unfold aj;decide)) iu (.cons (.mk rfl) .nil) rfl ?_;rintro v63 _ rfl;refine St.aq ?_;refine St.nn ?_;exact St.aI _ rfl _ rfl
  refine ab.cc (fun e=>[(62,e 38),(63,e 39)]) (fun e=>[aE (isTerm (aO 1) (e 38)),aE (isTerm (aO 0) (e 39))]) (fun c e ai=> ?_) ?_
  ·refine St.cI ?_
   refine St.ag (cx (e 38) (e 39) (aO 1) (aO 0)) kF (.cons (.mk rfl) (.cons (.mk rfl) .nil)) rfl ?_;rintro v64 _ rfl;refine St.aq ?_;refine St.nn ?_;exact St.aI _ rfl _ rfl
  refine ab.cc (fun e=>[(61,e 37),(64,e 40)]) (fun e=>[aE (isTerm (aO 2) (e 37)),aE (isTerm (aC (aO 1) (aO 0)) (e 40))]) (fun c e ai=> ?_) ?_
  ·refine St.cI ?_
   refine St.ag (cx (e 37) (e 40) (aO 2) (aC (aO 1) (aO 0))) kF (.cons (.mk rfl) (.cons (.mk rfl) .nil)) rfl ?_;rintro v65 _ rfl;refine St.aq ?_;refine St.nn ?_;exact St.aI _ rfl _ rfl
  refine ab.cc (fun e=>[(60,e 36),(65,e 41)]) (fun e=>[aE (bZ (e 36) ((aK xe))),aE (isTerm (aC (aO 2) (aC (aO 1) (aO 0))) (e 41))]) (fun c e ai=> ?_) ?_
  ·refine St.cI ?_
   refine St.bH (P:=Tryz.prog) 60 (e 36) ((aK xe)) rfl ?_;refine St.ag (cQ (aK xe) (e 41) (.mk [101] []) (aC (aO 2) (aC (aO 1) (aO 0)))) iw (.cons (.mk rfl) (.cons (.mk rfl) .nil)) rfl ?_;rintro v66 _ rfl;refine St.aq ?_;refine St.nn ?_;exact St.aI _ rfl _ rfl
  refine ab.cc (fun e=>[(59,e 35),(66,e 42)]) (fun e=>[aE (bZ (e 35) ((aK xp))),aE (isTerm (aX (.mk [101] []) (aC (aO 2) (aC (aO 1) (aO 0)))) (e 42))]) (fun c e ai=> ?_) ?_
  ·refine St.cI ?_
   refine St.bH (P:=Tryz.prog) 59 (e 35) ((aK xp)) rfl ?_;refine St.ag (cQ (aK xp) (e 42) (aP (.mk [101] []) (.mk [116] [])) (aX (.mk [101] []) (aC (aO 2) (aC (aO 1) (aO 0))))) iw (.cons (.mk rfl) (.cons (.mk rfl) .nil)) rfl ?_;rintro v67 _ rfl;refine St.aq ?_;refine St.nn ?_;exact St.aI _ rfl _ rfl
  refine ab.cc (fun e=>[(58,e 34),(67,e 43)]) (fun e=>[aE (ah (aP (.mk [116] []) (.mk [116] [])) (e 34)),aE (isTerm (aX (aP (.mk [101] []) (.mk [116] [])) (aX (.mk [101] []) (aC (aO 2) (aC (aO 1) (aO 0))))) (e 43))]) (fun c e ai=> ?_) ?_
  ·refine St.cI ?_
   refine St.ag (cQ (e 34) (e 43) (aP (.mk [116] []) (.mk [116] [])) (aX (aP (.mk [101] []) (.mk [116] [])) (aX (.mk [101] []) (aC (aO 2) (aC (aO 1) (aO 0)))))) iw (.cons (.mk rfl) (.cons (.mk rfl) .nil)) rfl ?_;rintro v68 _ rfl;refine St.aq ?_;refine St.nn ?_;exact St.aI _ rfl _ rfl
  refine ab.c0 (fun c e ai=> ?_) ?_
  ·refine St.aC ?_
   refine St.ee (Ev.an (.mk rfl) bb trivial (by exact bB)) ?_;refine St.fact (bZ ((aK xq)) ((aK xq))) (fun _ _ _=>rfl) ?_;refine St.nn ?_;exact St.aI _ rfl _ rfl
  refine ab.c0 (fun c e ai=> ?_) ?_
  ·refine St.aC ?_
   refine St.ee (Ev.an (.mk rfl) bb trivial (by exact bB)) ?_;refine St.fact (bZ ((aK xt)) ((aK xt))) (fun _ _ _=>rfl) ?_;refine St.nn ?_;exact St.aI _ rfl _ rfl
  refine ab.c0 (fun c e ai=> ?_) ?_
  ·refine St.aC ?_
   refine St.ee (Ev.an (.mk rfl) bb trivial (by exact bB)) ?_;refine St.fact (bZ ((aK xt)) ((aK xt))) (fun _ _ _=>rfl) ?_;refine St.nn ?_;exact St.aI _ rfl _ rfl
  refine ab.c0 (fun c e ai=> ?_) ?_
  ·refine St.aC ?_
   refine St.ee (Ev.an (.mk rfl) bb trivial (by exact bB)) ?_;refine St.fact (bZ ((aK xt)) ((aK xt))) (fun _ _ _=>rfl) ?_;refine St.nn ?_;exact St.aI _ rfl _ rfl
  refine ab.cc (fun e=>[(71,e 47),(72,e 48)]) (fun e=>[aE (bZ (e 47) ((aK xt))),aE (bZ (e 48) ((aK xt)))]) (fun c e ai=> ?_) ?_
  ·refine St.cI ?_
   refine St.bH (P:=Tryz.prog) 71 (e 47) ((aK xt)) rfl ?_;refine St.bH (P:=Tryz.prog) 72 (e 48) ((aK xt)) rfl ?_;refine St.ag (dT (aK xt) (aK xt) (.mk [116] []) (.mk [116] [])) l2 (.cons (.mk rfl) (.cons (.mk rfl) .nil)) rfl ?_;rintro v73 _ rfl;refine St.aq ?_;refine St.nn ?_;exact St.aI _ rfl _ rfl
  refine ab.cc (fun e=>[(70,e 46),(73,e 49)]) (fun e=>[aE (bZ (e 46) ((aK xt))),aE (ah (aP (.mk [116] []) (.mk [116] [])) (e 49))]) (fun c e ai=> ?_) ?_
  ·refine St.cI ?_
   refine St.bH (P:=Tryz.prog) 70 (e 46) ((aK xt)) rfl ?_;refine St.ag (dT (aK xt) (e 49) (.mk [116] []) (aP (.mk [116] []) (.mk [116] []))) l2 (.cons (.mk rfl) (.cons (.mk rfl) .nil)) rfl ?_;rintro v74 _ rfl;refine St.aq ?_;refine St.nn ?_;exact St.aI _ rfl _ rfl
  refine ab.c0 (fun c e ai=> ?_) ?_
  ·refine St.aC ?_
   refine St.ee (Ev.an (.mk rfl) bb trivial (by exact bB)) ?_;refine St.fact (bZ ((aK xq)) ((aK xq))) (fun _ _ _=>rfl) ?_;refine St.nn ?_;exact St.aI _ rfl _ rfl
  refine ab.c0 (fun c e ai=> ?_) ?_
  ·refine St.aC ?_
   refine St.ee (Ev.an (.mk rfl) bb trivial (by exact bB)) ?_;refine St.fact (bZ ((aK xp)) ((aK xp))) (fun _ _ _=>rfl) ?_;refine St.nn ?_;exact St.aI _ rfl _ rfl
  refine ab.c0 (fun c e ai=> ?_) ?_
  ·refine St.aC ?_
   refine St.ag (bc 2 (by unfold aj;decide)) iu (.cons (.mk rfl) .nil) rfl ?_;rintro v77 _ rfl;refine St.aq ?_;refine St.nn ?_;exact St.aI _ rfl _ rfl
  refine ab.c0 (fun c e ai=> ?_) ?_
  ·refine St.aC ?_
   refine St.ag (bc 3 (by unfold aj;decide)) iu (.cons (.mk rfl) .nil) rfl ?_;rintro v78 _ rfl;refine St.aq ?_;refine St.nn ?_;exact St.aI _ rfl _ rfl
  refine ab.c0 (fun c e ai=> ?_) ?_
  ·refine St.aC ?_
   refine St.ag (bc 0 (by unfold aj;decide)) iu (.cons (.mk rfl) .nil) rfl ?_;rintro v79 _ rfl;refine St.aq ?_;refine St.nn ?_;exact St.aI _ rfl _ rfl
  refine ab.cc (fun e=>[(78,e 54),(79,e 55)]) (fun e=>[aE (isTerm (aO 3) (e 54)),aE (isTerm (aO 0) (e 55))]) (fun c e ai=> ?_) ?_
  ·refine St.cI ?_
   refine St.ag (cx (e 54) (e 55) (aO 3) (aO 0)) kF (.cons (.mk rfl) (.cons (.mk rfl) .nil)) rfl ?_;rintro v80 _ rfl;refine St.aq ?_;refine St.nn ?_;exact St.aI _ rfl _ rfl
  refine ab.cc (fun e=>[(77,e 53),(80,e 56)]) (fun e=>[aE (isTerm (aO 2) (e 53)),aE (isTerm (aC (aO 3) (aO 0)) (e 56))]) (fun c e ai=> ?_) ?_
  ·refine St.cI ?_
   refine St.ag (cx (e 53) (e 56) (aO 2) (aC (aO 3) (aO 0))) kF (.cons (.mk rfl) (.cons (.mk rfl) .nil)) rfl ?_;rintro v81 _ rfl;refine St.aq ?_;refine St.nn ?_;exact St.aI _ rfl _ rfl
  refine ab.c0 (fun c e ai=> ?_) ?_
  ·refine St.aC ?_
   refine St.ag (bc 1 (by unfold aj;decide)) iu (.cons (.mk rfl) .nil) rfl ?_;rintro v82 _ rfl;refine St.aq ?_;refine St.nn ?_;exact St.aI _ rfl _ rfl
  refine ab.c0 (fun c e ai=> ?_) ?_
  ·refine St.aC ?_
   refine St.ag (bc 0 (by unfold aj;decide)) iu (.cons (.mk rfl) .nil) rfl ?_;rintro v83 _ rfl;refine St.aq ?_;refine St.nn ?_;exact St.aI _ rfl _ rfl
  refine ab.cc (fun e=>[(82,e 58),(83,e 59)]) (fun e=>[aE (isTerm (aO 1) (e 58)),aE (isTerm (aO 0) (e 59))]) (fun c e ai=> ?_) ?_
  ·refine St.cI ?_
   refine St.ag (cx (e 58) (e 59) (aO 1) (aO 0)) kF (.cons (.mk rfl) (.cons (.mk rfl) .nil)) rfl ?_;rintro v84 _ rfl;refine St.aq ?_;refine St.nn ?_;exact St.aI _ rfl _ rfl
  refine ab.cc (fun e=>[(81,e 57),(84,e 60)]) (fun e=>[aE (isTerm (aC (aO 2) (aC (aO 3) (aO 0))) (e 57)),aE (isTerm (aC (aO 1) (aO 0)) (e 60))]) (fun c e ai=> ?_) ?_
  ·refine St.cI ?_
   refine St.ag (cx (e 57) (e 60) (aC (aO 2) (aC (aO 3) (aO 0))) (aC (aO 1) (aO 0))) kF (.cons (.mk rfl) (.cons (.mk rfl) .nil)) rfl ?_;rintro v85 _ rfl;refine St.aq ?_;refine St.nn ?_;exact St.aI _ rfl _ rfl
  refine ab.cc (fun e=>[(76,e 52),(85,e 61)]) (fun e=>[aE (bZ (e 52) ((aK xp))),aE (isTerm (aC (aC (aO 2) (aC (aO 3) (aO 0))) (aC (aO 1) (aO 0))) (e 61))]) (fun c e ai=> ?_) ?_
  ·refine St.cI ?_
   refine St.bH (P:=Tryz.prog) 76 (e 52) ((aK xp)) rfl ?_;refine St.ag (cQ (aK xp) (e 61) (aP (.mk [101] []) (.mk [116] [])) (aC (aC (aO 2) (aC (aO 3) (aO 0))) (aC (aO 1) (aO 0)))) iw (.cons (.mk rfl) (.cons (.mk rfl) .nil)) rfl ?_;rintro v86 _ rfl;refine St.aq ?_;refine St.nn ?_;exact St.aI _ rfl _ rfl
  refine ab.cc (fun e=>[(75,e 51),(86,e 62)]) (fun e=>[aE (bZ (e 51) ((aK xq))),aE (isTerm (aX (aP (.mk [101] []) (.mk [116] [])) (aC (aC (aO 2) (aC (aO 3) (aO 0))) (aC (aO 1) (aO 0)))) (e 62))]) (fun c e ai=> ?_) ?_
  ·refine St.cI ?_
   refine St.bH (P:=Tryz.prog) 75 (e 51) ((aK xq)) rfl ?_;refine St.ag (cQ (aK xq) (e 62) (aP (aP (.mk [101] []) (.mk [116] [])) (.mk [116] [])) (aX (aP (.mk [101] []) (.mk [116] [])) (aC (aC (aO 2) (aC (aO 3) (aO 0))) (aC (aO 1) (aO 0))))) iw (.cons (.mk rfl) (.cons (.mk rfl) .nil)) rfl ?_;rintro v87 _ rfl;refine St.aq ?_;refine St.nn ?_;exact St.aI _ rfl _ rfl
  refine ab.cc (fun e=>[(74,e 50),(87,e 63)]) (fun e=>[aE (ah (aP (.mk [116] []) (aP (.mk [116] []) (.mk [116] []))) (e 50)),aE (isTerm (aX (aP (aP (.mk [101] []) (.mk [116] [])) (.mk [116] [])) (aX (aP (.mk [101] []) (.mk [116] [])) (aC (aC (aO 2) (aC (aO 3) (aO 0))) (aC (aO 1) (aO 0))))) (e 63))]) (fun c e ai=> ?_) ?_
  ·refine St.cI ?_
   refine St.ag (cQ (e 50) (e 63) (aP (.mk [116] []) (aP (.mk [116] []) (.mk [116] []))) (aX (aP (aP (.mk [101] []) (.mk [116] [])) (.mk [116] [])) (aX (aP (.mk [101] []) (.mk [116] [])) (aC (aC (aO 2) (aC (aO 3) (aO 0))) (aC (aO 1) (aO 0)))))) iw (.cons (.mk rfl) (.cons (.mk rfl) .nil)) rfl ?_;rintro v88 _ rfl;refine St.aq ?_;refine St.nn ?_;exact St.aI _ rfl _ rfl
  refine ab.cc (fun e=>[(69,e 45),(88,e 64)]) (fun e=>[aE (bZ (e 45) ((aK xq))),aE (isTerm (aX (aP (.mk [116] []) (aP (.mk [116] []) (.mk [116] []))) (aX (aP (aP (.mk [101] []) (.mk [116] [])) (.mk [116] [])) (aX (aP (.mk [101] []) (.mk [116] [])) (aC (aC (aO 2) (aC (aO 3) (aO 0))) (aC (aO 1) (aO 0)))))) (e 64))]) (fun c e ai=> ?_) ?_
  ·refine St.cI ?_
   refine St.bH (P:=Tryz.prog) 69 (e 45) ((aK xq)) rfl ?_;refine St.ag (cQ (aK xq) (e 64) (aP (aP (.mk [101] []) (.mk [116] [])) (.mk [116] [])) (aX (aP (.mk [116] []) (aP (.mk [116] []) (.mk [116] []))) (aX (aP (aP (.mk [101] []) (.mk [116] [])) (.mk [116] [])) (aX (aP (.mk [101] []) (.mk [116] [])) (aC (aC (aO 2) (aC (aO 3) (aO 0))) (aC (aO 1) (aO 0))))))) iw (.cons (.mk rfl) (.cons (.mk rfl) .nil)) rfl ?_;rintro v89 _ rfl;refine St.aq ?_;refine St.nn ?_;exact St.aI _ rfl _ rfl
  refine ab.cc (fun e=>[(30,e 6),(37,e 13),(40,e 16),(55,e 31),(68,e 44),(89,e 65)]) (fun e=>[aE (isTerm (aX (aP (aP (.mk [101] []) (.mk [116] [])) (.mk [116] [])) (aX (aP (.mk [101] []) (.mk [116] [])) (aC (aO 1) (aO 0)))) (e 6)),aE (isTerm (aX (aP (aP (.mk [101] []) (.mk [116] [])) (aP (aP (.mk [101] []) (.mk [116] [])) (.mk [116] []))) (aX (aP (.mk [101] []) (.mk [116] [])) (aC (aO 1) (aO 0)))) (e 13)),aE (isTerm (aX (aP (.mk [101] []) (.mk [116] [])) (aO 0)) (e 16)),aE (isTerm (aX (aP (.mk [101] []) (aP (.mk [101] []) (.mk [116] []))) (aX (aP (aP (.mk [101] []) (.mk [116] [])) (.mk [116] [])) (aX (.mk [101] []) (aC (aO 1) (aX (.mk [101] []) (aC (aC (aO 3) (aO 1)) (aO 0))))))) (e 31)),aE (isTerm (aX (aP (.mk [116] []) (.mk [116] [])) (aX (aP (.mk [101] []) (.mk [116] [])) (aX (.mk [101] []) (aC (aO 2) (aC (aO 1) (aO 0)))))) (e 44)),aE (isTerm (aX (aP (aP (.mk [101] []) (.mk [116] [])) (.mk [116] [])) (aX (aP (.mk [116] []) (aP (.mk [116] []) (.mk [116] []))) (aX (aP (aP (.mk [101] []) (.mk [116] [])) (.mk [116] [])) (aX (aP (.mk [101] []) (.mk [116] [])) (aC (aC (aO 2) (aC (aO 3) (aO 0))) (aC (aO 1) (aO 0))))))) (e 65))]) (fun c e ai=> ?_) ?_
  ·refine St.Jq ?_
   refine St.isTerm (aX (aP (aP (.mk [101] []) (.mk [116] [])) (.mk [116] [])) (aX (aP (.mk [101] []) (.mk [116] [])) (aC (aO 1) (aO 0)))) (e 6) (fun It U0=> ?_);obtain⟨O8,O9,OA⟩:=U0;rw[O8];refine St.isTerm (aX (aP (aP (.mk [101] []) (.mk [116] [])) (aP (aP (.mk [101] []) (.mk [116] [])) (.mk [116] []))) (aX (aP (.mk [101] []) (.mk [116] [])) (aC (aO 1) (aO 0)))) (e 13) (fun Iu U1=> ?_);obtain⟨OB,OC,OD⟩:=U1;rw[OB];refine St.isTerm (aX (aP (.mk [101] []) (.mk [116] [])) (aO 0)) (e 16) (fun Iv U2=> ?_);obtain⟨OE,OG,OH⟩:=U2;rw[OE];refine St.isTerm (aX (aP (.mk [101] []) (aP (.mk [101] []) (.mk [116] []))) (aX (aP (aP (.mk [101] []) (.mk [116] [])) (.mk [116] [])) (aX (.mk [101] []) (aC (aO 1) (aX (.mk [101] []) (aC (aC (aO 3) (aO 1)) (aO 0))))))) (e 31) (fun Iw U3=> ?_);obtain⟨OI,OJ,OK⟩:=U3;rw[OI];refine St.isTerm (aX (aP (.mk [116] []) (.mk [116] [])) (aX (aP (.mk [101] []) (.mk [116] [])) (aX (.mk [101] []) (aC (aO 2) (aC (aO 1) (aO 0)))))) (e 44) (fun Ix U4=> ?_);obtain⟨OL,OM,OO⟩:=U4;rw[OL];refine St.isTerm (aX (aP (aP (.mk [101] []) (.mk [116] [])) (.mk [116] [])) (aX (aP (.mk [116] []) (aP (.mk [116] []) (.mk [116] []))) (aX (aP (aP (.mk [101] []) (.mk [116] [])) (.mk [116] [])) (aX (aP (.mk [101] []) (.mk [116] [])) (aC (aC (aO 2) (aC (aO 3) (aO 0))) (aC (aO 1) (aO 0))))))) (e 65) (fun Iy U5=> ?_);obtain⟨OP,OQ,OS⟩:=U5;rw[OP];refine St.cS rfl (.cons (.mk rfl) (.cons (.mk rfl) (.cons (.mk rfl) (.cons (.mk rfl) (.cons (.mk rfl) (.cons (.mk rfl) .nil)))))) fJ dI Jw rfl rfl (by simp[Value.cells]) rfl rfl (fun Iz=> ?_);refine St.aM (.slice (some ⟨Iz,0,none⟩) 6 6) bx [It,Iu,Iv,Iw,Ix,Iy] rfl rfl (all_cons OA (all_cons OD (all_cons OH (all_cons OK (all_cons OO (all_cons OS (all_nil))))))) ?_;refine A0 bW [It,Iu,Iv,Iw,Ix,Iy] [bW It,bW Iu,bW Iv,bW Iw,bW Ix,bW Iy] rfl ?_;refine St.iJ (iM mY (.slice (some ⟨Iz,0,none⟩) 6 6)) [sl bx (.slice (some ⟨Iz,0,none⟩) 6 6) [It,Iu,Iv,Iw,Ix,Iy],au bW [It,Iu,Iv,Iw,Ix,Iy]] (fun ρ h=>⟨rfl,[It,Iu,Iv,Iw,Ix,Iy],by simp only[List.map_cons,List.map_nil,O9,OC,OG,OJ,OM,OQ];rfl,h (sl bx (.slice (some ⟨Iz,0,none⟩) 6 6) [It,Iu,Iv,Iw,Ix,Iy]) (by simp),h (au bW [It,Iu,Iv,Iw,Ix,Iy]) (by simp)⟩) ?_;refine St.nn ?_;exact St.aI _ rfl _ rfl
  exact ab.nil
 refine St.aq ?_;refine St.ao ?_;refine St.nn (St.seq (St.sr ?_));refine St.mv ?_;refine St.nn ?_;refine St.ph _ rfl rfl ?_;refine St.skip (St.a7 (St.sr ?_));refine St.mv ?_;refine St.ao ?_;refine St.nn (St.ae ?_);refine St.rU [_] [aE (iM mY (e 66))] Tryz.results35 ?_;rfl
end Go.Proofs.YtoioijgdggkabaaGreatDoor
namespace Go.J
open Go
def uh:List Int→List Int→Bool
 | [],[]=>false
 | [],_::_=>true
 |_::_,[]=>false
 |a::x,b::y=>decide (a<b)||(decide (a=b)&&uh x y)
theorem si:∀{x y z:List Int},uh x y=true→uh y z=true→uh x z=true
 | [],[],_,h,_=>by simp[uh]at h
 | [],_::_,[],_,h=>by simp[uh]at h
 | [],_::_,_::_,_,_=>rfl
 |_::_,[],_,h,_=>by simp[uh]at h
 |_::_,_::_,[],_,h=>by simp[uh]at h
 |a::x,b::y,c::z,h,k=>by
  simp only[uh,Bool.or_eq_true,Bool.and_eq_true,decide_eq_true_eq]at h k⊢
  rcases h with h|⟨h,h'⟩
  ·left;rcases k with k|⟨k,_⟩<;>omega
  ·rcases k with k|⟨k,k'⟩
   ·left;omega
   ·right;exact⟨by omega,si h' k'⟩
theorem A1:∀(x y:List Int),uh x y=true∨x=y∨uh y x=true
 | [],[]=> .inr (.inl rfl)
 | [],_::_=> .inl rfl
 |_::_,[]=> .inr (.inr rfl)
 |a::x,b::y=>by
  simp only[uh,Bool.or_eq_true,Bool.and_eq_true,decide_eq_true_eq,List.cons.injEq]
  rcases Int.lt_trichotomy a b with h|h|h
  ·exact .inl (.inl h)
  ·rcases A1 x y with k|k|k
   ·exact .inl (.inr ⟨h,k⟩)
   ·exact .inr (.inl ⟨h,k⟩)
   ·exact .inr (.inr (.inr ⟨h.symm,k⟩))
  ·exact .inr (.inr (.inl h))
section
variable (p:List Int)
def pre (L i:Nat):List Int:=(p.drop i).take L
variable {p}
end
section
variable {n:Nat}{key:Nat→List Int}{cf:Nat→Nat→Int}{l:List Nat}
end
section
variable {p:List Int}{L:Nat}{cf:Nat→Nat→Int}{l:List Nat}{rk:List Int}
end
section
variable {p:List Int}
theorem E1 {a b:Nat}(ha:a≤p.length)(hb:b≤p.length)(h:p.drop a=p.drop b):a=b:=by
 have:=congrArg List.length h
 simp only[List.length_drop]at this
 omega
abbrev Sx (p:List Int)(l:List Nat):Prop:=l.Pairwise (fun a b=>uh (p.drop a) (p.drop b)=true)
structure E2 (p:List Int)(i:Nat)(A B:List Nat):Prop where
 perm:(A++B).Perm (List.range i)
 XS:Sx p (A++B)
 less:∀b∈B,uh (p.drop i) (p.drop b)=true
theorem E2.step {i a:Nat}{A B:List Nat}(h:E2 p i (A++ [a]) B)(hl:uh (p.drop i) (p.drop a)=true):E2 p i A (a::B):=
 ⟨by simpa using h.perm,by simpa using h.XS,fun b hb=>by rcases List.mem_cons.1 hb with rfl|hb;exact hl;exact h.less b hb⟩
theorem E2.done {i:Nat}{A B:List Nat}(h:E2 p i A B)(hi:i<p.length)(hl:A=[]∨∃A' a,A=A'++ [a]∧uh (p.drop i) (p.drop a)=false):(A++i::B).Perm (List.range (i+1))∧Sx p (A++i::B):=by
 have U6:∀x∈A++B,x<i:=fun x hx=>List.mem_range.1 (h.perm.mem_iff.1 hx)
 constructor
 ·rw[List.range_succ]
  exact List.perm_middle.trans ((h.perm.cons i).trans (List.perm_append_singleton i _).symm)
 ·have hs:=List.pairwise_append.1 h.XS
  have hA:∀x∈A,uh (p.drop x) (p.drop i)=true:=by
   rcases hl with rfl|⟨A',a,rfl,LR⟩
   ·intro x hx;cases hx
   ·have last:uh (p.drop a) (p.drop i)=true:=by
     have hai:=U6 a (by simp)
     rcases A1 (p.drop a) (p.drop i)with q|q|q
     ·exact q
     ·have:=E1 (by omega) (by omega) q;omega
     ·rw[LR]at q;cases q
    intro x hx
    rcases List.mem_append.1 hx with hx|hx
    ·exact si ((List.pairwise_append.1 hs.1).2.2 x hx a (List.mem_singleton_self _)) last
    ·rw[List.mem_singleton.1 hx];exact last
  refine List.pairwise_append.2 ⟨hs.1,List.pairwise_cons.2 ⟨h.less,hs.2.1⟩,?_⟩;intro x hx y hy
  rcases List.mem_cons.1 hy with rfl|hy
  ·exact hA x hx
  ·exact hs.2.2 x hx y hy
end
section
variable {n:Nat}{cf:Nat→Nat→Int}{l:List Nat}
end
structure OT (l:List (List ax)):Prop where
 len:l.length≤100
 each:∀s∈l,0<s.length∧s.length≤12∧s.all isWord=true
theorem OT.nil:OT []:=⟨by simp,fun s h=>by cases h⟩
def hz {β:Type}(q:List Nat):List Nat→List β→List β
 |x::U7,z::zs=>if(x::U7).take q.length=q then z::hz q U7 zs else hz q U7 zs
 |_,_=>[]
end Go.J
namespace Go.Proofs.YtoioijgdggkabaaGreatDoor
open Go Go.J
def cA:List Int→List fp
 |a::b::r=>⟨a,b⟩::cA r
 |_=>[]
theorem p6:∀xs:List Int,(cA xs).length=xs.length/2
 | []=>rfl
 | [_]=>by simp[cA]
 |a::b::r=>by rw[cA,List.length_cons,p6 r];simp only[List.length_cons];omega
theorem p7:∀{xs:List Int} {j:Nat} {a b:Int},xs[2*j]?=some a→xs[2*j+1]?=some b→(cA xs)[j]?=some ⟨a,b⟩
 | [],_,_,_,h,_=>by simp at h
 | [_],0,_,_,_,h=>by simp at h
 | [_],j+1,_,_,h,_=>by simp at h
 |x::y::r,0,a,b,h,k=>by
  simp at h k;subst h k;rfl
 |x::y::r,j+1,a,b,h,k=>by
  rw[show 2*(j+1)=(2*j)+1+1 by omega,List.getElem?_cons_succ,List.getElem?_cons_succ]at h;rw[show 2*(j+1)+1=(2*j+1)+1+1 by omega,List.getElem?_cons_succ,List.getElem?_cons_succ]at k;rw[cA,List.getElem?_cons_succ];exact p7 h k
theorem lL:∀{xs:List Int} {x:fp},x∈cA xs→x.dy∈xs∧x.to∈xs
 | [],_,h=>by cases h
 | [_],_,h=>by cases h
 |a::b::r,x,h=>by
  rw[cA]at h
  rcases List.mem_cons.1 h with rfl|h
  ·exact⟨by simp,by simp⟩
  ·have:=lL h
   exact⟨by simp[this.1],by simp[this.2]⟩
def Kk (xs:List Int):M1:=(xs.headD 0,(cA xs.tail).map jt)
def aw (fy:List (List Int)):gF:=fy.map Kk
theorem qk {X Y:List fp}{x:fp}(h:Y=X++ [x]):rows gB X++ [iv x.dy,iv x.to]=rows gB Y:=by rw[h,dA];rfl
theorem yl {X:List jK}{x:jK}:rows gI X++ [iv x.type,x.lv.1]=rows gI (X++ [x]):=by rw[dA];rfl
theorem BJ {xs:List Int}{x:Int}(h:xs[0]?=some x):Kk xs=(x,(cA (xs.drop 1)).map jt):=by
 cases xs with
 |nil=>simp at h
 |cons y r=>simp at h;subst h;rfl
theorem drop_at {xs:List Int}{j:Nat}:(xs.drop 1)[j]?=xs[1+j]?:=by rw[List.getElem?_drop]
set_option maxHeartbeats 4000000 in
theorem dc (u:Value)(fy:List (List Int))(er:fy.all (fun xs=>decide (0<xs.length)&&decide (xs.length≤60))=true)(hl:fy.length≤60):eI Tryz.prog 36 #[u] ([eC aF fy u].map aE) (fun v H'=>H'=[aE (cP (aw fy) v)]):=by
 refine eI.body (args:=[u]) 48 Tryz.func36 rfl Tryz.ntmps36 rfl (fun c=> ?_);refine St.cast (H':=[aE (eC aF fy u)]) rfl ?_;refine St.seq ?_;refine St.eC aF fy u (fun Qb=> ?_);refine St.pr u (fun vs LP=> ?_);refine St.Lw vs LP (fun rD=> ?_);refine St.rg ?_;refine St.alloc MR rfl (fun b2=> ?_);refine St.nn (St.sr ?_);refine St.alloc MR rfl (fun b3=> ?_);refine St.nn (St.seq (St.sr ?_));refine St.mv ?_;refine St.ee (Ev.bA (.mk rfl) dM) ?_;refine St.mv ?_;refine St.nn (St.block ?_);refine St.ic 139 2 ?_;refine St.bI (.slice none 0 0) (show _=([]:List jK).length from rfl) (show _=rows gI []from rfl) ?_;refine St.du fD ?_;refine St.pH (ι:=Nat) (κ:=Value×List jK) (fun k z T=>(10,iv k)::T) (fun k z=>[aZ b3 (.cells [z.1].toArray 52 (0,0)),row z.1 139 2 (z.2).length (rows gI (z.2)),aE (au fD z.2),aZ b2 (.cells [(.slice none 0 0)].toArray 52 (0,0)),aE (sl br u vs),aE (mL aF vs fy)]) (fun k z=>k≤fy.length∧z.1.oneCell'=true∧z.2.map r6=aw (fy.take k)∧∀x∈z.2,gI.wf x) (fun k z=>fy.length-k) 0 ((.slice none 0 0),[]) (aG.cons 2 rfl (aG.cons 3 rfl (aG.cons 8 rfl (aG.cons 9 rfl aG.nil)))) ⟨Nat.zero_le _,rfl,rfl,fun x hx=>by cases hx⟩ ?_;rintro k ⟨vz,X⟩ ⟨hk,hz,hX,Kl⟩
 dsimp only at hz hX Kl⊢
 have Nh:=congrArg List.length hX
 rw[List.length_map,aw,List.length_map,List.length_take]at Nh;refine St.sr ?_;refine St.ee Ev.ez ?_;refine St.nn (St.seq ?_);refine St.cond _ rfl (fun Dt=> ?_) (fun Dt=> ?_)
 ·try simp only[aA]at Dt
  obtain⟨s,hs⟩:=aY (show k<fy.length by omega);obtain⟨w,hw⟩:=aY (show k<vs.length by omega);refine St.mL (vs:=vs) k hw hs ?_
  have dC:=rD s (List.mem_of_getElem? hs)
  have TF:=List.all_eq_true.1 er s (List.mem_of_getElem? hs)
  simp only[Bool.and_eq_true,decide_eq_true_eq]at TF
  obtain⟨x0,ML⟩:=aY (show 0<s.length by omega)
  have vj:=p6 (s.drop 1)
  rw[List.length_drop]at vj;refine St.skip (St.a7 (St.seq (St.block (St.sr ?_))));refine St.ee (Ev.aa (k:=k) (.mk rfl) (.mk rfl) dM e9 (by omega) (by omega)) ?_;refine St.ee (Ev.jA (.mk rfl) hw bJ trivial rfl) ?_;refine St.ao ?_;refine St.nn (St.sr ?_);refine St.mv ?_;refine St.ee (Ev.aa (k:=0) (.mk rfl) (.mk rfl) bJ cu rfl (by omega)) ?_;refine St.ee (Ev.jA (.mk rfl) ML bf trivial rfl) ?_;refine St.ee (Ev.build (ps:=[(0,(.tmp 16))]) (aQ.cons (aL.mk rfl) aQ.nil) (fun w=>CT rfl w)) ?_;refine St.alloc zS rfl (fun b6=> ?_);refine St.sA (.mk rfl) (.mk rfl) jO ?_;refine St.nn (St.seq (St.sr ?_));refine St.ao ?_;refine St.nn (St.block ?_);refine St.ic 141 2 ?_;refine St.bI (.slice none 0 0) (show _=((cA (s.drop 1)).take 0).length from rfl) (show _=rows gB ((cA (s.drop 1)).take 0)from rfl) ?_;refine St.pH (ι:=Nat) (κ:=Value) (fun j y T=>(7,iv (1+2*(j:Nat)))::T) (fun j y=>[aZ b6 (.cells [iv x0,y].toArray 139 (0,0)),row y 141 2 ((cA (s.drop 1)).take j).length (rows gB ((cA (s.drop 1)).take j)),aE (sl aF w.1 s),aZ b3 (.cells [vz].toArray 52 (0,0)),row vz 139 2 (X).length (rows gI (X)),aE (au fD X),aZ b2 (.cells [(.slice none 0 0)].toArray 52 (0,0)),aE (sl br u vs),aE (mL aF vs fy)]) (fun j y=>j≤(s.length-1)/2∧y.oneCell'=true) (fun j y=>(s.length-1)/2-j) 0 (.slice none 0 0) (aG.cons 2 rfl (aG.cons 3 rfl (aG.cons 5 rfl (aG.cons 6 rfl (aG.cons 8 rfl (aG.cons 9 rfl (aG.cons 10 rfl aG.nil))))))) ⟨Nat.zero_le _,rfl⟩ ?_;rintro j y ⟨hj,hy⟩
  have Rm:((cA (s.drop 1)).take j).length≤60:=by rw[List.length_take];omega
  refine St.seq (St.sr ?_);refine St.mv ?_;refine St.ee Ev.a0 ?_;refine St.mv ?_;refine St.ee (Ev.bA (.mk rfl) bJ) ?_;refine St.ee Ev.ez ?_;refine St.nn ?_;refine St.cond _ rfl (fun pL=> ?_) (fun pL=> ?_)
  ·try simp only[aA]at pL
   have Td:1+2*j+1<s.length:=by omega
   obtain⟨xa,R5⟩:=aY (show 1+2*j<s.length by omega);obtain⟨xb,R6⟩:=aY (show 1+2*j+1<s.length by omega)
   have FU:(cA (s.drop 1))[j]?=some ⟨xa,xb⟩:=p7 (by rw[drop_at];exact R5) (by rw[drop_at,←Nat.add_assoc];exact R6)
   refine St.skip (St.a7 (St.seq (St.block ?_)));refine St.ek [aZ b6 (.cells [iv x0,y].toArray 139 (0,0)),row y 141 2 ((cA (s.drop 1)).take j).length (rows gB ((cA (s.drop 1)).take j))] mixed (fun np ns=> ?_);refine SW.dd 0 rfl (fun _=>Ev.aD (.mk rfl) jP) ?_;refine SW.dd 2 rfl (fun _=>Ev.move (.mk rfl)) ?_;refine SW.dd 3 rfl (fun _=>Ev.move (.mk rfl)) ?_;refine SW.dd 4 rfl (fun _=>Ev.aa (k:=(1+2*j)) (.mk rfl) (.mk rfl) bJ cu (by omega) (by omega)) ?_;refine SW.dd 5 rfl (fun _=>Ev.jA (.mk rfl) R5 bf trivial rfl) ?_;refine SW.dd 6 rfl (fun _=>Ev.move (.mk rfl)) ?_;refine SW.dd 7 rfl (fun _=>Ev.move (.mk rfl)) ?_;refine SW.dd 8 rfl (fun _=>Ev.a0) ?_;refine SW.dd 9 rfl (fun _=>Ev.aa (k:=(1+2*j+1)) (.mk rfl) (.mk rfl) bJ cu (by omega) (by omega)) ?_;refine SW.dd 10 rfl (fun _=>Ev.jA (.mk rfl) R6 bf trivial rfl) ?_;refine SW.dd 11 rfl (fun _=>Ev.build (ps:=[(0,(.tmp 30)),(1,(.tmp 35))]) (aQ.cons (aL.mk rfl) (aQ.cons (aL.mk rfl) aQ.nil)) (fun w=>xw rfl rfl w)) ?_;refine SW.ig (i:=1) (j:=12) (by kernel_rfl) rfl rfl ?_ ?_
   ·refine St.ee (Ev.l0 (.mk rfl) fW) ?_
    refine St.nn ?_;refine SW.go ?_;refine SW.ar (i:=12) (by kernel_rfl) rfl ?_;refine St.cS rfl (.cons (.mk rfl) .nil) fW gJ zU rfl rfl (by simp[Value.cells]) rfl rfl (fun b37=> ?_);refine St.nn ?_;refine SW.go ?_;refine SW.ar (i:=13) (by kernel_rfl) rfl ?_;refine St.cT (.mk rfl) (.mk rfl) fW gJ zU IQ (by simp[Value.oneCell',Value.cells]) (by omega) (by omega) rfl rfl rfl rfl (fun v38 U8=> ?_);refine St.bI v38 (show _=((cA (s.drop 1)).take (j+1)).length by rw[bD FU];exact eR) (show _=rows gB ((cA (s.drop 1)).take (j+1))from qk (x:=⟨xa,xb⟩) (bD FU)) ?_;refine St.e7 v38 (fun Al _=> ?_);refine St.nn ?_;refine SW.go ?_;refine SW.dd 14 rfl (fun _=>Ev.aD (.mk rfl) jP) ?_;refine SW.ar (i:=15) (by kernel_rfl) rfl ?_;refine St.bQ (.mk rfl) (.mk rfl) IU Al (by rfl) ?_;refine St.nn ?_;refine SW.go ?_;refine SW.done (by kernel_rfl) ?_;refine St.aW (St.a7 (St.rg ?_));refine St.mv ?_;refine St.ee Ev.a0 ?_;refine St.ao ?_;refine St.nn ?_;refine St.ly (j+1) v38 ⟨by omega,Al⟩
   ·refine St.cS rfl (.cons (.mk rfl) .nil) fW gJ zU rfl rfl (by simp[Value.cells]) rfl rfl (fun b37=> ?_)
    refine St.nn ?_;refine SW.go ?_;refine SW.ar (i:=1) (by kernel_rfl) rfl ?_;refine St.ee (Ev.l0 (.mk rfl) fW) ?_;refine St.nn ?_;refine SW.go ?_;refine SW.ar (i:=13) (by kernel_rfl) rfl ?_;refine St.cT (.mk rfl) (.mk rfl) fW gJ zU IQ (by simp[Value.oneCell',Value.cells]) (by omega) (by omega) rfl rfl rfl rfl (fun v38 U8=> ?_);refine St.bI v38 (show _=((cA (s.drop 1)).take (j+1)).length by rw[bD FU];exact eR) (show _=rows gB ((cA (s.drop 1)).take (j+1))from qk (x:=⟨xa,xb⟩) (bD FU)) ?_;refine St.e7 v38 (fun Al _=> ?_);refine St.nn ?_;refine SW.go ?_;refine SW.dd 14 rfl (fun _=>Ev.aD (.mk rfl) jP) ?_;refine SW.ar (i:=15) (by kernel_rfl) rfl ?_;refine St.bQ (.mk rfl) (.mk rfl) IU Al (by rfl) ?_;refine St.nn ?_;refine SW.go ?_;refine SW.done (by kernel_rfl) ?_;refine St.aW (St.a7 (St.rg ?_));refine St.mv ?_;refine St.ee Ev.a0 ?_;refine St.ao ?_;refine St.nn ?_;refine St.ly (j+1) v38 ⟨by omega,Al⟩
  ·try simp only[aA]at pL
   obtain rfl:j=(s.length-1)/2:=by omega
   have xL:(cA (s.drop 1)).take ((s.length-1)/2)=(cA (s.drop 1)):=List.take_of_length_le (by omega)
   rw[xL];refine St.aM y gB (cA (s.drop 1)) rfl rfl (fun x hx=>⟨dC _ (List.mem_of_mem_drop (lL hx).1),dC _ (List.mem_of_mem_drop (lL hx).2)⟩) ?_;refine St.iJ (fD ⟨x0,⟨y,hy⟩,(cA (s.drop 1))⟩) [sl gB y (cA (s.drop 1))] (fun ρ h=>h _ (List.mem_cons_self ..)) ?_;refine St.exit (St.aJ (St.aJ (St.bO (St.a7 (St.rg ?_)))));refine St.ee (Ev.aD (.mk rfl) gw) ?_;refine St.ee (Ev.l0 (.mk rfl) gu) ?_;refine St.ee (Ev.an (.mk rfl) Tryz.underlying139 trivial (by exact jO)) ?_;refine St.cS rfl (.cons (.mk rfl) .nil) gu jO IV rfl rfl (by simp[J.aB hy,Value.cells]) rfl rfl (fun Ni=> ?_);refine St.cT (.mk rfl) (.mk rfl) gu jO IV MU (by intro q hq;simp[Value.cells]at hq;rcases hq with rfl|rfl;rfl;exact hy) (by omega) (by omega) rfl rfl rfl rfl (fun v44 aaA=> ?_);refine St.bI v44 (show _=(X++ [(⟨x0,⟨y,hy⟩,(cA (s.drop 1))⟩:jK)]).length from eR) (show _=rows gI (X++ [(⟨x0,⟨y,hy⟩,(cA (s.drop 1))⟩:jK)])from yl (x:=⟨x0,⟨y,hy⟩,(cA (s.drop 1))⟩)) ?_;refine St.e7 v44 (fun ud _=> ?_);refine St.jr fD (xs:=X) (x:=⟨x0,⟨y,hy⟩,(cA (s.drop 1))⟩) ?_;refine St.ee (Ev.aD (.mk rfl) gw) ?_;refine St.bQ (.mk rfl) (.mk rfl) SH ud (by rfl) ?_;refine St.nil (St.aW (St.a7 (St.rg ?_)));refine St.ee Ev.a0 ?_;refine St.mv ?_;refine St.nn ?_;refine St.ly (k+1) (v44,X++ [(⟨x0,⟨y,hy⟩,(cA (s.drop 1))⟩:jK)]) ⟨by omega,ud,by rw[bD hs,List.map_append,hX,aw,aw,List.map_append];exact congrArg (fun q=>List.map Kk (List.take k fy)++ [q]) (BJ ML).symm,fun x hx=>(List.mem_append.1 hx).elim (Kl x) fun q=>by rw[List.mem_singleton.1 q];exact dC x0 (List.mem_of_getElem? ML)⟩
 ·try simp only[aA]at Dt
  obtain rfl:k=fy.length:=by omega
  rw[List.take_length]at hX;refine St.exit (St.aJ (St.aJ (St.bO (St.a7 (St.sr ?_)))));refine St.ee (Ev.an (.mk rfl) tr trivial (by exact qE)) ?_;refine St.sA (.mk rfl) (.mk rfl) qE ?_ (h1:=(by simp[hz]));refine St.nn (St.ae ?_);refine St.aM vz gI X rfl rfl Kl ?_;refine St.iJ (bz ⟨⟨vz,hz⟩,X⟩) [sl gI vz X,au fD X] (fun ρ h=>h) ?_;refine St.G5 ⟨⟨vz,hz⟩,X⟩ (g:=aw fy) (eN ⟨⟨vz,hz⟩,X⟩) rfl hX ?_;refine St.rT [_] [aE (cP (aw fy) (eN ⟨⟨vz,hz⟩,X⟩))] Tryz.results36 ⟨⟨_,_,_,_,rfl,c4.mem,.inl ⟨⟨_,tr⟩,qE,rfl⟩⟩,trivial⟩ ?_;rfl
def ql (names:List ax)(ps:List Int)(k:Nat):List dh:=(List.range k).map fun i=>(names.getD i [],if i=0 then []else [ps.getD i 0])
theorem ym (names:List ax)(ps:List Int)(k:Nat):ql names ps (k+1)=ql names ps k++ [(names.getD k [],if k=0 then []else [ps.getD k 0])]:=by
 unfold ql;rw[List.range_succ,List.map_append];rfl
theorem yn {X:List mq}{x:mq}:rows fh X++ [sv x.name,x.pv.1]=rows fh (X++ [x]):=by rw[dA];rfl
theorem mZ {X:List cR}{x:cR}:rows c6 X++AN x=rows c6 (X++ [x]):=by rw[dA];rfl
set_option maxHeartbeats 800000 in
theorem oQ (u1 u2 u3:Value)(names:List ax)(ps:List Int)(XT:u3.oneCell'=true)(hlen:ps.length=names.length)(hl:names.length≤60):eI Tryz.prog 34 #[u1,u2,u3] ([bM dH names u1,bM aF ps u2].map aE) (fun v H'=>∃(tv:dQ) (ts:List mq),v= .agg #[tv.1,u3]∧ts.map ck=ql names ps names.length∧H'=[aE (sl fh tv.1 ts),aE (au hY ts)]):=by
 refine eI.body (args:=[u1,u2,u3]) 38 Tryz.func34 rfl Tryz.ntmps34 rfl (fun c=> ?_);refine St.cast (H':=[aE (bM dH names u1),aE (bM aF ps u2)]) rfl ?_;refine St.seq ?_;refine St.bM dH names u1 (fun Qb=> ?_);refine St.bM aF ps u2 (fun hu2=> ?_);refine St.wf u1 (fun Nt _=> ?_);refine St.wf u2 (fun U9 _=> ?_);refine St.rg ?_;refine St.alloc Jx rfl (fun b6=> ?_);refine St.nn (St.sr ?_);refine St.alloc Jx rfl (fun b7=> ?_);refine St.nn (St.seq (St.sr ?_));refine St.mv ?_;refine St.ee (Ev.bA (.mk rfl) kT) ?_;refine St.mv ?_;refine St.nn (St.block ?_);refine St.ic 136 2 ?_;refine St.bI (.slice none 0 0) (show _=([]:List mq).length from rfl) (show _=rows fh []from rfl) ?_;refine St.du hY ?_;refine St.pH (ι:=Nat) (κ:=Value×List mq) (fun k z T=>(13,iv k)::T) (fun k z=>[aZ b7 (.cells [z.1,(.slice none 0 0)].toArray 47 (0,0)),row z.1 136 2 (z.2).length (rows fh (z.2)),aE (au hY z.2),aZ b6 (.cells [(.slice none 0 0),(.slice none 0 0)].toArray 47 (0,0)),aE (sl dH u1 names),aE (sl aF u2 ps)]) (fun k z=>k≤names.length∧z.1.oneCell'=true∧z.2.map ck=ql names ps k∧∀x∈z.2,fh.wf x) (fun k z=>names.length-k) 0 ((.slice none 0 0),[]) (aG.cons 1 rfl (aG.cons 2 rfl (aG.cons 6 rfl (aG.cons 7 rfl (aG.cons 11 rfl (aG.cons 12 rfl aG.nil)))))) ⟨Nat.zero_le _,rfl,rfl,fun x hx=>by cases hx⟩ ?_;rintro k ⟨vz,X⟩ ⟨hk,hz,hX,Kl⟩
 dsimp only at hz hX Kl⊢
 have Nh:=congrArg List.length hX
 rw[List.length_map,ql,List.length_map,List.length_range]at Nh;refine St.sr ?_;refine St.ee Ev.ez ?_;refine St.nn (St.seq ?_);refine St.cond _ rfl (fun uE=> ?_) (fun uE=> ?_)
 ·try simp only[aA]at uE
  obtain⟨nm,E3⟩:=aY (show k<names.length by omega);obtain⟨p,hp⟩:=aY (show k<ps.length by omega)
  have hgn:names.getD k []=nm:=by rw[List.getD_eq_getElem?_getD,E3];rfl
  have hgp:ps.getD k 0=p:=by rw[List.getD_eq_getElem?_getD,hp];rfl
  have Sm:=Nt nm (List.mem_of_getElem? E3)
  have Mz:=U9 p (List.mem_of_getElem? hp)
  have cq:=ym names ps k
  refine St.skip (St.a7 (St.seq (St.block (St.sr ?_))));refine St.mv ?_;refine St.ee (Ev.aa (k:=k) (.mk rfl) (.mk rfl) kT tt (by omega) (by omega)) ?_;refine St.ee (Ev.jA (.mk rfl) E3 cZ trivial rfl) ?_;refine St.ao ?_;refine St.ao ?_;refine St.nn (St.sr ?_);refine St.mv ?_;refine St.ee (Ev.build (ps:=[(0,(.tmp 18))]) (aQ.cons (aL.mk rfl) aQ.nil) (fun w=>CU rfl w)) ?_;refine St.alloc zV rfl (fun iC=> ?_);refine St.sA (.mk rfl) (.mk rfl) mB ?_;refine St.nn ?_;refine St.join (ι:=Value) (fun y T=>T) (fun y=>[aZ iC (.cells [sv nm,y].toArray 136 (0,0)),aE (sl aF y (if k=0 then []else [p])),aZ b7 (.cells [vz,(.slice none 0 0)].toArray 47 (0,0)),row vz 136 2 (X).length (rows fh (X)),aE (au hY X),aZ b6 (.cells [(.slice none 0 0),(.slice none 0 0)].toArray 47 (0,0)),aE (sl dH u1 names),aE (sl aF u2 ps)]) (fun y=>y.oneCell'=true) (aG.cons 1 rfl (aG.cons 2 rfl (aG.cons 6 rfl (aG.cons 7 rfl (aG.cons 10 rfl (aG.cons 11 rfl (aG.cons 12 rfl (aG.cons 13 rfl aG.nil)))))))) ?_ ?_
  ·refine St.sr ?_
   refine St.mv ?_;refine St.ee Ev.vQ ?_;refine St.nn ?_;refine St.cond _ rfl (fun qJ=> ?_) (fun qJ=> ?_)
   ·try simp only[aA]at qJ
    rw[if_neg (show ¬k=0 by omega)];refine St.rg ?_;refine St.mv ?_;refine St.mv ?_;refine St.ee (Ev.aa (k:=k) (.mk rfl) (.mk rfl) bJ cu (by omega) (by omega)) ?_;refine St.ee (Ev.jA (.mk rfl) hp bf trivial rfl) ?_;refine St.cS rfl (.cons (.mk rfl) .nil) bJ cu dx rfl rfl (by simp[Value.cells]) rfl rfl (fun XU=> ?_);refine St.aM (.slice (some ⟨XU,0,none⟩) 1 1) aF [p] rfl rfl (Cb Mz) ?_;refine St.ee (Ev.aD (.mk rfl) pU) ?_;refine St.bQ (.mk rfl) (.mk rfl) e9 rfl (by rfl) ?_;refine St.nn ?_;refine St.mE (.slice (some ⟨XU,0,none⟩) 1 1) rfl
   ·try simp only[aA]at qJ
    rw[if_pos (show k=0 by omega)];refine St.dN aF ?_;refine St.skip (St.a7 ?_);refine St.mE (.slice none 0 0) rfl
  ·intro y hy
   have Bd:(⟨nm,⟨y,hy⟩,if k=0 then []else [p]⟩:mq)=⟨nm,⟨y,hy⟩,if k=0 then []else [p]⟩:=rfl
   refine St.rg ?_;refine St.ee (Ev.aD (.mk rfl) iy) ?_;refine St.ee (Ev.l0 (.mk rfl) gQ) ?_;refine St.ee (Ev.an (.mk rfl) Tryz.underlying136 trivial (by exact mB)) ?_;refine St.cS rfl (.cons (.mk rfl) .nil) gQ mB IW rfl rfl (by simp[J.aB hy,Value.cells]) rfl rfl (fun UA=> ?_);refine St.cT (.mk rfl) (.mk rfl) gQ mB IW MW (by intro q hq;simp[Value.cells]at hq;rcases hq with rfl|rfl;rfl;exact hy) (by omega) (by omega) rfl rfl rfl rfl (fun zz OU=> ?_);refine St.iJ (hY ⟨nm,⟨y,hy⟩,if k=0 then []else [p]⟩) [sl aF y (if k=0 then []else [p])] (fun ρ h=>h _ (List.mem_cons_self ..)) ?_;refine St.bI zz (show _=(X++ [(⟨nm,⟨y,hy⟩,if k=0 then []else [p]⟩:mq)]).length from eR) (show _=rows fh (X++ [(⟨nm,⟨y,hy⟩,if k=0 then []else [p]⟩:mq)])from yn (x:=⟨nm,⟨y,hy⟩,if k=0 then []else [p]⟩)) ?_;refine St.e7 zz (fun xB _=> ?_);refine St.jr hY (xs:=X) (x:=⟨nm,⟨y,hy⟩,if k=0 then []else [p]⟩) ?_;refine St.ee (Ev.aD (.mk rfl) iy) ?_;refine St.bQ (.mk rfl) (.mk rfl) SI xB (by rfl) ?_;refine St.nil (St.aW (St.a7 (St.rg ?_)));refine St.ee Ev.a0 ?_;refine St.mv ?_;refine St.nn ?_;refine St.ly (k+1) (zz,X++ [(⟨nm,⟨y,hy⟩,if k=0 then []else [p]⟩:mq)]) ⟨by omega,xB,by rw[List.map_append,hX,cq,hgn,hgp];rfl,fun x hx=>(List.mem_append.1 hx).elim (Kl x) fun q=>by rw[List.mem_singleton.1 q];exact Sm⟩
 ·try simp only[aA]at uE
  obtain rfl:k=names.length:=by omega
  refine St.exit (St.aJ (St.aJ (St.bO (St.a7 (St.sr ?_)))));refine St.mv ?_;refine St.ee (Ev.aD (.mk rfl) o8) ?_;refine St.bQ (.mk rfl) (.mk rfl) SJ XT (by rfl) ?_;refine St.nn (St.sr ?_);refine St.ee (Ev.an (.mk rfl) rK trivial (by exact o9)) ?_;refine St.sA (.mk rfl) (.mk rfl) o9 ?_ (h1:=(by simp[hz,XT]));refine St.nn (St.ae ?_);refine St.aM vz fh X rfl rfl Kl ?_;refine St.rT [_] [aE (sl fh vz X),aE (au hY X)] Tryz.results34 ⟨⟨_,_,_,_,rfl,c4.mem,.inl ⟨⟨_,rK⟩,o9,rfl⟩⟩,trivial⟩ ?_;exact⟨⟨vz,hz⟩,X,rfl,hX,rfl⟩
set_option maxHeartbeats 800000 in
theorem cb (b:Nat)(q0 q1 q2 q4 xv:Value)(X:List cR)(word:ax)(wt:Int)(u w:Value)(t:fS)(fy:List (List Int))(hw:iK word)(nc:aj wt)(Qc:xv.oneCell'=true)(Nh:X.length≤100)(hX:∀x∈X,c6.wf x)
 (er:fy.all (fun xs=>decide (0<xs.length)&&decide (xs.length≤60))=true) (hl:fy.length≤60):eI Tryz.prog 37 ([sv word,iv wt,u,w]++ [Value.pointer (some ⟨b,0,none⟩)]).toArray [aE (isTerm t u),aE (eC aF fy w),aE (au dn X),aZ b (.cells [q0,q1,q2,xv,q4].toArray 54 (0,0)),row xv 100 9 (X).length (rows c6 (X))]
 (fun v H'=>∃(UB:Value) (x:cR),v= .tuple #[]∧UB.oneCell'=true∧k8 x=⟨word,aw fy,wt,t⟩∧c6.wf x∧H'=[aZ b (.cells [q0,q1,q2,UB,q4].toArray 54 (0,0)),row UB 100 9 (X++ [x]).length (rows c6 (X++ [x])),aE (au dn (X++ [x]))]):=by
 refine eI.body (args:=[sv word,iv wt,u,w]++ [Value.pointer (some ⟨b,0,none⟩)]) 20 Tryz.func37 rfl Tryz.ntmps37 rfl (fun c=> ?_);refine St.seq ?_;refine St.cast (H':=[aE (isTerm t u),aE (eC aF fy w),aE (au dn X),aZ b (.cells [q0,q1,q2,xv,q4].toArray 54 (0,0)),row xv 100 9 (X).length (rows c6 (X))]) rfl ?_;refine St.isTerm t u (fun x hx=> ?_);obtain⟨rfl,rfl,nY⟩:=hx;obtain⟨Gx,Ip,Nb,Nc⟩:=nY;refine St.rg ?_;refine St.dS (.mk rfl) rfl (fun b7=> ?_);refine St.nn ?_;refine St.ek [aZ b (.cells [q0,q1,q2,xv,q4].toArray 54 (0,0)),row xv 100 9 (X).length (rows c6 (X))] mixed (fun np ns=> ?_);refine SW.dd 0 rfl (fun _=>Ev.aD (.mk rfl) l3) ?_;refine SW.dd 2 rfl (fun _=>Ev.move (.mk rfl)) ?_;refine SW.dd 3 rfl (fun _=>Ev.move (.mk rfl)) ?_;refine SW.dd 4 rfl (fun _=>Ev.an (.mk rfl) fl trivial (by exact dI)) ?_;refine SW.dd 5 rfl (fun _=>Ev.move (.mk rfl)) ?_;refine SW.ig (i:=1) (j:=6) (by kernel_rfl) rfl rfl ?_ ?_
 ·refine St.ee (Ev.l0 (.mk rfl) kS) ?_
  refine St.nn ?_;refine SW.go ?_;refine SW.ar (i:=6) (by kernel_rfl) rfl ?_;refine St.ag (dc w fy er hl) tu (.cons (.mk rfl) .nil) rfl ?_;rintro FW _ rfl;refine St.aq ?_;refine St.cP (aw fy) FW (fun y hy=> ?_);obtain⟨rfl,rX⟩:=hy;refine St.nn ?_;refine SW.go ?_;refine SW.dd 7 rfl (fun _=>Ev.build (ps:=[(0,(.tmp 11)),(2,(.tmp 12)),(3,(.tmp 13)),(1,(.tmp 15))]) (aQ.cons (aL.mk rfl) (aQ.cons (aL.mk rfl) (aQ.cons (aL.mk rfl) (aQ.cons (aL.mk rfl) aQ.nil)))) (fun w=>l5 rfl rfl w)) ?_;refine SW.ar (i:=8) (by kernel_rfl) rfl ?_;refine St.cS rfl (.cons (.mk rfl) .nil) kS l4 sK rfl rfl (by simp[J.aB y.nv.2,J.aB x.type.av.2,J.aB x.av.2,Value.cells]) rfl rfl (fun KR=> ?_);refine St.nn ?_;refine SW.go ?_;refine SW.ar (i:=9) (by kernel_rfl) rfl ?_;refine St.cT (.mk rfl) (.mk rfl) kS l4 sK CP (by intro q hq;exact c6.one (⟨word,y,wt,x⟩:cR) q (by show q∈AN (⟨word,y,wt,x⟩:cR);simpa[Value.cells]using hq)) (by omega) (by omega) rfl rfl rfl rfl (fun fu B8=> ?_);refine St.iJ (dn (⟨word,y,wt,x⟩:cR)) [bz y,bW x] (fun ρ h=>h) ?_;refine St.bI fu (show _=(X++ [(⟨word,y,wt,x⟩:cR)]).length from eR) (show _=rows c6 (X++ [(⟨word,y,wt,x⟩:cR)])from mZ (x:=(⟨word,y,wt,x⟩:cR))) ?_;refine St.e7 fu (fun eT _=> ?_);refine St.jr dn (xs:=X) (x:=(⟨word,y,wt,x⟩:cR)) ?_;refine St.nn ?_;refine SW.go ?_;refine SW.dd 10 rfl (fun _=>Ev.aD (.mk rfl) l3) ?_;refine SW.ar (i:=11) (by kernel_rfl) rfl ?_;refine St.bQ (.mk rfl) (.mk rfl) Jy eT (by rfl) ?_;refine St.nn ?_;refine SW.go ?_;refine SW.done (by kernel_rfl) ?_;refine St.gX ?_;refine St.rT [] [aZ b (.cells [q0,q1,q2,fu,q4].toArray 54 (0,0)),row fu 100 9 (X++ [(⟨word,y,wt,x⟩:cR)]).length (rows c6 (X++ [(⟨word,y,wt,x⟩:cR)])),aE (au dn (X++ [(⟨word,y,wt,x⟩:cR)]))] Tryz.results37 trivial ?_;exact⟨fu,(⟨word,y,wt,x⟩:cR),rfl,eT,by rw[←rX];rfl,⟨hw,nc,Gx,Ip,Nb,Nc⟩,rfl⟩
 ·refine St.ag (dc w fy er hl) tu (.cons (.mk rfl) .nil) rfl ?_
  rintro FW _ rfl;refine St.aq ?_;refine St.cP (aw fy) FW (fun y hy=> ?_);obtain⟨rfl,rX⟩:=hy;refine St.nn ?_;refine SW.go ?_;refine SW.dd 7 rfl (fun _=>Ev.build (ps:=[(0,(.tmp 11)),(2,(.tmp 12)),(3,(.tmp 13)),(1,(.tmp 15))]) (aQ.cons (aL.mk rfl) (aQ.cons (aL.mk rfl) (aQ.cons (aL.mk rfl) (aQ.cons (aL.mk rfl) aQ.nil)))) (fun w=>l5 rfl rfl w)) ?_;refine SW.ig (i:=1) (j:=8) (by kernel_rfl) rfl rfl ?_ ?_
  ·refine St.ee (Ev.l0 (.mk rfl) kS) ?_
   refine St.nn ?_;refine SW.go ?_;refine SW.ar (i:=8) (by kernel_rfl) rfl ?_;refine St.cS rfl (.cons (.mk rfl) .nil) kS l4 sK rfl rfl (by simp[J.aB y.nv.2,J.aB x.type.av.2,J.aB x.av.2,Value.cells]) rfl rfl (fun KR=> ?_);refine St.nn ?_;refine SW.go ?_;refine SW.ar (i:=9) (by kernel_rfl) rfl ?_;refine St.cT (.mk rfl) (.mk rfl) kS l4 sK CP (by intro q hq;exact c6.one (⟨word,y,wt,x⟩:cR) q (by show q∈AN (⟨word,y,wt,x⟩:cR);simpa[Value.cells]using hq)) (by omega) (by omega) rfl rfl rfl rfl (fun fu B8=> ?_);refine St.iJ (dn (⟨word,y,wt,x⟩:cR)) [bz y,bW x] (fun ρ h=>h) ?_;refine St.bI fu (show _=(X++ [(⟨word,y,wt,x⟩:cR)]).length from eR) (show _=rows c6 (X++ [(⟨word,y,wt,x⟩:cR)])from mZ (x:=(⟨word,y,wt,x⟩:cR))) ?_;refine St.e7 fu (fun eT _=> ?_);refine St.jr dn (xs:=X) (x:=(⟨word,y,wt,x⟩:cR)) ?_;refine St.nn ?_;refine SW.go ?_;refine SW.dd 10 rfl (fun _=>Ev.aD (.mk rfl) l3) ?_;refine SW.ar (i:=11) (by kernel_rfl) rfl ?_;refine St.bQ (.mk rfl) (.mk rfl) Jy eT (by rfl) ?_;refine St.nn ?_;refine SW.go ?_;refine SW.done (by kernel_rfl) ?_;refine St.gX ?_;refine St.rT [] [aZ b (.cells [q0,q1,q2,fu,q4].toArray 54 (0,0)),row fu 100 9 (X++ [(⟨word,y,wt,x⟩:cR)]).length (rows c6 (X++ [(⟨word,y,wt,x⟩:cR)])),aE (au dn (X++ [(⟨word,y,wt,x⟩:cR)]))] Tryz.results37 trivial ?_;exact⟨fu,(⟨word,y,wt,x⟩:cR),rfl,eT,by rw[←rX];rfl,⟨hw,nc,Gx,Ip,Nb,Nc⟩,rfl⟩
  ·refine St.cS rfl (.cons (.mk rfl) .nil) kS l4 sK rfl rfl (by simp[J.aB y.nv.2,J.aB x.type.av.2,J.aB x.av.2,Value.cells]) rfl rfl (fun KR=> ?_)
   refine St.nn ?_;refine SW.go ?_;refine SW.ar (i:=1) (by kernel_rfl) rfl ?_;refine St.ee (Ev.l0 (.mk rfl) kS) ?_;refine St.nn ?_;refine SW.go ?_;refine SW.ar (i:=9) (by kernel_rfl) rfl ?_;refine St.cT (.mk rfl) (.mk rfl) kS l4 sK CP (by intro q hq;exact c6.one (⟨word,y,wt,x⟩:cR) q (by show q∈AN (⟨word,y,wt,x⟩:cR);simpa[Value.cells]using hq)) (by omega) (by omega) rfl rfl rfl rfl (fun fu B8=> ?_);refine St.iJ (dn (⟨word,y,wt,x⟩:cR)) [bz y,bW x] (fun ρ h=>h) ?_;refine St.bI fu (show _=(X++ [(⟨word,y,wt,x⟩:cR)]).length from eR) (show _=rows c6 (X++ [(⟨word,y,wt,x⟩:cR)])from mZ (x:=(⟨word,y,wt,x⟩:cR))) ?_;refine St.e7 fu (fun eT _=> ?_);refine St.jr dn (xs:=X) (x:=(⟨word,y,wt,x⟩:cR)) ?_;refine St.nn ?_;refine SW.go ?_;refine SW.dd 10 rfl (fun _=>Ev.aD (.mk rfl) l3) ?_;refine SW.ar (i:=11) (by kernel_rfl) rfl ?_;refine St.bQ (.mk rfl) (.mk rfl) Jy eT (by rfl) ?_;refine St.nn ?_;refine SW.go ?_;refine SW.done (by kernel_rfl) ?_;refine St.gX ?_;refine St.rT [] [aZ b (.cells [q0,q1,q2,fu,q4].toArray 54 (0,0)),row fu 100 9 (X++ [(⟨word,y,wt,x⟩:cR)]).length (rows c6 (X++ [(⟨word,y,wt,x⟩:cR)])),aE (au dn (X++ [(⟨word,y,wt,x⟩:cR)]))] Tryz.results37 trivial ?_;exact⟨fu,(⟨word,y,wt,x⟩:cR),rfl,eT,by rw[←rX];rfl,⟨hw,nc,Gx,Ip,Nb,Nc⟩,rfl⟩
end Go.Proofs.YtoioijgdggkabaaGreatDoor
