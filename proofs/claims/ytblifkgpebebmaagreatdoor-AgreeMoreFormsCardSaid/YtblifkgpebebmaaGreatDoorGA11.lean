/-
  Laws of walks through programs, and facts on grammars, trees and queries.
  Conditions: none.
-/
import Derived.Test.YtblifkgpebebmaaGreatDoorGA10
set_option maxHeartbeats 4000000
set_option maxRecDepth 20000
set_option linter.unusedVariables false
set_option linter.unusedSimpArgs false
namespace Go.Proofs.YtblifkgpebebmaaGreatDoor
open Go Go.J Tryz
theorem Ij {n:Nat}{F:Fr}{c:Ctx}{H:List ak}{T:Act→World→Prop}{α:Type}(f:α→du)(xs:List α)(ds:List du)(a:ds=xs.map f)[hd:kY ds H](k:St n F (Mm c (aB (aF f xs)::H)) T):St n F (Mm c H) T:=
 St.eY (aF f xs) ds (λρ h x hx=>h _ (by rw[a];exact eN hx)) k
theorem all_cons {α:Type}{p:α→Prop}{x:α}{l:List α}(h:p x)(k:∀y∈l,p y):∀y∈x::l,p y:=λy hy=>by
 rcases cH.1 hy with rfl|hy
 ·exact h
 ·exact k y hy
theorem all_nil {α:Type}{p:α→Prop}:∀y∈([]:List α),p y:=λy hy=>by cases hy
def sR:List jK:=[(bC (an (an (.mk [101] []) (.mk [116] [])) (.mk [116] [])) (bC (an (.mk [101] []) (.mk [116] [])) (aK (aZ 1) (aZ 0)))),(bC (an (an (.mk [101] []) (.mk [116] [])) (an (an (.mk [101] []) (.mk [116] [])) (.mk [116] []))) (bC (an (.mk [101] []) (.mk [116] [])) (aK (aZ 1) (aZ 0)))),(bC (an (.mk [101] []) (.mk [116] [])) (aZ 0)),(bC (an (.mk [101] []) (an (.mk [101] []) (.mk [116] []))) (bC (an (an (.mk [101] []) (.mk [116] [])) (.mk [116] [])) (bC (.mk [101] []) (aK (aZ 1) (bC (.mk [101] []) (aK (aK (aZ 3) (aZ 1)) (aZ 0))))))),(bC (an (.mk [116] []) (.mk [116] [])) (bC (an (.mk [101] []) (.mk [116] [])) (bC (.mk [101] []) (aK (aZ 2) (aK (aZ 1) (aZ 0)))))),(bC (an (an (.mk [101] []) (.mk [116] [])) (.mk [116] [])) (bC (an (.mk [116] []) (an (.mk [116] []) (.mk [116] []))) (bC (an (an (.mk [101] []) (.mk [116] [])) (.mk [116] [])) (bC (an (.mk [101] []) (.mk [116] [])) (aK (aK (aZ 2) (aK (aZ 3) (aZ 0))) (aK (aZ 1) (aZ 0)))))))]
theorem Ae:dx prog 57 #[.bool false] ([].map aB) (λv H'=>H'=[aB (lq sR v)]):=by
 refine dx.body (args:=[.bool false]) 128 func57 rfl ntmps57 rfl (λc=> ?_);refine St.cast (H':=[]) rfl ?_;refine g7 ?_;refine St.ag (mA [101] (by decide)) KY (.ar rfl) rfl ?_;rintro v10 _ rfl;refine St.ao ?_;refine St.dZ (.mk [101] []) v10 (λg X=> ?_);obtain⟨Y,Z,akZ⟩:=X;subst Y;refine St.ag (mA [116] (by decide)) KY (.ar rfl) rfl ?_;rintro v11 _ rfl;refine St.ao ?_;refine St.dZ (.mk [116] []) v11 (λd SZ=> ?_);obtain⟨Wl,ak4,ak5⟩:=SZ;subst Wl;refine St.al (λb3=> ?_);refine St.al (λb4=> ?_);refine g8 ?_;refine St.ag (fH (aU g) (aU d) (.mk [101] []) (.mk [116] [])) qF (.aY rfl rfl) rfl ?_;rintro r _ rfl;refine St.ao ?_;refine St.dZ (an (.mk [101] []) (.mk [116] [])) r (λb s=> ?_);obtain⟨Wj,ak0,ak1⟩:=s;subst Wj;refine St.al (λb5=> ?_);refine g7 ?_;refine St.ag (fH (aU b) (aU d) (an (.mk [101] []) (.mk [116] [])) (.mk [116] [])) qF (.aY rfl rfl) rfl ?_;rintro v17 _ rfl;refine St.ao ?_;refine St.dZ (an (an (.mk [101] []) (.mk [116] [])) (.mk [116] [])) v17 (λf t=> ?_);obtain⟨w,an6,an7⟩:=t;subst w;refine St.al (λb6=> ?_);refine g7 ?_;refine St.ag (fH (aU g) (aU b) (.mk [101] []) (an (.mk [101] []) (.mk [116] []))) qF (.aY rfl rfl) rfl ?_;rintro v20 _ rfl;refine St.ao ?_;refine St.dZ (an (.mk [101] []) (an (.mk [101] []) (.mk [116] []))) v20 (λp hxr=> ?_);obtain⟨Wk,ak2,ak3⟩:=hxr;subst Wk;refine St.al (λb7=> ?_);refine g7 ?_;refine St.ag (fH (aU b) (aU f) (an (.mk [101] []) (.mk [116] [])) (an (an (.mk [101] []) (.mk [116] [])) (.mk [116] []))) qF (.aY rfl rfl) rfl ?_;rintro v23 _ rfl;refine St.ao ?_;refine St.dZ (an (an (.mk [101] []) (.mk [116] [])) (an (an (.mk [101] []) (.mk [116] [])) (.mk [116] []))) v23 (λq SX=> ?_);obtain⟨x,an3,an4⟩:=SX;subst x;refine St.al (λb8=> ?_);refine g4 ?_;refine St.U4 67 24 [] (⟨24,[],λu=>cT u ((aU f))⟩::⟨25,[],λu=>cT u ((aU b))⟩::⟨26,[],λu=>isTerm (aZ 1) u⟩::⟨27,[],λu=>isTerm (aZ 0) u⟩::⟨28,[2,3],λu=>isTerm (aK (aZ 1) (aZ 0)) u⟩::⟨29,[1,4],λu=>isTerm (bC (an (.mk [101] []) (.mk [116] [])) (aK (aZ 1) (aZ 0))) u⟩::⟨30,[0,5],λu=>isTerm (bC (an (an (.mk [101] []) (.mk [116] [])) (.mk [116] [])) (bC (an (.mk [101] []) (.mk [116] [])) (aK (aZ 1) (aZ 0)))) u⟩::⟨31,[],λu=>cT u ((aU q))⟩::⟨32,[],λu=>cT u ((aU b))⟩::⟨33,[],λu=>isTerm (aZ 1) u⟩::⟨34,[],λu=>isTerm (aZ 0) u⟩::⟨35,[9,10],λu=>isTerm (aK (aZ 1) (aZ 0)) u⟩::⟨36,[8,11],λu=>isTerm (bC (an (.mk [101] []) (.mk [116] [])) (aK (aZ 1) (aZ 0))) u⟩::⟨37,[7,12],λu=>isTerm (bC (an (an (.mk [101] []) (.mk [116] [])) (an (an (.mk [101] []) (.mk [116] [])) (.mk [116] []))) (bC (an (.mk [101] []) (.mk [116] [])) (aK (aZ 1) (aZ 0)))) u⟩::⟨38,[],λu=>cT u ((aU b))⟩::⟨39,[],λu=>isTerm (aZ 0) u⟩::⟨40,[14,15],λu=>isTerm (bC (an (.mk [101] []) (.mk [116] [])) (aZ 0)) u⟩::⟨41,[],λu=>cT u ((aU p))⟩::⟨42,[],λu=>cT u ((aU f))⟩::⟨43,[],λu=>cT u ((aU g))⟩::⟨44,[],λu=>isTerm (aZ 1) u⟩::⟨45,[],λu=>cT u ((aU g))⟩::⟨46,[],λu=>isTerm (aZ 3) u⟩::⟨47,[],λu=>isTerm (aZ 1) u⟩::⟨48,[22,23],λu=>isTerm (aK (aZ 3) (aZ 1)) u⟩::⟨49,[],λu=>isTerm (aZ 0) u⟩::⟨50,[24,25],λu=>isTerm (aK (aK (aZ 3) (aZ 1)) (aZ 0)) u⟩::⟨51,[21,26],λu=>isTerm (bC (.mk [101] []) (aK (aK (aZ 3) (aZ 1)) (aZ 0))) u⟩::⟨52,[20,27],λu=>isTerm (aK (aZ 1) (bC (.mk [101] []) (aK (aK (aZ 3) (aZ 1)) (aZ 0)))) u⟩::⟨53,[19,28],λu=>isTerm (bC (.mk [101] []) (aK (aZ 1) (bC (.mk [101] []) (aK (aK (aZ 3) (aZ 1)) (aZ 0))))) u⟩::⟨54,[18,29],λu=>isTerm (bC (an (an (.mk [101] []) (.mk [116] [])) (.mk [116] [])) (bC (.mk [101] []) (aK (aZ 1) (bC (.mk [101] []) (aK (aK (aZ 3) (aZ 1)) (aZ 0)))))) u⟩::⟨55,[17,30],λu=>isTerm (bC (an (.mk [101] []) (an (.mk [101] []) (.mk [116] []))) (bC (an (an (.mk [101] []) (.mk [116] [])) (.mk [116] [])) (bC (.mk [101] []) (aK (aZ 1) (bC (.mk [101] []) (aK (aK (aZ 3) (aZ 1)) (aZ 0))))))) u⟩::⟨56,[],λu=>cT u ((aU d))⟩::⟨57,[],λu=>cT u ((aU d))⟩::⟨58,[32,33],λu=>dZ (an (.mk [116] []) (.mk [116] [])) u⟩::⟨59,[],λu=>cT u ((aU b))⟩::⟨60,[],λu=>cT u ((aU g))⟩::⟨61,[],λu=>isTerm (aZ 2) u⟩::⟨62,[],λu=>isTerm (aZ 1) u⟩::⟨63,[],λu=>isTerm (aZ 0) u⟩::⟨64,[38,39],λu=>isTerm (aK (aZ 1) (aZ 0)) u⟩::⟨65,[37,40],λu=>isTerm (aK (aZ 2) (aK (aZ 1) (aZ 0))) u⟩::⟨66,[36,41],λu=>isTerm (bC (.mk [101] []) (aK (aZ 2) (aK (aZ 1) (aZ 0)))) u⟩::⟨67,[35,42],λu=>isTerm (bC (an (.mk [101] []) (.mk [116] [])) (bC (.mk [101] []) (aK (aZ 2) (aK (aZ 1) (aZ 0))))) u⟩::⟨68,[34,43],λu=>isTerm (bC (an (.mk [116] []) (.mk [116] [])) (bC (an (.mk [101] []) (.mk [116] [])) (bC (.mk [101] []) (aK (aZ 2) (aK (aZ 1) (aZ 0)))))) u⟩::⟨69,[],λu=>cT u ((aU f))⟩::⟨70,[],λu=>cT u ((aU d))⟩::⟨71,[],λu=>cT u ((aU d))⟩::⟨72,[],λu=>cT u ((aU d))⟩::⟨73,[47,48],λu=>dZ (an (.mk [116] []) (.mk [116] [])) u⟩::⟨74,[46,49],λu=>dZ (an (.mk [116] []) (an (.mk [116] []) (.mk [116] []))) u⟩::⟨75,[],λu=>cT u ((aU f))⟩::⟨76,[],λu=>cT u ((aU b))⟩::⟨77,[],λu=>isTerm (aZ 2) u⟩::⟨78,[],λu=>isTerm (aZ 3) u⟩::⟨79,[],λu=>isTerm (aZ 0) u⟩::⟨80,[54,55],λu=>isTerm (aK (aZ 3) (aZ 0)) u⟩::⟨81,[53,56],λu=>isTerm (aK (aZ 2) (aK (aZ 3) (aZ 0))) u⟩::⟨82,[],λu=>isTerm (aZ 1) u⟩::⟨83,[],λu=>isTerm (aZ 0) u⟩::⟨84,[58,59],λu=>isTerm (aK (aZ 1) (aZ 0)) u⟩::⟨85,[57,60],λu=>isTerm (aK (aK (aZ 2) (aK (aZ 3) (aZ 0))) (aK (aZ 1) (aZ 0))) u⟩::⟨86,[52,61],λu=>isTerm (bC (an (.mk [101] []) (.mk [116] [])) (aK (aK (aZ 2) (aK (aZ 3) (aZ 0))) (aK (aZ 1) (aZ 0)))) u⟩::⟨87,[51,62],λu=>isTerm (bC (an (an (.mk [101] []) (.mk [116] [])) (.mk [116] [])) (bC (an (.mk [101] []) (.mk [116] [])) (aK (aK (aZ 2) (aK (aZ 3) (aZ 0))) (aK (aZ 1) (aZ 0))))) u⟩::⟨88,[50,63],λu=>isTerm (bC (an (.mk [116] []) (an (.mk [116] []) (.mk [116] []))) (bC (an (an (.mk [101] []) (.mk [116] [])) (.mk [116] [])) (bC (an (.mk [101] []) (.mk [116] [])) (aK (aK (aZ 2) (aK (aZ 3) (aZ 0))) (aK (aZ 1) (aZ 0)))))) u⟩::⟨89,[45,64],λu=>isTerm (bC (an (an (.mk [101] []) (.mk [116] [])) (.mk [116] [])) (bC (an (.mk [116] []) (an (.mk [116] []) (.mk [116] []))) (bC (an (an (.mk [101] []) (.mk [116] [])) (.mk [116] [])) (bC (an (.mk [101] []) (.mk [116] [])) (aK (aK (aZ 2) (aK (aZ 3) (aZ 0))) (aK (aZ 1) (aZ 0))))))) u⟩::⟨90,[6,13,16,31,44,65],λu=>lq sR u⟩::[]) ((24,[])::(25,[])::(26,[])::(27,[])::(28,[2,3])::(29,[1,4])::(30,[0,5])::(31,[])::(32,[])::(33,[])::(34,[])::(35,[9,10])::(36,[8,11])::(37,[7,12])::(38,[])::(39,[])::(40,[14,15])::(41,[])::(42,[])::(43,[])::(44,[])::(45,[])::(46,[])::(47,[])::(48,[22,23])::(49,[])::(50,[24,25])::(51,[21,26])::(52,[20,27])::(53,[19,28])::(54,[18,29])::(55,[17,30])::(56,[])::(57,[])::(58,[32,33])::(59,[])::(60,[])::(61,[])::(62,[])::(63,[])::(64,[38,39])::(65,[37,40])::(66,[36,41])::(67,[35,42])::(68,[34,43])::(69,[])::(70,[])::(71,[])::(72,[])::(73,[47,48])::(74,[46,49])::(75,[])::(76,[])::(77,[])::(78,[])::(79,[])::(80,[54,55])::(81,[53,56])::(82,[])::(83,[])::(84,[58,59])::(85,[57,60])::(86,[52,61])::(87,[51,62])::(88,[50,63])::(89,[45,64])::(90,[6,13,16,31,44,65])::[]) [66] rfl rfl mixed (by kernel_rfl) (by kernel_rfl) (by rfl) (λe=>[(90,e 66)]) (λe=>[aB (lq sR (e 66))]) (λ_=>rfl) (λ_=>rfl) ?_ (λe=> ?_)
 ·refine ab.c0 (λc e a=> ?_) ?_
  ·refine St.aK ?_
   refine go ?_;refine St.fact (cT ((aU f)) ((aU f))) (λ_ _ _=>rfl) ?_;exact St.bg _
  refine ab.c0 (λc e a=> ?_) ?_
  ·refine St.aK ?_
   refine go ?_;refine St.fact (cT ((aU b)) ((aU b))) (λ_ _ _=>rfl) ?_;exact St.bg _
  refine ab.c0 (λc e a=> ?_) ?_
  ·refine St.aK ?_
   refine St.ag (cg 1 (by unfold aa;decide)) mM (.ar rfl) rfl ?_;rintro v26 _ rfl;refine St.ao ?_;exact St.bg _
  refine ab.c0 (λc e a=> ?_) ?_
  ·refine St.aK ?_
   refine St.ag (cg 0 (by unfold aa;decide)) mM (.ar rfl) rfl ?_;rintro v27 _ rfl;refine St.ao ?_;exact St.bg _
  refine ab.cc (λe=>[(26,e 2),(27,e 3)]) (λe=>[aB (isTerm (aZ 1) (e 2)),aB (isTerm (aZ 0) (e 3))]) (λc e a=> ?_) ?_
  ·refine St.dQ ?_
   refine St.ag (ec (e 2) (e 3) (aZ 1) (aZ 0)) ox (.aY rfl rfl) rfl ?_;rintro v28 _ rfl;refine St.ao ?_;exact St.bg _
  refine ab.cc (λe=>[(25,e 1),(28,e 4)]) (λe=>[aB (cT (e 1) ((aU b))),aB (isTerm (aK (aZ 1) (aZ 0)) (e 4))]) (λc e a=> ?_) ?_
  ·refine St.dQ ?_
   refine St.bX (P:=prog) 25 (e 1) ((aU b)) rfl ?_;refine St.ag (e8 (aU b) (e 4) (an (.mk [101] []) (.mk [116] [])) (aK (aZ 1) (aZ 0))) mL (.aY rfl rfl) rfl ?_;rintro v29 _ rfl;refine St.ao ?_;exact St.bg _
  refine ab.cc (λe=>[(24,e 0),(29,e 5)]) (λe=>[aB (cT (e 0) ((aU f))),aB (isTerm (bC (an (.mk [101] []) (.mk [116] [])) (aK (aZ 1) (aZ 0))) (e 5))]) (λc e a=> ?_) ?_
  ·refine St.dQ ?_
   refine St.bX (P:=prog) 24 (e 0) ((aU f)) rfl ?_;refine St.ag (e8 (aU f) (e 5) (an (an (.mk [101] []) (.mk [116] [])) (.mk [116] [])) (bC (an (.mk [101] []) (.mk [116] [])) (aK (aZ 1) (aZ 0)))) mL (.aY rfl rfl) rfl ?_;rintro v30 _ rfl;refine St.ao ?_;exact St.bg _
  refine ab.c0 (λc e a=> ?_) ?_
  ·refine St.aK ?_
   refine go ?_;refine St.fact (cT ((aU q)) ((aU q))) (λ_ _ _=>rfl) ?_;exact St.bg _
  refine ab.c0 (λc e a=> ?_) ?_
  ·refine St.aK ?_
   refine go ?_;refine St.fact (cT ((aU b)) ((aU b))) (λ_ _ _=>rfl) ?_;exact St.bg _
  refine ab.c0 (λc e a=> ?_) ?_
  ·refine St.aK ?_
   refine St.ag (cg 1 (by unfold aa;decide)) mM (.ar rfl) rfl ?_;rintro v33 _ rfl;refine St.ao ?_;exact St.bg _
  refine ab.c0 (λc e a=> ?_) ?_
  ·refine St.aK ?_
   refine St.ag (cg 0 (by unfold aa;decide)) mM (.ar rfl) rfl ?_;rintro v34 _ rfl;refine St.ao ?_;exact St.bg _
  refine ab.cc (λe=>[(33,e 9),(34,e 10)]) (λe=>[aB (isTerm (aZ 1) (e 9)),aB (isTerm (aZ 0) (e 10))]) (λc e a=> ?_) ?_
  ·refine St.dQ ?_
   refine St.ag (ec (e 9) (e 10) (aZ 1) (aZ 0)) ox (.aY rfl rfl) rfl ?_;rintro v35 _ rfl;refine St.ao ?_;exact St.bg _
  refine ab.cc (λe=>[(32,e 8),(35,e 11)]) (λe=>[aB (cT (e 8) ((aU b))),aB (isTerm (aK (aZ 1) (aZ 0)) (e 11))]) (λc e a=> ?_) ?_
  ·refine St.dQ ?_
   refine St.bX (P:=prog) 32 (e 8) ((aU b)) rfl ?_;refine St.ag (e8 (aU b) (e 11) (an (.mk [101] []) (.mk [116] [])) (aK (aZ 1) (aZ 0))) mL (.aY rfl rfl) rfl ?_;rintro v36 _ rfl;refine St.ao ?_;exact St.bg _
  refine ab.cc (λe=>[(31,e 7),(36,e 12)]) (λe=>[aB (cT (e 7) ((aU q))),aB (isTerm (bC (an (.mk [101] []) (.mk [116] [])) (aK (aZ 1) (aZ 0))) (e 12))]) (λc e a=> ?_) ?_
  ·refine St.dQ ?_
   refine St.bX (P:=prog) 31 (e 7) ((aU q)) rfl ?_;refine St.ag (e8 (aU q) (e 12) (an (an (.mk [101] []) (.mk [116] [])) (an (an (.mk [101] []) (.mk [116] [])) (.mk [116] []))) (bC (an (.mk [101] []) (.mk [116] [])) (aK (aZ 1) (aZ 0)))) mL (.aY rfl rfl) rfl ?_;rintro v37 _ rfl;refine St.ao ?_;exact St.bg _
  refine ab.c0 (λc e a=> ?_) ?_
  ·refine St.aK ?_
   refine go ?_;refine St.fact (cT ((aU b)) ((aU b))) (λ_ _ _=>rfl) ?_;exact St.bg _
  refine ab.c0 (λc e a=> ?_) ?_
  ·refine St.aK ?_
   refine St.ag (cg 0 (by unfold aa;decide)) mM (.ar rfl) rfl ?_;rintro v39 _ rfl;refine St.ao ?_;exact St.bg _
  refine ab.cc (λe=>[(38,e 14),(39,e 15)]) (λe=>[aB (cT (e 14) ((aU b))),aB (isTerm (aZ 0) (e 15))]) (λc e a=> ?_) ?_
  ·refine St.dQ ?_
   refine St.bX (P:=prog) 38 (e 14) ((aU b)) rfl ?_;refine St.ag (e8 (aU b) (e 15) (an (.mk [101] []) (.mk [116] [])) (aZ 0)) mL (.aY rfl rfl) rfl ?_;rintro v40 _ rfl;refine St.ao ?_;exact St.bg _
  refine ab.c0 (λc e a=> ?_) ?_
  ·refine St.aK ?_
   refine go ?_;refine St.fact (cT ((aU p)) ((aU p))) (λ_ _ _=>rfl) ?_;exact St.bg _
  refine ab.c0 (λc e a=> ?_) ?_
  ·refine St.aK ?_
   refine go ?_;refine St.fact (cT ((aU f)) ((aU f))) (λ_ _ _=>rfl) ?_;exact St.bg _
  refine ab.c0 (λc e a=> ?_) ?_
  ·refine St.aK ?_
   refine go ?_;refine St.fact (cT ((aU g)) ((aU g))) (λ_ _ _=>rfl) ?_;exact St.bg _
  refine ab.c0 (λc e a=> ?_) ?_
  ·refine St.aK ?_
   refine St.ag (cg 1 (by unfold aa;decide)) mM (.ar rfl) rfl ?_;rintro v44 _ rfl;refine St.ao ?_;exact St.bg _
  refine ab.c0 (λc e a=> ?_) ?_
  ·refine St.aK ?_
   refine go ?_;refine St.fact (cT ((aU g)) ((aU g))) (λ_ _ _=>rfl) ?_;exact St.bg _
  refine ab.c0 (λc e a=> ?_) ?_
  ·refine St.aK ?_
   refine St.ag (cg 3 (by unfold aa;decide)) mM (.ar rfl) rfl ?_;rintro v46 _ rfl;refine St.ao ?_;exact St.bg _
  refine ab.c0 (λc e a=> ?_) ?_
  ·refine St.aK ?_
   refine St.ag (cg 1 (by unfold aa;decide)) mM (.ar rfl) rfl ?_;rintro v47 _ rfl;refine St.ao ?_;exact St.bg _
  refine ab.cc (λe=>[(46,e 22),(47,e 23)]) (λe=>[aB (isTerm (aZ 3) (e 22)),aB (isTerm (aZ 1) (e 23))]) (λc e a=> ?_) ?_
  ·refine St.dQ ?_
   refine St.ag (ec (e 22) (e 23) (aZ 3) (aZ 1)) ox (.aY rfl rfl) rfl ?_;rintro v48 _ rfl;refine St.ao ?_;exact St.bg _
  refine ab.c0 (λc e a=> ?_) ?_
  ·refine St.aK ?_
   refine St.ag (cg 0 (by unfold aa;decide)) mM (.ar rfl) rfl ?_;rintro v49 _ rfl;refine St.ao ?_;exact St.bg _
  refine ab.cc (λe=>[(48,e 24),(49,e 25)]) (λe=>[aB (isTerm (aK (aZ 3) (aZ 1)) (e 24)),aB (isTerm (aZ 0) (e 25))]) (λc e a=> ?_) ?_
  ·refine St.dQ ?_
   refine St.ag (ec (e 24) (e 25) (aK (aZ 3) (aZ 1)) (aZ 0)) ox (.aY rfl rfl) rfl ?_;rintro v50 _ rfl;refine St.ao ?_;exact St.bg _
  refine ab.cc (λe=>[(45,e 21),(50,e 26)]) (λe=>[aB (cT (e 21) ((aU g))),aB (isTerm (aK (aK (aZ 3) (aZ 1)) (aZ 0)) (e 26))]) (λc e a=> ?_) ?_
  ·refine St.dQ ?_
   refine St.bX (P:=prog) 45 (e 21) ((aU g)) rfl ?_;refine St.ag (e8 (aU g) (e 26) (.mk [101] []) (aK (aK (aZ 3) (aZ 1)) (aZ 0))) mL (.aY rfl rfl) rfl ?_;rintro v51 _ rfl;refine St.ao ?_;exact St.bg _
  refine ab.cc (λe=>[(44,e 20),(51,e 27)]) (λe=>[aB (isTerm (aZ 1) (e 20)),aB (isTerm (bC (.mk [101] []) (aK (aK (aZ 3) (aZ 1)) (aZ 0))) (e 27))]) (λc e a=> ?_) ?_
  ·refine St.dQ ?_
   refine St.ag (ec (e 20) (e 27) (aZ 1) (bC (.mk [101] []) (aK (aK (aZ 3) (aZ 1)) (aZ 0)))) ox (.aY rfl rfl) rfl ?_;rintro v52 _ rfl;refine St.ao ?_;exact St.bg _
  refine ab.cc (λe=>[(43,e 19),(52,e 28)]) (λe=>[aB (cT (e 19) ((aU g))),aB (isTerm (aK (aZ 1) (bC (.mk [101] []) (aK (aK (aZ 3) (aZ 1)) (aZ 0)))) (e 28))]) (λc e a=> ?_) ?_
  ·refine St.dQ ?_
   refine St.bX (P:=prog) 43 (e 19) ((aU g)) rfl ?_;refine St.ag (e8 (aU g) (e 28) (.mk [101] []) (aK (aZ 1) (bC (.mk [101] []) (aK (aK (aZ 3) (aZ 1)) (aZ 0))))) mL (.aY rfl rfl) rfl ?_;rintro v53 _ rfl;refine St.ao ?_;exact St.bg _
  refine ab.cc (λe=>[(42,e 18),(53,e 29)]) (λe=>[aB (cT (e 18) ((aU f))),aB (isTerm (bC (.mk [101] []) (aK (aZ 1) (bC (.mk [101] []) (aK (aK (aZ 3) (aZ 1)) (aZ 0))))) (e 29))]) (λc e a=> ?_) ?_
  ·refine St.dQ ?_
   refine St.bX (P:=prog) 42 (e 18) ((aU f)) rfl ?_;refine St.ag (e8 (aU f) (e 29) (an (an (.mk [101] []) (.mk [116] [])) (.mk [116] [])) (bC (.mk [101] []) (aK (aZ 1) (bC (.mk [101] []) (aK (aK (aZ 3) (aZ 1)) (aZ 0)))))) mL (.aY rfl rfl) rfl ?_;rintro v54 _ rfl;refine St.ao ?_;exact St.bg _
  refine ab.cc (λe=>[(41,e 17),(54,e 30)]) (λe=>[aB (cT (e 17) ((aU p))),aB (isTerm (bC (an (an (.mk [101] []) (.mk [116] [])) (.mk [116] [])) (bC (.mk [101] []) (aK (aZ 1) (bC (.mk [101] []) (aK (aK (aZ 3) (aZ 1)) (aZ 0)))))) (e 30))]) (λc e a=> ?_) ?_
  ·refine St.dQ ?_
   refine St.bX (P:=prog) 41 (e 17) ((aU p)) rfl ?_;refine St.ag (e8 (aU p) (e 30) (an (.mk [101] []) (an (.mk [101] []) (.mk [116] []))) (bC (an (an (.mk [101] []) (.mk [116] [])) (.mk [116] [])) (bC (.mk [101] []) (aK (aZ 1) (bC (.mk [101] []) (aK (aK (aZ 3) (aZ 1)) (aZ 0))))))) mL (.aY rfl rfl) rfl ?_;rintro v55 _ rfl;refine St.ao ?_;exact St.bg _
  refine ab.c0 (λc e a=> ?_) ?_
  ·refine St.aK ?_
   refine go ?_;refine St.fact (cT ((aU d)) ((aU d))) (λ_ _ _=>rfl) ?_;exact St.bg _
  refine ab.c0 (λc e a=> ?_) ?_
  ·refine St.aK ?_
   refine go ?_;refine St.fact (cT ((aU d)) ((aU d))) (λ_ _ _=>rfl) ?_;exact St.bg _
  refine ab.cc (λe=>[(56,e 32),(57,e 33)]) (λe=>[aB (cT (e 32) ((aU d))),aB (cT (e 33) ((aU d)))]) (λc e a=> ?_) ?_
  ·refine St.dQ ?_
   refine St.bX (P:=prog) 56 (e 32) ((aU d)) rfl ?_;refine St.bX (P:=prog) 57 (e 33) ((aU d)) rfl ?_;refine St.ag (fH (aU d) (aU d) (.mk [116] []) (.mk [116] [])) qF (.aY rfl rfl) rfl ?_;rintro v58 _ rfl;refine St.ao ?_;exact St.bg _
  refine ab.c0 (λc e a=> ?_) ?_
  ·refine St.aK ?_
   refine go ?_;refine St.fact (cT ((aU b)) ((aU b))) (λ_ _ _=>rfl) ?_;exact St.bg _
  refine ab.c0 (λc e a=> ?_) ?_
  ·refine St.aK ?_
   refine go ?_;refine St.fact (cT ((aU g)) ((aU g))) (λ_ _ _=>rfl) ?_;exact St.bg _
  refine ab.c0 (λc e a=> ?_) ?_
  ·refine St.aK ?_
   refine St.ag (cg 2 (by unfold aa;decide)) mM (.ar rfl) rfl ?_;rintro v61 _ rfl;refine St.ao ?_;exact St.bg _
  refine ab.c0 (λc e a=> ?_) ?_
  ·refine St.aK ?_
   refine St.ag (cg 1 (by unfold aa;decide)) mM (.ar rfl) rfl ?_;rintro v62 _ rfl;refine St.ao ?_;exact St.bg _
  refine ab.c0 (λc e a=> ?_) ?_
  ·refine St.aK ?_
   refine St.ag (cg 0 (by unfold aa;decide)) mM (.ar rfl) rfl ?_;rintro v63 _ rfl;refine St.ao ?_;exact St.bg _
  refine ab.cc (λe=>[(62,e 38),(63,e 39)]) (λe=>[aB (isTerm (aZ 1) (e 38)),aB (isTerm (aZ 0) (e 39))]) (λc e a=> ?_) ?_
  ·refine St.dQ ?_
   refine St.ag (ec (e 38) (e 39) (aZ 1) (aZ 0)) ox (.aY rfl rfl) rfl ?_;rintro v64 _ rfl;refine St.ao ?_;exact St.bg _
  refine ab.cc (λe=>[(61,e 37),(64,e 40)]) (λe=>[aB (isTerm (aZ 2) (e 37)),aB (isTerm (aK (aZ 1) (aZ 0)) (e 40))]) (λc e a=> ?_) ?_
  ·refine St.dQ ?_
   refine St.ag (ec (e 37) (e 40) (aZ 2) (aK (aZ 1) (aZ 0))) ox (.aY rfl rfl) rfl ?_;rintro v65 _ rfl;refine St.ao ?_;exact St.bg _
  refine ab.cc (λe=>[(60,e 36),(65,e 41)]) (λe=>[aB (cT (e 36) ((aU g))),aB (isTerm (aK (aZ 2) (aK (aZ 1) (aZ 0))) (e 41))]) (λc e a=> ?_) ?_
  ·refine St.dQ ?_
   refine St.bX (P:=prog) 60 (e 36) ((aU g)) rfl ?_;refine St.ag (e8 (aU g) (e 41) (.mk [101] []) (aK (aZ 2) (aK (aZ 1) (aZ 0)))) mL (.aY rfl rfl) rfl ?_;rintro v66 _ rfl;refine St.ao ?_;exact St.bg _
  refine ab.cc (λe=>[(59,e 35),(66,e 42)]) (λe=>[aB (cT (e 35) ((aU b))),aB (isTerm (bC (.mk [101] []) (aK (aZ 2) (aK (aZ 1) (aZ 0)))) (e 42))]) (λc e a=> ?_) ?_
  ·refine St.dQ ?_
   refine St.bX (P:=prog) 59 (e 35) ((aU b)) rfl ?_;refine St.ag (e8 (aU b) (e 42) (an (.mk [101] []) (.mk [116] [])) (bC (.mk [101] []) (aK (aZ 2) (aK (aZ 1) (aZ 0))))) mL (.aY rfl rfl) rfl ?_;rintro v67 _ rfl;refine St.ao ?_;exact St.bg _
  refine ab.cc (λe=>[(58,e 34),(67,e 43)]) (λe=>[aB (dZ (an (.mk [116] []) (.mk [116] [])) (e 34)),aB (isTerm (bC (an (.mk [101] []) (.mk [116] [])) (bC (.mk [101] []) (aK (aZ 2) (aK (aZ 1) (aZ 0))))) (e 43))]) (λc e a=> ?_) ?_
  ·refine St.dQ ?_
   refine St.ag (e8 (e 34) (e 43) (an (.mk [116] []) (.mk [116] [])) (bC (an (.mk [101] []) (.mk [116] [])) (bC (.mk [101] []) (aK (aZ 2) (aK (aZ 1) (aZ 0)))))) mL (.aY rfl rfl) rfl ?_;rintro v68 _ rfl;refine St.ao ?_;exact St.bg _
  refine ab.c0 (λc e a=> ?_) ?_
  ·refine St.aK ?_
   refine go ?_;refine St.fact (cT ((aU f)) ((aU f))) (λ_ _ _=>rfl) ?_;exact St.bg _
  refine ab.c0 (λc e a=> ?_) ?_
  ·refine St.aK ?_
   refine go ?_;refine St.fact (cT ((aU d)) ((aU d))) (λ_ _ _=>rfl) ?_;exact St.bg _
  refine ab.c0 (λc e a=> ?_) ?_
  ·refine St.aK ?_
   refine go ?_;refine St.fact (cT ((aU d)) ((aU d))) (λ_ _ _=>rfl) ?_;exact St.bg _
  refine ab.c0 (λc e a=> ?_) ?_
  ·refine St.aK ?_
   refine go ?_;refine St.fact (cT ((aU d)) ((aU d))) (λ_ _ _=>rfl) ?_;exact St.bg _
  refine ab.cc (λe=>[(71,e 47),(72,e 48)]) (λe=>[aB (cT (e 47) ((aU d))),aB (cT (e 48) ((aU d)))]) (λc e a=> ?_) ?_
  ·refine St.dQ ?_
   refine St.bX (P:=prog) 71 (e 47) ((aU d)) rfl ?_;refine St.bX (P:=prog) 72 (e 48) ((aU d)) rfl ?_;refine St.ag (fH (aU d) (aU d) (.mk [116] []) (.mk [116] [])) qF (.aY rfl rfl) rfl ?_;rintro v73 _ rfl;refine St.ao ?_;exact St.bg _
  refine ab.cc (λe=>[(70,e 46),(73,e 49)]) (λe=>[aB (cT (e 46) ((aU d))),aB (dZ (an (.mk [116] []) (.mk [116] [])) (e 49))]) (λc e a=> ?_) ?_
  ·refine St.dQ ?_
   refine St.bX (P:=prog) 70 (e 46) ((aU d)) rfl ?_;refine St.ag (fH (aU d) (e 49) (.mk [116] []) (an (.mk [116] []) (.mk [116] []))) qF (.aY rfl rfl) rfl ?_;rintro v74 _ rfl;refine St.ao ?_;exact St.bg _
  refine ab.c0 (λc e a=> ?_) ?_
  ·refine St.aK ?_
   refine go ?_;refine St.fact (cT ((aU f)) ((aU f))) (λ_ _ _=>rfl) ?_;exact St.bg _
  refine ab.c0 (λc e a=> ?_) ?_
  ·refine St.aK ?_
   refine go ?_;refine St.fact (cT ((aU b)) ((aU b))) (λ_ _ _=>rfl) ?_;exact St.bg _
  refine ab.c0 (λc e a=> ?_) ?_
  ·refine St.aK ?_
   refine St.ag (cg 2 (by unfold aa;decide)) mM (.ar rfl) rfl ?_;rintro v77 _ rfl;refine St.ao ?_;exact St.bg _
  refine ab.c0 (λc e a=> ?_) ?_
  ·refine St.aK ?_
   refine St.ag (cg 3 (by unfold aa;decide)) mM (.ar rfl) rfl ?_;rintro v78 _ rfl;refine St.ao ?_;exact St.bg _
  refine ab.c0 (λc e a=> ?_) ?_
  ·refine St.aK ?_
   refine St.ag (cg 0 (by unfold aa;decide)) mM (.ar rfl) rfl ?_;rintro v79 _ rfl;refine St.ao ?_;exact St.bg _
  refine ab.cc (λe=>[(78,e 54),(79,e 55)]) (λe=>[aB (isTerm (aZ 3) (e 54)),aB (isTerm (aZ 0) (e 55))]) (λc e a=> ?_) ?_
  ·refine St.dQ ?_
   refine St.ag (ec (e 54) (e 55) (aZ 3) (aZ 0)) ox (.aY rfl rfl) rfl ?_;rintro v80 _ rfl;refine St.ao ?_;exact St.bg _
  refine ab.cc (λe=>[(77,e 53),(80,e 56)]) (λe=>[aB (isTerm (aZ 2) (e 53)),aB (isTerm (aK (aZ 3) (aZ 0)) (e 56))]) (λc e a=> ?_) ?_
  ·refine St.dQ ?_
   refine St.ag (ec (e 53) (e 56) (aZ 2) (aK (aZ 3) (aZ 0))) ox (.aY rfl rfl) rfl ?_;rintro v81 _ rfl;refine St.ao ?_;exact St.bg _
  refine ab.c0 (λc e a=> ?_) ?_
  ·refine St.aK ?_
   refine St.ag (cg 1 (by unfold aa;decide)) mM (.ar rfl) rfl ?_;rintro v82 _ rfl;refine St.ao ?_;exact St.bg _
  refine ab.c0 (λc e a=> ?_) ?_
  ·refine St.aK ?_
   refine St.ag (cg 0 (by unfold aa;decide)) mM (.ar rfl) rfl ?_;rintro v83 _ rfl;refine St.ao ?_;exact St.bg _
  refine ab.cc (λe=>[(82,e 58),(83,e 59)]) (λe=>[aB (isTerm (aZ 1) (e 58)),aB (isTerm (aZ 0) (e 59))]) (λc e a=> ?_) ?_
  ·refine St.dQ ?_
   refine St.ag (ec (e 58) (e 59) (aZ 1) (aZ 0)) ox (.aY rfl rfl) rfl ?_;rintro v84 _ rfl;refine St.ao ?_;exact St.bg _
  refine ab.cc (λe=>[(81,e 57),(84,e 60)]) (λe=>[aB (isTerm (aK (aZ 2) (aK (aZ 3) (aZ 0))) (e 57)),aB (isTerm (aK (aZ 1) (aZ 0)) (e 60))]) (λc e a=> ?_) ?_
  ·refine St.dQ ?_
   refine St.ag (ec (e 57) (e 60) (aK (aZ 2) (aK (aZ 3) (aZ 0))) (aK (aZ 1) (aZ 0))) ox (.aY rfl rfl) rfl ?_;rintro v85 _ rfl;refine St.ao ?_;exact St.bg _
  refine ab.cc (λe=>[(76,e 52),(85,e 61)]) (λe=>[aB (cT (e 52) ((aU b))),aB (isTerm (aK (aK (aZ 2) (aK (aZ 3) (aZ 0))) (aK (aZ 1) (aZ 0))) (e 61))]) (λc e a=> ?_) ?_
  ·refine St.dQ ?_
   refine St.bX (P:=prog) 76 (e 52) ((aU b)) rfl ?_;refine St.ag (e8 (aU b) (e 61) (an (.mk [101] []) (.mk [116] [])) (aK (aK (aZ 2) (aK (aZ 3) (aZ 0))) (aK (aZ 1) (aZ 0)))) mL (.aY rfl rfl) rfl ?_;rintro v86 _ rfl;refine St.ao ?_;exact St.bg _
  refine ab.cc (λe=>[(75,e 51),(86,e 62)]) (λe=>[aB (cT (e 51) ((aU f))),aB (isTerm (bC (an (.mk [101] []) (.mk [116] [])) (aK (aK (aZ 2) (aK (aZ 3) (aZ 0))) (aK (aZ 1) (aZ 0)))) (e 62))]) (λc e a=> ?_) ?_
  ·refine St.dQ ?_
   refine St.bX (P:=prog) 75 (e 51) ((aU f)) rfl ?_;refine St.ag (e8 (aU f) (e 62) (an (an (.mk [101] []) (.mk [116] [])) (.mk [116] [])) (bC (an (.mk [101] []) (.mk [116] [])) (aK (aK (aZ 2) (aK (aZ 3) (aZ 0))) (aK (aZ 1) (aZ 0))))) mL (.aY rfl rfl) rfl ?_;rintro v87 _ rfl;refine St.ao ?_;exact St.bg _
  refine ab.cc (λe=>[(74,e 50),(87,e 63)]) (λe=>[aB (dZ (an (.mk [116] []) (an (.mk [116] []) (.mk [116] []))) (e 50)),aB (isTerm (bC (an (an (.mk [101] []) (.mk [116] [])) (.mk [116] [])) (bC (an (.mk [101] []) (.mk [116] [])) (aK (aK (aZ 2) (aK (aZ 3) (aZ 0))) (aK (aZ 1) (aZ 0))))) (e 63))]) (λc e a=> ?_) ?_
  ·refine St.dQ ?_
   refine St.ag (e8 (e 50) (e 63) (an (.mk [116] []) (an (.mk [116] []) (.mk [116] []))) (bC (an (an (.mk [101] []) (.mk [116] [])) (.mk [116] [])) (bC (an (.mk [101] []) (.mk [116] [])) (aK (aK (aZ 2) (aK (aZ 3) (aZ 0))) (aK (aZ 1) (aZ 0)))))) mL (.aY rfl rfl) rfl ?_;rintro v88 _ rfl;refine St.ao ?_;exact St.bg _
  refine ab.cc (λe=>[(69,e 45),(88,e 64)]) (λe=>[aB (cT (e 45) ((aU f))),aB (isTerm (bC (an (.mk [116] []) (an (.mk [116] []) (.mk [116] []))) (bC (an (an (.mk [101] []) (.mk [116] [])) (.mk [116] [])) (bC (an (.mk [101] []) (.mk [116] [])) (aK (aK (aZ 2) (aK (aZ 3) (aZ 0))) (aK (aZ 1) (aZ 0)))))) (e 64))]) (λc e a=> ?_) ?_
  ·refine St.dQ ?_
   refine St.bX (P:=prog) 69 (e 45) ((aU f)) rfl ?_;refine St.ag (e8 (aU f) (e 64) (an (an (.mk [101] []) (.mk [116] [])) (.mk [116] [])) (bC (an (.mk [116] []) (an (.mk [116] []) (.mk [116] []))) (bC (an (an (.mk [101] []) (.mk [116] [])) (.mk [116] [])) (bC (an (.mk [101] []) (.mk [116] [])) (aK (aK (aZ 2) (aK (aZ 3) (aZ 0))) (aK (aZ 1) (aZ 0))))))) mL (.aY rfl rfl) rfl ?_;rintro v89 _ rfl;refine St.ao ?_;exact St.bg _
  refine ab.cc (λe=>[(30,e 6),(37,e 13),(40,e 16),(55,e 31),(68,e 44),(89,e 65)]) (λe=>[aB (isTerm (bC (an (an (.mk [101] []) (.mk [116] [])) (.mk [116] [])) (bC (an (.mk [101] []) (.mk [116] [])) (aK (aZ 1) (aZ 0)))) (e 6)),aB (isTerm (bC (an (an (.mk [101] []) (.mk [116] [])) (an (an (.mk [101] []) (.mk [116] [])) (.mk [116] []))) (bC (an (.mk [101] []) (.mk [116] [])) (aK (aZ 1) (aZ 0)))) (e 13)),aB (isTerm (bC (an (.mk [101] []) (.mk [116] [])) (aZ 0)) (e 16)),aB (isTerm (bC (an (.mk [101] []) (an (.mk [101] []) (.mk [116] []))) (bC (an (an (.mk [101] []) (.mk [116] [])) (.mk [116] [])) (bC (.mk [101] []) (aK (aZ 1) (bC (.mk [101] []) (aK (aK (aZ 3) (aZ 1)) (aZ 0))))))) (e 31)),aB (isTerm (bC (an (.mk [116] []) (.mk [116] [])) (bC (an (.mk [101] []) (.mk [116] [])) (bC (.mk [101] []) (aK (aZ 2) (aK (aZ 1) (aZ 0)))))) (e 44)),aB (isTerm (bC (an (an (.mk [101] []) (.mk [116] [])) (.mk [116] [])) (bC (an (.mk [116] []) (an (.mk [116] []) (.mk [116] []))) (bC (an (an (.mk [101] []) (.mk [116] [])) (.mk [116] [])) (bC (an (.mk [101] []) (.mk [116] [])) (aK (aK (aZ 2) (aK (aZ 3) (aZ 0))) (aK (aZ 1) (aZ 0))))))) (e 65))]) (λc e a=> ?_) ?_
  ·refine St.R3 ?_
   refine St.isTerm (bC (an (an (.mk [101] []) (.mk [116] [])) (.mk [116] [])) (bC (an (.mk [101] []) (.mk [116] [])) (aK (aZ 1) (aZ 0)))) (e 6) (λi y=> ?_);obtain⟨z,A,B⟩:=y;rw[z];refine St.isTerm (bC (an (an (.mk [101] []) (.mk [116] [])) (an (an (.mk [101] []) (.mk [116] [])) (.mk [116] []))) (bC (an (.mk [101] []) (.mk [116] [])) (aK (aZ 1) (aZ 0)))) (e 13) (λj C=> ?_);obtain⟨D,E,F⟩:=C;rw[D];refine St.isTerm (bC (an (.mk [101] []) (.mk [116] [])) (aZ 0)) (e 16) (λk G=> ?_);obtain⟨H,I,J⟩:=G;rw[H];refine St.isTerm (bC (an (.mk [101] []) (an (.mk [101] []) (.mk [116] []))) (bC (an (an (.mk [101] []) (.mk [116] [])) (.mk [116] [])) (bC (.mk [101] []) (aK (aZ 1) (bC (.mk [101] []) (aK (aK (aZ 3) (aZ 1)) (aZ 0))))))) (e 31) (λl K=> ?_);obtain⟨L,M,N⟩:=K;rw[L];refine St.isTerm (bC (an (.mk [116] []) (.mk [116] [])) (bC (an (.mk [101] []) (.mk [116] [])) (bC (.mk [101] []) (aK (aZ 2) (aK (aZ 1) (aZ 0)))))) (e 44) (λm O=> ?_);obtain⟨Q,R,S⟩:=O;rw[Q];refine St.isTerm (bC (an (an (.mk [101] []) (.mk [116] [])) (.mk [116] [])) (bC (an (.mk [116] []) (an (.mk [116] []) (.mk [116] []))) (bC (an (an (.mk [101] []) (.mk [116] [])) (.mk [116] [])) (bC (an (.mk [101] []) (.mk [116] [])) (aK (aK (aZ 2) (aK (aZ 3) (aZ 0))) (aK (aZ 1) (aZ 0))))))) (e 65) (λn T=> ?_);obtain⟨U,V,W⟩:=T;rw[U];refine St.fp rfl (.XM rfl rfl rfl rfl rfl rfl) iE fc QW rfl rfl (by simp[Value.cells]) rfl rfl (λo=> ?_);refine St.bR (.slice (some ⟨o,0,none⟩) 6 6) dI [i,j,k,l,m,n] rfl rfl (all_cons B (all_cons F (all_cons J (all_cons N (all_cons S (all_cons W (all_nil))))))) ?_;refine Ij cm [i,j,k,l,m,n] [cm i,cm j,cm k,cm l,cm m,cm n] rfl ?_;refine St.eY (lq sR (.slice (some ⟨o,0,none⟩) 6 6)) [sl dI (.slice (some ⟨o,0,none⟩) 6 6) [i,j,k,l,m,n],aF cm [i,j,k,l,m,n]] (λρ h=>⟨rfl,[i,j,k,l,m,n],by simp only[List.map_cons,List.map_nil,A,E,I,M,R,V];rfl,h (sl dI (.slice (some ⟨o,0,none⟩) 6 6) [i,j,k,l,m,n]) (by simp),h (aF cm [i,j,k,l,m,n]) (by simp)⟩) ?_;exact St.bg _
  exact ab.nil
 refine St.ao ?_;refine g9 ?_;refine St.tG _ rfl rfl ?_;refine g9 ?_;refine St.rV [_] [aB (lq sR (e 66))] ?_;rfl
end Go.Proofs.YtblifkgpebebmaaGreatDoor
namespace Go.J
open Go
section
variable {p:List Int}
theorem N3 {a b:Nat}(c:a≤p.length)(d:b≤p.length)(h:p.drop a=p.drop b):a=b:=by
 have:=congrArg List.length h
 simp only[List.length_drop]at this
 omega
abbrev Sx (p:List Int)(l:List Nat):Prop:=l.Pairwise (λa b=>pR (p.drop a) (p.drop b)=true)
structure M4 (p:List Int)(i:Nat)(A B:List Nat):Prop where
 perm:(A++B).Perm (List.range i)
 srt:Sx p (A++B)
 less:∀b∈B,pR (p.drop i) (p.drop b)=true
theorem M4.step {i a:Nat}{A B:List Nat}(h:M4 p i (A++ [a]) B)(d:pR (p.drop i) (p.drop a)=true):M4 p i A (a::B):=
 ⟨by simpa using h.perm,by simpa using h.srt,λb c=>by rcases cH.1 c with rfl|c;exact d;exact h.less b c⟩
theorem M4.done {i:Nat}{A B:List Nat}(h:M4 p i A B)(j:i<p.length)(c:A=[]∨∃A' a,A=A'++ [a]∧pR (p.drop i) (p.drop a)=false):(A++i::B).Perm (List.range (i+1))∧Sx p (A++i::B):=by
 have d:∀x∈A++B,x<i:=λx hx=>dq.1 (h.perm.mem_iff.1 hx)
 constructor
 ·rw[uW]
  exact qk.trans ((h.perm.cons i).trans (List.perm_append_singleton i _).symm)
 ·have b:=sB.1 h.srt
  have e:∀x∈A,pR (p.drop x) (p.drop i)=true:=by
   rcases c with rfl|⟨A',a,rfl,f⟩
   ·intro x hx;cases hx
   ·have last:pR (p.drop a) (p.drop i)=true:=by
     have g:=d a (by simp)
     rcases xY (p.drop a) (p.drop i)with q|q|q
     ·exact q
     ·have:=N3 (by omega) (by omega) q;omega
     ·rw[f]at q;cases q
    intro x hx
    rcases cD.1 hx with hx|hx
    ·exact qz ((sB.1 b.1).2.2 x hx a (C6 _)) last
    ·rw[bO.1 hx];exact last
  refine sB.2 ⟨b.1,jW.2 ⟨h.less,b.2.1⟩,?_⟩;intro x hx y hy
  rcases cH.1 hy with rfl|hy
  ·exact e x hx
  ·exact b.2.2 x hx y hy
end
section
variable {n:Nat}{cf:Nat→Nat→Int}{l:List Nat}
end
structure Ya (l:List (List bB)):Prop where
 len:l.length≤100
 each:∀s∈l,0<s.length∧s.length≤12∧s.all isWord=true
theorem Ya.nil:Ya []:=⟨by simp,λs h=>by cases h⟩
def hz {β:Type}(q:List Nat):List Nat→List β→List β
 |x::a,z::b=>if(x::a).take q.length=q then z::hz q a b else hz q a b
 |_,_=>[]
def below (W:List bB)(w:bB):Nat:=W.countP λx=>Op.bytesLess x w
end Go.J
namespace Go.Proofs.YtblifkgpebebmaaGreatDoor
open Go Go.J Tryz
def dU:List Int→List dw
 |a::b::r=>⟨a,b⟩::dU r
 |_=>[]
theorem wN:∀xs:List Int,(dU xs).length=xs.length/2
 | []=>rfl
 | [_]=>by simp[dU]
 |a::b::r=>by rw[dU,fA,wN r];simp only[List.length_cons];omega
theorem wM:∀{xs:List Int} {j:Nat} {a b:Int},xs[2*j]?=some a→xs[2*j+1]?=some b→(dU xs)[j]?=some ⟨a,b⟩
 | [],_,_,_,h,_=>by simp at h
 | [_],0,_,_,_,h=>by simp at h
 | [_],j+1,_,_,h,_=>by simp at h
 |x::y::r,0,a,b,h,k=>by
  simp at h k;subst h k;rfl
 |x::y::r,j+1,a,b,h,k=>by
  rw[show 2*(j+1)=(2*j)+1+1 by omega,s6,s6]at h;rw[show 2*(j+1)+1=(2*j+1)+1+1 by omega,s6,s6]at k;rw[dU,s6];exact wM h k
theorem qL:∀{xs:List Int} {x:dw},x∈dU xs→x.dF∈xs∧x.tqo∈xs
 | [],_,h=>by cases h
 | [_],_,h=>by cases h
 |a::b::r,x,h=>by
  rw[dU]at h
  rcases cH.1 h with rfl|h
  ·exact⟨by simp,by simp⟩
  ·have:=qL h
   exact⟨by simp[this.1],by simp[this.2]⟩
def XW (xs:List Int):KF:=(xs.headD 0,(dU xs.tail).map fR)
def cP (ga:List (List Int)):dz:=ga.map XW
theorem zO {X Y:List dw}{x:dw}(h:Y=X++ [x]):rows au X++ [iv x.dF,iv x.tqo]=rows au Y:=by rw[h,ax];rfl
theorem Hh {X:List df}{x:df}:rows bh X++ [iv x.type,x.lv.1]=rows bh (X++ [x]):=by rw[ax];rfl
theorem LO {xs:List Int}{x:Int}(h:xs[0]?=some x):XW xs=(x,(dU (xs.drop 1)).map fR):=by
 cases xs with
 |nil=>simp at h
 |cons y r=>simp at h;subst h;rfl
theorem drop_at {xs:List Int}{j:Nat}:(xs.drop 1)[j]?=xs[1+j]?:=by rw[A4]
theorem gQ (u:Value)(ga:List (List Int))(K:ga.all (λxs=>decide (0<xs.length)&&decide (xs.length≤60))=true)(V:ga.length≤60):dx prog 58 #[u] ([fS aI ga u].map aB) (λv H'=>H'=[aB (bK (cP ga) v)]):=by
 refine dx.body (args:=[u]) 48 func58 rfl ntmps58 rfl (λc=> ?_);refine St.cast (H':=[aB (fS aI ga u)]) rfl ?_;refine go ?_;refine St.fS aI ga u (λL=> ?_);refine St.nu u (λvs l=> ?_);refine St.JP vs l (λM=> ?_);refine go ?_;refine St.al (λD=> ?_);refine g4 ?_;refine St.al (λE=> ?_);refine g11 ?_;refine St.e9 163 2 ?_;refine St.aM (.slice none 0 0) (show _=([]:List df).length from rfl) (show _=rows bh []from rfl) ?_;refine St.dN cA ?_;refine St.te (ι:=Nat) (κ:=Value×List df) (λk z T=>(10,iv k)::T) (λk z=>[aW E (.cells [z.1].toArray 30 (0,0)),row z.1 163 2 (z.2).length (rows bh (z.2)),aB (aF cA z.2),aW D (.cells [(.slice none 0 0)].toArray 30 (0,0)),aB (sl bS u vs),aB (js aI vs ga)]) (λk z=>k≤ga.length∧z.1.oneCell'=true∧z.2.map lx=cP (ga.take k)∧∀x∈z.2,bh.wf x) (λk z=>ga.length-k) 0 ((.slice none 0 0),[]) (aD.cons 2 rfl (aD.cons 3 rfl (aD.cons 8 rfl (aD.cons 9 rfl aD.nil)))) ⟨aO _,rfl,rfl,λx hx=>by cases hx⟩ ?_;rintro k ⟨a,X⟩ ⟨hk,hz,d,b⟩
 dsimp only at hz d b⊢
 have m:=congrArg List.length d
 rw[aN,cP,aN,eR]at m;refine g6 ?_;refine St.cq (λN=> ?_) (λN=> ?_)
 ·obtain⟨s,e⟩:=aE (show k<ga.length by omega)
  obtain⟨w,hw⟩:=aE (show k<vs.length by omega);refine St.js (vs:=vs) k hw e ?_
  have n:=M s (ae e)
  have o:=eW.1 K s (ae e)
  simp only[Bool.and_eq_true,decide_eq_true_eq]at o
  obtain⟨x0,F⟩:=aE (show 0<s.length by omega)
  have O:=wN (s.drop 1)
  rw[A5]at O;refine g14 ?_;refine St.ee (Ev.cL (k:=0) (.mk rfl) (.mk rfl) bI dL rfl (by omega)) ?_;refine go ?_;refine St.ee (Ev.build (bH.ar rfl) (λw=>E5 rfl w)) ?_;refine St.al (λG=> ?_);refine g10 ?_;refine St.e9 165 2 ?_;refine St.aM (.slice none 0 0) (show _=((dU (s.drop 1)).take 0).length from rfl) (show _=rows au ((dU (s.drop 1)).take 0)from rfl) ?_;refine St.te (ι:=Nat) (κ:=Value) (λj y T=>(7,iv (1+2*(j:Nat)))::T) (λj y=>[aW G (.cells [iv x0,y].toArray 163 (0,0)),row y 165 2 ((dU (s.drop 1)).take j).length (rows au ((dU (s.drop 1)).take j)),aB (sl aI w.1 s),aW E (.cells [a].toArray 30 (0,0)),row a 163 2 (X).length (rows bh (X)),aB (aF cA X),aW D (.cells [(.slice none 0 0)].toArray 30 (0,0)),aB (sl bS u vs),aB (js aI vs ga)]) (λj y=>j≤(s.length-1)/2∧y.oneCell'=true) (λj y=>(s.length-1)/2-j) 0 (.slice none 0 0) (aD.cons 2 rfl (aD.cons 3 rfl (aD.cons 5 rfl (aD.cons 6 rfl (aD.cons 8 rfl (aD.cons 9 rfl (aD.cons 10 rfl aD.nil))))))) ⟨aO _,rfl⟩ ?_;rintro j y ⟨W,hy⟩
  have Y:((dU (s.drop 1)).take j).length≤60:=by rw[eR];omega
  refine g10 ?_;refine St.cq (λP=> ?_) (λP=> ?_)
  ·have Q:1+2*j+1<s.length:=by omega
   obtain⟨p,r⟩:=aE (show 1+2*j<s.length by omega);obtain⟨t,A⟩:=aE (show 1+2*j+1<s.length by omega)
   have f:(dU (s.drop 1))[j]?=some ⟨p,t⟩:=wM (by rw[drop_at];exact r) (by rw[drop_at,←qi];exact A)
   refine g4 ?_;refine St.da [aW G (.cells [iv x0,y].toArray 163 (0,0)),row y 165 2 ((dU (s.drop 1)).take j).length (rows au ((dU (s.drop 1)).take j))] mixed (λZ ns=> ?_);refine SW.gd 0 ?_;refine SW.gd 2 ?_;refine SW.gd 3 ?_;refine SW.dd 4 rfl (λ_=>Ev.cL (k:=(1+2*j)) (.mk rfl) (.mk rfl) bI dL (by omega) (by omega)) ?_;refine SW.gd 5 ?_;refine SW.gd 6 ?_;refine SW.gd 7 ?_;refine SW.gd 8 ?_;refine SW.dd 9 rfl (λ_=>Ev.cL (k:=(1+2*j+1)) (.mk rfl) (.mk rfl) bI dL (by omega) (by omega)) ?_;refine SW.gd 10 ?_;refine SW.dd 11 rfl (λ_=>Ev.build (ps:=[(0,(.tmp 30)),(1,(.tmp 35))]) (bH.aY rfl rfl) (λw=>ow rfl rfl w)) ?_;refine SW.t2 1 12 ?_ ?_
   focus
    refine g3 ?_;refine SW.go ?_;refine SW.t1 12 ?_;refine St.fp rfl (.ar rfl) eV dh kI rfl rfl (by simp[Value.cells]) rfl rfl (λB=> ?_);refine g2 ?_;refine SW.go ?_;refine SW.t1 13 ?_;refine St.aj (.mk rfl) (.mk rfl) eV dh kI qC (by simp[Value.oneCell',Value.cells]) (by omega) (by omega) rfl rfl rfl rfl (λv38 C=> ?_);refine St.aM v38 (show _=((dU (s.drop 1)).take (j+1)).length by rw[aX f];exact cR) (show _=rows au ((dU (s.drop 1)).take (j+1))from zO (x:=⟨p,t⟩) (aX f)) ?_;refine St.bZ v38 (λi _=> ?_);refine g2 ?_;refine SW.go ?_;refine SW.gd 14 ?_;refine SW.t1 15 ?_;refine St.cJ (.mk rfl) (.mk rfl) pX i (by rfl) ?_;refine g2 ?_;refine SW.go ?_;refine SW.dn ?_
   rotate_left
   focus
    refine St.fp rfl (.ar rfl) eV dh kI rfl rfl (by simp[Value.cells]) rfl rfl (λB=> ?_);refine g2 ?_;refine SW.go ?_;refine SW.t1 1 ?_;refine g3 ?_;refine SW.go ?_;refine SW.t1 13 ?_;refine St.aj (.mk rfl) (.mk rfl) eV dh kI qC (by simp[Value.oneCell',Value.cells]) (by omega) (by omega) rfl rfl rfl rfl (λv38 C=> ?_);refine St.aM v38 (show _=((dU (s.drop 1)).take (j+1)).length by rw[aX f];exact cR) (show _=rows au ((dU (s.drop 1)).take (j+1))from zO (x:=⟨p,t⟩) (aX f)) ?_;refine St.bZ v38 (λi _=> ?_);refine g2 ?_;refine SW.go ?_;refine SW.gd 14 ?_;refine SW.t1 15 ?_;refine St.cJ (.mk rfl) (.mk rfl) pX i (by rfl) ?_;refine g2 ?_;refine SW.go ?_;refine SW.dn ?_
   all_goals
    refine g8 ?_;refine St.ue (j+1) v38 ⟨by omega,i⟩
  ·obtain rfl:j=(s.length-1)/2:=by omega
   have R:(dU (s.drop 1)).take ((s.length-1)/2)=(dU (s.drop 1)):=fF (by omega)
   rw[R];refine St.bR y au (dU (s.drop 1)) rfl rfl (λx hx=>⟨n _ (G9 (qL hx).1),n _ (G9 (qL hx).2)⟩) ?_;refine St.eY (cA ⟨x0,⟨y,hy⟩,(dU (s.drop 1))⟩) [sl au y (dU (s.drop 1))] (λρ h=>h _ (aP ..)) ?_;refine g9 ?_;refine St.fp rfl (.ar rfl) oZ jS GB rfl rfl (by simp[J.cells_one hy,Value.cells]) rfl rfl (λS=> ?_);refine St.aj (.mk rfl) (.mk rfl) oZ jS GB Md (by intro q H;simp[Value.cells]at H;rcases H with rfl|rfl;rfl;exact hy) (by omega) (by omega) rfl rfl rfl rfl (λv44 U=> ?_);refine St.aM v44 (show _=(X++ [(⟨x0,⟨y,hy⟩,(dU (s.drop 1))⟩:df)]).length from cR) (show _=rows bh (X++ [(⟨x0,⟨y,hy⟩,(dU (s.drop 1))⟩:df)])from Hh (x:=⟨x0,⟨y,hy⟩,(dU (s.drop 1))⟩)) ?_;refine St.bZ v44 (λI _=> ?_);refine St.tJ cA (xs:=X) (x:=⟨x0,⟨y,hy⟩,(dU (s.drop 1))⟩) ?_;refine go ?_;refine St.cJ (.mk rfl) (.mk rfl) ae9 I (by rfl) ?_;refine g8 ?_;refine St.ue (k+1) (v44,X++ [(⟨x0,⟨y,hy⟩,(dU (s.drop 1))⟩:df)]) ⟨by omega,I,by rw[aX e,cO,d,cP,cP,cO];exact congrArg (λq=>List.map XW (List.take k ga)++ [q]) (LO F).symm,λx hx=>(cD.1 hx).elim (b x) λq=>by rw[bO.1 q];exact n x0 (ae F)⟩
 ·obtain rfl:k=ga.length:=by omega
  rw[jl]at d;refine g8 ?_;refine St.sA (.mk rfl) (.mk rfl) jT ?_ (h1:=(by simp[hz]));refine g3 ?_;refine St.bR a bh X rfl rfl b ?_;refine St.eY (aG ⟨⟨a,hz⟩,X⟩) [sl bh a X,aF cA X] (λρ h=>h) ?_;refine St.Tf ⟨⟨a,hz⟩,X⟩ (g:=cP ga) (bA ⟨⟨a,hz⟩,X⟩) rfl d ?_;refine St.rV [_] [aB (bK (cP ga) (bA ⟨⟨a,hz⟩,X⟩))] ?_;rfl
def yn (names:List bB)(ps:List Int)(k:Nat):List ej:=(List.range k).map λi=>(names.getD i [],if i=0 then []else [ps.getD i 0])
theorem H3 (names:List bB)(ps:List Int)(k:Nat):yn names ps (k+1)=yn names ps k++ [(names.getD k [],if k=0 then []else [ps.getD k 0])]:=by
 unfold yn;rw[uW,cO];rfl
theorem Hi {X:List rZ}{x:rZ}:rows ml X++ [sv x.name,x.pv.1]=rows ml (X++ [x]):=by rw[ax];rfl
theorem Hg {X:List eX}{x:eX}:rows dy X++Sm x=rows dy (X++ [x]):=by rw[ax];rfl
theorem vB (a b l:Value)(names:List bB)(ps:List Int)(e:l.oneCell'=true)(hlen:ps.length=names.length)(M:names.length≤60):dx prog 56 #[a,b,l] ([fW bL names a,fW aI ps b].map aB) (λv H'=>∃(tv:aV) (ts:List rZ),v= .agg #[tv.1,l]∧ts.map dG=yn names ps names.length∧H'=[aB (sl ml tv.1 ts),aB (aF ry ts)]):=by
 refine dx.body (args:=[a,b,l]) 38 func56 rfl ntmps56 rfl (λc=> ?_);refine St.cast (H':=[aB (fW bL names a),aB (fW aI ps b)]) rfl ?_;refine go ?_;refine St.fW bL names a (λD=> ?_);refine St.fW aI ps b (λN=> ?_);refine St.wf a (λE _=> ?_);refine St.wf b (λn _=> ?_);refine go ?_;refine St.al (λA=> ?_);refine g4 ?_;refine St.al (λB=> ?_);refine g11 ?_;refine St.e9 156 2 ?_;refine St.aM (.slice none 0 0) (show _=([]:List rZ).length from rfl) (show _=rows ml []from rfl) ?_;refine St.dN ry ?_;refine St.te (ι:=Nat) (κ:=Value×List rZ) (λk z T=>(13,iv k)::T) (λk z=>[aW B (.cells [z.1,(.slice none 0 0)].toArray 25 (0,0)),row z.1 156 2 (z.2).length (rows ml (z.2)),aB (aF ry z.2),aW A (.cells [(.slice none 0 0),(.slice none 0 0)].toArray 25 (0,0)),aB (sl bL a names),aB (sl aI b ps)]) (λk z=>k≤names.length∧z.1.oneCell'=true∧z.2.map dG=yn names ps k∧∀x∈z.2,ml.wf x) (λk z=>names.length-k) 0 ((.slice none 0 0),[]) (aD.cons 1 rfl (aD.cons 2 rfl (aD.cons 6 rfl (aD.cons 7 rfl (aD.cons 11 rfl (aD.cons 12 rfl aD.nil)))))) ⟨aO _,rfl,rfl,λx hx=>by cases hx⟩ ?_;rintro k ⟨f,X⟩ ⟨hk,hz,m,d⟩
 dsimp only at hz m d⊢
 have o:=congrArg List.length m
 rw[aN,yn,aN,jV]at o;refine g6 ?_;refine St.cq (λF=> ?_) (λF=> ?_)
 ·obtain⟨nm,g⟩:=aE (show k<names.length by omega)
  obtain⟨p,hp⟩:=aE (show k<ps.length by omega)
  have r:names.getD k []=nm:=by rw[aw,g];rfl
  have s:ps.getD k 0=p:=by rw[aw,hp];rfl
  have t:=E nm (ae g)
  have u:=n p (ae hp)
  have G:=H3 names ps k
  refine g16 ?_;refine St.ee (Ev.build (bH.ar rfl) (λw=>MV rfl w)) ?_;refine St.al (λH=> ?_);refine g3 ?_;refine St.join (ι:=Value) (λy T=>T) (λy=>[aW H (.cells [sv nm,y].toArray 156 (0,0)),aB (sl aI y (if k=0 then []else [p])),aW B (.cells [f,(.slice none 0 0)].toArray 25 (0,0)),row f 156 2 (X).length (rows ml (X)),aB (aF ry X),aW A (.cells [(.slice none 0 0),(.slice none 0 0)].toArray 25 (0,0)),aB (sl bL a names),aB (sl aI b ps)]) (λy=>y.oneCell'=true) (aD.cons 1 rfl (aD.cons 2 rfl (aD.cons 6 rfl (aD.cons 7 rfl (aD.cons 10 rfl (aD.cons 11 rfl (aD.cons 12 rfl (aD.cons 13 rfl aD.nil)))))))) ?_ ?_
  ·refine g6 ?_
   refine St.cq (λI=> ?_) (λI=> ?_)
   ·rw[aA (show ¬k=0 by omega)]
    refine g5 ?_;refine St.fp rfl (.ar rfl) bI dL eQ rfl rfl (by simp[Value.cells]) rfl rfl (λi=> ?_);refine St.bR (.slice (some ⟨i,0,none⟩) 1 1) aI [p] rfl rfl (Ob u) ?_;refine go ?_;refine St.cJ (.mk rfl) (.mk rfl) fE rfl (by rfl) ?_;refine g2 ?_;refine St.mE (.slice (some ⟨i,0,none⟩) 1 1) rfl
   ·rw[aC (show k=0 by omega)]
    refine St.fk aI ?_;refine g2 ?_;refine St.mE (.slice none 0 0) rfl
  ·intro y hy
   have O:(⟨nm,⟨y,hy⟩,if k=0 then []else [p]⟩:rZ)=⟨nm,⟨y,hy⟩,if k=0 then []else [p]⟩:=rfl
   refine g4 ?_;refine St.fp rfl (.ar rfl) vq Bg VD rfl rfl (by simp[J.cells_one hy,Value.cells]) rfl rfl (λK=> ?_);refine St.aj (.mk rfl) (.mk rfl) vq Bg VD Z5 (by intro q C;simp[Value.cells]at C;rcases C with rfl|rfl;rfl;exact hy) (by omega) (by omega) rfl rfl rfl rfl (λv32 L=> ?_);refine St.eY (ry ⟨nm,⟨y,hy⟩,if k=0 then []else [p]⟩) [sl aI y (if k=0 then []else [p])] (λρ h=>h _ (aP ..)) ?_;refine St.aM v32 (show _=(X++ [(⟨nm,⟨y,hy⟩,if k=0 then []else [p]⟩:rZ)]).length from cR) (show _=rows ml (X++ [(⟨nm,⟨y,hy⟩,if k=0 then []else [p]⟩:rZ)])from Hi (x:=⟨nm,⟨y,hy⟩,if k=0 then []else [p]⟩)) ?_;refine St.bZ v32 (λj _=> ?_);refine St.tJ ry (xs:=X) (x:=⟨nm,⟨y,hy⟩,if k=0 then []else [p]⟩) ?_;refine go ?_;refine St.cJ (.mk rfl) (.mk rfl) alO j (by rfl) ?_;refine g8 ?_;refine St.ue (k+1) (v32,X++ [(⟨nm,⟨y,hy⟩,if k=0 then []else [p]⟩:rZ)]) ⟨by omega,j,by rw[cO,m,G,r,s];rfl,λx hx=>(cD.1 hx).elim (d x) λq=>by rw[bO.1 q];exact t⟩
 ·obtain rfl:k=names.length:=by omega
  refine g9 ?_;refine St.cJ (.mk rfl) (.mk rfl) alP e (by rfl) ?_;refine g5 ?_;refine St.sA (.mk rfl) (.mk rfl) Ph ?_ (h1:=(by simp[hz,e]));refine g3 ?_;refine St.bR f ml X rfl rfl d ?_;refine St.rV [_] [aB (sl ml f X),aB (aF ry X)] ?_;exact⟨⟨f,hz⟩,X,rfl,m,rfl⟩
theorem eH (b:Nat)(e f g i xv:Value)(X:List eX)(word:bB)(wt:Int)(u w:Value)(t:jK)(ga:List (List Int))(hw:mr word)(n:aa wt)(o:xv.oneCell'=true)(p:X.length≤100)(F:∀x∈X,dy.wf x)
 (r:ga.all (λxs=>decide (0<xs.length)&&decide (xs.length≤60))=true) (s:ga.length≤60):dx prog 59 ([sv word,iv wt,u,w]++ [Value.pointer (some ⟨b,0,none⟩)]).toArray [aB (isTerm t u),aB (fS aI ga w),aB (aF eO X),aW b (.cells [e,f,g,xv,i].toArray 32 (0,0)),row xv 115 9 (X).length (rows dy (X))]
 (λv H'=>∃(d:Value) (x:eX),v= .tuple #[]∧d.oneCell'=true∧og x=⟨word,cP ga,wt,t⟩∧dy.wf x∧H'=[aW b (.cells [e,f,g,d,i].toArray 32 (0,0)),row d 115 9 (X++ [x]).length (rows dy (X++ [x])),aB (aF eO (X++ [x]))]):=by
 refine dx.body (args:=[sv word,iv wt,u,w]++ [Value.pointer (some ⟨b,0,none⟩)]) 20 func59 rfl ntmps59 rfl (λc=> ?_);refine go ?_;refine St.cast (H':=[aB (isTerm t u),aB (fS aI ga w),aB (aF eO X),aW b (.cells [e,f,g,xv,i].toArray 32 (0,0)),row xv 115 9 (X).length (rows dy (X))]) rfl ?_;refine St.isTerm t u (λx hx=> ?_);obtain⟨rfl,rfl,z⟩:=hx;obtain⟨A,B,k,l⟩:=z;refine go ?_;refine St.dK (.mk rfl) rfl (λG=> ?_);refine g2 ?_;refine St.da [aW b (.cells [e,f,g,xv,i].toArray 32 (0,0)),row xv 115 9 (X).length (rows dy (X))] mixed (λH I=> ?_)
 repeat' first
  |with_reducible refine SW.me ?_
   first
    |refine SW.gd 0 ?_
    |refine SW.gd 2 ?_
    |refine SW.gd 3 ?_
    |refine SW.gd 4 ?_
    |refine SW.gd 5 ?_
    |refine SW.dd 7 rfl (λ_=>Ev.build (ps:=[(0,(.tmp 11)),(2,(.tmp 12)),(3,(.tmp 13)),(1,(.tmp 15))]) (bH.gW rfl rfl rfl rfl) (λw=>yL rfl rfl w)) ?_
    |refine SW.gd 10 ?_
    |refine SW.t2 1 6 ?_ ?_
    |refine SW.t1 6 ?_
    |refine SW.t1 8 ?_
    |refine SW.t1 9 ?_
    |refine SW.t1 11 ?_
    |refine SW.t2 1 8 ?_ ?_
    |refine SW.t1 1 ?_
  |with_reducible refine SW.tg 1 ?_
   refine g3 ?_;refine SW.go ?_
  |with_reducible refine SW.tg 6 ?_
   refine St.ag (gQ w ga r s) E7 (.ar rfl) rfl ?_;rintro m _ rfl;refine St.ao ?_;refine St.bK (cP ga) m (λy hy=> ?_);obtain⟨rfl,C⟩:=hy;refine g2 ?_;refine SW.go ?_
  |with_reducible refine SW.tg 8 ?_
   refine St.fp rfl (.ar rfl) I9 nR VC rfl rfl (by simp[J.cells_one y.nv.2,J.cells_one x.type.av.2,J.cells_one x.av.2,Value.cells]) rfl rfl (λK=> ?_);refine g2 ?_;refine SW.go ?_
  |with_reducible refine SW.tg 9 ?_
   refine St.aj (.mk rfl) (.mk rfl) I9 nR VC Z4 (by intro q D;exact dy.one (⟨word,y,wt,x⟩:eX) q (by show q∈Sm (⟨word,y,wt,x⟩:eX);simpa[Value.cells]using D)) (by omega) (by omega) rfl rfl rfl rfl (λa E=> ?_);refine St.eY (eO (⟨word,y,wt,x⟩:eX)) [aG y,cm x] (λρ h=>h) ?_;refine St.aM a (show _=(X++ [(⟨word,y,wt,x⟩:eX)]).length from cR) (show _=rows dy (X++ [(⟨word,y,wt,x⟩:eX)])from Hg (x:=(⟨word,y,wt,x⟩:eX))) ?_;refine St.bZ a (λj _=> ?_);refine St.tJ eO (xs:=X) (x:=(⟨word,y,wt,x⟩:eX)) ?_;refine g2 ?_;refine SW.go ?_
  |with_reducible refine SW.tg 11 ?_
   refine St.cJ (.mk rfl) (.mk rfl) alR j (by rfl) ?_;refine g2 ?_;refine SW.go ?_
 all_goals refine SW.dn ?_
 all_goals
  refine St.eF ?_;refine St.rV [] [aW b (.cells [e,f,g,a,i].toArray 32 (0,0)),row a 115 9 (X++ [(⟨word,y,wt,x⟩:eX)]).length (rows dy (X++ [(⟨word,y,wt,x⟩:eX)])),aB (aF eO (X++ [(⟨word,y,wt,x⟩:eX)]))] ?_;exact⟨a,(⟨word,y,wt,x⟩:eX),rfl,j,by rw[←C];rfl,⟨hw,n,A,B,k,l⟩,rfl⟩
def rD:List bB:=[[116,111,112],[114,117,108,101],[115,105,103,110],[110,117,109],[115,105,110,103],[112,108,117,114],[115],[110,112],[118,112],[110],[100,101,116],[105,118],[116,118],[97,100,118],[99,111,110,106]]
def zY:List Int:=[0,0,0,0,3,3,2,2,2,2,2,2,2,2,2]
def kB:List jI:=[⟨[109,111,116,104,101,114],1,2⟩,⟨[111,110,101],1,2⟩,⟨[116,119,111],1,2⟩,⟨[116,104,114,101,101],1,2⟩,⟨[110,117,109],2,3⟩]
abbrev XZ:sg:=⟨[115],(cP [[1,0,1,1,2,2,4],[6],[7,4,3],[3],[8,4,3]]),2,0,(bC (an (an (.mk [101] []) (.mk [116] [])) (.mk [116] [])) (bC (an (.mk [101] []) (.mk [116] [])) (aK (aZ 1) (aZ 0))))⟩
abbrev Xa:sg:=⟨[110,112],(cP [[1,0,1,1,3,2,4],[7,4,2],[3],[10,4,2],[9,4,2]]),2,1,(bC (an (an (.mk [101] []) (.mk [116] [])) (an (an (.mk [101] []) (.mk [116] [])) (.mk [116] []))) (bC (an (.mk [101] []) (.mk [116] [])) (aK (aZ 1) (aZ 0))))⟩
abbrev Xb:sg:=⟨[118,112,45,105,118],(cP [[1,0,1,1,3],[8,4,2],[3],[11,4,2]]),1,0,(bC (an (.mk [101] []) (.mk [116] [])) (aZ 0))⟩
abbrev Xc:sg:=⟨[118,112,45,116,118],(cP [[1,0,1,1,3,2,4],[8,4,2],[3],[12,4,2],[7]]),2,2,(bC (an (.mk [101] []) (an (.mk [101] []) (.mk [116] []))) (bC (an (an (.mk [101] []) (.mk [116] [])) (.mk [116] [])) (bC (.mk [101] []) (aK (aZ 1) (bC (.mk [101] []) (aK (aK (aZ 3) (aZ 1)) (aZ 0)))))))⟩
abbrev Xd:sg:=⟨[118,112,45,110,111,116],(cP [[1,0,1,1,3,2,4],[8,4,2],[3],[13],[8,4,2]]),2,3,(bC (an (.mk [116] []) (.mk [116] [])) (bC (an (.mk [101] []) (.mk [116] [])) (bC (.mk [101] []) (aK (aZ 2) (aK (aZ 1) (aZ 0))))))⟩
abbrev Xe:sg:=⟨[110,112,45,97,110,100],(cP [[1,0,1,1,3,2,4,3,5],[7,4,2],[5],[7],[14],[7]]),3,4,(bC (an (an (.mk [101] []) (.mk [116] [])) (.mk [116] [])) (bC (an (.mk [116] []) (an (.mk [116] []) (.mk [116] []))) (bC (an (an (.mk [101] []) (.mk [116] [])) (.mk [116] [])) (bC (an (.mk [101] []) (.mk [116] [])) (aK (aK (aZ 2) (aK (aZ 3) (aZ 0))) (aK (aZ 1) (aZ 0)))))))⟩
def uI:List sg:=[XZ,Xa,Xb,Xc,Xd,Xe]
def rC:List Dn:=[⟨[101,118,101,114,121],cP [[10,4,1],[4]],1,(mU [97,108,108] [105,102] false)⟩,⟨[97],cP [[10,4,1],[4]],0,(mU [115,111,109,101] [97,110,100] false)⟩,⟨[110,111],cP [[10]],2,(mU [115,111,109,101] [97,110,100] true)⟩,⟨[100,111,103],cP [[9,4,1],[4]],0,(bV [100,111,103] (an (.mk [101] []) (.mk [116] [])))⟩,⟨[100,111,103,115],cP [[9,4,1],[5]],0,(bV [100,111,103] (an (.mk [101] []) (.mk [116] [])))⟩,⟨[99,97,116],cP [[9,4,1],[4]],0,(bV [99,97,116] (an (.mk [101] []) (.mk [116] [])))⟩,⟨[99,97,116,115],cP [[9,4,1],[5]],0,(bV [99,97,116] (an (.mk [101] []) (.mk [116] [])))⟩,⟨[102,105,115,104],cP [[9,4,1],[4]],1,(bV [102,105,115,104] (an (.mk [101] []) (.mk [116] [])))⟩,⟨[102,105,115,104],cP [[9,4,1],[5]],2,(bV [102,105,115,104] (an (.mk [101] []) (.mk [116] [])))⟩,⟨[98,97,114,107,115],cP [[11,4,1],[4]],0,(bV [98,97,114,107] (an (.mk [101] []) (.mk [116] [])))⟩,⟨[98,97,114,107],cP [[11,4,1],[5]],0,(bV [98,97,114,107] (an (.mk [101] []) (.mk [116] [])))⟩,⟨[115,108,101,101,112,115],cP [[11,4,1],[4]],0,(bV [115,108,101,101,112] (an (.mk [101] []) (.mk [116] [])))⟩,⟨[115,108,101,101,112],cP [[11,4,1],[5]],0,(bV [115,108,101,101,112] (an (.mk [101] []) (.mk [116] [])))⟩,⟨[99,104,97,115,101,115],cP [[12,4,1],[4]],0,(bV [99,104,97,115,101] (an (.mk [101] []) (an (.mk [101] []) (.mk [116] []))))⟩,⟨[99,104,97,115,101],cP [[12,4,1],[5]],0,(bV [99,104,97,115,101] (an (.mk [101] []) (an (.mk [101] []) (.mk [116] []))))⟩,⟨[115,101,101,115],cP [[12,4,1],[4]],1,(bV [115,101,101] (an (.mk [101] []) (an (.mk [101] []) (.mk [116] []))))⟩,⟨[115,101,101],cP [[12,4,1],[5]],1,(bV [115,101,101] (an (.mk [101] []) (an (.mk [101] []) (.mk [116] []))))⟩,⟨[110,111,116],cP [[13]],0,(bV [110,111,116] (an (.mk [116] []) (.mk [116] [])))⟩,⟨[97,110,100],cP [[14]],0,(bV [97,110,100] (an (.mk [116] []) (an (.mk [116] []) (.mk [116] []))))⟩,⟨[114,101,120],cP [[7,4,1],[4]],0,(bC (an (.mk [101] []) (.mk [116] [])) (aK (aZ 0) (bV [114,101,120] (.mk [101] []))))⟩,⟨[109,105,97],cP [[7,4,1],[4]],0,(bC (an (.mk [101] []) (.mk [116] [])) (aK (aZ 0) (bV [109,105,97] (.mk [101] []))))⟩]
def lN:gB:=⟨yn rD zY 15,kB.map gy,uI,rC,cP [[6]]⟩
abbrev smK (g h i j k l e:Nat)(tv:aV)(ts:List rZ)(rv:Value)(f:List cZ)(a b c d:fa)(w:Value)(X:List eX):List ak:=[aW l (.cells [tv.1,(.slice (some ⟨e,0,none⟩) 5 5),rv,w,(.slice none 0 0)].toArray 32 (0,0)),row w 115 9 (X).length (rows dy (X)),aB (aF eO X),aB (sl cS rv f),aB (aF bx f),aB (sl ml tv.1 ts),aB (aF ry ts),aB (sl gY (.slice (some ⟨e,0,none⟩) 5 5) kB),aW k (.cells [sv d.base,d.av.1].toArray 105 (0,0)),aB (dZ (an (.mk [101] []) (an (.mk [101] []) (.mk [116] []))) (aU d)),aW j (.cells [sv c.base,c.av.1].toArray 105 (0,0)),aB (dZ (an (.mk [101] []) (.mk [116] [])) (aU c)),aW i (.cells [sv b.base,b.av.1].toArray 105 (0,0)),aW h (.cells [sv a.base,a.av.1].toArray 105 (0,0)),aB (dZ (.mk [116] []) (aU b)),aB (dZ (.mk [101] []) (aU a)),aW g (.cells [(.slice none 0 0),(.slice none 0 0),(.slice none 0 0),(.slice none 0 0),(.slice none 0 0)].toArray 32 (0,0))]
theorem fG {X:List eX}{x:eX}{k:Nat}{r:Dn}(h1:∀y∈X,dy.wf y)(a:X.map og=rC.take k)(b:X.length=k)(c:og x=r)(d:dy.wf x)(e:rC.take (k+1)=rC.take k++ [r]:=by exact rfl):
 ∃Y,Y=X++ [x]∧(∀y∈Y,dy.wf y)∧Y.map og=rC.take (k+1)∧Y.length=k+1:=
 ⟨_,rfl,λy hy=>(cD.1 hy).elim (h1 y) λq=>by rw[bO.1 q];exact d,by rw[cO,a,e,fL,lE,c],by rw[bN,b];rfl⟩
theorem wfI {l:List Int}(h:l.all (λx=>decide (-9223372036854775808≤x)&&decide (x≤9223372036854775807))=true):∀x∈l,aI.wf x:=λx hx=>by
 have:=eW.1 h x hx
 simp only[Bool.and_eq_true,decide_eq_true_eq]at this
 exact this
theorem Hs:∀x∈rD,bL.wf x:=λx hx=>by
 have h:rD.all (λx=>decide (x.length≤140737488351232))=true:=by decide
 show x.length≤140737488351232
 exact ei (eW.1 h x hx)
theorem YT:∀x∈zY,aI.wf x:=wfI (by decide)
theorem Hr:∀x∈kB,gY.wf x:=λx hx=>by
 have h:kB.all (λx=>decide (x.name.length≤140737488351232)&&(decide (-9223372036854775808≤x.BR)&&decide (x.BR≤9223372036854775807))&&(decide (-9223372036854775808≤x.value)&&decide (x.value≤9223372036854775807)))=true:=by decide
 have:=eW.1 h x hx
 simp only[Bool.and_eq_true,decide_eq_true_eq]at this
 exact⟨this.1.1,this.1.2,this.2⟩
theorem XY {α:Type}{l:List α}(h:l.length=6):∃a b c d e f,l=[a,b,c,d,e,f]:=by
 match l,h with
 | [a,b,c,d,e,f],_=>exact⟨a,b,c,d,e,f,rfl⟩
theorem alB {n:Nat}{F:Fr}{c:Ctx}{H:List ak}{T:Act→World→Prop}{α:Type}(Rr:Rp α)(v:Value)(vs:List aV)(ga:List (List α))(ds:List du)(a:ds=(vs.zip ga).map (λp=>sl Rr p.1.1 p.2))(b:vs.length=ga.length)[h1:lQ (sl bS v vs) H][d:kY ds H]
 (k:St n F (Mm c (aB (pT Rr v ga)::H)) T):St n F (Mm c H) T:=
 St.fact (pT Rr v ga) (λρ w hm=>⟨vs,b,dB.1 (hm.dM _ h1.mem),λi u x hu hx=>by
  have e:(u,x)∈vs.zip ga:=ae (i:=i) (by rw[List.getElem?_zip_eq_some];exact⟨hu,hx⟩)
  exact dB.1 (hm.dM _ (d.mem _ (by rw[a];exact cy.2 ⟨(u,x),e,rfl⟩)))⟩) k
theorem y9:dx prog 30 #[] ([].map aB) (λv H'=>H'=[aB (wK lN v)]):=by
 refine dx.body (args:=[]) 256 func30 rfl ntmps30 rfl (λc=> ?_);refine St.cast (H':=[]) rfl ?_;refine g2 ?_;refine St.al (λm=> ?_);refine g4 ?_;refine St.ag (mA [101] (by decide)) KY (.ar rfl) rfl ?_;rintro v8 _ rfl;refine St.ao ?_;refine St.dZ (.mk [101] []) v8 (λi SY=> ?_);obtain⟨akY,an5,akZ⟩:=SY;subst akY;refine St.ag (mA [116] (by decide)) KY (.ar rfl) rfl ?_;rintro v9 _ rfl;refine St.ao ?_;refine St.dZ (.mk [116] []) v9 (λg SZ=> ?_);obtain⟨Wl,ak4,ak5⟩:=SZ;subst Wl;refine St.al (λn=> ?_);refine St.al (λo=> ?_);refine g8 ?_;refine St.ag (fH (aU i) (aU g) (.mk [101] []) (.mk [116] [])) qF (.aY rfl rfl) rfl ?_;rintro v12 _ rfl;refine St.ao ?_;refine St.dZ (an (.mk [101] []) (.mk [116] [])) v12 (λf hxp=> ?_);obtain⟨Wj,ak0,ak1⟩:=hxp;subst Wj;refine St.al (λp=> ?_);refine g7 ?_;refine St.ag (fH (aU i) (aU f) (.mk [101] []) (an (.mk [101] []) (.mk [116] []))) qF (.aY rfl rfl) rfl ?_;rintro v15 _ rfl;refine St.ao ?_;refine St.dZ (an (.mk [101] []) (an (.mk [101] []) (.mk [116] []))) v15 (λl hxr=> ?_);obtain⟨Wk,ak2,ak3⟩:=hxr;subst Wk;refine St.al (λq=> ?_);refine g5 ?_;refine St.al (λa=> ?_);refine g4 ?_;refine St.fp rfl (.cons (.mk rfl) (.cons (.mk rfl) (.cons (.mk rfl) (.cons (.mk rfl) (.cons (.mk rfl) (.cons (.mk rfl) (.cons (.mk rfl) (.alF rfl rfl rfl rfl rfl rfl rfl rfl)))))))) mz Jk QZ rfl rfl (by simp[Value.cells]) rfl rfl (λM=> ?_);refine St.bR (.slice (some ⟨M,0,none⟩) 15 15) bL rD rfl rfl Hs ?_;refine St.Xp (Rr:=bL) (xs:=rD) (.slice (some ⟨M,0,none⟩) 15 15) rfl ?_;refine St.bi zY (λb17=> ?_) bI dL eQ;refine St.Xp (Rr:=aI) (xs:=zY) (.slice (some ⟨b17,0,none⟩) 15 15) rfl ?_;refine St.ee (Ev.build (bH.eh rfl rfl rfl) (λw=>ju rfl rfl rfl w)) ?_;refine St.ee (Ev.build (bH.eh rfl rfl rfl) (λw=>ju rfl rfl rfl w)) ?_;refine St.ee (Ev.build (bH.eh rfl rfl rfl) (λw=>ju rfl rfl rfl w)) ?_;refine St.ee (Ev.build (bH.eh rfl rfl rfl) (λw=>ju rfl rfl rfl w)) ?_;refine St.ee (Ev.build (bH.eh rfl rfl rfl) (λw=>ju rfl rfl rfl w)) ?_;refine St.fp rfl (.Aj rfl rfl rfl rfl rfl) Fw Bf afM rfl rfl (by simp[Value.cells]) rfl rfl (λb=> ?_);refine St.bR (.slice (some ⟨b,0,none⟩) 5 5) gY kB rfl rfl Hr ?_;refine St.ag (vB (.slice (some ⟨M,0,none⟩) 15 15) (.slice (some ⟨b17,0,none⟩) 15 15) (.slice (some ⟨b,0,none⟩) 5 5) rD zY rfl rfl (by decide)) ahE (.eh rfl rfl rfl) rfl ?_;rintro v24 _ ⟨tv,ts,rfl,hts,rfl⟩;refine St.dQ ?_;refine go ?_;refine St.PY (L':=[tv.1,(.slice (some ⟨b,0,none⟩) 5 5),(.slice none 0 0),(.slice none 0 0),(.slice none 0 0)]) (ai.mk rfl) (ai.mk rfl) Ph tv.2 rfl rfl rfl ?_;refine g4 ?_;refine St.ag Ae ahF (.ar rfl) rfl ?_;rintro v26 _ rfl;refine St.ao ?_;refine St.lq sR v26 (λms hms=> ?_);obtain⟨h26,N⟩:=hms;obtain⟨m0,m1,m2,m3,m4,m5,rfl⟩:=XY (show ms.length=6 by have:=congrArg List.length N;rw[aN]at this;exact this);refine St.wf v26 (λr _=> ?_)
 simp only[sR,List.map_cons,List.map_nil,List.cons.injEq,and_true]at N
 obtain⟨Nf,hm1,hm2,hm3,hm4,hm5⟩:=N;refine St.cI cm [m0,m1,m2,m3,m4,m5] (x:=m0) (by simp) ?_;refine St.cI cm [m0,m1,m2,m3,m4,m5] (x:=m1) (by simp) ?_;refine St.cI cm [m0,m1,m2,m3,m4,m5] (x:=m2) (by simp) ?_;refine St.cI cm [m0,m1,m2,m3,m4,m5] (x:=m3) (by simp) ?_;refine St.cI cm [m0,m1,m2,m3,m4,m5] (x:=m4) (by simp) ?_;refine St.cI cm [m0,m1,m2,m3,m4,m5] (x:=m5) (by simp) ?_
 have ajR:=r m0 (by simp)
 have ajS:=r m1 (by simp)
 have ajT:=r m2 (by simp)
 have ajU:=r m3 (by simp)
 have ajV:=r m4 (by simp)
 have ajW:=r m5 (by simp)
 refine g4 ?_;refine St.U4 67 27 [] (⟨27,[],λu=>cT u v26⟩::⟨28,[0],λu=>cT u (cY v26 dI.size 0 0)⟩::⟨29,[1],λu=>cT u (cM m0)⟩::⟨30,[],λu=>fW aI [1,0,1,1,2,2,4] u⟩::⟨31,[],λu=>fW aI [6] u⟩::⟨32,[],λu=>fW aI [7,4,3] u⟩::⟨33,[],λu=>fW aI [3] u⟩::⟨34,[],λu=>fW aI [8,4,3] u⟩::⟨35,[3,4,5,6,7],λu=>fS aI [[1,0,1,1,2,2,4],[6],[7,4,3],[3],[8,4,3]] u⟩::⟨36,[8],λu=>bK (cP [[1,0,1,1,2,2,4],[6],[7,4,3],[3],[8,4,3]]) u⟩::⟨37,[2,9],λu=>fC XZ u⟩::⟨38,[],λu=>cT u v26⟩::⟨39,[11],λu=>cT u (cY v26 dI.size 1 0)⟩::⟨40,[12],λu=>cT u (cM m1)⟩::⟨41,[],λu=>fW aI [1,0,1,1,3,2,4] u⟩::⟨42,[],λu=>fW aI [7,4,2] u⟩::⟨43,[],λu=>fW aI [3] u⟩::⟨44,[],λu=>fW aI [10,4,2] u⟩::⟨45,[],λu=>fW aI [9,4,2] u⟩::⟨46,[14,15,16,17,18],λu=>fS aI [[1,0,1,1,3,2,4],[7,4,2],[3],[10,4,2],[9,4,2]] u⟩::⟨47,[19],λu=>bK (cP [[1,0,1,1,3,2,4],[7,4,2],[3],[10,4,2],[9,4,2]]) u⟩::⟨48,[13,20],λu=>fC Xa u⟩::⟨49,[],λu=>cT u v26⟩::⟨50,[22],λu=>cT u (cY v26 dI.size 2 0)⟩::⟨51,[23],λu=>cT u (cM m2)⟩::⟨52,[],λu=>fW aI [1,0,1,1,3] u⟩::⟨53,[],λu=>fW aI [8,4,2] u⟩::⟨54,[],λu=>fW aI [3] u⟩::⟨55,[],λu=>fW aI [11,4,2] u⟩::⟨56,[25,26,27,28],λu=>fS aI [[1,0,1,1,3],[8,4,2],[3],[11,4,2]] u⟩::⟨57,[29],λu=>bK (cP [[1,0,1,1,3],[8,4,2],[3],[11,4,2]]) u⟩::⟨58,[24,30],λu=>fC Xb u⟩::⟨59,[],λu=>cT u v26⟩::⟨60,[32],λu=>cT u (cY v26 dI.size 3 0)⟩::⟨61,[33],λu=>cT u (cM m3)⟩::⟨62,[],λu=>fW aI [1,0,1,1,3,2,4] u⟩::⟨63,[],λu=>fW aI [8,4,2] u⟩::⟨64,[],λu=>fW aI [3] u⟩::⟨65,[],λu=>fW aI [12,4,2] u⟩::⟨66,[],λu=>fW aI [7] u⟩::⟨67,[35,36,37,38,39],λu=>fS aI [[1,0,1,1,3,2,4],[8,4,2],[3],[12,4,2],[7]] u⟩::⟨68,[40],λu=>bK (cP [[1,0,1,1,3,2,4],[8,4,2],[3],[12,4,2],[7]]) u⟩::⟨69,[34,41],λu=>fC Xc u⟩::⟨70,[],λu=>cT u v26⟩::⟨71,[43],λu=>cT u (cY v26 dI.size 4 0)⟩::⟨72,[44],λu=>cT u (cM m4)⟩::⟨73,[],λu=>fW aI [1,0,1,1,3,2,4] u⟩::⟨74,[],λu=>fW aI [8,4,2] u⟩::⟨75,[],λu=>fW aI [3] u⟩::⟨76,[],λu=>fW aI [13] u⟩::⟨77,[],λu=>fW aI [8,4,2] u⟩::⟨78,[46,47,48,49,50],λu=>fS aI [[1,0,1,1,3,2,4],[8,4,2],[3],[13],[8,4,2]] u⟩::⟨79,[51],λu=>bK (cP [[1,0,1,1,3,2,4],[8,4,2],[3],[13],[8,4,2]]) u⟩::⟨80,[45,52],λu=>fC Xd u⟩::⟨81,[],λu=>cT u v26⟩::⟨82,[54],λu=>cT u (cY v26 dI.size 5 0)⟩::⟨83,[55],λu=>cT u (cM m5)⟩::⟨84,[],λu=>fW aI [1,0,1,1,3,2,4,3,5] u⟩::⟨85,[],λu=>fW aI [7,4,2] u⟩::⟨86,[],λu=>fW aI [5] u⟩::⟨87,[],λu=>fW aI [7] u⟩::⟨88,[],λu=>fW aI [14] u⟩::⟨89,[],λu=>fW aI [7] u⟩::⟨90,[57,58,59,60,61,62],λu=>fS aI [[1,0,1,1,3,2,4,3,5],[7,4,2],[5],[7],[14],[7]] u⟩::⟨91,[63],λu=>bK (cP [[1,0,1,1,3,2,4,3,5],[7,4,2],[5],[7],[14],[7]]) u⟩::⟨92,[56,64],λu=>fC Xe u⟩::⟨93,[10,21,31,42,53,65],λu=>p5 uI u⟩::[]) ((27,[])::(28,[0])::(29,[1])::(30,[])::(31,[])::(32,[])::(33,[])::(34,[])::(35,[3,4,5,6,7])::(36,[8])::(37,[2,9])::(38,[])::(39,[11])::(40,[12])::(41,[])::(42,[])::(43,[])::(44,[])::(45,[])::(46,[14,15,16,17,18])::(47,[19])::(48,[13,20])::(49,[])::(50,[22])::(51,[23])::(52,[])::(53,[])::(54,[])::(55,[])::(56,[25,26,27,28])::(57,[29])::(58,[24,30])::(59,[])::(60,[32])::(61,[33])::(62,[])::(63,[])::(64,[])::(65,[])::(66,[])::(67,[35,36,37,38,39])::(68,[40])::(69,[34,41])::(70,[])::(71,[43])::(72,[44])::(73,[])::(74,[])::(75,[])::(76,[])::(77,[])::(78,[46,47,48,49,50])::(79,[51])::(80,[45,52])::(81,[])::(82,[54])::(83,[55])::(84,[])::(85,[])::(86,[])::(87,[])::(88,[])::(89,[])::(90,[57,58,59,60,61,62])::(91,[63])::(92,[56,64])::(93,[10,21,31,42,53,65])::[]) [66] rfl rfl mixed (by kernel_rfl) (by kernel_rfl) (by rfl) (λe=>[(93,e 66)]) (λe=>[aB (p5 uI (e 66))]) (λ_=>rfl) (λ_=>rfl) ?_ (λe=> ?_)
 ·refine ab.c0 (λc e d=> ?_) ?_
  ·refine St.aK ?_
   refine go ?_;refine St.fact (cT v26 v26) (λ_ _ _=>rfl) ?_;exact St.bg _
  refine ab.cc (λe=>[(27,e 0)]) (λe=>[aB (cT (e 0) v26)]) (λc e d=> ?_) ?_
  ·refine St.ao ?_
   refine St.bX (P:=prog) 27 (e 0) v26 rfl ?_;refine St.ee (Ev.cL (k:=0) (.mk rfl) (.mk rfl) iE fc (by omega) (by simp)) ?_;refine St.fact (cT (cY v26 dI.size 0 0) (cY v26 dI.size 0 0)) (λ_ _ _=>rfl) ?_;exact St.bg _
  refine ab.cc (λe=>[(28,e 1)]) (λe=>[aB (cT (e 1) (cY v26 dI.size 0 0))]) (λc e d=> ?_) ?_
  ·refine St.ao ?_
   refine St.bX (P:=prog) 28 (e 1) (cY v26 dI.size 0 0) rfl ?_;refine St.ee (Ev.jr (.mk rfl) (show [m0,m1,m2,m3,m4,m5][0]?=some m0 from rfl) lX trivial fc j7.eq) ?_;refine St.fact (cT (cM m0) (cM m0)) (λ_ _ _=>rfl) ?_;exact St.bg _
  refine ab.bi ?_ bI dL eQ;refine ab.bi ?_ bI dL eQ;refine ab.bi ?_ bI dL eQ;refine ab.bi ?_ bI dL eQ;refine ab.bi ?_ bI dL eQ;refine ab.bw ?_ fJ fE kJ (λ_=>(.Aj rfl rfl rfl rfl rfl));refine ab.cc (λe=>[(35,e 8)]) (λe=>[aB (fS aI [[1,0,1,1,2,2,4],[6],[7,4,3],[3],[8,4,3]] (e 8))]) (λc e d=> ?_) ?_
  ·refine St.ao ?_
   refine St.ag (gQ (e 8) [[1,0,1,1,2,2,4],[6],[7,4,3],[3],[8,4,3]] (by decide) (by decide)) E7 (.ar rfl) rfl ?_;rintro v36 _ rfl;refine St.ao ?_;exact St.bg _
  refine ab.cc (λe=>[(29,e 2),(36,e 9)]) (λe=>[aB (cT (e 2) (cM m0)),aB (bK (cP [[1,0,1,1,2,2,4],[6],[7,4,3],[3],[8,4,3]]) (e 9))]) (λc e d=> ?_) ?_
  ·refine St.dQ ?_
   refine St.bX (P:=prog) 29 (e 2) (cM m0) rfl ?_;refine St.bK (cP [[1,0,1,1,2,2,4],[6],[7,4,3],[3],[8,4,3]]) (e 9) (λy hy=> ?_);obtain⟨s,t⟩:=hy;rw[s];refine St.ee (Ev.build (bH.gW rfl rfl rfl rfl) (λw=>qA rfl rfl w)) ?_;refine St.eY (fC XZ (rm (⟨[115],y,2,0,m0⟩:cZ))) [aG y,cm m0] (λρ h=>⟨(⟨[115],y,2,0,m0⟩:cZ),rfl,by show(⟨_,ay y,_,_,dH m0⟩:sg)=_;rw[t,Nf],⟨(show mr [115] by decide),(show aa 2 by unfold aa;decide),(show aa 0 by unfold aa;decide),ajR⟩,h⟩) ?_;exact St.bg _
  refine ab.c0 (λc e d=> ?_) ?_
  ·refine St.aK ?_
   refine go ?_;refine St.fact (cT v26 v26) (λ_ _ _=>rfl) ?_;exact St.bg _
  refine ab.cc (λe=>[(38,e 11)]) (λe=>[aB (cT (e 11) v26)]) (λc e d=> ?_) ?_
  ·refine St.ao ?_
   refine St.bX (P:=prog) 38 (e 11) v26 rfl ?_;refine St.ee (Ev.cL (k:=1) (.mk rfl) (.mk rfl) iE fc (by omega) (by simp)) ?_;refine St.fact (cT (cY v26 dI.size 1 0) (cY v26 dI.size 1 0)) (λ_ _ _=>rfl) ?_;exact St.bg _
  refine ab.cc (λe=>[(39,e 12)]) (λe=>[aB (cT (e 12) (cY v26 dI.size 1 0))]) (λc e d=> ?_) ?_
  ·refine St.ao ?_
   refine St.bX (P:=prog) 39 (e 12) (cY v26 dI.size 1 0) rfl ?_;refine St.ee (Ev.jr (.mk rfl) (show [m0,m1,m2,m3,m4,m5][1]?=some m1 from rfl) lX trivial fc j7.eq) ?_;refine St.fact (cT (cM m1) (cM m1)) (λ_ _ _=>rfl) ?_;exact St.bg _
  refine ab.bi ?_ bI dL eQ;refine ab.bi ?_ bI dL eQ;refine ab.bi ?_ bI dL eQ;refine ab.bi ?_ bI dL eQ;refine ab.bi ?_ bI dL eQ;refine ab.bw ?_ fJ fE kJ (λ_=>(.Aj rfl rfl rfl rfl rfl));refine ab.cc (λe=>[(46,e 19)]) (λe=>[aB (fS aI [[1,0,1,1,3,2,4],[7,4,2],[3],[10,4,2],[9,4,2]] (e 19))]) (λc e d=> ?_) ?_
  ·refine St.ao ?_
   refine St.ag (gQ (e 19) [[1,0,1,1,3,2,4],[7,4,2],[3],[10,4,2],[9,4,2]] (by decide) (by decide)) E7 (.ar rfl) rfl ?_;rintro v47 _ rfl;refine St.ao ?_;exact St.bg _
  refine ab.cc (λe=>[(40,e 13),(47,e 20)]) (λe=>[aB (cT (e 13) (cM m1)),aB (bK (cP [[1,0,1,1,3,2,4],[7,4,2],[3],[10,4,2],[9,4,2]]) (e 20))]) (λc e d=> ?_) ?_
  ·refine St.dQ ?_
   refine St.bX (P:=prog) 40 (e 13) (cM m1) rfl ?_;refine St.bK (cP [[1,0,1,1,3,2,4],[7,4,2],[3],[10,4,2],[9,4,2]]) (e 20) (λy hy=> ?_);obtain⟨s,t⟩:=hy;rw[s];refine St.ee (Ev.build (bH.Aj rfl rfl rfl rfl rfl) (λw=>j8 rfl rfl rfl w)) ?_;refine St.eY (fC Xa (rm (⟨[110,112],y,2,1,m1⟩:cZ))) [aG y,cm m1] (λρ h=>⟨(⟨[110,112],y,2,1,m1⟩:cZ),rfl,by show(⟨_,ay y,_,_,dH m1⟩:sg)=_;rw[t,hm1],⟨(show mr [110,112] by decide),(show aa 2 by unfold aa;decide),(show aa 1 by unfold aa;decide),ajS⟩,h⟩) ?_;exact St.bg _
  refine ab.c0 (λc e d=> ?_) ?_
  ·refine St.aK ?_
   refine go ?_;refine St.fact (cT v26 v26) (λ_ _ _=>rfl) ?_;exact St.bg _
  refine ab.cc (λe=>[(49,e 22)]) (λe=>[aB (cT (e 22) v26)]) (λc e d=> ?_) ?_
  ·refine St.ao ?_
   refine St.bX (P:=prog) 49 (e 22) v26 rfl ?_;refine St.ee (Ev.cL (k:=2) (.mk rfl) (.mk rfl) iE fc (by omega) (by simp)) ?_;refine St.fact (cT (cY v26 dI.size 2 0) (cY v26 dI.size 2 0)) (λ_ _ _=>rfl) ?_;exact St.bg _
  refine ab.cc (λe=>[(50,e 23)]) (λe=>[aB (cT (e 23) (cY v26 dI.size 2 0))]) (λc e d=> ?_) ?_
  ·refine St.ao ?_
   refine St.bX (P:=prog) 50 (e 23) (cY v26 dI.size 2 0) rfl ?_;refine St.ee (Ev.jr (.mk rfl) (show [m0,m1,m2,m3,m4,m5][2]?=some m2 from rfl) lX trivial fc j7.eq) ?_;refine St.fact (cT (cM m2) (cM m2)) (λ_ _ _=>rfl) ?_;exact St.bg _
  refine ab.bi ?_ bI dL eQ;refine ab.bi ?_ bI dL eQ;refine ab.bi ?_ bI dL eQ;refine ab.bi ?_ bI dL eQ;refine ab.bw ?_ fJ fE kJ (λ_=>(.gW rfl rfl rfl rfl));refine ab.cc (λe=>[(56,e 29)]) (λe=>[aB (fS aI [[1,0,1,1,3],[8,4,2],[3],[11,4,2]] (e 29))]) (λc e d=> ?_) ?_
  ·refine St.ao ?_
   refine St.ag (gQ (e 29) [[1,0,1,1,3],[8,4,2],[3],[11,4,2]] (by decide) (by decide)) E7 (.ar rfl) rfl ?_;rintro v57 _ rfl;refine St.ao ?_;exact St.bg _
  refine ab.cc (λe=>[(51,e 24),(57,e 30)]) (λe=>[aB (cT (e 24) (cM m2)),aB (bK (cP [[1,0,1,1,3],[8,4,2],[3],[11,4,2]]) (e 30))]) (λc e d=> ?_) ?_
  ·refine St.dQ ?_
   refine St.bX (P:=prog) 51 (e 24) (cM m2) rfl ?_;refine St.bK (cP [[1,0,1,1,3],[8,4,2],[3],[11,4,2]]) (e 30) (λy hy=> ?_);obtain⟨s,t⟩:=hy;rw[s];refine St.ee (Ev.build (bH.gW rfl rfl rfl rfl) (λw=>qA rfl rfl w)) ?_;refine St.eY (fC Xb (rm (⟨[118,112,45,105,118],y,1,0,m2⟩:cZ))) [aG y,cm m2] (λρ h=>⟨(⟨[118,112,45,105,118],y,1,0,m2⟩:cZ),rfl,by show(⟨_,ay y,_,_,dH m2⟩:sg)=_;rw[t,hm2],⟨(show mr [118,112,45,105,118] by decide),(show aa 1 by unfold aa;decide),(show aa 0 by unfold aa;decide),ajT⟩,h⟩) ?_;exact St.bg _
  refine ab.c0 (λc e d=> ?_) ?_
  ·refine St.aK ?_
   refine go ?_;refine St.fact (cT v26 v26) (λ_ _ _=>rfl) ?_;exact St.bg _
  refine ab.cc (λe=>[(59,e 32)]) (λe=>[aB (cT (e 32) v26)]) (λc e d=> ?_) ?_
  ·refine St.ao ?_
   refine St.bX (P:=prog) 59 (e 32) v26 rfl ?_;refine St.ee (Ev.cL (k:=3) (.mk rfl) (.mk rfl) iE fc (by omega) (by simp)) ?_;refine St.fact (cT (cY v26 dI.size 3 0) (cY v26 dI.size 3 0)) (λ_ _ _=>rfl) ?_;exact St.bg _
  refine ab.cc (λe=>[(60,e 33)]) (λe=>[aB (cT (e 33) (cY v26 dI.size 3 0))]) (λc e d=> ?_) ?_
  ·refine St.ao ?_
   refine St.bX (P:=prog) 60 (e 33) (cY v26 dI.size 3 0) rfl ?_;refine St.ee (Ev.jr (.mk rfl) (show [m0,m1,m2,m3,m4,m5][3]?=some m3 from rfl) lX trivial fc j7.eq) ?_;refine St.fact (cT (cM m3) (cM m3)) (λ_ _ _=>rfl) ?_;exact St.bg _
  refine ab.bi ?_ bI dL eQ;refine ab.bi ?_ bI dL eQ;refine ab.bi ?_ bI dL eQ;refine ab.bi ?_ bI dL eQ;refine ab.bi ?_ bI dL eQ;refine ab.bw ?_ fJ fE kJ (λ_=>(.Aj rfl rfl rfl rfl rfl));refine ab.cc (λe=>[(67,e 40)]) (λe=>[aB (fS aI [[1,0,1,1,3,2,4],[8,4,2],[3],[12,4,2],[7]] (e 40))]) (λc e d=> ?_) ?_
  ·refine St.ao ?_
   refine St.ag (gQ (e 40) [[1,0,1,1,3,2,4],[8,4,2],[3],[12,4,2],[7]] (by decide) (by decide)) E7 (.ar rfl) rfl ?_;rintro v68 _ rfl;refine St.ao ?_;exact St.bg _
  refine ab.cc (λe=>[(61,e 34),(68,e 41)]) (λe=>[aB (cT (e 34) (cM m3)),aB (bK (cP [[1,0,1,1,3,2,4],[8,4,2],[3],[12,4,2],[7]]) (e 41))]) (λc e d=> ?_) ?_
  ·refine St.dQ ?_
   refine St.bX (P:=prog) 61 (e 34) (cM m3) rfl ?_;refine St.bK (cP [[1,0,1,1,3,2,4],[8,4,2],[3],[12,4,2],[7]]) (e 41) (λy hy=> ?_);obtain⟨s,t⟩:=hy;rw[s];refine St.ee (Ev.build (bH.Aj rfl rfl rfl rfl rfl) (λw=>j8 rfl rfl rfl w)) ?_;refine St.eY (fC Xc (rm (⟨[118,112,45,116,118],y,2,2,m3⟩:cZ))) [aG y,cm m3] (λρ h=>⟨(⟨[118,112,45,116,118],y,2,2,m3⟩:cZ),rfl,by show(⟨_,ay y,_,_,dH m3⟩:sg)=_;rw[t,hm3],⟨(show mr [118,112,45,116,118] by decide),(show aa 2 by unfold aa;decide),(show aa 2 by unfold aa;decide),ajU⟩,h⟩) ?_;exact St.bg _
  refine ab.c0 (λc e d=> ?_) ?_
  ·refine St.aK ?_
   refine go ?_;refine St.fact (cT v26 v26) (λ_ _ _=>rfl) ?_;exact St.bg _
  refine ab.cc (λe=>[(70,e 43)]) (λe=>[aB (cT (e 43) v26)]) (λc e d=> ?_) ?_
  ·refine St.ao ?_
   refine St.bX (P:=prog) 70 (e 43) v26 rfl ?_;refine St.ee (Ev.cL (k:=4) (.mk rfl) (.mk rfl) iE fc (by omega) (by simp)) ?_;refine St.fact (cT (cY v26 dI.size 4 0) (cY v26 dI.size 4 0)) (λ_ _ _=>rfl) ?_;exact St.bg _
  refine ab.cc (λe=>[(71,e 44)]) (λe=>[aB (cT (e 44) (cY v26 dI.size 4 0))]) (λc e d=> ?_) ?_
  ·refine St.ao ?_
   refine St.bX (P:=prog) 71 (e 44) (cY v26 dI.size 4 0) rfl ?_;refine St.ee (Ev.jr (.mk rfl) (show [m0,m1,m2,m3,m4,m5][4]?=some m4 from rfl) lX trivial fc j7.eq) ?_;refine St.fact (cT (cM m4) (cM m4)) (λ_ _ _=>rfl) ?_;exact St.bg _
  refine ab.bi ?_ bI dL eQ;refine ab.bi ?_ bI dL eQ;refine ab.bi ?_ bI dL eQ;refine ab.bi ?_ bI dL eQ;refine ab.bi ?_ bI dL eQ;refine ab.bw ?_ fJ fE kJ (λ_=>(.Aj rfl rfl rfl rfl rfl));refine ab.cc (λe=>[(78,e 51)]) (λe=>[aB (fS aI [[1,0,1,1,3,2,4],[8,4,2],[3],[13],[8,4,2]] (e 51))]) (λc e d=> ?_) ?_
  ·refine St.ao ?_
   refine St.ag (gQ (e 51) [[1,0,1,1,3,2,4],[8,4,2],[3],[13],[8,4,2]] (by decide) (by decide)) E7 (.ar rfl) rfl ?_;rintro v79 _ rfl;refine St.ao ?_;exact St.bg _
  refine ab.cc (λe=>[(72,e 45),(79,e 52)]) (λe=>[aB (cT (e 45) (cM m4)),aB (bK (cP [[1,0,1,1,3,2,4],[8,4,2],[3],[13],[8,4,2]]) (e 52))]) (λc e d=> ?_) ?_
  ·refine St.dQ ?_
   refine St.bX (P:=prog) 72 (e 45) (cM m4) rfl ?_;refine St.bK (cP [[1,0,1,1,3,2,4],[8,4,2],[3],[13],[8,4,2]]) (e 52) (λy hy=> ?_);obtain⟨s,t⟩:=hy;rw[s];refine St.ee (Ev.build (bH.Aj rfl rfl rfl rfl rfl) (λw=>j8 rfl rfl rfl w)) ?_;refine St.eY (fC Xd (rm (⟨[118,112,45,110,111,116],y,2,3,m4⟩:cZ))) [aG y,cm m4] (λρ h=>⟨(⟨[118,112,45,110,111,116],y,2,3,m4⟩:cZ),rfl,by show(⟨_,ay y,_,_,dH m4⟩:sg)=_;rw[t,hm4],⟨(show mr [118,112,45,110,111,116] by decide),(show aa 2 by unfold aa;decide),(show aa 3 by unfold aa;decide),ajV⟩,h⟩) ?_;exact St.bg _
  refine ab.c0 (λc e d=> ?_) ?_
  ·refine St.aK ?_
   refine go ?_;refine St.fact (cT v26 v26) (λ_ _ _=>rfl) ?_;exact St.bg _
  refine ab.cc (λe=>[(81,e 54)]) (λe=>[aB (cT (e 54) v26)]) (λc e d=> ?_) ?_
  ·refine St.ao ?_
   refine St.bX (P:=prog) 81 (e 54) v26 rfl ?_;refine St.ee (Ev.cL (k:=5) (.mk rfl) (.mk rfl) iE fc (by omega) (by simp)) ?_;refine St.fact (cT (cY v26 dI.size 5 0) (cY v26 dI.size 5 0)) (λ_ _ _=>rfl) ?_;exact St.bg _
  refine ab.cc (λe=>[(82,e 55)]) (λe=>[aB (cT (e 55) (cY v26 dI.size 5 0))]) (λc e d=> ?_) ?_
  ·refine St.ao ?_
   refine St.bX (P:=prog) 82 (e 55) (cY v26 dI.size 5 0) rfl ?_;refine St.ee (Ev.jr (.mk rfl) (show [m0,m1,m2,m3,m4,m5][5]?=some m5 from rfl) lX trivial fc j7.eq) ?_;refine St.fact (cT (cM m5) (cM m5)) (λ_ _ _=>rfl) ?_;exact St.bg _
  refine ab.bi ?_ bI dL eQ;refine ab.bi ?_ bI dL eQ;refine ab.bi ?_ bI dL eQ;refine ab.bi ?_ bI dL eQ;refine ab.bi ?_ bI dL eQ;refine ab.bi ?_ bI dL eQ;refine ab.bw ?_ fJ fE kJ (λ_=>(.XM rfl rfl rfl rfl rfl rfl));refine ab.cc (λe=>[(90,e 63)]) (λe=>[aB (fS aI [[1,0,1,1,3,2,4,3,5],[7,4,2],[5],[7],[14],[7]] (e 63))]) (λc e d=> ?_) ?_
  ·refine St.ao ?_
   refine St.ag (gQ (e 63) [[1,0,1,1,3,2,4,3,5],[7,4,2],[5],[7],[14],[7]] (by decide) (by decide)) E7 (.ar rfl) rfl ?_;rintro v91 _ rfl;refine St.ao ?_;exact St.bg _
  refine ab.cc (λe=>[(83,e 56),(91,e 64)]) (λe=>[aB (cT (e 56) (cM m5)),aB (bK (cP [[1,0,1,1,3,2,4,3,5],[7,4,2],[5],[7],[14],[7]]) (e 64))]) (λc e d=> ?_) ?_
  ·refine St.dQ ?_
   refine St.bX (P:=prog) 83 (e 56) (cM m5) rfl ?_;refine St.bK (cP [[1,0,1,1,3,2,4,3,5],[7,4,2],[5],[7],[14],[7]]) (e 64) (λy hy=> ?_);obtain⟨s,t⟩:=hy;rw[s];refine St.ee (Ev.build (bH.Aj rfl rfl rfl rfl rfl) (λw=>j8 rfl rfl rfl w)) ?_;refine St.eY (fC Xe (rm (⟨[110,112,45,97,110,100],y,3,4,m5⟩:cZ))) [aG y,cm m5] (λρ h=>⟨(⟨[110,112,45,97,110,100],y,3,4,m5⟩:cZ),rfl,by show(⟨_,ay y,_,_,dH m5⟩:sg)=_;rw[t,hm5],⟨(show mr [110,112,45,97,110,100] by decide),(show aa 3 by unfold aa;decide),(show aa 4 by unfold aa;decide),ajW⟩,h⟩) ?_;exact St.bg _
  refine ab.cc (λe=>[(37,e 10),(48,e 21),(58,e 31),(69,e 42),(80,e 53),(92,e 65)]) (λe=>[aB (fC XZ (e 10)),aB (fC Xa (e 21)),aB (fC Xb (e 31)),aB (fC Xc (e 42)),aB (fC Xd (e 53)),aB (fC Xe (e 65))]) (λc e d=> ?_) ?_
  ·refine St.R3 ?_
   refine St.fC XZ (e 10) (λz aj2=> ?_);obtain⟨acB,acA,acC⟩:=aj2;rw[acB];refine St.fC Xa (e 21) (λA aj3=> ?_);obtain⟨acF,acD,acG⟩:=aj3;rw[acF];refine St.fC Xb (e 31) (λB aj4=> ?_);obtain⟨acI,acH,acJ⟩:=aj4;rw[acI];refine St.fC Xc (e 42) (λC aj5=> ?_);obtain⟨acL,acK,acM⟩:=aj5;rw[acL];refine St.fC Xd (e 53) (λD aj6=> ?_);obtain⟨acO,acN,acP⟩:=aj6;rw[acO];refine St.fC Xe (e 65) (λE aj7=> ?_);obtain⟨acR,acQ,acS⟩:=aj7;rw[acR];refine St.fp rfl (.XM rfl rfl rfl rfl rfl rfl) Px kV afL rfl rfl (by simp[Value.cells,J.cells_one z.graph.nv.2,J.cells_one z.er.type.av.2,J.cells_one z.er.av.2,J.cells_one A.graph.nv.2,J.cells_one A.er.type.av.2,J.cells_one A.er.av.2,J.cells_one B.graph.nv.2,J.cells_one B.er.type.av.2,J.cells_one B.er.av.2,J.cells_one C.graph.nv.2,J.cells_one C.er.type.av.2,J.cells_one C.er.av.2,J.cells_one D.graph.nv.2,J.cells_one D.er.type.av.2,J.cells_one D.er.av.2,J.cells_one E.graph.nv.2,J.cells_one E.er.type.av.2,J.cells_one E.er.av.2]) rfl rfl (λH=> ?_);refine St.bR (.slice (some ⟨H,0,none⟩) 6 6) cS [z,A,B,C,D,E] rfl rfl (all_cons acC (all_cons acG (all_cons acJ (all_cons acM (all_cons acP (all_cons acS (all_nil))))))) ?_;refine Ij bx [z,A,B,C,D,E] [bx z,bx A,bx B,bx C,bx D,bx E] rfl ?_;refine St.eY (p5 uI (.slice (some ⟨H,0,none⟩) 6 6)) [sl cS (.slice (some ⟨H,0,none⟩) 6 6) [z,A,B,C,D,E],aF bx [z,A,B,C,D,E]] (λρ h=>⟨rfl,[z,A,B,C,D,E],by simp only[List.map_cons,List.map_nil,acA,acD,acH,acK,acN,acQ];rfl,h (sl cS (.slice (some ⟨H,0,none⟩) 6 6) [z,A,B,C,D,E]) (by simp),h (aF bx [z,A,B,C,D,E]) (by simp)⟩) ?_;exact St.bg _
  exact ab.nil
 refine St.ao ?_;refine St.p5 uI (e 66) (λj aj8=> ?_);obtain⟨L,acU⟩:=aj8
 generalize e 66=rv at L⊢
 refine St.e9 115 9 ?_;refine St.aM (.slice none 0 0) (show _=([]:List eX).length from rfl) (show _=rows dy []from rfl) ?_;refine St.dN eO ?_
 obtain⟨X0,I⟩:∃X:List eX,X=[]:=⟨_,rfl⟩
 rw[←I]
 have Q:∀x∈X0,dy.wf x:=by rw[I];exact λx hx=>by cases hx
 have aiA:X0.map og=rC.take 0:=by rw[I];rfl
 have aiC:Value.oneCell' (.slice none 0 0)=true:=rfl
 have aiB:X0.length=0:=by rw[I];rfl
 refine go ?_;refine St.cJ (.mk rfl) (.mk rfl) alQ L (by rfl) ?_;refine g4 ?_;refine St.ee (Ev.func (.ar rfl)) ?_;refine g6 ?_;refine St.ag (lM [97,108,108] [105,102] false (by decide) (by decide)) Vu (.eh rfl rfl rfl) rfl ?_;rintro v97 _ rfl;refine St.ao ?_;refine St.bi [10,4,1] (λb98=> ?_) bI dL eQ;refine St.bi [4] (λb99=> ?_) bI dL eQ;refine St.bw [.slice (some ⟨b98,0,none⟩) 3 3,.slice (some ⟨b99,0,none⟩) 1 1] [[10,4,1],[4]] (λafP=> ?_) fJ fE kJ (.aY rfl rfl);refine St.ep (eH a tv.1 (.slice (some ⟨b,0,none⟩) 5 5) rv (.slice none 0 0) (.slice none 0 0) X0 [101,118,101,114,121] 1 v97 (.slice (some ⟨afP,0,none⟩) 2 2) (mU [97,108,108] [105,102] false) [[10,4,1],[4]] (by decide) (by unfold aa;decide) aiC (by omega) Q (by decide) (by decide)) nc (.mk rfl) (.gW rfl rfl rfl rfl) rfl ?_;rintro alW _ ⟨w1,x1,rfl,aiP,akG,akH,rfl⟩;refine St.iQ ?_;obtain⟨X1,hX1,R,aiN,aiO⟩:=fG Q aiA aiB akG akH;rw[←hX1];refine St.o4 (smK m n o p q a b tv ts rv j i g f l w1 X1) (by repeat(first|exact List.Sublist.slnil|with_reducible refine List.Sublist.cons_cons _ ?_|refine List.Sublist.cons _ ?_)) ?_;refine g5 ?_;refine St.ag (lM [115,111,109,101] [97,110,100] false (by decide) (by decide)) Vu (.eh rfl rfl rfl) rfl ?_;rintro alX _ rfl;refine St.ao ?_;refine St.bi [10,4,1] (λYp=> ?_) bI dL eQ;refine St.bi [4] (λafQ=> ?_) bI dL eQ;refine St.bw [.slice (some ⟨Yp,0,none⟩) 3 3,.slice (some ⟨afQ,0,none⟩) 1 1] [[10,4,1],[4]] (λafR=> ?_) fJ fE kJ (.aY rfl rfl);refine St.ep (eH a tv.1 (.slice (some ⟨b,0,none⟩) 5 5) rv (.slice none 0 0) w1 X1 [97] 0 alX (.slice (some ⟨afR,0,none⟩) 2 2) (mU [115,111,109,101] [97,110,100] false) [[10,4,1],[4]] (by decide) (by unfold aa;decide) aiP (by omega) R (by decide) (by decide)) nc (.mk rfl) (.gW rfl rfl rfl rfl) rfl ?_;rintro v107 _ ⟨w2,x2,rfl,aiU,akI,akJ,rfl⟩;refine St.iQ ?_;obtain⟨X2,hX2,S,aiS,aiT⟩:=fG R aiN aiO akI akJ;rw[←hX2];refine St.o4 (smK m n o p q a b tv ts rv j i g f l w2 X2) (by repeat(first|exact List.Sublist.slnil|with_reducible refine List.Sublist.cons_cons _ ?_|refine List.Sublist.cons _ ?_)) ?_;refine g5 ?_;refine St.ag (lM [115,111,109,101] [97,110,100] true (by decide) (by decide)) Vu (.eh rfl rfl rfl) rfl ?_;rintro v109 _ rfl;refine St.ao ?_;refine St.bi [10] (λYq=> ?_) bI dL eQ;refine St.bw [.slice (some ⟨Yq,0,none⟩) 1 1] [[10]] (λafT=> ?_) fJ fE kJ (.ar rfl);refine St.ep (eH a tv.1 (.slice (some ⟨b,0,none⟩) 5 5) rv (.slice none 0 0) w2 X2 [110,111] 2 v109 (.slice (some ⟨afT,0,none⟩) 1 1) (mU [115,111,109,101] [97,110,100] true) [[10]] (by decide) (by unfold aa;decide) aiU (by omega) S (by decide) (by decide)) nc (.mk rfl) (.gW rfl rfl rfl rfl) rfl ?_;rintro aoA _ ⟨w3,x3,rfl,aiX,akK,akL,rfl⟩;refine St.iQ ?_;obtain⟨X3,hX3,T,aiV,aiW⟩:=fG S aiS aiT akK akL;rw[←hX3];refine St.o4 (smK m n o p q a b tv ts rv j i g f l w3 X3) (by repeat(first|exact List.Sublist.slnil|with_reducible refine List.Sublist.cons_cons _ ?_|refine List.Sublist.cons _ ?_)) ?_;refine g6 ?_;refine St.ag (eJ [100,111,103] (by decide) (aU f) (an (.mk [101] []) (.mk [116] []))) ng (.aY rfl rfl) rfl ?_;rintro alY _ rfl;refine St.ao ?_;refine St.bi [9,4,1] (λYr=> ?_) bI dL eQ;refine St.bi [4] (λafU=> ?_) bI dL eQ;refine St.bw [.slice (some ⟨Yr,0,none⟩) 3 3,.slice (some ⟨afU,0,none⟩) 1 1] [[9,4,1],[4]] (λYs=> ?_) fJ fE kJ (.aY rfl rfl);refine St.ep (eH a tv.1 (.slice (some ⟨b,0,none⟩) 5 5) rv (.slice none 0 0) w3 X3 [100,111,103] 0 alY (.slice (some ⟨Ys,0,none⟩) 2 2) (bV [100,111,103] (an (.mk [101] []) (.mk [116] []))) [[9,4,1],[4]] (by decide) (by unfold aa;decide) aiX (by omega) T (by decide) (by decide)) nc (.mk rfl) (.gW rfl rfl rfl rfl) rfl ?_;rintro Tm _ ⟨w4,x4,rfl,ai0,akM,akN,rfl⟩;refine St.iQ ?_;obtain⟨X4,hX4,U,aiY,aiZ⟩:=fG T aiV aiW akM akN;rw[←hX4];refine St.o4 (smK m n o p q a b tv ts rv j i g f l w4 X4) (by repeat(first|exact List.Sublist.slnil|with_reducible refine List.Sublist.cons_cons _ ?_|refine List.Sublist.cons _ ?_)) ?_;refine g6 ?_;refine St.ag (eJ [100,111,103] (by decide) (aU f) (an (.mk [101] []) (.mk [116] []))) ng (.aY rfl rfl) rfl ?_;rintro al0 _ rfl;refine St.ao ?_;refine St.bi [9,4,1] (λafV=> ?_) bI dL eQ;refine St.bi [5] (λYt=> ?_) bI dL eQ;refine St.bw [.slice (some ⟨afV,0,none⟩) 3 3,.slice (some ⟨Yt,0,none⟩) 1 1] [[9,4,1],[5]] (λafW=> ?_) fJ fE kJ (.aY rfl rfl);refine St.ep (eH a tv.1 (.slice (some ⟨b,0,none⟩) 5 5) rv (.slice none 0 0) w4 X4 [100,111,103,115] 0 al0 (.slice (some ⟨afW,0,none⟩) 2 2) (bV [100,111,103] (an (.mk [101] []) (.mk [116] []))) [[9,4,1],[5]] (by decide) (by unfold aa;decide) ai0 (by omega) U (by decide) (by decide)) nc (.mk rfl) (.gW rfl rfl rfl rfl) rfl ?_;rintro aoE _ ⟨w5,x5,rfl,ai3,akO,akP,rfl⟩;refine St.iQ ?_;obtain⟨X5,hX5,V,ai1,ai2⟩:=fG U aiY aiZ akO akP;rw[←hX5];refine St.o4 (smK m n o p q a b tv ts rv j i g f l w5 X5) (by repeat(first|exact List.Sublist.slnil|with_reducible refine List.Sublist.cons_cons _ ?_|refine List.Sublist.cons _ ?_)) ?_;refine g6 ?_;refine St.ag (eJ [99,97,116] (by decide) (aU f) (an (.mk [101] []) (.mk [116] []))) ng (.aY rfl rfl) rfl ?_;rintro al1 _ rfl;refine St.ao ?_;refine St.bi [9,4,1] (λafY=> ?_) bI dL eQ;refine St.bi [4] (λafZ=> ?_) bI dL eQ;refine St.bw [.slice (some ⟨afY,0,none⟩) 3 3,.slice (some ⟨afZ,0,none⟩) 1 1] [[9,4,1],[4]] (λaf1=> ?_) fJ fE kJ (.aY rfl rfl);refine St.ep (eH a tv.1 (.slice (some ⟨b,0,none⟩) 5 5) rv (.slice none 0 0) w5 X5 [99,97,116] 0 al1 (.slice (some ⟨af1,0,none⟩) 2 2) (bV [99,97,116] (an (.mk [101] []) (.mk [116] []))) [[9,4,1],[4]] (by decide) (by unfold aa;decide) ai3 (by omega) V (by decide) (by decide)) nc (.mk rfl) (.gW rfl rfl rfl rfl) rfl ?_;rintro aoF _ ⟨w6,x6,rfl,ai6,akQ,akR,rfl⟩;refine St.iQ ?_;obtain⟨X6,hX6,W,ai4,ai5⟩:=fG V ai1 ai2 akQ akR;rw[←hX6];refine St.o4 (smK m n o p q a b tv ts rv j i g f l w6 X6) (by repeat(first|exact List.Sublist.slnil|with_reducible refine List.Sublist.cons_cons _ ?_|refine List.Sublist.cons _ ?_)) ?_;refine g6 ?_;refine St.ag (eJ [99,97,116] (by decide) (aU f) (an (.mk [101] []) (.mk [116] []))) ng (.aY rfl rfl) rfl ?_;rintro al3 _ rfl;refine St.ao ?_;refine St.bi [9,4,1] (λaf2=> ?_) bI dL eQ;refine St.bi [5] (λaf3=> ?_) bI dL eQ;refine St.bw [.slice (some ⟨af2,0,none⟩) 3 3,.slice (some ⟨af3,0,none⟩) 1 1] [[9,4,1],[5]] (λCR=> ?_) fJ fE kJ (.aY rfl rfl);refine St.ep (eH a tv.1 (.slice (some ⟨b,0,none⟩) 5 5) rv (.slice none 0 0) w6 X6 [99,97,116,115] 0 al3 (.slice (some ⟨CR,0,none⟩) 2 2) (bV [99,97,116] (an (.mk [101] []) (.mk [116] []))) [[9,4,1],[5]] (by decide) (by unfold aa;decide) ai6 (by omega) W (by decide) (by decide)) nc (.mk rfl) (.gW rfl rfl rfl rfl) rfl ?_;rintro aoG _ ⟨w7,x7,rfl,ai9,akS,akT,rfl⟩;refine St.iQ ?_;obtain⟨X7,hX7,Y,ai7,ai8⟩:=fG W ai4 ai5 akS akT;rw[←hX7];refine St.o4 (smK m n o p q a b tv ts rv j i g f l w7 X7) (by repeat(first|exact List.Sublist.slnil|with_reducible refine List.Sublist.cons_cons _ ?_|refine List.Sublist.cons _ ?_)) ?_;refine g6 ?_;refine St.ag (eJ [102,105,115,104] (by decide) (aU f) (an (.mk [101] []) (.mk [116] []))) ng (.aY rfl rfl) rfl ?_;rintro v143 _ rfl;refine St.ao ?_;refine St.bi [9,4,1] (λaf4=> ?_) bI dL eQ;refine St.bi [4] (λaf5=> ?_) bI dL eQ;refine St.bw [.slice (some ⟨af4,0,none⟩) 3 3,.slice (some ⟨af5,0,none⟩) 1 1] [[9,4,1],[4]] (λaf6=> ?_) fJ fE kJ (.aY rfl rfl);refine St.ep (eH a tv.1 (.slice (some ⟨b,0,none⟩) 5 5) rv (.slice none 0 0) w7 X7 [102,105,115,104] 1 v143 (.slice (some ⟨af6,0,none⟩) 2 2) (bV [102,105,115,104] (an (.mk [101] []) (.mk [116] []))) [[9,4,1],[4]] (by decide) (by unfold aa;decide) ai9 (by omega) Y (by decide) (by decide)) nc (.mk rfl) (.gW rfl rfl rfl rfl) rfl ?_;rintro aoI _ ⟨w8,x8,rfl,ajC,akU,akV,rfl⟩;refine St.iQ ?_;obtain⟨X8,hX8,Z,ajA,ajB⟩:=fG Y ai7 ai8 akU akV;rw[←hX8];refine St.o4 (smK m n o p q a b tv ts rv j i g f l w8 X8) (by repeat(first|exact List.Sublist.slnil|with_reducible refine List.Sublist.cons_cons _ ?_|refine List.Sublist.cons _ ?_)) ?_;refine g6 ?_;refine St.ag (eJ [102,105,115,104] (by decide) (aU f) (an (.mk [101] []) (.mk [116] []))) ng (.aY rfl rfl) rfl ?_;rintro QE _ rfl;refine St.ao ?_;refine St.bi [9,4,1] (λaf7=> ?_) bI dL eQ;refine St.bi [5] (λaf8=> ?_) bI dL eQ;refine St.bw [.slice (some ⟨af7,0,none⟩) 3 3,.slice (some ⟨af8,0,none⟩) 1 1] [[9,4,1],[5]] (λaf9=> ?_) fJ fE kJ (.aY rfl rfl);refine St.ep (eH a tv.1 (.slice (some ⟨b,0,none⟩) 5 5) rv (.slice none 0 0) w8 X8 [102,105,115,104] 2 QE (.slice (some ⟨af9,0,none⟩) 2 2) (bV [102,105,115,104] (an (.mk [101] []) (.mk [116] []))) [[9,4,1],[5]] (by decide) (by unfold aa;decide) ajC (by omega) Z (by decide) (by decide)) nc (.mk rfl) (.gW rfl rfl rfl rfl) rfl ?_;rintro v154 _ ⟨w9,x9,rfl,ajF,akW,akX,rfl⟩;refine St.iQ ?_;obtain⟨X9,hX9,abM,ajD,ajE⟩:=fG Z ajA ajB akW akX;rw[←hX9];refine St.o4 (smK m n o p q a b tv ts rv j i g f l w9 X9) (by repeat(first|exact List.Sublist.slnil|with_reducible refine List.Sublist.cons_cons _ ?_|refine List.Sublist.cons _ ?_)) ?_;refine g6 ?_;refine St.ag (eJ [98,97,114,107] (by decide) (aU f) (an (.mk [101] []) (.mk [116] []))) ng (.aY rfl rfl) rfl ?_;rintro v157 _ rfl;refine St.ao ?_;refine St.bi [11,4,1] (λagA=> ?_) bI dL eQ;refine St.bi [4] (λagB=> ?_) bI dL eQ;refine St.bw [.slice (some ⟨agA,0,none⟩) 3 3,.slice (some ⟨agB,0,none⟩) 1 1] [[11,4,1],[4]] (λYv=> ?_) fJ fE kJ (.aY rfl rfl);refine St.ep (eH a tv.1 (.slice (some ⟨b,0,none⟩) 5 5) rv (.slice none 0 0) w9 X9 [98,97,114,107,115] 0 v157 (.slice (some ⟨Yv,0,none⟩) 2 2) (bV [98,97,114,107] (an (.mk [101] []) (.mk [116] []))) [[11,4,1],[4]] (by decide) (by unfold aa;decide) ajF (by omega) abM (by decide) (by decide)) nc (.mk rfl) (.gW rfl rfl rfl rfl) rfl ?_;rintro Tn _ ⟨w10,x10,rfl,aaO,ac8,ac9,rfl⟩;refine St.iQ ?_;obtain⟨X10,aiD,UR,aaM,aaN⟩:=fG abM ajD ajE ac8 ac9;rw[←aiD];refine St.o4 (smK m n o p q a b tv ts rv j i g f l w10 X10) (by repeat(first|exact List.Sublist.slnil|with_reducible refine List.Sublist.cons_cons _ ?_|refine List.Sublist.cons _ ?_)) ?_;refine g6 ?_;refine St.ag (eJ [98,97,114,107] (by decide) (aU f) (an (.mk [101] []) (.mk [116] []))) ng (.aY rfl rfl) rfl ?_;rintro v164 _ rfl;refine St.ao ?_;refine St.bi [11,4,1] (λagC=> ?_) bI dL eQ;refine St.bi [5] (λagD=> ?_) bI dL eQ;refine St.bw [.slice (some ⟨agC,0,none⟩) 3 3,.slice (some ⟨agD,0,none⟩) 1 1] [[11,4,1],[5]] (λKN=> ?_) fJ fE kJ (.aY rfl rfl);refine St.ep (eH a tv.1 (.slice (some ⟨b,0,none⟩) 5 5) rv (.slice none 0 0) w10 X10 [98,97,114,107] 0 v164 (.slice (some ⟨KN,0,none⟩) 2 2) (bV [98,97,114,107] (an (.mk [101] []) (.mk [116] []))) [[11,4,1],[5]] (by decide) (by unfold aa;decide) aaO (by omega) UR (by decide) (by decide)) nc (.mk rfl) (.gW rfl rfl rfl rfl) rfl ?_;rintro v168 _ ⟨w11,x11,rfl,aaR,adA,adB,rfl⟩;refine St.iQ ?_;obtain⟨X11,aiE,US,aaP,aaQ⟩:=fG UR aaM aaN adA adB;rw[←aiE];refine St.o4 (smK m n o p q a b tv ts rv j i g f l w11 X11) (by repeat(first|exact List.Sublist.slnil|with_reducible refine List.Sublist.cons_cons _ ?_|refine List.Sublist.cons _ ?_)) ?_;refine g6 ?_;refine St.ag (eJ [115,108,101,101,112] (by decide) (aU f) (an (.mk [101] []) (.mk [116] []))) ng (.aY rfl rfl) rfl ?_;rintro v171 _ rfl;refine St.ao ?_;refine St.bi [11,4,1] (λMM=> ?_) bI dL eQ;refine St.bi [4] (λagE=> ?_) bI dL eQ;refine St.bw [.slice (some ⟨MM,0,none⟩) 3 3,.slice (some ⟨agE,0,none⟩) 1 1] [[11,4,1],[4]] (λagF=> ?_) fJ fE kJ (.aY rfl rfl);refine St.ep (eH a tv.1 (.slice (some ⟨b,0,none⟩) 5 5) rv (.slice none 0 0) w11 X11 [115,108,101,101,112,115] 0 v171 (.slice (some ⟨agF,0,none⟩) 2 2) (bV [115,108,101,101,112] (an (.mk [101] []) (.mk [116] []))) [[11,4,1],[4]] (by decide) (by unfold aa;decide) aaR (by omega) US (by decide) (by decide)) nc (.mk rfl) (.gW rfl rfl rfl rfl) rfl ?_;rintro v175 _ ⟨w12,x12,rfl,aaU,adC,adD,rfl⟩;refine St.iQ ?_;obtain⟨X12,aiF,UU,aaS,aaT⟩:=fG US aaP aaQ adC adD;rw[←aiF];refine St.o4 (smK m n o p q a b tv ts rv j i g f l w12 X12) (by repeat(first|exact List.Sublist.slnil|with_reducible refine List.Sublist.cons_cons _ ?_|refine List.Sublist.cons _ ?_)) ?_;refine g6 ?_;refine St.ag (eJ [115,108,101,101,112] (by decide) (aU f) (an (.mk [101] []) (.mk [116] []))) ng (.aY rfl rfl) rfl ?_;rintro al6 _ rfl;refine St.ao ?_;refine St.bi [11,4,1] (λagG=> ?_) bI dL eQ;refine St.bi [5] (λagH=> ?_) bI dL eQ;refine St.bw [.slice (some ⟨agG,0,none⟩) 3 3,.slice (some ⟨agH,0,none⟩) 1 1] [[11,4,1],[5]] (λagI=> ?_) fJ fE kJ (.aY rfl rfl);refine St.ep (eH a tv.1 (.slice (some ⟨b,0,none⟩) 5 5) rv (.slice none 0 0) w12 X12 [115,108,101,101,112] 0 al6 (.slice (some ⟨agI,0,none⟩) 2 2) (bV [115,108,101,101,112] (an (.mk [101] []) (.mk [116] []))) [[11,4,1],[5]] (by decide) (by unfold aa;decide) aaU (by omega) UU (by decide) (by decide)) nc (.mk rfl) (.gW rfl rfl rfl rfl) rfl ?_;rintro v182 _ ⟨w13,x13,rfl,aaX,adE,adF,rfl⟩;refine St.iQ ?_;obtain⟨X13,aiG,UW,aaV,aaW⟩:=fG UU aaS aaT adE adF;rw[←aiG];refine St.o4 (smK m n o p q a b tv ts rv j i g f l w13 X13) (by repeat(first|exact List.Sublist.slnil|with_reducible refine List.Sublist.cons_cons _ ?_|refine List.Sublist.cons _ ?_)) ?_;refine g6 ?_;refine St.ag (eJ [99,104,97,115,101] (by decide) (aU l) (an (.mk [101] []) (an (.mk [101] []) (.mk [116] [])))) ng (.aY rfl rfl) rfl ?_;rintro al7 _ rfl;refine St.ao ?_;refine St.bi [12,4,1] (λagJ=> ?_) bI dL eQ;refine St.bi [4] (λagK=> ?_) bI dL eQ;refine St.bw [.slice (some ⟨agJ,0,none⟩) 3 3,.slice (some ⟨agK,0,none⟩) 1 1] [[12,4,1],[4]] (λagL=> ?_) fJ fE kJ (.aY rfl rfl);refine St.ep (eH a tv.1 (.slice (some ⟨b,0,none⟩) 5 5) rv (.slice none 0 0) w13 X13 [99,104,97,115,101,115] 0 al7 (.slice (some ⟨agL,0,none⟩) 2 2) (bV [99,104,97,115,101] (an (.mk [101] []) (an (.mk [101] []) (.mk [116] [])))) [[12,4,1],[4]] (by decide) (by unfold aa;decide) aaX (by omega) UW (by decide) (by decide)) nc (.mk rfl) (.gW rfl rfl rfl rfl) rfl ?_;rintro aoK _ ⟨w14,x14,rfl,aa0,adG,adH,rfl⟩;refine St.iQ ?_;obtain⟨X14,aiH,UX,aaY,aaZ⟩:=fG UW aaV aaW adG adH;rw[←aiH];refine St.o4 (smK m n o p q a b tv ts rv j i g f l w14 X14) (by repeat(first|exact List.Sublist.slnil|with_reducible refine List.Sublist.cons_cons _ ?_|refine List.Sublist.cons _ ?_)) ?_;refine g6 ?_;refine St.ag (eJ [99,104,97,115,101] (by decide) (aU l) (an (.mk [101] []) (an (.mk [101] []) (.mk [116] [])))) ng (.aY rfl rfl) rfl ?_;rintro QF _ rfl;refine St.ao ?_;refine St.bi [12,4,1] (λagM=> ?_) bI dL eQ;refine St.bi [5] (λagN=> ?_) bI dL eQ;refine St.bw [.slice (some ⟨agM,0,none⟩) 3 3,.slice (some ⟨agN,0,none⟩) 1 1] [[12,4,1],[5]] (λagO=> ?_) fJ fE kJ (.aY rfl rfl);refine St.ep (eH a tv.1 (.slice (some ⟨b,0,none⟩) 5 5) rv (.slice none 0 0) w14 X14 [99,104,97,115,101] 0 QF (.slice (some ⟨agO,0,none⟩) 2 2) (bV [99,104,97,115,101] (an (.mk [101] []) (an (.mk [101] []) (.mk [116] [])))) [[12,4,1],[5]] (by decide) (by unfold aa;decide) aa0 (by omega) UX (by decide) (by decide)) nc (.mk rfl) (.gW rfl rfl rfl rfl) rfl ?_;rintro v196 _ ⟨w15,x15,rfl,aa3,adI,adJ,rfl⟩;refine St.iQ ?_;obtain⟨X15,aiI,UY,aa1,aa2⟩:=fG UX aaY aaZ adI adJ;rw[←aiI];refine St.o4 (smK m n o p q a b tv ts rv j i g f l w15 X15) (by repeat(first|exact List.Sublist.slnil|with_reducible refine List.Sublist.cons_cons _ ?_|refine List.Sublist.cons _ ?_)) ?_;refine g6 ?_;refine St.ag (eJ [115,101,101] (by decide) (aU l) (an (.mk [101] []) (an (.mk [101] []) (.mk [116] [])))) ng (.aY rfl rfl) rfl ?_;rintro al8 _ rfl;refine St.ao ?_;refine St.bi [12,4,1] (λagP=> ?_) bI dL eQ;refine St.bi [4] (λagQ=> ?_) bI dL eQ;refine St.bw [.slice (some ⟨agP,0,none⟩) 3 3,.slice (some ⟨agQ,0,none⟩) 1 1] [[12,4,1],[4]] (λagR=> ?_) fJ fE kJ (.aY rfl rfl);refine St.ep (eH a tv.1 (.slice (some ⟨b,0,none⟩) 5 5) rv (.slice none 0 0) w15 X15 [115,101,101,115] 1 al8 (.slice (some ⟨agR,0,none⟩) 2 2) (bV [115,101,101] (an (.mk [101] []) (an (.mk [101] []) (.mk [116] [])))) [[12,4,1],[4]] (by decide) (by unfold aa;decide) aa3 (by omega) UY (by decide) (by decide)) nc (.mk rfl) (.gW rfl rfl rfl rfl) rfl ?_;rintro v203 _ ⟨w16,x16,rfl,aa6,adK,adL,rfl⟩;refine St.iQ ?_;obtain⟨X16,aiJ,UZ,aa4,aa5⟩:=fG UY aa1 aa2 adK adL;rw[←aiJ];refine St.o4 (smK m n o p q a b tv ts rv j i g f l w16 X16) (by repeat(first|exact List.Sublist.slnil|with_reducible refine List.Sublist.cons_cons _ ?_|refine List.Sublist.cons _ ?_)) ?_;refine g6 ?_;refine St.ag (eJ [115,101,101] (by decide) (aU l) (an (.mk [101] []) (an (.mk [101] []) (.mk [116] [])))) ng (.aY rfl rfl) rfl ?_;rintro v206 _ rfl;refine St.ao ?_;refine St.bi [12,4,1] (λagS=> ?_) bI dL eQ;refine St.bi [5] (λagT=> ?_) bI dL eQ;refine St.bw [.slice (some ⟨agS,0,none⟩) 3 3,.slice (some ⟨agT,0,none⟩) 1 1] [[12,4,1],[5]] (λagU=> ?_) fJ fE kJ (.aY rfl rfl);refine St.ep (eH a tv.1 (.slice (some ⟨b,0,none⟩) 5 5) rv (.slice none 0 0) w16 X16 [115,101,101] 1 v206 (.slice (some ⟨agU,0,none⟩) 2 2) (bV [115,101,101] (an (.mk [101] []) (an (.mk [101] []) (.mk [116] [])))) [[12,4,1],[5]] (by decide) (by unfold aa;decide) aa6 (by omega) UZ (by decide) (by decide)) nc (.mk rfl) (.gW rfl rfl rfl rfl) rfl ?_;rintro v210 _ ⟨w17,x17,rfl,aa9,adM,adN,rfl⟩;refine St.iQ ?_;obtain⟨X17,aiK,Ua,aa7,aa8⟩:=fG UZ aa4 aa5 adM adN;rw[←aiK];refine St.o4 (smK m n o p q a b tv ts rv j i g f l w17 X17) (by repeat(first|exact List.Sublist.slnil|with_reducible refine List.Sublist.cons_cons _ ?_|refine List.Sublist.cons _ ?_)) ?_;refine g7 ?_;refine St.ag (fH (aU g) (aU g) (.mk [116] []) (.mk [116] [])) qF (.aY rfl rfl) rfl ?_;rintro al9 _ rfl;refine St.ao ?_;refine St.ag (eJ [110,111,116] (by decide) al9 (an (.mk [116] []) (.mk [116] []))) ng (.aY rfl rfl) rfl ?_;rintro amA _ rfl;refine St.ao ?_;refine St.bi [13] (λagV=> ?_) bI dL eQ;refine St.bw [.slice (some ⟨agV,0,none⟩) 1 1] [[13]] (λagW=> ?_) fJ fE kJ (.ar rfl);refine St.ep (eH a tv.1 (.slice (some ⟨b,0,none⟩) 5 5) rv (.slice none 0 0) w17 X17 [110,111,116] 0 amA (.slice (some ⟨agW,0,none⟩) 1 1) (bV [110,111,116] (an (.mk [116] []) (.mk [116] []))) [[13]] (by decide) (by unfold aa;decide) aa9 (by omega) Ua (by decide) (by decide)) nc (.mk rfl) (.gW rfl rfl rfl rfl) rfl ?_;rintro v218 _ ⟨w18,x18,rfl,abC,adO,adP,rfl⟩;refine St.iQ ?_;obtain⟨X18,aiL,Ub,abA,abB⟩:=fG Ua aa7 aa8 adO adP;rw[←aiL];refine St.o4 (smK m n o p q a b tv ts rv j i g f l w18 X18) (by repeat(first|exact List.Sublist.slnil|with_reducible refine List.Sublist.cons_cons _ ?_|refine List.Sublist.cons _ ?_)) ?_;refine g3 ?_;refine St.U4 9 219 [] (⟨219,[],λu=>cT u (.func (.func 59) #[] #[.pointer (some ⟨a,0,none⟩)])⟩::⟨220,[],λu=>cT u ((aU g))⟩::⟨221,[],λu=>cT u ((aU g))⟩::⟨222,[],λu=>cT u ((aU g))⟩::⟨223,[2,3],λu=>dZ (an (.mk [116] []) (.mk [116] [])) u⟩::⟨224,[1,4],λu=>dZ (an (.mk [116] []) (an (.mk [116] []) (.mk [116] []))) u⟩::⟨225,[5],λu=>isTerm (bV [97,110,100] (an (.mk [116] []) (an (.mk [116] []) (.mk [116] [])))) u⟩::⟨226,[],λu=>fW aI [14] u⟩::⟨227,[7],λu=>fS aI [[14]] u⟩::[]) ((219,[])::(220,[])::(221,[])::(222,[])::(223,[2,3])::(224,[1,4])::(225,[5])::(226,[])::(227,[7])::[]) [0,6,8] rfl rfl mixed (by kernel_rfl) (by kernel_rfl) (by rfl) (λe=>[(219,e 0),(225,e 6),(227,e 8)]) (λe=>[aB (cT (e 0) (.func (.func 59) #[] #[.pointer (some ⟨a,0,none⟩)])),aB (isTerm (bV [97,110,100] (an (.mk [116] []) (an (.mk [116] []) (.mk [116] [])))) (e 6)),aB (fS aI [[14]] (e 8))]) (λ_=>rfl) (λ_=>rfl) ?_ (λe=> ?_)
 ·refine ab.c0 (λc e d=> ?_) ?_
  ·refine St.aK ?_
   refine go ?_;refine St.fact (cT (.func (.func 59) #[] #[.pointer (some ⟨a,0,none⟩)]) (.func (.func 59) #[] #[.pointer (some ⟨a,0,none⟩)])) (λ_ _ _=>rfl) ?_;exact St.bg _
  refine ab.c0 (λc e d=> ?_) ?_
  ·refine St.aK ?_
   refine go ?_;refine St.fact (cT ((aU g)) ((aU g))) (λ_ _ _=>rfl) ?_;exact St.bg _
  refine ab.c0 (λc e d=> ?_) ?_
  ·refine St.aK ?_
   refine go ?_;refine St.fact (cT ((aU g)) ((aU g))) (λ_ _ _=>rfl) ?_;exact St.bg _
  refine ab.c0 (λc e d=> ?_) ?_
  ·refine St.aK ?_
   refine go ?_;refine St.fact (cT ((aU g)) ((aU g))) (λ_ _ _=>rfl) ?_;exact St.bg _
  refine ab.cc (λe=>[(221,e 2),(222,e 3)]) (λe=>[aB (cT (e 2) ((aU g))),aB (cT (e 3) ((aU g)))]) (λc e d=> ?_) ?_
  ·refine St.dQ ?_
   refine St.bX (P:=prog) 221 (e 2) ((aU g)) rfl ?_;refine St.bX (P:=prog) 222 (e 3) ((aU g)) rfl ?_;refine St.ag (fH (aU g) (aU g) (.mk [116] []) (.mk [116] [])) qF (.aY rfl rfl) rfl ?_;rintro aoL _ rfl;refine St.ao ?_;exact St.bg _
  refine ab.cc (λe=>[(220,e 1),(223,e 4)]) (λe=>[aB (cT (e 1) ((aU g))),aB (dZ (an (.mk [116] []) (.mk [116] [])) (e 4))]) (λc e d=> ?_) ?_
  ·refine St.dQ ?_
   refine St.bX (P:=prog) 220 (e 1) ((aU g)) rfl ?_;refine St.ag (fH (aU g) (e 4) (.mk [116] []) (an (.mk [116] []) (.mk [116] []))) qF (.aY rfl rfl) rfl ?_;rintro aoM _ rfl;refine St.ao ?_;exact St.bg _
  refine ab.cc (λe=>[(224,e 5)]) (λe=>[aB (dZ (an (.mk [116] []) (an (.mk [116] []) (.mk [116] []))) (e 5))]) (λc e d=> ?_) ?_
  ·refine St.ao ?_
   refine St.ag (eJ [97,110,100] (by decide) (e 5) (an (.mk [116] []) (an (.mk [116] []) (.mk [116] [])))) ng (.aY rfl rfl) rfl ?_;rintro aoN _ rfl;refine St.ao ?_;exact St.bg _
  refine ab.bi ?_ bI dL eQ;refine ab.bw ?_ fJ fE kJ (λ_=>(.ar rfl));exact ab.nil
 refine St.iQ ?_;refine St.bX (P:=prog) 219 (e 0) (.func (.func 59) #[] #[.pointer (some ⟨a,0,none⟩)]) rfl ?_;refine St.ep (eH a tv.1 (.slice (some ⟨b,0,none⟩) 5 5) rv (.slice none 0 0) w18 X18 [97,110,100] 0 (e 6) (e 8) (bV [97,110,100] (an (.mk [116] []) (an (.mk [116] []) (.mk [116] [])))) [[14]] (by decide) (by unfold aa;decide) abC (by omega) Ub (by decide) (by decide)) nc (.mk rfl) (.gW rfl rfl rfl rfl) rfl ?_;rintro v228 _ ⟨w19,x19,rfl,abF,adQ,adR,rfl⟩;refine St.iQ ?_;obtain⟨X19,aiM,Uc,abD,abE⟩:=fG Ub abA abB adQ adR;rw[←aiM];refine St.o4 (smK m n o p q a b tv ts rv j i g f l w19 X19) (by repeat(first|exact List.Sublist.slnil|with_reducible refine List.Sublist.cons_cons _ ?_|refine List.Sublist.cons _ ?_)) ?_;refine g3 ?_;refine St.U4 10 229 [] (⟨229,[],λu=>cT u (.func (.func 59) #[] #[.pointer (some ⟨a,0,none⟩)])⟩::⟨230,[],λu=>cT u ((aU f))⟩::⟨231,[],λu=>isTerm (aZ 0) u⟩::⟨232,[],λu=>cT u ((aU i))⟩::⟨233,[3],λu=>isTerm (bV [114,101,120] (.mk [101] [])) u⟩::⟨234,[2,4],λu=>isTerm (aK (aZ 0) (bV [114,101,120] (.mk [101] []))) u⟩::⟨235,[1,5],λu=>isTerm (bC (an (.mk [101] []) (.mk [116] [])) (aK (aZ 0) (bV [114,101,120] (.mk [101] [])))) u⟩::⟨236,[],λu=>fW aI [7,4,1] u⟩::⟨237,[],λu=>fW aI [4] u⟩::⟨238,[7,8],λu=>fS aI [[7,4,1],[4]] u⟩::[]) ((229,[])::(230,[])::(231,[])::(232,[])::(233,[3])::(234,[2,4])::(235,[1,5])::(236,[])::(237,[])::(238,[7,8])::[]) [0,6,9] rfl rfl mixed (by kernel_rfl) (by kernel_rfl) (by rfl) (λe=>[(229,e 0),(235,e 6),(238,e 9)]) (λe=>[aB (cT (e 0) (.func (.func 59) #[] #[.pointer (some ⟨a,0,none⟩)])),aB (isTerm (bC (an (.mk [101] []) (.mk [116] [])) (aK (aZ 0) (bV [114,101,120] (.mk [101] [])))) (e 6)),aB (fS aI [[7,4,1],[4]] (e 9))]) (λ_=>rfl) (λ_=>rfl) ?_ (λe=> ?_)
 ·refine ab.c0 (λc e d=> ?_) ?_
  ·refine St.aK ?_
   refine go ?_;refine St.fact (cT (.func (.func 59) #[] #[.pointer (some ⟨a,0,none⟩)]) (.func (.func 59) #[] #[.pointer (some ⟨a,0,none⟩)])) (λ_ _ _=>rfl) ?_;exact St.bg _
  refine ab.c0 (λc e d=> ?_) ?_
  ·refine St.aK ?_
   refine go ?_;refine St.fact (cT ((aU f)) ((aU f))) (λ_ _ _=>rfl) ?_;exact St.bg _
  refine ab.c0 (λc e d=> ?_) ?_
  ·refine St.aK ?_
   refine St.ag (cg 0 (by unfold aa;decide)) mM (.ar rfl) rfl ?_;rintro aoO _ rfl;refine St.ao ?_;exact St.bg _
  refine ab.c0 (λc e d=> ?_) ?_
  ·refine St.aK ?_
   refine go ?_;refine St.fact (cT ((aU i)) ((aU i))) (λ_ _ _=>rfl) ?_;exact St.bg _
  refine ab.cc (λe=>[(232,e 3)]) (λe=>[aB (cT (e 3) ((aU i)))]) (λc e d=> ?_) ?_
  ·refine St.ao ?_
   refine St.bX (P:=prog) 232 (e 3) ((aU i)) rfl ?_;refine St.ag (eJ [114,101,120] (by decide) (aU i) (.mk [101] [])) ng (.aY rfl rfl) rfl ?_;rintro v233 _ rfl;refine St.ao ?_;exact St.bg _
  refine ab.cc (λe=>[(231,e 2),(233,e 4)]) (λe=>[aB (isTerm (aZ 0) (e 2)),aB (isTerm (bV [114,101,120] (.mk [101] [])) (e 4))]) (λc e d=> ?_) ?_
  ·refine St.dQ ?_
   refine St.ag (ec (e 2) (e 4) (aZ 0) (bV [114,101,120] (.mk [101] []))) ox (.aY rfl rfl) rfl ?_;rintro v234 _ rfl;refine St.ao ?_;exact St.bg _
  refine ab.cc (λe=>[(230,e 1),(234,e 5)]) (λe=>[aB (cT (e 1) ((aU f))),aB (isTerm (aK (aZ 0) (bV [114,101,120] (.mk [101] []))) (e 5))]) (λc e d=> ?_) ?_
  ·refine St.dQ ?_
   refine St.bX (P:=prog) 230 (e 1) ((aU f)) rfl ?_;refine St.ag (e8 (aU f) (e 5) (an (.mk [101] []) (.mk [116] [])) (aK (aZ 0) (bV [114,101,120] (.mk [101] [])))) mL (.aY rfl rfl) rfl ?_;rintro aoP _ rfl;refine St.ao ?_;exact St.bg _
  refine ab.bi ?_ bI dL eQ;refine ab.bi ?_ bI dL eQ;refine ab.bw ?_ fJ fE kJ (λ_=>(.aY rfl rfl));exact ab.nil
 refine St.iQ ?_;refine St.bX (P:=prog) 229 (e 0) (.func (.func 59) #[] #[.pointer (some ⟨a,0,none⟩)]) rfl ?_;refine St.ep (eH a tv.1 (.slice (some ⟨b,0,none⟩) 5 5) rv (.slice none 0 0) w19 X19 [114,101,120] 0 (e 6) (e 9) (bC (an (.mk [101] []) (.mk [116] [])) (aK (aZ 0) (bV [114,101,120] (.mk [101] [])))) [[7,4,1],[4]] (by decide) (by unfold aa;decide) abF (by omega) Uc (by decide) (by decide)) nc (.mk rfl) (.gW rfl rfl rfl rfl) rfl ?_;rintro aoQ _ ⟨w20,x20,rfl,abI,adS,adT,rfl⟩;refine St.iQ ?_;obtain⟨X20,aiQ,Ud,abG,abH⟩:=fG Uc abD abE adS adT;rw[←aiQ];refine St.o4 (smK m n o p q a b tv ts rv j i g f l w20 X20) (by repeat(first|exact List.Sublist.slnil|with_reducible refine List.Sublist.cons_cons _ ?_|refine List.Sublist.cons _ ?_)) ?_;refine g3 ?_;refine St.U4 10 240 [] (⟨240,[],λu=>cT u (.func (.func 59) #[] #[.pointer (some ⟨a,0,none⟩)])⟩::⟨241,[],λu=>cT u ((aU f))⟩::⟨242,[],λu=>isTerm (aZ 0) u⟩::⟨243,[],λu=>cT u ((aU i))⟩::⟨244,[3],λu=>isTerm (bV [109,105,97] (.mk [101] [])) u⟩::⟨245,[2,4],λu=>isTerm (aK (aZ 0) (bV [109,105,97] (.mk [101] []))) u⟩::⟨246,[1,5],λu=>isTerm (bC (an (.mk [101] []) (.mk [116] [])) (aK (aZ 0) (bV [109,105,97] (.mk [101] [])))) u⟩::⟨247,[],λu=>fW aI [7,4,1] u⟩::⟨248,[],λu=>fW aI [4] u⟩::⟨249,[7,8],λu=>fS aI [[7,4,1],[4]] u⟩::[]) ((240,[])::(241,[])::(242,[])::(243,[])::(244,[3])::(245,[2,4])::(246,[1,5])::(247,[])::(248,[])::(249,[7,8])::[]) [0,6,9] rfl rfl mixed (by kernel_rfl) (by kernel_rfl) (by rfl) (λe=>[(240,e 0),(246,e 6),(249,e 9)]) (λe=>[aB (cT (e 0) (.func (.func 59) #[] #[.pointer (some ⟨a,0,none⟩)])),aB (isTerm (bC (an (.mk [101] []) (.mk [116] [])) (aK (aZ 0) (bV [109,105,97] (.mk [101] [])))) (e 6)),aB (fS aI [[7,4,1],[4]] (e 9))]) (λ_=>rfl) (λ_=>rfl) ?_ (λe=> ?_)
 ·refine ab.c0 (λc e d=> ?_) ?_
  ·refine St.aK ?_
   refine go ?_;refine St.fact (cT (.func (.func 59) #[] #[.pointer (some ⟨a,0,none⟩)]) (.func (.func 59) #[] #[.pointer (some ⟨a,0,none⟩)])) (λ_ _ _=>rfl) ?_;exact St.bg _
  refine ab.c0 (λc e d=> ?_) ?_
  ·refine St.aK ?_
   refine go ?_;refine St.fact (cT ((aU f)) ((aU f))) (λ_ _ _=>rfl) ?_;exact St.bg _
  refine ab.c0 (λc e d=> ?_) ?_
  ·refine St.aK ?_
   refine St.ag (cg 0 (by unfold aa;decide)) mM (.ar rfl) rfl ?_;rintro aoR _ rfl;refine St.ao ?_;exact St.bg _
  refine ab.c0 (λc e d=> ?_) ?_
  ·refine St.aK ?_
   refine go ?_;refine St.fact (cT ((aU i)) ((aU i))) (λ_ _ _=>rfl) ?_;exact St.bg _
  refine ab.cc (λe=>[(243,e 3)]) (λe=>[aB (cT (e 3) ((aU i)))]) (λc e d=> ?_) ?_
  ·refine St.ao ?_
   refine St.bX (P:=prog) 243 (e 3) ((aU i)) rfl ?_;refine St.ag (eJ [109,105,97] (by decide) (aU i) (.mk [101] [])) ng (.aY rfl rfl) rfl ?_;rintro aoS _ rfl;refine St.ao ?_;exact St.bg _
  refine ab.cc (λe=>[(242,e 2),(244,e 4)]) (λe=>[aB (isTerm (aZ 0) (e 2)),aB (isTerm (bV [109,105,97] (.mk [101] [])) (e 4))]) (λc e d=> ?_) ?_
  ·refine St.dQ ?_
   refine St.ag (ec (e 2) (e 4) (aZ 0) (bV [109,105,97] (.mk [101] []))) ox (.aY rfl rfl) rfl ?_;rintro aoT _ rfl;refine St.ao ?_;exact St.bg _
  refine ab.cc (λe=>[(241,e 1),(245,e 5)]) (λe=>[aB (cT (e 1) ((aU f))),aB (isTerm (aK (aZ 0) (bV [109,105,97] (.mk [101] []))) (e 5))]) (λc e d=> ?_) ?_
  ·refine St.dQ ?_
   refine St.bX (P:=prog) 241 (e 1) ((aU f)) rfl ?_;refine St.ag (e8 (aU f) (e 5) (an (.mk [101] []) (.mk [116] [])) (aK (aZ 0) (bV [109,105,97] (.mk [101] [])))) mL (.aY rfl rfl) rfl ?_;rintro aoU _ rfl;refine St.ao ?_;exact St.bg _
  refine ab.bi ?_ bI dL eQ;refine ab.bi ?_ bI dL eQ;refine ab.bw ?_ fJ fE kJ (λ_=>(.aY rfl rfl));exact ab.nil
 refine St.iQ ?_;refine St.bX (P:=prog) 240 (e 0) (.func (.func 59) #[] #[.pointer (some ⟨a,0,none⟩)]) rfl ?_;refine St.ep (eH a tv.1 (.slice (some ⟨b,0,none⟩) 5 5) rv (.slice none 0 0) w20 X20 [109,105,97] 0 (e 6) (e 9) (bC (an (.mk [101] []) (.mk [116] [])) (aK (aZ 0) (bV [109,105,97] (.mk [101] [])))) [[7,4,1],[4]] (by decide) (by unfold aa;decide) abI (by omega) Ud (by decide) (by decide)) nc (.mk rfl) (.gW rfl rfl rfl rfl) rfl ?_;rintro aoV _ ⟨K,x21,rfl,O,adU,adV,rfl⟩;refine St.iQ ?_;obtain⟨F,aiR,abK,abJ,amC⟩:=fG Ud abG abH adU adV;rw[←aiR];refine St.o4 (smK m n o p q a b tv ts rv j i g f l K F) (by repeat(first|exact List.Sublist.slnil|with_reducible refine List.Sublist.cons_cons _ ?_|refine List.Sublist.cons _ ?_)) ?_;refine g4 ?_;refine St.bi [6] (λagX=> ?_) bI dL eQ;refine St.bw [.slice (some ⟨agX,0,none⟩) 1 1] [[6]] (λagY=> ?_) fJ fE kJ (.ar rfl);refine St.ag (gQ (.slice (some ⟨agY,0,none⟩) 1 1) [[6]] (by decide) (by decide)) E7 (.ar rfl) rfl ?_;rintro amB _ rfl;refine St.ao ?_;refine St.bK (cP [[6]]) amB (λG hyz=> ?_);obtain⟨rfl,ak6⟩:=hyz;refine go ?_;refine St.Fc (L':=[tv.1,(.slice (some ⟨b,0,none⟩) 5 5),rv,K,G.nv.1]) (ai.mk rfl) (ai.mk rfl) jT G.nv.2 rfl rfl ?_;refine g5 ?_;refine St.sA (.mk rfl) (.mk rfl) Tb ?_ (h1:=(by simp only[List.all_cons,List.all_nil,Bool.and_true,Bool.and_eq_true];exact⟨tv.2,rfl,L,O,G.nv.2⟩));refine g3 ?_;refine St.bR K dy F rfl rfl abK ?_;refine St.eY (fB (⟨tv,ts,⟨(.slice (some ⟨b,0,none⟩) 5 5),rfl⟩,kB,⟨rv,L⟩,j,⟨K,O⟩,F,G⟩:gb)) [sl ml tv.1 ts,aF ry ts,sl gY (.slice (some ⟨b,0,none⟩) 5 5) kB,sl cS rv j,aF bx j,sl dy K F,aF eO F,aG G] (λρ h=>h) ?_;refine St.eY (wK lN (fV (⟨tv,ts,⟨(.slice (some ⟨b,0,none⟩) 5 5),rfl⟩,kB,⟨rv,L⟩,j,⟨K,O⟩,F,G⟩:gb))) [fB (⟨tv,ts,⟨(.slice (some ⟨b,0,none⟩) 5 5),rfl⟩,kB,⟨rv,L⟩,j,⟨K,O⟩,F,G⟩:gb)] (λρ h=>⟨(⟨tv,ts,⟨(.slice (some ⟨b,0,none⟩) 5 5),rfl⟩,kB,⟨rv,L⟩,j,⟨K,O⟩,F,G⟩:gb),rfl,by show(⟨ts.map dG,kB.map gy,j.map lI,F.map og,ay G⟩:gB)=lN;rw[hts,acU,abJ,ak6];rfl,h _ (aP ..)⟩) ?_;refine St.rV [_] [aB (wK lN (fV (⟨tv,ts,⟨(.slice (some ⟨b,0,none⟩) 5 5),rfl⟩,kB,⟨rv,L⟩,j,⟨K,O⟩,F,G⟩:gb)))] ?_;rfl
theorem qU (v0 v1:Value)(a b:List bB):eD prog 16 #[v0,v1] [sl bL v0 a,sl bL v1 b] (.bool (decide (a=b))):=by
 refine eD.nE (args:=[v0,v1]) 26 func16 rfl ntmps16 rfl (λc=> ?_);refine go ?_;refine St.wf v0 (λi j=> ?_);refine St.wf v1 (λl m=> ?_);refine g14 ?_;refine St.cq (λf=> ?_) (λf=> ?_)
 ·refine g7 ?_
  refine St.rV [_] [] ?_;exact be (by rw[eq_comm,sf];rintro rfl;omega)
 ·refine g9 ?_
  refine St.lS (ι:=Nat) (λk T=>(5,iv k)::T) (λk=>k≤a.length∧a.take k=b.take k) (λk=>a.length-k) 0 (aD.cons 0 rfl (aD.cons 1 rfl aD.nil)) ⟨aO _,rfl⟩ ?_;intro k g;obtain⟨hk,d⟩:=g;refine g9 ?_;refine St.cq (λh=> ?_) (λh=> ?_)
  ·obtain⟨x,hx⟩:=aE (show k<a.length by omega)
   obtain⟨y,hy⟩:=aE (show k<b.length by omega);refine g5 ?_;refine St.rq mixed (by kernel_rfl) (Mm.drawn _ _) ?_;refine g11 ?_;refine St.cond _ rfl (λe=> ?_) (λe=> ?_)
   ·skip
    refine g11 ?_;refine St.rV [_] [] ?_;exact be (by rw[eq_comm,sf];rintro rfl;rw[hx]at hy;simp only[Option.some.injEq]at hy;simp[hy]at e)
   ·skip
    refine g9 ?_;refine St.aS (k+1) ⟨by omega,by rw[aX hx,aX hy,d,show x=y by simpa using e]⟩
  ·refine g11 ?_
   refine St.rV [_] [] ?_;exact be (by rw[eq_comm,fz];rw[fF (by omega),fF (by omega)]at d;exact d)
theorem CG (v0 v1:Value)(a b:List bB):eD prog 34 #[v0,v1] [sl bL v0 a,sl bL v1 b] (.bool (decide (a=b))):=by
 refine eD.nE (args:=[v0,v1]) 26 func34 rfl ntmps34 rfl (λc=> ?_);refine go ?_;refine St.wf v0 (λi j=> ?_);refine St.wf v1 (λl m=> ?_);refine g14 ?_;refine St.cq (λf=> ?_) (λf=> ?_)
 ·refine g7 ?_
  refine St.rV [_] [] ?_;exact be (by rw[eq_comm,sf];rintro rfl;omega)
 ·refine g11 ?_
  refine St.lS (ι:=Nat) (λk T=>(13,iv k)::T) (λk=>k≤a.length∧a.take k=b.take k) (λk=>a.length-k) 0 (aD.cons 0 rfl (aD.cons 1 rfl (aD.cons 12 rfl aD.nil))) ⟨aO _,rfl⟩ ?_;intro k g;obtain⟨hk,d⟩:=g;refine g6 ?_;refine St.cq (λh=> ?_) (λh=> ?_)
  ·obtain⟨x,hx⟩:=aE (show k<a.length by omega)
   obtain⟨y,hy⟩:=aE (show k<b.length by omega);refine g11 ?_;refine St.rq mixed (by kernel_rfl) (Mm.drawn _ _) ?_;refine g11 ?_;refine St.cond _ rfl (λe=> ?_) (λe=> ?_)
   ·skip
    refine g11 ?_;refine St.rV [_] [] ?_;exact be (by rw[eq_comm,sf];rintro rfl;rw[hx]at hy;simp only[Option.some.injEq]at hy;simp[hy]at e)
   ·skip
    refine g8 ?_;refine St.aS (k+1) ⟨by omega,by rw[aX hx,aX hy,d,show x=y by simpa using e]⟩
  ·refine g11 ?_
   refine St.rV [_] [] ?_;exact be (by rw[eq_comm,fz];rw[fF (by omega),fF (by omega)]at d;exact d)
theorem yE (v0 v1:Value)(a b:List (List bB)):eD prog 14 #[v0,v1] [pT bL v0 a,pT bL v1 b] (.bool (decide (a=b))):=by
 refine eD.nE (args:=[v0,v1]) 27 func14 rfl ntmps14 rfl (λc=> ?_);refine go ?_;refine St.nu v0 (λf h=> ?_);refine St.nu v1 (λg i=> ?_);refine St.wf v0 (λn o=> ?_);refine St.wf v1 (λp q=> ?_);refine g14 ?_;refine St.cq (λj=> ?_) (λj=> ?_)
 ·refine g7 ?_
  refine St.rV [_] [] ?_;exact be (by rw[eq_comm,sf];rintro rfl;omega)
 ·refine g11 ?_
  refine St.lS (ι:=Nat) (λk T=>(13,iv k)::T) (λk=>k≤a.length∧a.take k=b.take k) (λk=>a.length-k) 0 (aD.cons 0 rfl (aD.cons 1 rfl (aD.cons 12 rfl aD.nil))) ⟨aO _,rfl⟩ ?_;intro k l;obtain⟨hk,d⟩:=l;refine g6 ?_;refine St.cq (λm=> ?_) (λm=> ?_)
  ·obtain⟨x,hx⟩:=aE (show k<a.length by omega)
   obtain⟨y,hy⟩:=aE (show k<b.length by omega);obtain⟨u,hu⟩:=aE (show k<f.length by omega);obtain⟨w,hw⟩:=aE (show k<g.length by omega);refine St.js (vs:=f) k hu hx ?_;refine St.js (vs:=g) k hw hy ?_;refine g11 ?_;refine St.rq mixed (by kernel_rfl) (Mm.drawn _ _) ?_;refine g8 ?_;refine Sq.ee (Ev.call (CG u.1 w.1 x y) ag9 (.aY rfl rfl)) ?_;refine g3 ?_;refine St.cond _ rfl (λe=> ?_) (λe=> ?_)
   ·skip
    refine g11 ?_;refine St.rV [_] [] ?_;exact be (by rw[eq_comm,sf];rintro rfl;rw[hx]at hy;simp only[Option.some.injEq]at hy;simp[hy]at e)
   ·skip
    refine g8 ?_;refine St.aS (k+1) ⟨by omega,by rw[aX hx,aX hy,d,show x=y by simpa using e]⟩
  ·refine g11 ?_
   refine St.rV [_] [] ?_;exact be (by rw[eq_comm,fz];rw[fF (by omega),fF (by omega)]at d;exact d)
def sx:bB:=[114,101,120]
def IM:bB:=[98,97,114,107]
def jt:bB:=[98,97,114,107,115]
def sJ:List (List bB):=[[sx],[IM,jt]]
theorem Hb:fN lN sJ=([[sx,jt]],(0,0)):=by kernel_rfl
theorem zL:q9 lN sJ=(some ([sx,jt],0),(0,0)):=by kernel_rfl
theorem Oz:((iU lN sJ).1.all λw=>(lL lN w 1).1.all λt=>Xq lN t&&decide (Qk t≤1000))=true:=by kernel_rfl
theorem vw {l:List bB}(h:l.all (λw=>decide (w.length≤1000))=true):∀x∈l,bL.wf x:=λx hx=>by
 have h1:=ei (eW.1 h x hx)
 show x.length≤140737488351232
 omega
theorem TA {α:Type}{R:Rp α}{ρ:Ro}{v:Value}{d e:aV}{a b:List α}(h:(sl bS v [d,e]).f ρ)(h1:(sl R d.1 a).f ρ)(g:(sl R e.1 b).f ρ):(pT R v [a,b]).f ρ:=⟨[d,e],rfl,h,λi u l c e2=>by
 match i,c,e2 with
 |0,c,e2=>obtain rfl:=Option.some.inj c;obtain rfl:=Option.some.inj e2;exact h1
 |1,c,e2=>obtain rfl:=Option.some.inj c;obtain rfl:=Option.some.inj e2;exact g
 |i+2,c,_=>simp at c⟩
theorem NA (g:gB)(s:List (List bB)):(fN g s).1.length≤60:=by
 unfold fN
 by_cases c:(nh g s).1≠0
 ·rw[aC c];exact aO _
 ·rw[aA c]
  unfold iU
  by_cases d:(eS s).any (nk g)=true
  ·rw[aC d];exact aO _
  ·rw[aA d]
   have h1:=(Cd.1 (iG.1 c)).prod
   have a:=G7 (oG g) (eS s)
   rw[qH]at a
   show((eS s).filter (oG g)).length≤60
   omega
theorem En {w:bB}:∀{s:List (List bB)} {q i:Nat} {l:List bB},s[i]?=some l→(fI q w s)[i]?=some (if i=q then l++ [w]else l)
 | [],_,_,_,h=>by simp at h
 |x::s,0,0,l,h=>by obtain rfl:=Option.some.inj h;rfl
 |x::s,0,i+1,l,h=>by rw[aA (by omega)];exact h
 |x::s,q+1,0,l,h=>by rw[aA (by omega)];exact h
 |x::s,q+1,i+1,l,h=>by
  have:=En (w:=w) (s:=s) (q:=q) (i:=i) h
  rw[show(if i+1=q+1 then l++ [w]else l)=if i=q then l++ [w]else l by by_cases c:i=q;rw[aC c,aC (by omega)];rw[aA c,aA (by omega)]];exact this
theorem Hc:kX prog 12 #[] [tz,u8] (.bool true):=by
 refine kX.body (args:=[]) (ds:=[tz,u8]) 59 func12 rfl ntmps12 rfl (λc o=> ?_);refine St.cast (H':=[aB (tz),aB (u8)]) rfl ?_;refine g7 ?_;refine St.fp rfl (.ar rfl) mz Jk QZ rfl rfl (by simp[Value.cells]) rfl rfl (λd=> ?_);refine St.bR (.slice (some ⟨d,0,none⟩) 1 1) bL [sx] rfl rfl (vw (by decide)) ?_;refine St.fp rfl (.aY rfl rfl) mz Jk QZ rfl rfl (by simp[Value.cells]) rfl rfl (λe=> ?_);refine St.bR (.slice (some ⟨e,0,none⟩) 2 2) bL [IM,jt] rfl rfl (vw (by decide)) ?_;refine St.fp rfl (.aY rfl rfl) pK uK De rfl rfl (by simp[Value.cells]) rfl rfl (λf=> ?_);refine St.bR (.slice (some ⟨f,0,none⟩) 2 2) bS [⟨(.slice (some ⟨d,0,none⟩) 1 1),rfl⟩,⟨(.slice (some ⟨e,0,none⟩) 2 2),rfl⟩] rfl rfl (λ_ _=>trivial) ?_;refine St.eY (pT bL (.slice (some ⟨f,0,none⟩) 2 2) sJ) [sl bS (.slice (some ⟨f,0,none⟩) 2 2) [⟨(.slice (some ⟨d,0,none⟩) 1 1),rfl⟩,⟨(.slice (some ⟨e,0,none⟩) 2 2),rfl⟩],sl bL (.slice (some ⟨d,0,none⟩) 1 1) [sx],sl bL (.slice (some ⟨e,0,none⟩) 2 2) [IM,jt]] (λρ h=>TA (h _ (aP ..)) (h (sl bL (.slice (some ⟨d,0,none⟩) 1 1) [sx]) (cN _ (aP ..))) (h (sl bL (.slice (some ⟨e,0,none⟩) 2 2) [IM,jt]) (cN _ (cN _ (aP ..))))) ?_;refine g5 ?_;refine St.ag y9 Zm (.nil) rfl ?_;rintro v11 _ rfl;refine St.ao ?_;refine St.wK lN v11 (λg j=> ?_);obtain⟨rfl,Qf⟩:=j;refine go ?_;refine St.nb o (ua g (.slice (some ⟨f,0,none⟩) 2 2) sJ) Vq (.aY rfl rfl) rfl ?_;rintro q _ ⟨lv,rfl,rfl⟩;refine St.ao ?_;rw[Qf,Hb];refine g3 ?_;refine St.slot 15 (fv (0,0)) rfl rfl ?_;refine St.al (λv=> ?_);refine g6 ?_;refine St.ag y9 Zm (.nil) rfl ?_;rintro v17 _ rfl;refine St.ao ?_;refine St.wK lN v17 (λl m=> ?_);obtain⟨rfl,i⟩:=m;refine go ?_;refine St.nb o (KA l (.slice (some ⟨f,0,none⟩) 2 2) sJ (by rw[i];intro w hw t ht;have h:=eW.1 (eW.1 Oz w hw) t ht;rw[qj,fz]at h;exact h)) ag8 (.aY rfl rfl) rfl ?_;rintro r _ ⟨wv,rfl,rfl⟩;refine St.ao ?_;rw[i];rw[show oW (q9 lN sJ).1=[sx,jt] by rw[zL];rfl,zL];refine g2 ?_;refine St.slot 20 (.agg #[wv.1,iv 0]) rfl rfl ?_;refine go ?_;refine St.slot 21 (.bool true) rfl rfl ?_;refine go ?_;refine St.slot 22 (fv (0,0)) rfl rfl ?_;refine St.al (λx=> ?_);refine St.al (λy=> ?_);refine g6 ?_;refine St.nu lv.1 (λus s=> ?_)
 have n:us.length=1:=s
 obtain⟨u,hu⟩:=aE (show 0<us.length by omega);refine St.js (vs:=us) 0 hu (show([[sx,jt]]:List (List bB))[0]?=some [sx,jt]from rfl) ?_;refine St.da [] mixed (λa b=> ?_);refine SW.gd 0 ?_;refine SW.gd 1 ?_;refine SW.gd 2 ?_;refine SW.gd 3 ?_;refine SW.slot 26 (.bool true) rfl (congrArg Value.bool rfl) ?_;refine SW.gt 4 _ a b rfl rfl rfl (λR _=>Ev.move (.mk rfl)) (by kernel_rfl) rfl ?_;refine SW.slot 27 _ rfl (dA rfl _) ?_;refine SW.gt 5 _ a b rfl rfl rfl (λR _=>Ev.fj (.mk rfl) pK) (by kernel_rfl) rfl ?_;refine SW.slot 28 _ rfl (dA rfl _) ?_;refine SW.gt 6 _ a b rfl rfl rfl (λR _=>Ev.eq0) (by kernel_rfl) rfl ?_;refine SW.slot 29 _ rfl (dA rfl _) ?_;refine SW.dd 7 rfl (λ_=>Ev.gZ (.mk rfl) rfl (.mk rfl)) ?_;refine SW.slot 30 (.bool true) rfl (congrArg Value.bool (by rw[n];rfl)) ?_;refine SW.gd 8 ?_;refine SW.slot 31 (.bool true) rfl (congrArg Value.bool rfl) ?_;refine SW.gt 9 _ a b rfl rfl rfl (λR _=>Ev.move (.mk rfl)) (by kernel_rfl) rfl ?_;refine SW.slot 32 _ rfl (dA rfl _) ?_;refine SW.gt 10 _ a b rfl rfl rfl (λR _=>Ev.cL (k:=0) (.mk rfl) (.mk rfl) pK uK rfl (by omega)) (by kernel_rfl) rfl ?_;refine SW.slot 33 _ rfl (dA rfl _) ?_;refine SW.gt 11 _ a b rfl rfl rfl (λR _=>Ev.ld1 (.mk rfl) hu mz trivial rfl) (by kernel_rfl) rfl ?_;refine SW.slot 34 _ rfl (dA rfl _) ?_;refine SW.t1 12 ?_;refine St.cF rfl rfl ?_;refine St.fp rfl (.aY rfl rfl) mz Jk QZ rfl rfl (by simp[Value.cells]) rfl rfl (λp=> ?_);refine St.bR (.slice (some ⟨p,0,none⟩) 2 2) bL [sx,jt] rfl rfl (vw (by decide)) ?_;refine g2 ?_;refine SW.go ?_;refine SW.t1 13 ?_;refine St.cF rfl rfl ?_;refine St.ee (Ev.call (qU u.1 (.slice (some ⟨p,0,none⟩) 2 2) [sx,jt] [sx,jt]) Zd (.aY rfl rfl)) ?_;refine g2 ?_;refine SW.go ?_;refine SW.dd 14 rfl (λ_=>Ev.gZ (.mk rfl) rfl (.mk rfl)) ?_;refine SW.gd 15 ?_;refine SW.slot 38 (.bool true) rfl (congrArg Value.bool rfl) ?_;refine SW.gt 16 _ a b rfl rfl rfl (λR _=>Ev.dV (.mk rfl) Ct) (by kernel_rfl) rfl ?_;refine SW.slot 39 _ rfl (dA rfl _) ?_;refine SW.gt 17 _ a b rfl rfl rfl (λR _=>Ev.kP (.mk rfl) gG trivial (by rfl)) (by kernel_rfl) rfl ?_;refine SW.slot 40 _ rfl (dA rfl _) ?_;refine SW.gt 18 _ a b rfl rfl rfl (λR _=>Ev.eq0) (by kernel_rfl) rfl ?_;refine SW.slot 41 _ rfl (dA rfl _) ?_;refine SW.dd 19 rfl (λ_=>Ev.gZ (.mk rfl) rfl (.mk rfl)) ?_;refine SW.gd 20 ?_;refine SW.slot 43 (.bool true) rfl (congrArg Value.bool rfl) ?_;refine SW.gt 21 _ a b rfl rfl rfl (λR _=>Ev.move (.mk rfl)) (by kernel_rfl) rfl ?_;refine SW.slot 44 _ rfl (dA rfl _) ?_;refine SW.dd 22 rfl (λ_=>Ev.gZ (.mk rfl) rfl (.mk rfl)) ?_;refine SW.gd 23 ?_;refine SW.slot 46 (.bool true) rfl (congrArg Value.bool rfl) ?_;refine SW.gt 24 _ a b rfl rfl rfl (λR _=>Ev.dV (.mk rfl) WB) (by kernel_rfl) rfl ?_;refine SW.slot 47 _ rfl (dA rfl _) ?_;refine SW.gt 25 _ a b rfl rfl rfl (λR _=>Ev.kP (.mk rfl) mz trivial (by rfl)) (by kernel_rfl) rfl ?_;refine SW.slot 48 _ rfl (dA rfl _) ?_;refine SW.gt 26 _ a b rfl rfl rfl (λR _=>Ev.move (.mk rfl)) (by kernel_rfl) rfl ?_;refine SW.slot 49 _ rfl (dA rfl _) ?_;refine SW.gt 27 _ a b rfl rfl rfl (λR _=>Ev.cL (k:=0) (.mk rfl) (.mk rfl) pK uK rfl (by omega)) (by kernel_rfl) rfl ?_;refine SW.slot 50 _ rfl (dA rfl _) ?_;refine SW.gt 28 _ a b rfl rfl rfl (λR _=>Ev.ld1 (.mk rfl) hu mz trivial rfl) (by kernel_rfl) rfl ?_;refine SW.slot 51 _ rfl (dA rfl _) ?_;refine SW.gt 29 _ a b rfl rfl rfl (λR _=>Ev.call (qU wv.1 u.1 [sx,jt] [sx,jt]) Zd (.aY rfl rfl)) (by kernel_rfl) rfl ?_;refine SW.slot 52 _ rfl (dA rfl _) ?_;refine SW.dd 30 rfl (λ_=>Ev.gZ (.mk rfl) rfl (.mk rfl)) ?_;refine SW.gd 31 ?_;refine SW.slot 54 (.bool true) rfl (congrArg Value.bool rfl) ?_;refine SW.gt 32 _ a b rfl rfl rfl (λR _=>Ev.dV (.mk rfl) NG) (by kernel_rfl) rfl ?_;refine SW.slot 55 _ rfl (dA rfl _) ?_;refine SW.gt 33 _ a b rfl rfl rfl (λR _=>Ev.kP (.mk rfl) gG trivial (by rfl)) (by kernel_rfl) rfl ?_;refine SW.slot 56 _ rfl (dA rfl _) ?_;refine SW.gt 34 _ a b rfl rfl rfl (λR _=>Ev.eq0) (by kernel_rfl) rfl ?_;refine SW.slot 57 _ rfl (dA rfl _) ?_;refine SW.dd 35 rfl (λ_=>Ev.gZ (.mk rfl) rfl (.mk rfl)) ?_;refine SW.gd 36 ?_;refine SW.dn ?_;refine g2 ?_;refine St.rV [_] [] ?_;exact be (by decide)
theorem D4 (g:gb)(v1:Value)(aQ:List (List bB))(at_:Int)(w:bB)(Q:aQ.length≤5864062014800)(R:∀s∈aQ,s.length≤8796093022200)(S:bL.wf w):kX prog 4 #[fV g,v1,iv at_,sv w] [fB g,pT bL v1 aQ,tz,u8] (.bool true):=by
 refine kX.body (args:=[fV g,v1,iv at_,sv w]) (ds:=[fB g,pT bL v1 aQ,tz,u8]) 121 func4 rfl ntmps4 rfl (λc v=> ?_);refine St.cast (H':=[aB (fB g),aB (pT bL v1 aQ),aB (tz),aB (u8)]) rfl ?_;refine go ?_;refine St.nu v1 (λvs U=> ?_);refine St.JP vs U (λV=> ?_);refine go ?_;refine St.dK (.mk rfl) rfl (λM=> ?_);refine g6 ?_;refine St.ee (Ev.nF v Hc ag3 (.nil)) ?_;refine g3 ?_;refine St.tG _ rfl rfl ?_;refine g8 ?_;refine St.gf _ rfl rfl (λa=>Ev.move (.mk rfl)) rfl ?_;refine St.gf _ rfl rfl (λa=>Ev.move (.mk rfl)) rfl ?_;refine St.gf _ rfl rfl (λa=>Ev.fj (ai.gv rfl a) pK) rfl ?_;refine St.gf _ rfl rfl (λa=>Ev.geq (ai.gv rfl a) (ai.gv rfl a)) rfl ?_;refine g3 ?_;refine St.cq (λW=> ?_) (λW=> ?_)
 ·refine g7 ?_
  refine St.rV [_] [] ?_;rfl
 ·obtain⟨q,rfl⟩:∃q:Nat,at_=q:=⟨at_.toNat,by omega⟩
  have X:q<aQ.length:=by omega
  refine g4 ?_;refine St.fp rfl (.nil) pK uK De rfl rfl (by simp[Value.cells]) rfl rfl (λo=> ?_);refine St.aM (.slice (some ⟨o,0,none⟩) 0 0) (show _=([]:List aV).length from rfl) (show _=rows bS []from rfl) ?_;refine g10 ?_;refine St.HY bL ?_;refine St.cast (H':=_::_) (show aB (js bL [] [])::_=aB (js bL [] ((fI q w aQ).take (0)))::_ from rfl) ?_;refine St.lH (ι:=Nat×aV×List aV) (λ⟨i,d,ws⟩ T=>(10,iv i)::(9,d.1)::T) (λ⟨i,d,ws⟩=>[row d.1 33 1 (ws).length (rows bS (ws)),aB (js bL ws ((fI q w aQ).take (i))),aB (fB g),aB (tz),aB (u8),aB (pT bL v1 aQ),aB (sl bS v1 vs),aB (js bL vs aQ),aW M (.cells (iu g).toArray 32 (0,0))]) (λ⟨i,d,ws⟩=>i≤aQ.length∧ws.length=i) (λ⟨i,d,ws⟩=>aQ.length-i) ⟨0,⟨(.slice (some ⟨o,0,none⟩) 0 0),rfl⟩,[]⟩ (aD.cons 1 rfl (aD.cons 2 rfl (aD.cons 3 rfl (aD.cons 4 rfl (aD.cons 8 rfl aD.nil))))) ⟨aO _,rfl⟩ ?_;rintro ⟨i,d,ws⟩ ⟨Y,y⟩
  dsimp only at Y y⊢
  refine g9 ?_;refine St.cq (λZ=> ?_) (λZ=> ?_)
  ·obtain⟨s,t⟩:=aE (show i<aQ.length by omega)
   obtain⟨u,hu⟩:=aE (show i<vs.length by omega);refine St.js (vs:=vs) i hu t ?_
   have hs5:=R s (ae t)
   have A:=En (w:=w) (q:=q) t
   have N:=V s (ae t)
   refine g6 ?_;refine St.fp rfl (.nil) mz Jk QZ rfl rfl (by simp[Value.cells]) rfl rfl (λO=> ?_);refine St.aM (.slice (some ⟨O,0,none⟩) 0 0) (show _=(s.take 0).length from rfl) (show _=rows bL (s.take 0)from rfl) ?_;refine g10 ?_;refine St.lH (ι:=Nat×aV) (λ⟨k,wv⟩ T=>(12,iv k)::(11,wv.1)::T) (λ⟨k,wv⟩=>[row wv.1 9 1 (s.take (k)).length (rows bL (s.take (k))),row d.1 33 1 (ws).length (rows bS (ws)),aB (js bL ws ((fI q w aQ).take (i))),aB (sl bL u.1 s),aB (fB g),aB (tz),aB (u8),aB (pT bL v1 aQ),aB (sl bS v1 vs),aB (js bL vs aQ),aW M (.cells (iu g).toArray 32 (0,0))]) (λ⟨k,wv⟩=>k≤s.length) (λ⟨k,wv⟩=>s.length-k) ⟨0,⟨(.slice (some ⟨O,0,none⟩) 0 0),rfl⟩⟩ (aD.cons 1 rfl (aD.cons 2 rfl (aD.cons 3 rfl (aD.cons 4 rfl (aD.cons 8 rfl (aD.cons 9 rfl (aD.cons 10 rfl aD.nil))))))) (aO _) ?_;rintro ⟨k,wv⟩ hk
   dsimp only at hk⊢
   have htk:(s.take k).length=k:=by rw[eR];omega
   refine g12 ?_;refine St.cq (λB=> ?_) (λB=> ?_)
   ·obtain⟨x,hx⟩:=aE (show k<s.length by omega)
    refine g13 ?_;refine St.fp rfl (.ar rfl) mz Jk QZ rfl rfl (by simp[Value.cells]) rfl rfl (λb54=> ?_);refine St.aj (.mk rfl) (.mk rfl) mz Jk QZ by9 (by simp[Value.oneCell',Value.cells]) (by omega) (by omega) rfl rfl rfl rfl (λv55 anU=> ?_);refine St.aM v55 (show _=(s.take (k+1)).length by rw[aX hx,bN];rfl) (show _=rows bL (s.take (k+1)) by rw[aX hx,ax];rfl) ?_;refine St.bZ v55 (λh55 _=> ?_);refine g10 ?_;refine St.aH ⟨k+1,⟨v55,h55⟩⟩ (by dsimp only;omega)
   ·obtain rfl:k=s.length:=by omega
    rw[jl];refine g13 ?_;refine St.cond _ rfl (λh=> ?_) (λh=> ?_)
    focus
     skip
     try simp only[ew]at h
     rw[aC (show i=q by omega)]at A;refine g3 ?_;refine St.fp rfl (.ar rfl) mz Jk QZ rfl rfl (by simp[Value.cells]) rfl rfl (λb61=> ?_);refine St.aj (.mk rfl) (.mk rfl) mz Jk QZ by9 (by simp[Value.oneCell',Value.cells]) (by omega) (by omega) rfl rfl rfl rfl (λb anY=> ?_);refine St.aM b (show _=(s++ [w]).length by rw[bN];rfl) (show _=rows bL (s++ [w]) by rw[ax];rfl) ?_;refine St.bZ b (λh62 _=> ?_);refine St.bR b bL (s++ [w]) rfl rfl (λx hx=>by rcases cD.1 hx with hx|hx;exact N x hx;rw[bO.1 hx];exact S) ?_
     obtain⟨e,j⟩:∃z:aV,z=⟨b,h62⟩:=⟨_,rfl⟩
     rw[show b=e.1 by rw[j]];refine g2 ?_
    rotate_left
    focus
     skip
     try simp only[ew]at h
     rw[aA (show ¬i=q by omega)]at A;refine St.bR wv.1 bL s rfl rfl N ?_
     obtain⟨e,j⟩:∃z,z=wv:=⟨wv,rfl⟩
     rw[←j];refine go ?_
    all_goals
     refine g4 ?_;refine St.fp rfl (.ar rfl) pK uK De rfl rfl (by simp[J.cells_one e.2]) rfl rfl (λb65=> ?_);refine St.aj (.mk rfl) (.mk rfl) pK uK De Vl (by simp[J.cells_one e.2,e.2]) (by omega) (by omega) rfl rfl rfl rfl (λv66 anZ=> ?_);refine St.aM v66 (show _=(ws++ [e]).length by rw[bN];rfl) (show _=rows bS (ws++ [e]) by rw[ax];simp[J.cells_one e.2];rfl) ?_;refine St.bZ v66 (λC _=> ?_);refine St.DF ws e (show ws.length=((fI q w aQ).take (i)).length by rw[eR,oI];omega) ?_;rw[←aX A];refine g10 ?_;refine St.aH ⟨i+1,⟨v66,C⟩,ws++ [e]⟩ ⟨by omega,by dsimp only;rw[bN,y];rfl⟩
  ·obtain rfl:i=aQ.length:=by omega
   rw[show((fI q w aQ).take (aQ.length))=(fI q w aQ)from fF (Nat.le_of_eq (oI w aQ q))];refine St.bR d.1 bS ws rfl rfl (λ_ _=>trivial) ?_;refine St.OO (Rr:=bL) (l:=(fI q w aQ)) d.1 (by rw[oI];exact y) ?_;refine g8 ?_;refine St.slot 68 (fV g) rfl rfl ?_;refine go ?_;refine St.nb v (ua g v1 aQ) Vq (.aY rfl rfl) rfl ?_;rintro v70 _ ⟨av,rfl,rfl⟩;refine St.ao ?_;refine St.nu av.1 (λas_ am7=> ?_);refine g3 ?_;refine St.slot 72 (fv (fN (ca g) aQ).2) rfl rfl ?_;refine St.al (λML=> ?_);refine g7 ?_;refine St.slot 74 (fV g) rfl rfl ?_;refine go ?_;refine St.nb v (ua g d.1 (fI q w aQ)) Vq (.aY rfl rfl) rfl ?_;rintro v76 _ ⟨bv,rfl,rfl⟩;refine St.ao ?_;refine St.nu bv.1 (λbs D=> ?_);refine g3 ?_;refine St.slot 78 (fv (fN (ca g) (fI q w aQ)).2) rfl rfl ?_;refine St.al (λb16=> ?_);refine g11 ?_;refine St.gf _ rfl rfl (λa=>Ev.dV (.mk rfl) Ct) rfl ?_;refine St.gf _ rfl rfl (λa=>Ev.kP (ai.gv rfl a) gG trivial (by rfl)) rfl ?_;refine St.gf _ rfl rfl (λa=>Ev.neq (ai.gv rfl a) (.mk rfl)) rfl ?_;refine g3 ?_;refine St.cq (λE=> ?_) (λE=> ?_)
   ·refine g7 ?_
    refine St.rV [_] [] ?_;rfl
   ·obtain⟨F,G⟩:=O6 (w:=w) X (show(fN (ca g) aQ).2.1=0 by omega) (show(fN (ca g) (fI q w aQ)).2.1=0 by omega)
    have hbf:=NA (ca g) (fI q w aQ)
    refine g4 ?_;refine St.fp rfl (.nil) pK uK De rfl rfl (by simp[Value.cells]) rfl rfl (λp=> ?_);refine St.aM (.slice (some ⟨p,0,none⟩) 0 0) (show _=([]:List aV).length from rfl) (show _=rows bS []from rfl) ?_;refine g10 ?_;refine St.HY bL ?_;refine St.cast (H':=_::_) (show aB (js bL [] [])::_=aB (js bL [] (((fN (ca g) (fI q w aQ)).1.take (0)).filter λc=>decide (c.getD q []≠w)))::_ from rfl) ?_;refine St.lH (ι:=Nat×aV×List aV) (λ⟨m,lv,ls⟩ T=>(18,iv m)::(17,lv.1)::T) (λ⟨m,lv,ls⟩=>[row lv.1 33 1 (ls).length (rows bS (ls)),aB (js bL ls (((fN (ca g) (fI q w aQ)).1.take (m)).filter λc=>decide (c.getD q []≠w))),aB (pT bL av.1 (fN (ca g) aQ).1),aB (sl bS bv.1 bs),aB (js bL bs (fN (ca g) (fI q w aQ)).1),aB (sl bS v1 vs)]) (λ⟨m,lv,ls⟩=>m≤bs.length∧ls.length=(((fN (ca g) (fI q w aQ)).1.take (m)).filter λc=>decide (c.getD q []≠w)).length) (λ⟨m,lv,ls⟩=>bs.length-m) ⟨0,⟨(.slice (some ⟨p,0,none⟩) 0 0),rfl⟩,[]⟩ (aD.cons 1 rfl (aD.cons 2 rfl (aD.cons 3 rfl (aD.cons 13 rfl (aD.cons 15 rfl aD.nil))))) ⟨aO _,rfl⟩ ?_;rintro ⟨m,lv,ls⟩ ⟨hm,r⟩
    dsimp only at hm r⊢
    have anF:(((fN (ca g) (fI q w aQ)).1.take (m)).filter λc=>decide (c.getD q []≠w)).length≤60:=dY (G7 _ _) (by rw[eR];omega)
    refine g9 ?_;refine St.cq (λH=> ?_) (λH=> ?_)
    ·obtain⟨c2,I⟩:=aE (show m<(fN (ca g) (fI q w aQ)).1.length by omega)
     obtain⟨f,Np⟩:=aE (show m<bs.length by omega);refine St.js (vs:=bs) m Np I ?_
     have am8:=G c2 (ae I)
     obtain⟨x,hx⟩:=aE (show q<c2.length by omega)
     have P:c2.getD q []=x:=by rw[aw,hx];rfl
     have n:(((fN (ca g) (fI q w aQ)).1.take (m+1)).filter λc=>decide (c.getD q []≠w))=(((fN (ca g) (fI q w aQ)).1.take (m)).filter λc=>decide (c.getD q []≠w))++if decide (c2.getD q []≠w)=true then [c2]else []:=by rw[aX I,List.filter_append,List.filter_cons,List.filter_nil]
     refine g17 ?_;refine St.cq (λK=> ?_) (λK=> ?_)
     ·exfalso
      omega
     ·refine g15 ?_
      refine St.cond _ rfl (λL=> ?_) (λL=> ?_)
      ·skip
       rw[aC (dt (show c2.getD q []≠w by rw[P];simpa using L))]at n;refine g6 ?_;refine St.fp rfl (.ar rfl) pK uK De rfl rfl (by simp[J.cells_one f.2]) rfl rfl (λYr=> ?_);refine St.aj (.mk rfl) (.mk rfl) pK uK De Vl (by simp[J.cells_one f.2,f.2]) (by omega) (by omega) rfl rfl rfl rfl (λv117 amJ=> ?_);refine St.aM v117 (show _=(ls++ [f]).length by rw[bN];rfl) (show _=rows bS (ls++ [f]) by rw[ax];simp[J.cells_one f.2];rfl) ?_;refine St.bZ v117 (λNQ _=> ?_);refine St.DF ls f r ?_;rw[←n];refine g10 ?_;refine St.aH ⟨m+1,⟨v117,NQ⟩,ls++ [f]⟩ ⟨by omega,by dsimp only;rw[n,bN,bN,r];rfl⟩
      ·skip
       rw[aA (by rw[P];simpa using L),gq]at n;refine St.cast (H':=_) (by rw[←n]) ?_;refine g9 ?_;refine St.aH ⟨m+1,lv,ls⟩ ⟨by omega,by dsimp only;rw[n];exact r⟩
    ·obtain rfl:m=bs.length:=by omega
     have Km:(((fN (ca g) (fI q w aQ)).1.take (bs.length)).filter λc=>decide (c.getD q []≠w))=(fN (ca g) aQ).1:=by rw[D,jl];exact F
     refine St.bR lv.1 bS ls rfl rfl (λ_ _=>trivial) ?_;refine St.OO (Rr:=bL) lv.1 r ?_;rw[Km];refine g9 ?_;refine St.ee (Ev.call (yE lv.1 av.1 (fN (ca g) aQ).1 (fN (ca g) aQ).1) ag4 (.aY rfl rfl)) ?_;refine g4 ?_;refine St.rV [_] [] ?_;exact be (by simp)
end Go.Proofs.YtblifkgpebebmaaGreatDoor
