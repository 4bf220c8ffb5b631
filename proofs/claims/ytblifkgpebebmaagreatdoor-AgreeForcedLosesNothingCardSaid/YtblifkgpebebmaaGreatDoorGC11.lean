/-
  Laws of walks through programs, and facts on grammars, trees and queries.
  Conditions: none.
-/
import Derived.Test.YtblifkgpebebmaaGreatDoorGC10
set_option maxHeartbeats 4000000
set_option maxRecDepth 20000
set_option linter.unusedVariables false
set_option linter.unusedSimpArgs false
namespace Go.Proofs.YtblifkgpebebmaaGreatDoor
open Go Go.J Tryz
theorem Iw {n:Nat}{F:Fr}{c:Ctx}{H:List ak}{T:Act→World→Prop}{α:Type}(f:α→du)(xs:List α)(ds:List du)(a:ds=xs.map f)[hd:kX ds H](k:St n F (Mm c (aB (aF f xs)::H)) T):St n F (Mm c H) T:=
 St.eZ (aF f xs) ds (λρ h x hx=>h _ (by rw[a];exact eP hx)) k
theorem all_cons {α:Type}{p:α→Prop}{x:α}{l:List α}(h:p x)(k:∀y∈l,p y):∀y∈x::l,p y:=λy hy=>by
 rcases cJ.1 hy with rfl|hy
 ·exact h
 ·exact k y hy
theorem all_nil {α:Type}{p:α→Prop}:∀y∈([]:List α),p y:=λy hy=>by cases hy
def sU:List jI:=[(bC (an (an (.mk [101] []) (.mk [116] [])) (.mk [116] [])) (bC (an (.mk [101] []) (.mk [116] [])) (aK (aY 1) (aY 0)))),(bC (an (an (.mk [101] []) (.mk [116] [])) (an (an (.mk [101] []) (.mk [116] [])) (.mk [116] []))) (bC (an (.mk [101] []) (.mk [116] [])) (aK (aY 1) (aY 0)))),(bC (an (.mk [101] []) (.mk [116] [])) (aY 0)),(bC (an (.mk [101] []) (an (.mk [101] []) (.mk [116] []))) (bC (an (an (.mk [101] []) (.mk [116] [])) (.mk [116] [])) (bC (.mk [101] []) (aK (aY 1) (bC (.mk [101] []) (aK (aK (aY 3) (aY 1)) (aY 0))))))),(bC (an (.mk [116] []) (.mk [116] [])) (bC (an (.mk [101] []) (.mk [116] [])) (bC (.mk [101] []) (aK (aY 2) (aK (aY 1) (aY 0)))))),(bC (an (an (.mk [101] []) (.mk [116] [])) (.mk [116] [])) (bC (an (.mk [116] []) (an (.mk [116] []) (.mk [116] []))) (bC (an (an (.mk [101] []) (.mk [116] [])) (.mk [116] [])) (bC (an (.mk [101] []) (.mk [116] [])) (aK (aK (aY 2) (aK (aY 3) (aY 0))) (aK (aY 1) (aY 0)))))))]
theorem Ao:dz prog 57 #[.bool false] ([].map aB) (λv H'=>H'=[aB (mB sU v)]):=by
 refine dz.body (args:=[.bool false]) 128 func57 rfl ntmps57 rfl (λc=> ?_);refine St.cast (H':=[]) rfl ?_;refine g7 ?_;refine St.ag (mG [101] (by decide)) Ke (.au rfl) rfl ?_;rintro v10 _ rfl;refine St.ao ?_;refine St.db (.mk [101] []) v10 (λg X=> ?_);obtain⟨Y,Z,alB⟩:=X;subst Y;refine St.ag (mG [116] (by decide)) Ke (.au rfl) rfl ?_;rintro v11 _ rfl;refine St.ao ?_;refine St.db (.mk [116] []) v11 (λd Sc=> ?_);obtain⟨Wu,alH,alI⟩:=Sc;subst Wu;refine St.al (λb3=> ?_);refine St.al (λb4=> ?_);refine g8 ?_;refine St.ag (fI (aU g) (aU d) (.mk [101] []) (.mk [116] [])) qG (.aX rfl rfl) rfl ?_;rintro r _ rfl;refine St.ao ?_;refine St.db (an (.mk [101] []) (.mk [116] [])) r (λb s=> ?_);obtain⟨Ws,alC,alD⟩:=s;subst Ws;refine St.al (λb5=> ?_);refine g7 ?_;refine St.ag (fI (aU b) (aU d) (an (.mk [101] []) (.mk [116] [])) (.mk [116] [])) qG (.aX rfl rfl) rfl ?_;rintro v17 _ rfl;refine St.ao ?_;refine St.db (an (an (.mk [101] []) (.mk [116] [])) (.mk [116] [])) v17 (λf t=> ?_);obtain⟨w,aoA,aoB⟩:=t;subst w;refine St.al (λb6=> ?_);refine g7 ?_;refine St.ag (fI (aU g) (aU b) (.mk [101] []) (an (.mk [101] []) (.mk [116] []))) qG (.aX rfl rfl) rfl ?_;rintro v20 _ rfl;refine St.ao ?_;refine St.db (an (.mk [101] []) (an (.mk [101] []) (.mk [116] []))) v20 (λp hxr=> ?_);obtain⟨Wt,alF,alG⟩:=hxr;subst Wt;refine St.al (λb7=> ?_);refine g7 ?_;refine St.ag (fI (aU b) (aU f) (an (.mk [101] []) (.mk [116] [])) (an (an (.mk [101] []) (.mk [116] [])) (.mk [116] []))) qG (.aX rfl rfl) rfl ?_;rintro v23 _ rfl;refine St.ao ?_;refine St.db (an (an (.mk [101] []) (.mk [116] [])) (an (an (.mk [101] []) (.mk [116] [])) (.mk [116] []))) v23 (λq Sa=> ?_);obtain⟨x,an7,an8⟩:=Sa;subst x;refine St.al (λb8=> ?_);refine g4 ?_;refine St.U9 67 24 [] (⟨24,[],λu=>cU u ((aU f))⟩::⟨25,[],λu=>cU u ((aU b))⟩::⟨26,[],λu=>isTerm (aY 1) u⟩::⟨27,[],λu=>isTerm (aY 0) u⟩::⟨28,[2,3],λu=>isTerm (aK (aY 1) (aY 0)) u⟩::⟨29,[1,4],λu=>isTerm (bC (an (.mk [101] []) (.mk [116] [])) (aK (aY 1) (aY 0))) u⟩::⟨30,[0,5],λu=>isTerm (bC (an (an (.mk [101] []) (.mk [116] [])) (.mk [116] [])) (bC (an (.mk [101] []) (.mk [116] [])) (aK (aY 1) (aY 0)))) u⟩::⟨31,[],λu=>cU u ((aU q))⟩::⟨32,[],λu=>cU u ((aU b))⟩::⟨33,[],λu=>isTerm (aY 1) u⟩::⟨34,[],λu=>isTerm (aY 0) u⟩::⟨35,[9,10],λu=>isTerm (aK (aY 1) (aY 0)) u⟩::⟨36,[8,11],λu=>isTerm (bC (an (.mk [101] []) (.mk [116] [])) (aK (aY 1) (aY 0))) u⟩::⟨37,[7,12],λu=>isTerm (bC (an (an (.mk [101] []) (.mk [116] [])) (an (an (.mk [101] []) (.mk [116] [])) (.mk [116] []))) (bC (an (.mk [101] []) (.mk [116] [])) (aK (aY 1) (aY 0)))) u⟩::⟨38,[],λu=>cU u ((aU b))⟩::⟨39,[],λu=>isTerm (aY 0) u⟩::⟨40,[14,15],λu=>isTerm (bC (an (.mk [101] []) (.mk [116] [])) (aY 0)) u⟩::⟨41,[],λu=>cU u ((aU p))⟩::⟨42,[],λu=>cU u ((aU f))⟩::⟨43,[],λu=>cU u ((aU g))⟩::⟨44,[],λu=>isTerm (aY 1) u⟩::⟨45,[],λu=>cU u ((aU g))⟩::⟨46,[],λu=>isTerm (aY 3) u⟩::⟨47,[],λu=>isTerm (aY 1) u⟩::⟨48,[22,23],λu=>isTerm (aK (aY 3) (aY 1)) u⟩::⟨49,[],λu=>isTerm (aY 0) u⟩::⟨50,[24,25],λu=>isTerm (aK (aK (aY 3) (aY 1)) (aY 0)) u⟩::⟨51,[21,26],λu=>isTerm (bC (.mk [101] []) (aK (aK (aY 3) (aY 1)) (aY 0))) u⟩::⟨52,[20,27],λu=>isTerm (aK (aY 1) (bC (.mk [101] []) (aK (aK (aY 3) (aY 1)) (aY 0)))) u⟩::⟨53,[19,28],λu=>isTerm (bC (.mk [101] []) (aK (aY 1) (bC (.mk [101] []) (aK (aK (aY 3) (aY 1)) (aY 0))))) u⟩::⟨54,[18,29],λu=>isTerm (bC (an (an (.mk [101] []) (.mk [116] [])) (.mk [116] [])) (bC (.mk [101] []) (aK (aY 1) (bC (.mk [101] []) (aK (aK (aY 3) (aY 1)) (aY 0)))))) u⟩::⟨55,[17,30],λu=>isTerm (bC (an (.mk [101] []) (an (.mk [101] []) (.mk [116] []))) (bC (an (an (.mk [101] []) (.mk [116] [])) (.mk [116] [])) (bC (.mk [101] []) (aK (aY 1) (bC (.mk [101] []) (aK (aK (aY 3) (aY 1)) (aY 0))))))) u⟩::⟨56,[],λu=>cU u ((aU d))⟩::⟨57,[],λu=>cU u ((aU d))⟩::⟨58,[32,33],λu=>db (an (.mk [116] []) (.mk [116] [])) u⟩::⟨59,[],λu=>cU u ((aU b))⟩::⟨60,[],λu=>cU u ((aU g))⟩::⟨61,[],λu=>isTerm (aY 2) u⟩::⟨62,[],λu=>isTerm (aY 1) u⟩::⟨63,[],λu=>isTerm (aY 0) u⟩::⟨64,[38,39],λu=>isTerm (aK (aY 1) (aY 0)) u⟩::⟨65,[37,40],λu=>isTerm (aK (aY 2) (aK (aY 1) (aY 0))) u⟩::⟨66,[36,41],λu=>isTerm (bC (.mk [101] []) (aK (aY 2) (aK (aY 1) (aY 0)))) u⟩::⟨67,[35,42],λu=>isTerm (bC (an (.mk [101] []) (.mk [116] [])) (bC (.mk [101] []) (aK (aY 2) (aK (aY 1) (aY 0))))) u⟩::⟨68,[34,43],λu=>isTerm (bC (an (.mk [116] []) (.mk [116] [])) (bC (an (.mk [101] []) (.mk [116] [])) (bC (.mk [101] []) (aK (aY 2) (aK (aY 1) (aY 0)))))) u⟩::⟨69,[],λu=>cU u ((aU f))⟩::⟨70,[],λu=>cU u ((aU d))⟩::⟨71,[],λu=>cU u ((aU d))⟩::⟨72,[],λu=>cU u ((aU d))⟩::⟨73,[47,48],λu=>db (an (.mk [116] []) (.mk [116] [])) u⟩::⟨74,[46,49],λu=>db (an (.mk [116] []) (an (.mk [116] []) (.mk [116] []))) u⟩::⟨75,[],λu=>cU u ((aU f))⟩::⟨76,[],λu=>cU u ((aU b))⟩::⟨77,[],λu=>isTerm (aY 2) u⟩::⟨78,[],λu=>isTerm (aY 3) u⟩::⟨79,[],λu=>isTerm (aY 0) u⟩::⟨80,[54,55],λu=>isTerm (aK (aY 3) (aY 0)) u⟩::⟨81,[53,56],λu=>isTerm (aK (aY 2) (aK (aY 3) (aY 0))) u⟩::⟨82,[],λu=>isTerm (aY 1) u⟩::⟨83,[],λu=>isTerm (aY 0) u⟩::⟨84,[58,59],λu=>isTerm (aK (aY 1) (aY 0)) u⟩::⟨85,[57,60],λu=>isTerm (aK (aK (aY 2) (aK (aY 3) (aY 0))) (aK (aY 1) (aY 0))) u⟩::⟨86,[52,61],λu=>isTerm (bC (an (.mk [101] []) (.mk [116] [])) (aK (aK (aY 2) (aK (aY 3) (aY 0))) (aK (aY 1) (aY 0)))) u⟩::⟨87,[51,62],λu=>isTerm (bC (an (an (.mk [101] []) (.mk [116] [])) (.mk [116] [])) (bC (an (.mk [101] []) (.mk [116] [])) (aK (aK (aY 2) (aK (aY 3) (aY 0))) (aK (aY 1) (aY 0))))) u⟩::⟨88,[50,63],λu=>isTerm (bC (an (.mk [116] []) (an (.mk [116] []) (.mk [116] []))) (bC (an (an (.mk [101] []) (.mk [116] [])) (.mk [116] [])) (bC (an (.mk [101] []) (.mk [116] [])) (aK (aK (aY 2) (aK (aY 3) (aY 0))) (aK (aY 1) (aY 0)))))) u⟩::⟨89,[45,64],λu=>isTerm (bC (an (an (.mk [101] []) (.mk [116] [])) (.mk [116] [])) (bC (an (.mk [116] []) (an (.mk [116] []) (.mk [116] []))) (bC (an (an (.mk [101] []) (.mk [116] [])) (.mk [116] [])) (bC (an (.mk [101] []) (.mk [116] [])) (aK (aK (aY 2) (aK (aY 3) (aY 0))) (aK (aY 1) (aY 0))))))) u⟩::⟨90,[6,13,16,31,44,65],λu=>mB sU u⟩::[]) ((24,[])::(25,[])::(26,[])::(27,[])::(28,[2,3])::(29,[1,4])::(30,[0,5])::(31,[])::(32,[])::(33,[])::(34,[])::(35,[9,10])::(36,[8,11])::(37,[7,12])::(38,[])::(39,[])::(40,[14,15])::(41,[])::(42,[])::(43,[])::(44,[])::(45,[])::(46,[])::(47,[])::(48,[22,23])::(49,[])::(50,[24,25])::(51,[21,26])::(52,[20,27])::(53,[19,28])::(54,[18,29])::(55,[17,30])::(56,[])::(57,[])::(58,[32,33])::(59,[])::(60,[])::(61,[])::(62,[])::(63,[])::(64,[38,39])::(65,[37,40])::(66,[36,41])::(67,[35,42])::(68,[34,43])::(69,[])::(70,[])::(71,[])::(72,[])::(73,[47,48])::(74,[46,49])::(75,[])::(76,[])::(77,[])::(78,[])::(79,[])::(80,[54,55])::(81,[53,56])::(82,[])::(83,[])::(84,[58,59])::(85,[57,60])::(86,[52,61])::(87,[51,62])::(88,[50,63])::(89,[45,64])::(90,[6,13,16,31,44,65])::[]) [66] rfl rfl mixed (by kernel_rfl) (by kernel_rfl) (by rfl) (λe=>[(90,e 66)]) (λe=>[aB (mB sU (e 66))]) (λ_=>rfl) (λ_=>rfl) ?_ (λe=> ?_)
 ·refine ab.c0 (λc e a=> ?_) ?_
  ·refine St.aK ?_
   refine go ?_;refine St.fact (cU ((aU f)) ((aU f))) (λ_ _ _=>rfl) ?_;exact St.bg _
  refine ab.c0 (λc e a=> ?_) ?_
  ·refine St.aK ?_
   refine go ?_;refine St.fact (cU ((aU b)) ((aU b))) (λ_ _ _=>rfl) ?_;exact St.bg _
  refine ab.c0 (λc e a=> ?_) ?_
  ·refine St.aK ?_
   refine St.ag (cg 1 (by unfold aZ;decide)) mS (.au rfl) rfl ?_;rintro v26 _ rfl;refine St.ao ?_;exact St.bg _
  refine ab.c0 (λc e a=> ?_) ?_
  ·refine St.aK ?_
   refine St.ag (cg 0 (by unfold aZ;decide)) mS (.au rfl) rfl ?_;rintro v27 _ rfl;refine St.ao ?_;exact St.bg _
  refine ab.cc (λe=>[(26,e 2),(27,e 3)]) (λe=>[aB (isTerm (aY 1) (e 2)),aB (isTerm (aY 0) (e 3))]) (λc e a=> ?_) ?_
  ·refine St.dQ ?_
   refine St.ag (ef (e 2) (e 3) (aY 1) (aY 0)) oy (.aX rfl rfl) rfl ?_;rintro v28 _ rfl;refine St.ao ?_;exact St.bg _
  refine ab.cc (λe=>[(25,e 1),(28,e 4)]) (λe=>[aB (cU (e 1) ((aU b))),aB (isTerm (aK (aY 1) (aY 0)) (e 4))]) (λc e a=> ?_) ?_
  ·refine St.dQ ?_
   refine St.bX (P:=prog) 25 (e 1) ((aU b)) rfl ?_;refine St.ag (eA (aU b) (e 4) (an (.mk [101] []) (.mk [116] [])) (aK (aY 1) (aY 0))) mR (.aX rfl rfl) rfl ?_;rintro v29 _ rfl;refine St.ao ?_;exact St.bg _
  refine ab.cc (λe=>[(24,e 0),(29,e 5)]) (λe=>[aB (cU (e 0) ((aU f))),aB (isTerm (bC (an (.mk [101] []) (.mk [116] [])) (aK (aY 1) (aY 0))) (e 5))]) (λc e a=> ?_) ?_
  ·refine St.dQ ?_
   refine St.bX (P:=prog) 24 (e 0) ((aU f)) rfl ?_;refine St.ag (eA (aU f) (e 5) (an (an (.mk [101] []) (.mk [116] [])) (.mk [116] [])) (bC (an (.mk [101] []) (.mk [116] [])) (aK (aY 1) (aY 0)))) mR (.aX rfl rfl) rfl ?_;rintro v30 _ rfl;refine St.ao ?_;exact St.bg _
  refine ab.c0 (λc e a=> ?_) ?_
  ·refine St.aK ?_
   refine go ?_;refine St.fact (cU ((aU q)) ((aU q))) (λ_ _ _=>rfl) ?_;exact St.bg _
  refine ab.c0 (λc e a=> ?_) ?_
  ·refine St.aK ?_
   refine go ?_;refine St.fact (cU ((aU b)) ((aU b))) (λ_ _ _=>rfl) ?_;exact St.bg _
  refine ab.c0 (λc e a=> ?_) ?_
  ·refine St.aK ?_
   refine St.ag (cg 1 (by unfold aZ;decide)) mS (.au rfl) rfl ?_;rintro v33 _ rfl;refine St.ao ?_;exact St.bg _
  refine ab.c0 (λc e a=> ?_) ?_
  ·refine St.aK ?_
   refine St.ag (cg 0 (by unfold aZ;decide)) mS (.au rfl) rfl ?_;rintro v34 _ rfl;refine St.ao ?_;exact St.bg _
  refine ab.cc (λe=>[(33,e 9),(34,e 10)]) (λe=>[aB (isTerm (aY 1) (e 9)),aB (isTerm (aY 0) (e 10))]) (λc e a=> ?_) ?_
  ·refine St.dQ ?_
   refine St.ag (ef (e 9) (e 10) (aY 1) (aY 0)) oy (.aX rfl rfl) rfl ?_;rintro v35 _ rfl;refine St.ao ?_;exact St.bg _
  refine ab.cc (λe=>[(32,e 8),(35,e 11)]) (λe=>[aB (cU (e 8) ((aU b))),aB (isTerm (aK (aY 1) (aY 0)) (e 11))]) (λc e a=> ?_) ?_
  ·refine St.dQ ?_
   refine St.bX (P:=prog) 32 (e 8) ((aU b)) rfl ?_;refine St.ag (eA (aU b) (e 11) (an (.mk [101] []) (.mk [116] [])) (aK (aY 1) (aY 0))) mR (.aX rfl rfl) rfl ?_;rintro v36 _ rfl;refine St.ao ?_;exact St.bg _
  refine ab.cc (λe=>[(31,e 7),(36,e 12)]) (λe=>[aB (cU (e 7) ((aU q))),aB (isTerm (bC (an (.mk [101] []) (.mk [116] [])) (aK (aY 1) (aY 0))) (e 12))]) (λc e a=> ?_) ?_
  ·refine St.dQ ?_
   refine St.bX (P:=prog) 31 (e 7) ((aU q)) rfl ?_;refine St.ag (eA (aU q) (e 12) (an (an (.mk [101] []) (.mk [116] [])) (an (an (.mk [101] []) (.mk [116] [])) (.mk [116] []))) (bC (an (.mk [101] []) (.mk [116] [])) (aK (aY 1) (aY 0)))) mR (.aX rfl rfl) rfl ?_;rintro v37 _ rfl;refine St.ao ?_;exact St.bg _
  refine ab.c0 (λc e a=> ?_) ?_
  ·refine St.aK ?_
   refine go ?_;refine St.fact (cU ((aU b)) ((aU b))) (λ_ _ _=>rfl) ?_;exact St.bg _
  refine ab.c0 (λc e a=> ?_) ?_
  ·refine St.aK ?_
   refine St.ag (cg 0 (by unfold aZ;decide)) mS (.au rfl) rfl ?_;rintro v39 _ rfl;refine St.ao ?_;exact St.bg _
  refine ab.cc (λe=>[(38,e 14),(39,e 15)]) (λe=>[aB (cU (e 14) ((aU b))),aB (isTerm (aY 0) (e 15))]) (λc e a=> ?_) ?_
  ·refine St.dQ ?_
   refine St.bX (P:=prog) 38 (e 14) ((aU b)) rfl ?_;refine St.ag (eA (aU b) (e 15) (an (.mk [101] []) (.mk [116] [])) (aY 0)) mR (.aX rfl rfl) rfl ?_;rintro v40 _ rfl;refine St.ao ?_;exact St.bg _
  refine ab.c0 (λc e a=> ?_) ?_
  ·refine St.aK ?_
   refine go ?_;refine St.fact (cU ((aU p)) ((aU p))) (λ_ _ _=>rfl) ?_;exact St.bg _
  refine ab.c0 (λc e a=> ?_) ?_
  ·refine St.aK ?_
   refine go ?_;refine St.fact (cU ((aU f)) ((aU f))) (λ_ _ _=>rfl) ?_;exact St.bg _
  refine ab.c0 (λc e a=> ?_) ?_
  ·refine St.aK ?_
   refine go ?_;refine St.fact (cU ((aU g)) ((aU g))) (λ_ _ _=>rfl) ?_;exact St.bg _
  refine ab.c0 (λc e a=> ?_) ?_
  ·refine St.aK ?_
   refine St.ag (cg 1 (by unfold aZ;decide)) mS (.au rfl) rfl ?_;rintro v44 _ rfl;refine St.ao ?_;exact St.bg _
  refine ab.c0 (λc e a=> ?_) ?_
  ·refine St.aK ?_
   refine go ?_;refine St.fact (cU ((aU g)) ((aU g))) (λ_ _ _=>rfl) ?_;exact St.bg _
  refine ab.c0 (λc e a=> ?_) ?_
  ·refine St.aK ?_
   refine St.ag (cg 3 (by unfold aZ;decide)) mS (.au rfl) rfl ?_;rintro v46 _ rfl;refine St.ao ?_;exact St.bg _
  refine ab.c0 (λc e a=> ?_) ?_
  ·refine St.aK ?_
   refine St.ag (cg 1 (by unfold aZ;decide)) mS (.au rfl) rfl ?_;rintro v47 _ rfl;refine St.ao ?_;exact St.bg _
  refine ab.cc (λe=>[(46,e 22),(47,e 23)]) (λe=>[aB (isTerm (aY 3) (e 22)),aB (isTerm (aY 1) (e 23))]) (λc e a=> ?_) ?_
  ·refine St.dQ ?_
   refine St.ag (ef (e 22) (e 23) (aY 3) (aY 1)) oy (.aX rfl rfl) rfl ?_;rintro v48 _ rfl;refine St.ao ?_;exact St.bg _
  refine ab.c0 (λc e a=> ?_) ?_
  ·refine St.aK ?_
   refine St.ag (cg 0 (by unfold aZ;decide)) mS (.au rfl) rfl ?_;rintro v49 _ rfl;refine St.ao ?_;exact St.bg _
  refine ab.cc (λe=>[(48,e 24),(49,e 25)]) (λe=>[aB (isTerm (aK (aY 3) (aY 1)) (e 24)),aB (isTerm (aY 0) (e 25))]) (λc e a=> ?_) ?_
  ·refine St.dQ ?_
   refine St.ag (ef (e 24) (e 25) (aK (aY 3) (aY 1)) (aY 0)) oy (.aX rfl rfl) rfl ?_;rintro v50 _ rfl;refine St.ao ?_;exact St.bg _
  refine ab.cc (λe=>[(45,e 21),(50,e 26)]) (λe=>[aB (cU (e 21) ((aU g))),aB (isTerm (aK (aK (aY 3) (aY 1)) (aY 0)) (e 26))]) (λc e a=> ?_) ?_
  ·refine St.dQ ?_
   refine St.bX (P:=prog) 45 (e 21) ((aU g)) rfl ?_;refine St.ag (eA (aU g) (e 26) (.mk [101] []) (aK (aK (aY 3) (aY 1)) (aY 0))) mR (.aX rfl rfl) rfl ?_;rintro v51 _ rfl;refine St.ao ?_;exact St.bg _
  refine ab.cc (λe=>[(44,e 20),(51,e 27)]) (λe=>[aB (isTerm (aY 1) (e 20)),aB (isTerm (bC (.mk [101] []) (aK (aK (aY 3) (aY 1)) (aY 0))) (e 27))]) (λc e a=> ?_) ?_
  ·refine St.dQ ?_
   refine St.ag (ef (e 20) (e 27) (aY 1) (bC (.mk [101] []) (aK (aK (aY 3) (aY 1)) (aY 0)))) oy (.aX rfl rfl) rfl ?_;rintro v52 _ rfl;refine St.ao ?_;exact St.bg _
  refine ab.cc (λe=>[(43,e 19),(52,e 28)]) (λe=>[aB (cU (e 19) ((aU g))),aB (isTerm (aK (aY 1) (bC (.mk [101] []) (aK (aK (aY 3) (aY 1)) (aY 0)))) (e 28))]) (λc e a=> ?_) ?_
  ·refine St.dQ ?_
   refine St.bX (P:=prog) 43 (e 19) ((aU g)) rfl ?_;refine St.ag (eA (aU g) (e 28) (.mk [101] []) (aK (aY 1) (bC (.mk [101] []) (aK (aK (aY 3) (aY 1)) (aY 0))))) mR (.aX rfl rfl) rfl ?_;rintro v53 _ rfl;refine St.ao ?_;exact St.bg _
  refine ab.cc (λe=>[(42,e 18),(53,e 29)]) (λe=>[aB (cU (e 18) ((aU f))),aB (isTerm (bC (.mk [101] []) (aK (aY 1) (bC (.mk [101] []) (aK (aK (aY 3) (aY 1)) (aY 0))))) (e 29))]) (λc e a=> ?_) ?_
  ·refine St.dQ ?_
   refine St.bX (P:=prog) 42 (e 18) ((aU f)) rfl ?_;refine St.ag (eA (aU f) (e 29) (an (an (.mk [101] []) (.mk [116] [])) (.mk [116] [])) (bC (.mk [101] []) (aK (aY 1) (bC (.mk [101] []) (aK (aK (aY 3) (aY 1)) (aY 0)))))) mR (.aX rfl rfl) rfl ?_;rintro v54 _ rfl;refine St.ao ?_;exact St.bg _
  refine ab.cc (λe=>[(41,e 17),(54,e 30)]) (λe=>[aB (cU (e 17) ((aU p))),aB (isTerm (bC (an (an (.mk [101] []) (.mk [116] [])) (.mk [116] [])) (bC (.mk [101] []) (aK (aY 1) (bC (.mk [101] []) (aK (aK (aY 3) (aY 1)) (aY 0)))))) (e 30))]) (λc e a=> ?_) ?_
  ·refine St.dQ ?_
   refine St.bX (P:=prog) 41 (e 17) ((aU p)) rfl ?_;refine St.ag (eA (aU p) (e 30) (an (.mk [101] []) (an (.mk [101] []) (.mk [116] []))) (bC (an (an (.mk [101] []) (.mk [116] [])) (.mk [116] [])) (bC (.mk [101] []) (aK (aY 1) (bC (.mk [101] []) (aK (aK (aY 3) (aY 1)) (aY 0))))))) mR (.aX rfl rfl) rfl ?_;rintro v55 _ rfl;refine St.ao ?_;exact St.bg _
  refine ab.c0 (λc e a=> ?_) ?_
  ·refine St.aK ?_
   refine go ?_;refine St.fact (cU ((aU d)) ((aU d))) (λ_ _ _=>rfl) ?_;exact St.bg _
  refine ab.c0 (λc e a=> ?_) ?_
  ·refine St.aK ?_
   refine go ?_;refine St.fact (cU ((aU d)) ((aU d))) (λ_ _ _=>rfl) ?_;exact St.bg _
  refine ab.cc (λe=>[(56,e 32),(57,e 33)]) (λe=>[aB (cU (e 32) ((aU d))),aB (cU (e 33) ((aU d)))]) (λc e a=> ?_) ?_
  ·refine St.dQ ?_
   refine St.bX (P:=prog) 56 (e 32) ((aU d)) rfl ?_;refine St.bX (P:=prog) 57 (e 33) ((aU d)) rfl ?_;refine St.ag (fI (aU d) (aU d) (.mk [116] []) (.mk [116] [])) qG (.aX rfl rfl) rfl ?_;rintro v58 _ rfl;refine St.ao ?_;exact St.bg _
  refine ab.c0 (λc e a=> ?_) ?_
  ·refine St.aK ?_
   refine go ?_;refine St.fact (cU ((aU b)) ((aU b))) (λ_ _ _=>rfl) ?_;exact St.bg _
  refine ab.c0 (λc e a=> ?_) ?_
  ·refine St.aK ?_
   refine go ?_;refine St.fact (cU ((aU g)) ((aU g))) (λ_ _ _=>rfl) ?_;exact St.bg _
  refine ab.c0 (λc e a=> ?_) ?_
  ·refine St.aK ?_
   refine St.ag (cg 2 (by unfold aZ;decide)) mS (.au rfl) rfl ?_;rintro v61 _ rfl;refine St.ao ?_;exact St.bg _
  refine ab.c0 (λc e a=> ?_) ?_
  ·refine St.aK ?_
   refine St.ag (cg 1 (by unfold aZ;decide)) mS (.au rfl) rfl ?_;rintro v62 _ rfl;refine St.ao ?_;exact St.bg _
  refine ab.c0 (λc e a=> ?_) ?_
  ·refine St.aK ?_
   refine St.ag (cg 0 (by unfold aZ;decide)) mS (.au rfl) rfl ?_;rintro v63 _ rfl;refine St.ao ?_;exact St.bg _
  refine ab.cc (λe=>[(62,e 38),(63,e 39)]) (λe=>[aB (isTerm (aY 1) (e 38)),aB (isTerm (aY 0) (e 39))]) (λc e a=> ?_) ?_
  ·refine St.dQ ?_
   refine St.ag (ef (e 38) (e 39) (aY 1) (aY 0)) oy (.aX rfl rfl) rfl ?_;rintro v64 _ rfl;refine St.ao ?_;exact St.bg _
  refine ab.cc (λe=>[(61,e 37),(64,e 40)]) (λe=>[aB (isTerm (aY 2) (e 37)),aB (isTerm (aK (aY 1) (aY 0)) (e 40))]) (λc e a=> ?_) ?_
  ·refine St.dQ ?_
   refine St.ag (ef (e 37) (e 40) (aY 2) (aK (aY 1) (aY 0))) oy (.aX rfl rfl) rfl ?_;rintro v65 _ rfl;refine St.ao ?_;exact St.bg _
  refine ab.cc (λe=>[(60,e 36),(65,e 41)]) (λe=>[aB (cU (e 36) ((aU g))),aB (isTerm (aK (aY 2) (aK (aY 1) (aY 0))) (e 41))]) (λc e a=> ?_) ?_
  ·refine St.dQ ?_
   refine St.bX (P:=prog) 60 (e 36) ((aU g)) rfl ?_;refine St.ag (eA (aU g) (e 41) (.mk [101] []) (aK (aY 2) (aK (aY 1) (aY 0)))) mR (.aX rfl rfl) rfl ?_;rintro v66 _ rfl;refine St.ao ?_;exact St.bg _
  refine ab.cc (λe=>[(59,e 35),(66,e 42)]) (λe=>[aB (cU (e 35) ((aU b))),aB (isTerm (bC (.mk [101] []) (aK (aY 2) (aK (aY 1) (aY 0)))) (e 42))]) (λc e a=> ?_) ?_
  ·refine St.dQ ?_
   refine St.bX (P:=prog) 59 (e 35) ((aU b)) rfl ?_;refine St.ag (eA (aU b) (e 42) (an (.mk [101] []) (.mk [116] [])) (bC (.mk [101] []) (aK (aY 2) (aK (aY 1) (aY 0))))) mR (.aX rfl rfl) rfl ?_;rintro v67 _ rfl;refine St.ao ?_;exact St.bg _
  refine ab.cc (λe=>[(58,e 34),(67,e 43)]) (λe=>[aB (db (an (.mk [116] []) (.mk [116] [])) (e 34)),aB (isTerm (bC (an (.mk [101] []) (.mk [116] [])) (bC (.mk [101] []) (aK (aY 2) (aK (aY 1) (aY 0))))) (e 43))]) (λc e a=> ?_) ?_
  ·refine St.dQ ?_
   refine St.ag (eA (e 34) (e 43) (an (.mk [116] []) (.mk [116] [])) (bC (an (.mk [101] []) (.mk [116] [])) (bC (.mk [101] []) (aK (aY 2) (aK (aY 1) (aY 0)))))) mR (.aX rfl rfl) rfl ?_;rintro v68 _ rfl;refine St.ao ?_;exact St.bg _
  refine ab.c0 (λc e a=> ?_) ?_
  ·refine St.aK ?_
   refine go ?_;refine St.fact (cU ((aU f)) ((aU f))) (λ_ _ _=>rfl) ?_;exact St.bg _
  refine ab.c0 (λc e a=> ?_) ?_
  ·refine St.aK ?_
   refine go ?_;refine St.fact (cU ((aU d)) ((aU d))) (λ_ _ _=>rfl) ?_;exact St.bg _
  refine ab.c0 (λc e a=> ?_) ?_
  ·refine St.aK ?_
   refine go ?_;refine St.fact (cU ((aU d)) ((aU d))) (λ_ _ _=>rfl) ?_;exact St.bg _
  refine ab.c0 (λc e a=> ?_) ?_
  ·refine St.aK ?_
   refine go ?_;refine St.fact (cU ((aU d)) ((aU d))) (λ_ _ _=>rfl) ?_;exact St.bg _
  refine ab.cc (λe=>[(71,e 47),(72,e 48)]) (λe=>[aB (cU (e 47) ((aU d))),aB (cU (e 48) ((aU d)))]) (λc e a=> ?_) ?_
  ·refine St.dQ ?_
   refine St.bX (P:=prog) 71 (e 47) ((aU d)) rfl ?_;refine St.bX (P:=prog) 72 (e 48) ((aU d)) rfl ?_;refine St.ag (fI (aU d) (aU d) (.mk [116] []) (.mk [116] [])) qG (.aX rfl rfl) rfl ?_;rintro v73 _ rfl;refine St.ao ?_;exact St.bg _
  refine ab.cc (λe=>[(70,e 46),(73,e 49)]) (λe=>[aB (cU (e 46) ((aU d))),aB (db (an (.mk [116] []) (.mk [116] [])) (e 49))]) (λc e a=> ?_) ?_
  ·refine St.dQ ?_
   refine St.bX (P:=prog) 70 (e 46) ((aU d)) rfl ?_;refine St.ag (fI (aU d) (e 49) (.mk [116] []) (an (.mk [116] []) (.mk [116] []))) qG (.aX rfl rfl) rfl ?_;rintro v74 _ rfl;refine St.ao ?_;exact St.bg _
  refine ab.c0 (λc e a=> ?_) ?_
  ·refine St.aK ?_
   refine go ?_;refine St.fact (cU ((aU f)) ((aU f))) (λ_ _ _=>rfl) ?_;exact St.bg _
  refine ab.c0 (λc e a=> ?_) ?_
  ·refine St.aK ?_
   refine go ?_;refine St.fact (cU ((aU b)) ((aU b))) (λ_ _ _=>rfl) ?_;exact St.bg _
  refine ab.c0 (λc e a=> ?_) ?_
  ·refine St.aK ?_
   refine St.ag (cg 2 (by unfold aZ;decide)) mS (.au rfl) rfl ?_;rintro v77 _ rfl;refine St.ao ?_;exact St.bg _
  refine ab.c0 (λc e a=> ?_) ?_
  ·refine St.aK ?_
   refine St.ag (cg 3 (by unfold aZ;decide)) mS (.au rfl) rfl ?_;rintro v78 _ rfl;refine St.ao ?_;exact St.bg _
  refine ab.c0 (λc e a=> ?_) ?_
  ·refine St.aK ?_
   refine St.ag (cg 0 (by unfold aZ;decide)) mS (.au rfl) rfl ?_;rintro v79 _ rfl;refine St.ao ?_;exact St.bg _
  refine ab.cc (λe=>[(78,e 54),(79,e 55)]) (λe=>[aB (isTerm (aY 3) (e 54)),aB (isTerm (aY 0) (e 55))]) (λc e a=> ?_) ?_
  ·refine St.dQ ?_
   refine St.ag (ef (e 54) (e 55) (aY 3) (aY 0)) oy (.aX rfl rfl) rfl ?_;rintro v80 _ rfl;refine St.ao ?_;exact St.bg _
  refine ab.cc (λe=>[(77,e 53),(80,e 56)]) (λe=>[aB (isTerm (aY 2) (e 53)),aB (isTerm (aK (aY 3) (aY 0)) (e 56))]) (λc e a=> ?_) ?_
  ·refine St.dQ ?_
   refine St.ag (ef (e 53) (e 56) (aY 2) (aK (aY 3) (aY 0))) oy (.aX rfl rfl) rfl ?_;rintro v81 _ rfl;refine St.ao ?_;exact St.bg _
  refine ab.c0 (λc e a=> ?_) ?_
  ·refine St.aK ?_
   refine St.ag (cg 1 (by unfold aZ;decide)) mS (.au rfl) rfl ?_;rintro v82 _ rfl;refine St.ao ?_;exact St.bg _
  refine ab.c0 (λc e a=> ?_) ?_
  ·refine St.aK ?_
   refine St.ag (cg 0 (by unfold aZ;decide)) mS (.au rfl) rfl ?_;rintro v83 _ rfl;refine St.ao ?_;exact St.bg _
  refine ab.cc (λe=>[(82,e 58),(83,e 59)]) (λe=>[aB (isTerm (aY 1) (e 58)),aB (isTerm (aY 0) (e 59))]) (λc e a=> ?_) ?_
  ·refine St.dQ ?_
   refine St.ag (ef (e 58) (e 59) (aY 1) (aY 0)) oy (.aX rfl rfl) rfl ?_;rintro v84 _ rfl;refine St.ao ?_;exact St.bg _
  refine ab.cc (λe=>[(81,e 57),(84,e 60)]) (λe=>[aB (isTerm (aK (aY 2) (aK (aY 3) (aY 0))) (e 57)),aB (isTerm (aK (aY 1) (aY 0)) (e 60))]) (λc e a=> ?_) ?_
  ·refine St.dQ ?_
   refine St.ag (ef (e 57) (e 60) (aK (aY 2) (aK (aY 3) (aY 0))) (aK (aY 1) (aY 0))) oy (.aX rfl rfl) rfl ?_;rintro v85 _ rfl;refine St.ao ?_;exact St.bg _
  refine ab.cc (λe=>[(76,e 52),(85,e 61)]) (λe=>[aB (cU (e 52) ((aU b))),aB (isTerm (aK (aK (aY 2) (aK (aY 3) (aY 0))) (aK (aY 1) (aY 0))) (e 61))]) (λc e a=> ?_) ?_
  ·refine St.dQ ?_
   refine St.bX (P:=prog) 76 (e 52) ((aU b)) rfl ?_;refine St.ag (eA (aU b) (e 61) (an (.mk [101] []) (.mk [116] [])) (aK (aK (aY 2) (aK (aY 3) (aY 0))) (aK (aY 1) (aY 0)))) mR (.aX rfl rfl) rfl ?_;rintro v86 _ rfl;refine St.ao ?_;exact St.bg _
  refine ab.cc (λe=>[(75,e 51),(86,e 62)]) (λe=>[aB (cU (e 51) ((aU f))),aB (isTerm (bC (an (.mk [101] []) (.mk [116] [])) (aK (aK (aY 2) (aK (aY 3) (aY 0))) (aK (aY 1) (aY 0)))) (e 62))]) (λc e a=> ?_) ?_
  ·refine St.dQ ?_
   refine St.bX (P:=prog) 75 (e 51) ((aU f)) rfl ?_;refine St.ag (eA (aU f) (e 62) (an (an (.mk [101] []) (.mk [116] [])) (.mk [116] [])) (bC (an (.mk [101] []) (.mk [116] [])) (aK (aK (aY 2) (aK (aY 3) (aY 0))) (aK (aY 1) (aY 0))))) mR (.aX rfl rfl) rfl ?_;rintro v87 _ rfl;refine St.ao ?_;exact St.bg _
  refine ab.cc (λe=>[(74,e 50),(87,e 63)]) (λe=>[aB (db (an (.mk [116] []) (an (.mk [116] []) (.mk [116] []))) (e 50)),aB (isTerm (bC (an (an (.mk [101] []) (.mk [116] [])) (.mk [116] [])) (bC (an (.mk [101] []) (.mk [116] [])) (aK (aK (aY 2) (aK (aY 3) (aY 0))) (aK (aY 1) (aY 0))))) (e 63))]) (λc e a=> ?_) ?_
  ·refine St.dQ ?_
   refine St.ag (eA (e 50) (e 63) (an (.mk [116] []) (an (.mk [116] []) (.mk [116] []))) (bC (an (an (.mk [101] []) (.mk [116] [])) (.mk [116] [])) (bC (an (.mk [101] []) (.mk [116] [])) (aK (aK (aY 2) (aK (aY 3) (aY 0))) (aK (aY 1) (aY 0)))))) mR (.aX rfl rfl) rfl ?_;rintro v88 _ rfl;refine St.ao ?_;exact St.bg _
  refine ab.cc (λe=>[(69,e 45),(88,e 64)]) (λe=>[aB (cU (e 45) ((aU f))),aB (isTerm (bC (an (.mk [116] []) (an (.mk [116] []) (.mk [116] []))) (bC (an (an (.mk [101] []) (.mk [116] [])) (.mk [116] [])) (bC (an (.mk [101] []) (.mk [116] [])) (aK (aK (aY 2) (aK (aY 3) (aY 0))) (aK (aY 1) (aY 0)))))) (e 64))]) (λc e a=> ?_) ?_
  ·refine St.dQ ?_
   refine St.bX (P:=prog) 69 (e 45) ((aU f)) rfl ?_;refine St.ag (eA (aU f) (e 64) (an (an (.mk [101] []) (.mk [116] [])) (.mk [116] [])) (bC (an (.mk [116] []) (an (.mk [116] []) (.mk [116] []))) (bC (an (an (.mk [101] []) (.mk [116] [])) (.mk [116] [])) (bC (an (.mk [101] []) (.mk [116] [])) (aK (aK (aY 2) (aK (aY 3) (aY 0))) (aK (aY 1) (aY 0))))))) mR (.aX rfl rfl) rfl ?_;rintro v89 _ rfl;refine St.ao ?_;exact St.bg _
  refine ab.cc (λe=>[(30,e 6),(37,e 13),(40,e 16),(55,e 31),(68,e 44),(89,e 65)]) (λe=>[aB (isTerm (bC (an (an (.mk [101] []) (.mk [116] [])) (.mk [116] [])) (bC (an (.mk [101] []) (.mk [116] [])) (aK (aY 1) (aY 0)))) (e 6)),aB (isTerm (bC (an (an (.mk [101] []) (.mk [116] [])) (an (an (.mk [101] []) (.mk [116] [])) (.mk [116] []))) (bC (an (.mk [101] []) (.mk [116] [])) (aK (aY 1) (aY 0)))) (e 13)),aB (isTerm (bC (an (.mk [101] []) (.mk [116] [])) (aY 0)) (e 16)),aB (isTerm (bC (an (.mk [101] []) (an (.mk [101] []) (.mk [116] []))) (bC (an (an (.mk [101] []) (.mk [116] [])) (.mk [116] [])) (bC (.mk [101] []) (aK (aY 1) (bC (.mk [101] []) (aK (aK (aY 3) (aY 1)) (aY 0))))))) (e 31)),aB (isTerm (bC (an (.mk [116] []) (.mk [116] [])) (bC (an (.mk [101] []) (.mk [116] [])) (bC (.mk [101] []) (aK (aY 2) (aK (aY 1) (aY 0)))))) (e 44)),aB (isTerm (bC (an (an (.mk [101] []) (.mk [116] [])) (.mk [116] [])) (bC (an (.mk [116] []) (an (.mk [116] []) (.mk [116] []))) (bC (an (an (.mk [101] []) (.mk [116] [])) (.mk [116] [])) (bC (an (.mk [101] []) (.mk [116] [])) (aK (aK (aY 2) (aK (aY 3) (aY 0))) (aK (aY 1) (aY 0))))))) (e 65))]) (λc e a=> ?_) ?_
  ·refine St.R0 ?_
   refine St.isTerm (bC (an (an (.mk [101] []) (.mk [116] [])) (.mk [116] [])) (bC (an (.mk [101] []) (.mk [116] [])) (aK (aY 1) (aY 0)))) (e 6) (λi y=> ?_);obtain⟨z,A,B⟩:=y;rw[z];refine St.isTerm (bC (an (an (.mk [101] []) (.mk [116] [])) (an (an (.mk [101] []) (.mk [116] [])) (.mk [116] []))) (bC (an (.mk [101] []) (.mk [116] [])) (aK (aY 1) (aY 0)))) (e 13) (λj C=> ?_);obtain⟨D,E,F⟩:=C;rw[D];refine St.isTerm (bC (an (.mk [101] []) (.mk [116] [])) (aY 0)) (e 16) (λk G=> ?_);obtain⟨H,I,J⟩:=G;rw[H];refine St.isTerm (bC (an (.mk [101] []) (an (.mk [101] []) (.mk [116] []))) (bC (an (an (.mk [101] []) (.mk [116] [])) (.mk [116] [])) (bC (.mk [101] []) (aK (aY 1) (bC (.mk [101] []) (aK (aK (aY 3) (aY 1)) (aY 0))))))) (e 31) (λl K=> ?_);obtain⟨L,M,N⟩:=K;rw[L];refine St.isTerm (bC (an (.mk [116] []) (.mk [116] [])) (bC (an (.mk [101] []) (.mk [116] [])) (bC (.mk [101] []) (aK (aY 2) (aK (aY 1) (aY 0)))))) (e 44) (λm O=> ?_);obtain⟨Q,R,S⟩:=O;rw[Q];refine St.isTerm (bC (an (an (.mk [101] []) (.mk [116] [])) (.mk [116] [])) (bC (an (.mk [116] []) (an (.mk [116] []) (.mk [116] []))) (bC (an (an (.mk [101] []) (.mk [116] [])) (.mk [116] [])) (bC (an (.mk [101] []) (.mk [116] [])) (aK (aK (aY 2) (aK (aY 3) (aY 0))) (aK (aY 1) (aY 0))))))) (e 65) (λn T=> ?_);obtain⟨U,V,W⟩:=T;rw[U];refine St.gX rfl (.XV rfl rfl rfl rfl rfl rfl) iE fc QT rfl rfl (by simp[Value.cells]) rfl rfl (λo=> ?_);refine St.bS (.slice (some ⟨o,0,none⟩) 6 6) dI [i,j,k,l,m,n] rfl rfl (all_cons B (all_cons F (all_cons J (all_cons N (all_cons S (all_cons W (all_nil))))))) ?_;refine Iw cm [i,j,k,l,m,n] [cm i,cm j,cm k,cm l,cm m,cm n] rfl ?_;refine St.eZ (mB sU (.slice (some ⟨o,0,none⟩) 6 6)) [sl dI (.slice (some ⟨o,0,none⟩) 6 6) [i,j,k,l,m,n],aF cm [i,j,k,l,m,n]] (λρ h=>⟨rfl,[i,j,k,l,m,n],by simp only[List.map_cons,List.map_nil,A,E,I,M,R,V];rfl,h (sl dI (.slice (some ⟨o,0,none⟩) 6 6) [i,j,k,l,m,n]) (by simp),h (aF cm [i,j,k,l,m,n]) (by simp)⟩) ?_;exact St.bg _
  exact ab.nil
 refine St.ao ?_;refine g9 ?_;refine St.ri _ rfl rfl ?_;refine g9 ?_;refine St.rV [_] [aB (mB sU (e 66))] ?_;rfl
end Go.Proofs.YtblifkgpebebmaaGreatDoor
namespace Go.J
open Go
section
variable {p:List Int}
theorem N6 {a b:Nat}(c:a≤p.length)(d:b≤p.length)(h:p.drop a=p.drop b):a=b:=by
 have:=congrArg List.length h
 simp only[List.length_drop]at this
 omega
abbrev Sx (p:List Int)(l:List Nat):Prop:=l.Pairwise (λa b=>pT (p.drop a) (p.drop b)=true)
structure MA (p:List Int)(i:Nat)(A B:List Nat):Prop where
 perm:(A++B).Perm (List.range i)
 srt:Sx p (A++B)
 less:∀b∈B,pT (p.drop i) (p.drop b)=true
theorem MA.step {i a:Nat}{A B:List Nat}(h:MA p i (A++ [a]) B)(d:pT (p.drop i) (p.drop a)=true):MA p i A (a::B):=
 ⟨by simpa using h.perm,by simpa using h.srt,λb c=>by rcases cJ.1 c with rfl|c;exact d;exact h.less b c⟩
theorem MA.done {i:Nat}{A B:List Nat}(h:MA p i A B)(j:i<p.length)(c:A=[]∨∃A' a,A=A'++ [a]∧pT (p.drop i) (p.drop a)=false):(A++i::B).Perm (List.range (i+1))∧Sx p (A++i::B):=by
 have d:∀x∈A++B,x<i:=λx hx=>dt.1 (h.perm.mem_iff.1 hx)
 constructor
 ·rw[ub]
  exact qj.trans ((h.perm.cons i).trans (List.perm_append_singleton i _).symm)
 ·have b:=sC.1 h.srt
  have e:∀x∈A,pT (p.drop x) (p.drop i)=true:=by
   rcases c with rfl|⟨A',a,rfl,f⟩
   ·intro x hx;cases hx
   ·have last:pT (p.drop a) (p.drop i)=true:=by
     have g:=d a (by simp)
     rcases xy (p.drop a) (p.drop i)with q|q|q
     ·exact q
     ·have:=N6 (by omega) (by omega) q;omega
     ·rw[f]at q;cases q
    intro x hx
    rcases cD.1 hx with hx|hx
    ·exact qz ((sC.1 b.1).2.2 x hx a (CH _)) last
    ·rw[bO.1 hx];exact last
  refine sC.2 ⟨b.1,jU.2 ⟨h.less,b.2.1⟩,?_⟩;intro x hx y hy
  rcases cJ.1 hy with rfl|hy
  ·exact e x hx
  ·exact b.2.2 x hx y hy
end
section
variable {n:Nat}{cf:Nat→Nat→Int}{l:List Nat}
end
structure Yj (l:List (List ax)):Prop where
 len:l.length≤100
 each:∀s∈l,0<s.length∧s.length≤12∧s.all isWord=true
theorem Yj.nil:Yj []:=⟨by simp,λs h=>by cases h⟩
def hz {β:Type}(q:List Nat):List Nat→List β→List β
 |x::a,z::b=>if(x::a).take q.length=q then z::hz q a b else hz q a b
 |_,_=>[]
end Go.J
namespace Go.Proofs.YtblifkgpebebmaaGreatDoor
open Go Go.J Tryz
def dV:List Int→List dx
 |a::b::r=>⟨a,b⟩::dV r
 |_=>[]
theorem wV:∀xs:List Int,(dV xs).length=xs.length/2
 | []=>rfl
 | [_]=>by simp[dV]
 |a::b::r=>by rw[dV,fB,wV r];simp only[List.length_cons];omega
theorem wU:∀{xs:List Int} {j:Nat} {a b:Int},xs[2*j]?=some a→xs[2*j+1]?=some b→(dV xs)[j]?=some ⟨a,b⟩
 | [],_,_,_,h,_=>by simp at h
 | [_],0,_,_,_,h=>by simp at h
 | [_],j+1,_,_,h,_=>by simp at h
 |x::y::r,0,a,b,h,k=>by
  simp at h k;subst h k;rfl
 |x::y::r,j+1,a,b,h,k=>by
  rw[show 2*(j+1)=(2*j)+1+1 by omega,s7,s7]at h;rw[show 2*(j+1)+1=(2*j+1)+1+1 by omega,s7,s7]at k;rw[dV,s7];exact wU h k
theorem qL:∀{xs:List Int} {x:dx},x∈dV xs→x.dF∈xs∧x.tqo∈xs
 | [],_,h=>by cases h
 | [_],_,h=>by cases h
 |a::b::r,x,h=>by
  rw[dV]at h
  rcases cJ.1 h with rfl|h
  ·exact⟨by simp,by simp⟩
  ·have:=qL h
   exact⟨by simp[this.1],by simp[this.2]⟩
def Xf (xs:List Int):KM:=(xs.headD 0,(dV xs.tail).map fS)
def cQ (ga:List (List Int)):e8:=ga.map Xf
theorem zW {X Y:List dx}{x:dx}(h:Y=X++ [x]):rows aw X++ [iv x.dF,iv x.tqo]=rows aw Y:=by rw[h,bB];rfl
theorem Hs {X:List dh}{x:dh}:rows bh X++ [iv x.type,x.lv.1]=rows bh (X++ [x]):=by rw[bB];rfl
theorem LS {xs:List Int}{x:Int}(h:xs[0]?=some x):Xf xs=(x,(dV (xs.drop 1)).map fS):=by
 cases xs with
 |nil=>simp at h
 |cons y r=>simp at h;subst h;rfl
theorem drop_at {xs:List Int}{j:Nat}:(xs.drop 1)[j]?=xs[1+j]?:=by rw[AD]
theorem gN (u:Value)(ga:List (List Int))(K:ga.all (λxs=>decide (0<xs.length)&&decide (xs.length≤60))=true)(V:ga.length≤60):dz prog 58 #[u] ([fT aJ ga u].map aB) (λv H'=>H'=[aB (bL (cQ ga) v)]):=by
 refine dz.body (args:=[u]) 48 func58 rfl ntmps58 rfl (λc=> ?_);refine St.cast (H':=[aB (fT aJ ga u)]) rfl ?_;refine go ?_;refine St.fT aJ ga u (λL=> ?_);refine St.ma u (λvs l=> ?_);refine St.JY vs l (λM=> ?_);refine go ?_;refine St.al (λD=> ?_);refine g4 ?_;refine St.al (λE=> ?_);refine g11 ?_;refine St.dw 163 2 ?_;refine St.aM (.slice none 0 0) (show _=([]:List dh).length from rfl) (show _=rows bh []from rfl) ?_;refine St.dN cA ?_;refine St.tn (ι:=Nat) (κ:=Value×List dh) (λk z T=>(10,iv k)::T) (λk z=>[aW E (.cells [z.1].toArray 30 (0,0)),row z.1 163 2 (z.2).length (rows bh (z.2)),aB (aF cA z.2),aW D (.cells [(.slice none 0 0)].toArray 30 (0,0)),aB (sl bT u vs),aB (jr aJ vs ga)]) (λk z=>k≤ga.length∧z.1.oneCell'=true∧z.2.map mD=cQ (ga.take k)∧∀x∈z.2,bh.wf x) (λk z=>ga.length-k) 0 ((.slice none 0 0),[]) (aD.cons 2 rfl (aD.cons 3 rfl (aD.cons 8 rfl (aD.cons 9 rfl aD.nil)))) ⟨aP _,rfl,rfl,λx hx=>by cases hx⟩ ?_;rintro k ⟨a,X⟩ ⟨hk,hz,d,b⟩
 dsimp only at hz d b⊢
 have m:=congrArg List.length d
 rw[aO,cQ,aO,eX]at m;refine g6 ?_;refine St.cq (λN=> ?_) (λN=> ?_)
 ·obtain⟨s,e⟩:=aE (show k<ga.length by omega)
  obtain⟨w,hw⟩:=aE (show k<vs.length by omega);refine St.jr (vs:=vs) k hw e ?_
  have n:=M s (ae e)
  have o:=eW.1 K s (ae e)
  simp only[Bool.and_eq_true,decide_eq_true_eq]at o
  obtain⟨x0,F⟩:=aE (show 0<s.length by omega)
  have O:=wV (s.drop 1)
  rw[AE]at O;refine g14 ?_;refine St.ee (Ev.cM (k:=0) (.mk rfl) (.mk rfl) bJ dK rfl (by omega)) ?_;refine go ?_;refine St.ee (Ev.build (bF.au rfl) (λw=>EG rfl w)) ?_;refine St.al (λG=> ?_);refine g10 ?_;refine St.dw 165 2 ?_;refine St.aM (.slice none 0 0) (show _=((dV (s.drop 1)).take 0).length from rfl) (show _=rows aw ((dV (s.drop 1)).take 0)from rfl) ?_;refine St.tn (ι:=Nat) (κ:=Value) (λj y T=>(7,iv (1+2*(j:Nat)))::T) (λj y=>[aW G (.cells [iv x0,y].toArray 163 (0,0)),row y 165 2 ((dV (s.drop 1)).take j).length (rows aw ((dV (s.drop 1)).take j)),aB (sl aJ w.1 s),aW E (.cells [a].toArray 30 (0,0)),row a 163 2 (X).length (rows bh (X)),aB (aF cA X),aW D (.cells [(.slice none 0 0)].toArray 30 (0,0)),aB (sl bT u vs),aB (jr aJ vs ga)]) (λj y=>j≤(s.length-1)/2∧y.oneCell'=true) (λj y=>(s.length-1)/2-j) 0 (.slice none 0 0) (aD.cons 2 rfl (aD.cons 3 rfl (aD.cons 5 rfl (aD.cons 6 rfl (aD.cons 8 rfl (aD.cons 9 rfl (aD.cons 10 rfl aD.nil))))))) ⟨aP _,rfl⟩ ?_;rintro j y ⟨W,hy⟩
  have Y:((dV (s.drop 1)).take j).length≤60:=by rw[eX];omega
  refine g10 ?_;refine St.cq (λP=> ?_) (λP=> ?_)
  ·have Q:1+2*j+1<s.length:=by omega
   obtain⟨p,r⟩:=aE (show 1+2*j<s.length by omega);obtain⟨t,A⟩:=aE (show 1+2*j+1<s.length by omega)
   have f:(dV (s.drop 1))[j]?=some ⟨p,t⟩:=wU (by rw[drop_at];exact r) (by rw[drop_at,←qg];exact A)
   refine g4 ?_;refine St.dc [aW G (.cells [iv x0,y].toArray 163 (0,0)),row y 165 2 ((dV (s.drop 1)).take j).length (rows aw ((dV (s.drop 1)).take j))] mixed (λZ ns=> ?_);refine SW.gd 0 ?_;refine SW.gd 2 ?_;refine SW.gd 3 ?_;refine SW.dd 4 rfl (λ_=>Ev.cM (k:=(1+2*j)) (.mk rfl) (.mk rfl) bJ dK (by omega) (by omega)) ?_;refine SW.gd 5 ?_;refine SW.gd 6 ?_;refine SW.gd 7 ?_;refine SW.gd 8 ?_;refine SW.dd 9 rfl (λ_=>Ev.cM (k:=(1+2*j+1)) (.mk rfl) (.mk rfl) bJ dK (by omega) (by omega)) ?_;refine SW.gd 10 ?_;refine SW.dd 11 rfl (λ_=>Ev.build (ps:=[(0,(.tmp 30)),(1,(.tmp 35))]) (bF.aX rfl rfl) (λw=>ox rfl rfl w)) ?_;refine SW.t2 1 12 ?_ ?_
   focus
    refine g3 ?_;refine SW.go ?_;refine SW.t1 12 ?_;refine St.gX rfl (.au rfl) eV dm kI rfl rfl (by simp[Value.cells]) rfl rfl (λB=> ?_);refine g2 ?_;refine SW.go ?_;refine SW.t1 13 ?_;refine St.aj (.mk rfl) (.mk rfl) eV dm kI qD (by simp[Value.oneCell',Value.cells]) (by omega) (by omega) rfl rfl rfl rfl (λv38 C=> ?_);refine St.aM v38 (show _=((dV (s.drop 1)).take (j+1)).length by rw[aa f];exact cS) (show _=rows aw ((dV (s.drop 1)).take (j+1))from zW (x:=⟨p,t⟩) (aa f)) ?_;refine St.bZ v38 (λi _=> ?_);refine g2 ?_;refine SW.go ?_;refine SW.gd 14 ?_;refine SW.t1 15 ?_;refine St.cH (.mk rfl) (.mk rfl) pY i (by rfl) ?_;refine g2 ?_;refine SW.go ?_;refine SW.dn ?_
   rotate_left
   focus
    refine St.gX rfl (.au rfl) eV dm kI rfl rfl (by simp[Value.cells]) rfl rfl (λB=> ?_);refine g2 ?_;refine SW.go ?_;refine SW.t1 1 ?_;refine g3 ?_;refine SW.go ?_;refine SW.t1 13 ?_;refine St.aj (.mk rfl) (.mk rfl) eV dm kI qD (by simp[Value.oneCell',Value.cells]) (by omega) (by omega) rfl rfl rfl rfl (λv38 C=> ?_);refine St.aM v38 (show _=((dV (s.drop 1)).take (j+1)).length by rw[aa f];exact cS) (show _=rows aw ((dV (s.drop 1)).take (j+1))from zW (x:=⟨p,t⟩) (aa f)) ?_;refine St.bZ v38 (λi _=> ?_);refine g2 ?_;refine SW.go ?_;refine SW.gd 14 ?_;refine SW.t1 15 ?_;refine St.cH (.mk rfl) (.mk rfl) pY i (by rfl) ?_;refine g2 ?_;refine SW.go ?_;refine SW.dn ?_
   all_goals
    refine g8 ?_;refine St.uk (j+1) v38 ⟨by omega,i⟩
  ·obtain rfl:j=(s.length-1)/2:=by omega
   have R:(dV (s.drop 1)).take ((s.length-1)/2)=(dV (s.drop 1)):=fF (by omega)
   rw[R];refine St.bS y aw (dV (s.drop 1)) rfl rfl (λx hx=>⟨n _ (GJ (qL hx).1),n _ (GJ (qL hx).2)⟩) ?_;refine St.eZ (cA ⟨x0,⟨y,hy⟩,(dV (s.drop 1))⟩) [sl aw y (dV (s.drop 1))] (λρ h=>h _ (aQ ..)) ?_;refine g9 ?_;refine St.gX rfl (.au rfl) oa jQ GL rfl rfl (by simp[J.cells_one hy,Value.cells]) rfl rfl (λS=> ?_);refine St.aj (.mk rfl) (.mk rfl) oa jQ GL Mg (by intro q H;simp[Value.cells]at H;rcases H with rfl|rfl;rfl;exact hy) (by omega) (by omega) rfl rfl rfl rfl (λv44 U=> ?_);refine St.aM v44 (show _=(X++ [(⟨x0,⟨y,hy⟩,(dV (s.drop 1))⟩:dh)]).length from cS) (show _=rows bh (X++ [(⟨x0,⟨y,hy⟩,(dV (s.drop 1))⟩:dh)])from Hs (x:=⟨x0,⟨y,hy⟩,(dV (s.drop 1))⟩)) ?_;refine St.bZ v44 (λI _=> ?_);refine St.tN cA (xs:=X) (x:=⟨x0,⟨y,hy⟩,(dV (s.drop 1))⟩) ?_;refine go ?_;refine St.cH (.mk rfl) (.mk rfl) afF I (by rfl) ?_;refine g8 ?_;refine St.uk (k+1) (v44,X++ [(⟨x0,⟨y,hy⟩,(dV (s.drop 1))⟩:dh)]) ⟨by omega,I,by rw[aa e,cP,d,cQ,cQ,cP];exact congrArg (λq=>List.map Xf (List.take k ga)++ [q]) (LS F).symm,λx hx=>(cD.1 hx).elim (b x) λq=>by rw[bO.1 q];exact n x0 (ae F)⟩
 ·obtain rfl:k=ga.length:=by omega
  rw[kH]at d;refine g8 ?_;refine St.sA (.mk rfl) (.mk rfl) jR ?_ (h1:=(by simp[hz]));refine g3 ?_;refine St.bS a bh X rfl rfl b ?_;refine St.eZ (aG ⟨⟨a,hz⟩,X⟩) [sl bh a X,aF cA X] (λρ h=>h) ?_;refine St.Tk ⟨⟨a,hz⟩,X⟩ (g:=cQ ga) (bA ⟨⟨a,hz⟩,X⟩) rfl d ?_;refine St.rV [_] [aB (bL (cQ ga) (bA ⟨⟨a,hz⟩,X⟩))] ?_;rfl
def yy (names:List ax)(ps:List Int)(k:Nat):List ek:=(List.range k).map λi=>(names.getD i [],if i=0 then []else [ps.getD i 0])
theorem HH (names:List ax)(ps:List Int)(k:Nat):yy names ps (k+1)=yy names ps k++ [(names.getD k [],if k=0 then []else [ps.getD k 0])]:=by
 unfold yy;rw[ub,cP];rfl
theorem Ht {X:List re}{x:re}:rows n5 X++ [sv x.name,x.pv.1]=rows n5 (X++ [x]):=by rw[bB];rfl
theorem Hr {X:List eY}{x:eY}:rows e7 X++Sr x=rows e7 (X++ [x]):=by rw[bB];rfl
theorem vI (a b l:Value)(names:List ax)(ps:List Int)(e:l.oneCell'=true)(hlen:ps.length=names.length)(M:names.length≤60):dz prog 56 #[a,b,l] ([fW bI names a,fW aJ ps b].map aB) (λv H'=>∃(tv:aV) (ts:List re),v= .agg #[tv.1,l]∧ts.map dG=yy names ps names.length∧H'=[aB (sl n5 tv.1 ts),aB (aF ry ts)]):=by
 refine dz.body (args:=[a,b,l]) 38 func56 rfl ntmps56 rfl (λc=> ?_);refine St.cast (H':=[aB (fW bI names a),aB (fW aJ ps b)]) rfl ?_;refine go ?_;refine St.fW bI names a (λD=> ?_);refine St.fW aJ ps b (λN=> ?_);refine St.wf a (λE _=> ?_);refine St.wf b (λn _=> ?_);refine go ?_;refine St.al (λA=> ?_);refine g4 ?_;refine St.al (λB=> ?_);refine g11 ?_;refine St.dw 156 2 ?_;refine St.aM (.slice none 0 0) (show _=([]:List re).length from rfl) (show _=rows n5 []from rfl) ?_;refine St.dN ry ?_;refine St.tn (ι:=Nat) (κ:=Value×List re) (λk z T=>(13,iv k)::T) (λk z=>[aW B (.cells [z.1,(.slice none 0 0)].toArray 25 (0,0)),row z.1 156 2 (z.2).length (rows n5 (z.2)),aB (aF ry z.2),aW A (.cells [(.slice none 0 0),(.slice none 0 0)].toArray 25 (0,0)),aB (sl bI a names),aB (sl aJ b ps)]) (λk z=>k≤names.length∧z.1.oneCell'=true∧z.2.map dG=yy names ps k∧∀x∈z.2,n5.wf x) (λk z=>names.length-k) 0 ((.slice none 0 0),[]) (aD.cons 1 rfl (aD.cons 2 rfl (aD.cons 6 rfl (aD.cons 7 rfl (aD.cons 11 rfl (aD.cons 12 rfl aD.nil)))))) ⟨aP _,rfl,rfl,λx hx=>by cases hx⟩ ?_;rintro k ⟨f,X⟩ ⟨hk,hz,m,d⟩
 dsimp only at hz m d⊢
 have o:=congrArg List.length m
 rw[aO,yy,aO,jT]at o;refine g6 ?_;refine St.cq (λF=> ?_) (λF=> ?_)
 ·obtain⟨nm,g⟩:=aE (show k<names.length by omega)
  obtain⟨p,hp⟩:=aE (show k<ps.length by omega)
  have r:names.getD k []=nm:=by rw[ar,g];rfl
  have s:ps.getD k 0=p:=by rw[ar,hp];rfl
  have t:=E nm (ae g)
  have u:=n p (ae hp)
  have G:=HH names ps k
  refine g16 ?_;refine St.ee (Ev.build (bF.au rfl) (λw=>MZ rfl w)) ?_;refine St.al (λH=> ?_);refine g3 ?_;refine St.join (ι:=Value) (λy T=>T) (λy=>[aW H (.cells [sv nm,y].toArray 156 (0,0)),aB (sl aJ y (if k=0 then []else [p])),aW B (.cells [f,(.slice none 0 0)].toArray 25 (0,0)),row f 156 2 (X).length (rows n5 (X)),aB (aF ry X),aW A (.cells [(.slice none 0 0),(.slice none 0 0)].toArray 25 (0,0)),aB (sl bI a names),aB (sl aJ b ps)]) (λy=>y.oneCell'=true) (aD.cons 1 rfl (aD.cons 2 rfl (aD.cons 6 rfl (aD.cons 7 rfl (aD.cons 10 rfl (aD.cons 11 rfl (aD.cons 12 rfl (aD.cons 13 rfl aD.nil)))))))) ?_ ?_
  ·refine g6 ?_
   refine St.cq (λI=> ?_) (λI=> ?_)
   ·rw[aA (show ¬k=0 by omega)]
    refine g5 ?_;refine St.gX rfl (.au rfl) bJ dK eS rfl rfl (by simp[Value.cells]) rfl rfl (λi=> ?_);refine St.bS (.slice (some ⟨i,0,none⟩) 1 1) aJ [p] rfl rfl (OZ u) ?_;refine go ?_;refine St.cH (.mk rfl) (.mk rfl) fE rfl (by rfl) ?_;refine g2 ?_;refine St.mE (.slice (some ⟨i,0,none⟩) 1 1) rfl
   ·rw[aC (show k=0 by omega)]
    refine St.fm aJ ?_;refine g2 ?_;refine St.mE (.slice none 0 0) rfl
  ·intro y hy
   have O:(⟨nm,⟨y,hy⟩,if k=0 then []else [p]⟩:re)=⟨nm,⟨y,hy⟩,if k=0 then []else [p]⟩:=rfl
   refine g4 ?_;refine St.gX rfl (.au rfl) vy Bq VK rfl rfl (by simp[J.cells_one hy,Value.cells]) rfl rfl (λK=> ?_);refine St.aj (.mk rfl) (.mk rfl) vy Bq VK ZC (by intro q C;simp[Value.cells]at C;rcases C with rfl|rfl;rfl;exact hy) (by omega) (by omega) rfl rfl rfl rfl (λv32 L=> ?_);refine St.eZ (ry ⟨nm,⟨y,hy⟩,if k=0 then []else [p]⟩) [sl aJ y (if k=0 then []else [p])] (λρ h=>h _ (aQ ..)) ?_;refine St.aM v32 (show _=(X++ [(⟨nm,⟨y,hy⟩,if k=0 then []else [p]⟩:re)]).length from cS) (show _=rows n5 (X++ [(⟨nm,⟨y,hy⟩,if k=0 then []else [p]⟩:re)])from Ht (x:=⟨nm,⟨y,hy⟩,if k=0 then []else [p]⟩)) ?_;refine St.bZ v32 (λj _=> ?_);refine St.tN ry (xs:=X) (x:=⟨nm,⟨y,hy⟩,if k=0 then []else [p]⟩) ?_;refine go ?_;refine St.cH (.mk rfl) (.mk rfl) al0 j (by rfl) ?_;refine g8 ?_;refine St.uk (k+1) (v32,X++ [(⟨nm,⟨y,hy⟩,if k=0 then []else [p]⟩:re)]) ⟨by omega,j,by rw[cP,m,G,r,s];rfl,λx hx=>(cD.1 hx).elim (d x) λq=>by rw[bO.1 q];exact t⟩
 ·obtain rfl:k=names.length:=by omega
  refine g9 ?_;refine St.cH (.mk rfl) (.mk rfl) al1 e (by rfl) ?_;refine g5 ?_;refine St.sA (.mk rfl) (.mk rfl) Pe ?_ (h1:=(by simp[hz,e]));refine g3 ?_;refine St.bS f n5 X rfl rfl d ?_;refine St.rV [_] [aB (sl n5 f X),aB (aF ry X)] ?_;exact⟨⟨f,hz⟩,X,rfl,m,rfl⟩
theorem eJ (b:Nat)(e f g i xv:Value)(X:List eY)(word:ax)(wt:Int)(u w:Value)(t:jI)(ga:List (List Int))(hw:nD word)(n:aZ wt)(o:xv.oneCell'=true)(p:X.length≤100)(F:∀x∈X,e7.wf x)
 (r:ga.all (λxs=>decide (0<xs.length)&&decide (xs.length≤60))=true) (s:ga.length≤60):dz prog 59 ([sv word,iv wt,u,w]++ [Value.pointer (some ⟨b,0,none⟩)]).toArray [aB (isTerm t u),aB (fT aJ ga w),aB (aF eQ X),aW b (.cells [e,f,g,xv,i].toArray 32 (0,0)),row xv 115 9 (X).length (rows e7 (X))]
 (λv H'=>∃(d:Value) (x:eY),v= .tuple #[]∧d.oneCell'=true∧oh x=⟨word,cQ ga,wt,t⟩∧e7.wf x∧H'=[aW b (.cells [e,f,g,d,i].toArray 32 (0,0)),row d 115 9 (X++ [x]).length (rows e7 (X++ [x])),aB (aF eQ (X++ [x]))]):=by
 refine dz.body (args:=[sv word,iv wt,u,w]++ [Value.pointer (some ⟨b,0,none⟩)]) 20 func59 rfl ntmps59 rfl (λc=> ?_);refine go ?_;refine St.cast (H':=[aB (isTerm t u),aB (fT aJ ga w),aB (aF eQ X),aW b (.cells [e,f,g,xv,i].toArray 32 (0,0)),row xv 115 9 (X).length (rows e7 (X))]) rfl ?_;refine St.isTerm t u (λx hx=> ?_);obtain⟨rfl,rfl,z⟩:=hx;obtain⟨A,B,k,l⟩:=z;refine go ?_;refine St.dJ (.mk rfl) rfl (λG=> ?_);refine g2 ?_;refine St.dc [aW b (.cells [e,f,g,xv,i].toArray 32 (0,0)),row xv 115 9 (X).length (rows e7 (X))] mixed (λH I=> ?_)
 repeat' first
  |with_reducible refine SW.me ?_
   first
    |refine SW.gd 0 ?_
    |refine SW.gd 2 ?_
    |refine SW.gd 3 ?_
    |refine SW.gd 4 ?_
    |refine SW.gd 5 ?_
    |refine SW.dd 7 rfl (λ_=>Ev.build (ps:=[(0,(.tmp 11)),(2,(.tmp 12)),(3,(.tmp 13)),(1,(.tmp 15))]) (bF.gU rfl rfl rfl rfl) (λw=>yW rfl rfl w)) ?_
    |refine SW.gd 10 ?_
    |refine SW.t2 1 6 ?_ ?_
    |refine SW.t1 6 ?_
    |refine SW.t1 8 ?_
    |refine SW.t1 9 ?_
    |refine SW.t1 11 ?_
    |refine SW.t2 1 8 ?_ ?_
    |refine SW.t1 1 ?_
  |with_reducible refine SW.tg 1 ?_
   refine g3 ?_;refine SW.go ?_
  |with_reducible refine SW.tg 6 ?_
   refine St.ag (gN w ga r s) EI (.au rfl) rfl ?_;rintro m _ rfl;refine St.ao ?_;refine St.bL (cQ ga) m (λy hy=> ?_);obtain⟨rfl,C⟩:=hy;refine g2 ?_;refine SW.go ?_
  |with_reducible refine SW.tg 8 ?_
   refine St.gX rfl (.au rfl) IK nW VJ rfl rfl (by simp[J.cells_one y.nv.2,J.cells_one x.type.av.2,J.cells_one x.av.2,Value.cells]) rfl rfl (λK=> ?_);refine g2 ?_;refine SW.go ?_
  |with_reducible refine SW.tg 9 ?_
   refine St.aj (.mk rfl) (.mk rfl) IK nW VJ ZB (by intro q D;exact e7.one (⟨word,y,wt,x⟩:eY) q (by show q∈Sr (⟨word,y,wt,x⟩:eY);simpa[Value.cells]using D)) (by omega) (by omega) rfl rfl rfl rfl (λa E=> ?_);refine St.eZ (eQ (⟨word,y,wt,x⟩:eY)) [aG y,cm x] (λρ h=>h) ?_;refine St.aM a (show _=(X++ [(⟨word,y,wt,x⟩:eY)]).length from cS) (show _=rows e7 (X++ [(⟨word,y,wt,x⟩:eY)])from Hr (x:=(⟨word,y,wt,x⟩:eY))) ?_;refine St.bZ a (λj _=> ?_);refine St.tN eQ (xs:=X) (x:=(⟨word,y,wt,x⟩:eY)) ?_;refine g2 ?_;refine SW.go ?_
  |with_reducible refine SW.tg 11 ?_
   refine St.cH (.mk rfl) (.mk rfl) al3 j (by rfl) ?_;refine g2 ?_;refine SW.go ?_
 all_goals refine SW.dn ?_
 all_goals
  refine St.eH ?_;refine St.rV [] [aW b (.cells [e,f,g,a,i].toArray 32 (0,0)),row a 115 9 (X++ [(⟨word,y,wt,x⟩:eY)]).length (rows e7 (X++ [(⟨word,y,wt,x⟩:eY)])),aB (aF eQ (X++ [(⟨word,y,wt,x⟩:eY)]))] ?_;exact⟨a,(⟨word,y,wt,x⟩:eY),rfl,j,by rw[←C];rfl,⟨hw,n,A,B,k,l⟩,rfl⟩
def rD:List ax:=[[116,111,112],[114,117,108,101],[115,105,103,110],[110,117,109],[115,105,110,103],[112,108,117,114],[115],[110,112],[118,112],[110],[100,101,116],[105,118],[116,118],[97,100,118],[99,111,110,106]]
def zh:List Int:=[0,0,0,0,3,3,2,2,2,2,2,2,2,2,2]
def kA:List jG:=[⟨[109,111,116,104,101,114],1,2⟩,⟨[111,110,101],1,2⟩,⟨[116,119,111],1,2⟩,⟨[116,104,114,101,101],1,2⟩,⟨[110,117,109],2,3⟩]
abbrev Xi:sq:=⟨[115],(cQ [[1,0,1,1,2,2,4],[6],[7,4,3],[3],[8,4,3]]),2,0,(bC (an (an (.mk [101] []) (.mk [116] [])) (.mk [116] [])) (bC (an (.mk [101] []) (.mk [116] [])) (aK (aY 1) (aY 0))))⟩
abbrev Xj:sq:=⟨[110,112],(cQ [[1,0,1,1,3,2,4],[7,4,2],[3],[10,4,2],[9,4,2]]),2,1,(bC (an (an (.mk [101] []) (.mk [116] [])) (an (an (.mk [101] []) (.mk [116] [])) (.mk [116] []))) (bC (an (.mk [101] []) (.mk [116] [])) (aK (aY 1) (aY 0))))⟩
abbrev Xk:sq:=⟨[118,112,45,105,118],(cQ [[1,0,1,1,3],[8,4,2],[3],[11,4,2]]),1,0,(bC (an (.mk [101] []) (.mk [116] [])) (aY 0))⟩
abbrev Xl:sq:=⟨[118,112,45,116,118],(cQ [[1,0,1,1,3,2,4],[8,4,2],[3],[12,4,2],[7]]),2,2,(bC (an (.mk [101] []) (an (.mk [101] []) (.mk [116] []))) (bC (an (an (.mk [101] []) (.mk [116] [])) (.mk [116] [])) (bC (.mk [101] []) (aK (aY 1) (bC (.mk [101] []) (aK (aK (aY 3) (aY 1)) (aY 0)))))))⟩
abbrev Xm:sq:=⟨[118,112,45,110,111,116],(cQ [[1,0,1,1,3,2,4],[8,4,2],[3],[13],[8,4,2]]),2,3,(bC (an (.mk [116] []) (.mk [116] [])) (bC (an (.mk [101] []) (.mk [116] [])) (bC (.mk [101] []) (aK (aY 2) (aK (aY 1) (aY 0))))))⟩
abbrev Xn:sq:=⟨[110,112,45,97,110,100],(cQ [[1,0,1,1,3,2,4,3,5],[7,4,2],[5],[7],[14],[7]]),3,4,(bC (an (an (.mk [101] []) (.mk [116] [])) (.mk [116] [])) (bC (an (.mk [116] []) (an (.mk [116] []) (.mk [116] []))) (bC (an (an (.mk [101] []) (.mk [116] [])) (.mk [116] [])) (bC (an (.mk [101] []) (.mk [116] [])) (aK (aK (aY 2) (aK (aY 3) (aY 0))) (aK (aY 1) (aY 0)))))))⟩
def uN:List sq:=[Xi,Xj,Xk,Xl,Xm,Xn]
def rC:List Dz:=[⟨[101,118,101,114,121],cQ [[10,4,1],[4]],1,(mf [97,108,108] [105,102] false)⟩,⟨[97],cQ [[10,4,1],[4]],0,(mf [115,111,109,101] [97,110,100] false)⟩,⟨[110,111],cQ [[10]],2,(mf [115,111,109,101] [97,110,100] true)⟩,⟨[100,111,103],cQ [[9,4,1],[4]],0,(bV [100,111,103] (an (.mk [101] []) (.mk [116] [])))⟩,⟨[100,111,103,115],cQ [[9,4,1],[5]],0,(bV [100,111,103] (an (.mk [101] []) (.mk [116] [])))⟩,⟨[99,97,116],cQ [[9,4,1],[4]],0,(bV [99,97,116] (an (.mk [101] []) (.mk [116] [])))⟩,⟨[99,97,116,115],cQ [[9,4,1],[5]],0,(bV [99,97,116] (an (.mk [101] []) (.mk [116] [])))⟩,⟨[102,105,115,104],cQ [[9,4,1],[4]],1,(bV [102,105,115,104] (an (.mk [101] []) (.mk [116] [])))⟩,⟨[102,105,115,104],cQ [[9,4,1],[5]],2,(bV [102,105,115,104] (an (.mk [101] []) (.mk [116] [])))⟩,⟨[98,97,114,107,115],cQ [[11,4,1],[4]],0,(bV [98,97,114,107] (an (.mk [101] []) (.mk [116] [])))⟩,⟨[98,97,114,107],cQ [[11,4,1],[5]],0,(bV [98,97,114,107] (an (.mk [101] []) (.mk [116] [])))⟩,⟨[115,108,101,101,112,115],cQ [[11,4,1],[4]],0,(bV [115,108,101,101,112] (an (.mk [101] []) (.mk [116] [])))⟩,⟨[115,108,101,101,112],cQ [[11,4,1],[5]],0,(bV [115,108,101,101,112] (an (.mk [101] []) (.mk [116] [])))⟩,⟨[99,104,97,115,101,115],cQ [[12,4,1],[4]],0,(bV [99,104,97,115,101] (an (.mk [101] []) (an (.mk [101] []) (.mk [116] []))))⟩,⟨[99,104,97,115,101],cQ [[12,4,1],[5]],0,(bV [99,104,97,115,101] (an (.mk [101] []) (an (.mk [101] []) (.mk [116] []))))⟩,⟨[115,101,101,115],cQ [[12,4,1],[4]],1,(bV [115,101,101] (an (.mk [101] []) (an (.mk [101] []) (.mk [116] []))))⟩,⟨[115,101,101],cQ [[12,4,1],[5]],1,(bV [115,101,101] (an (.mk [101] []) (an (.mk [101] []) (.mk [116] []))))⟩,⟨[110,111,116],cQ [[13]],0,(bV [110,111,116] (an (.mk [116] []) (.mk [116] [])))⟩,⟨[97,110,100],cQ [[14]],0,(bV [97,110,100] (an (.mk [116] []) (an (.mk [116] []) (.mk [116] []))))⟩,⟨[114,101,120],cQ [[7,4,1],[4]],0,(bC (an (.mk [101] []) (.mk [116] [])) (aK (aY 0) (bV [114,101,120] (.mk [101] []))))⟩,⟨[109,105,97],cQ [[7,4,1],[4]],0,(bC (an (.mk [101] []) (.mk [116] [])) (aK (aY 0) (bV [109,105,97] (.mk [101] []))))⟩]
def lT:fj:=⟨yy rD zh 15,kA.map gw,uN,rC,cQ [[6]]⟩
abbrev smK (g h i j k l e:Nat)(tv:aV)(ts:List re)(rv:Value)(f:List ca)(a b c d:fa)(w:Value)(X:List eY):List ak:=[aW l (.cells [tv.1,(.slice (some ⟨e,0,none⟩) 5 5),rv,w,(.slice none 0 0)].toArray 32 (0,0)),row w 115 9 (X).length (rows e7 (X)),aB (aF eQ X),aB (sl cT rv f),aB (aF bx f),aB (sl n5 tv.1 ts),aB (aF ry ts),aB (sl gY (.slice (some ⟨e,0,none⟩) 5 5) kA),aW k (.cells [sv d.base,d.av.1].toArray 105 (0,0)),aB (db (an (.mk [101] []) (an (.mk [101] []) (.mk [116] []))) (aU d)),aW j (.cells [sv c.base,c.av.1].toArray 105 (0,0)),aB (db (an (.mk [101] []) (.mk [116] [])) (aU c)),aW i (.cells [sv b.base,b.av.1].toArray 105 (0,0)),aW h (.cells [sv a.base,a.av.1].toArray 105 (0,0)),aB (db (.mk [116] []) (aU b)),aB (db (.mk [101] []) (aU a)),aW g (.cells [(.slice none 0 0),(.slice none 0 0),(.slice none 0 0),(.slice none 0 0),(.slice none 0 0)].toArray 32 (0,0))]
theorem fH {X:List eY}{x:eY}{k:Nat}{r:Dz}(h1:∀y∈X,e7.wf y)(a:X.map oh=rC.take k)(b:X.length=k)(c:oh x=r)(d:e7.wf x)(e:rC.take (k+1)=rC.take k++ [r]:=by exact rfl):
 ∃Y,Y=X++ [x]∧(∀y∈Y,e7.wf y)∧Y.map oh=rC.take (k+1)∧Y.length=k+1:=
 ⟨_,rfl,λy hy=>(cD.1 hy).elim (h1 y) λq=>by rw[bO.1 q];exact d,by rw[cP,a,e,fN,lI,c],by rw[bQ,b];rfl⟩
theorem wfI {l:List Int}(h:l.all (λx=>decide (-9223372036854775808≤x)&&decide (x≤9223372036854775807))=true):∀x∈l,aJ.wf x:=λx hx=>by
 have:=eW.1 h x hx
 simp only[Bool.and_eq_true,decide_eq_true_eq]at this
 exact this
theorem I4:∀x∈rD,bI.wf x:=λx hx=>by
 have h:rD.all (λx=>decide (x.length≤140737488351232))=true:=by decide
 show x.length≤140737488351232
 exact fM (eW.1 h x hx)
theorem Yc:∀x∈zh,aJ.wf x:=wfI (by decide)
theorem I3:∀x∈kA,gY.wf x:=λx hx=>by
 have h:kA.all (λx=>decide (x.name.length≤140737488351232)&&(decide (-9223372036854775808≤x.Bc)&&decide (x.Bc≤9223372036854775807))&&(decide (-9223372036854775808≤x.value)&&decide (x.value≤9223372036854775807)))=true:=by decide
 have:=eW.1 h x hx
 simp only[Bool.and_eq_true,decide_eq_true_eq]at this
 exact⟨this.1.1,this.1.2,this.2⟩
theorem Xh {α:Type}{l:List α}(h:l.length=6):∃a b c d e f,l=[a,b,c,d,e,f]:=by
 match l,h with
 | [a,b,c,d,e,f],_=>exact⟨a,b,c,d,e,f,rfl⟩
theorem alO {n:Nat}{F:Fr}{c:Ctx}{H:List ak}{T:Act→World→Prop}{α:Type}(Rr:Rp α)(v:Value)(vs:List aV)(ga:List (List α))(ds:List du)(a:ds=(vs.zip ga).map (λp=>sl Rr p.1.1 p.2))(b:vs.length=ga.length)[h1:lW (sl bT v vs) H][d:kX ds H]
 (k:St n F (Mm c (aB (o3 Rr v ga)::H)) T):St n F (Mm c H) T:=
 St.fact (o3 Rr v ga) (λρ w hm=>⟨vs,b,dB.1 (hm.dM _ h1.mem),λi u x hu hx=>by
  have e:(u,x)∈vs.zip ga:=ae (i:=i) (by rw[List.getElem?_zip_eq_some];exact⟨hu,hx⟩)
  exact dB.1 (hm.dM _ (d.mem _ (by rw[a];exact cz.2 ⟨(u,x),e,rfl⟩)))⟩) k
theorem yK:dz prog 30 #[] ([].map aB) (λv H'=>H'=[aB (wS lT v)]):=by
 refine dz.body (args:=[]) 256 func30 rfl ntmps30 rfl (λc=> ?_);refine St.cast (H':=[]) rfl ?_;refine g2 ?_;refine St.al (λm=> ?_);refine g4 ?_;refine St.ag (mG [101] (by decide)) Ke (.au rfl) rfl ?_;rintro v8 _ rfl;refine St.ao ?_;refine St.db (.mk [101] []) v8 (λi Sb=> ?_);obtain⟨alA,an9,alB⟩:=Sb;subst alA;refine St.ag (mG [116] (by decide)) Ke (.au rfl) rfl ?_;rintro v9 _ rfl;refine St.ao ?_;refine St.db (.mk [116] []) v9 (λg Sc=> ?_);obtain⟨Wu,alH,alI⟩:=Sc;subst Wu;refine St.al (λn=> ?_);refine St.al (λo=> ?_);refine g8 ?_;refine St.ag (fI (aU i) (aU g) (.mk [101] []) (.mk [116] [])) qG (.aX rfl rfl) rfl ?_;rintro v12 _ rfl;refine St.ao ?_;refine St.db (an (.mk [101] []) (.mk [116] [])) v12 (λf hxp=> ?_);obtain⟨Ws,alC,alD⟩:=hxp;subst Ws;refine St.al (λp=> ?_);refine g7 ?_;refine St.ag (fI (aU i) (aU f) (.mk [101] []) (an (.mk [101] []) (.mk [116] []))) qG (.aX rfl rfl) rfl ?_;rintro v15 _ rfl;refine St.ao ?_;refine St.db (an (.mk [101] []) (an (.mk [101] []) (.mk [116] []))) v15 (λl hxr=> ?_);obtain⟨Wt,alF,alG⟩:=hxr;subst Wt;refine St.al (λq=> ?_);refine g5 ?_;refine St.al (λa=> ?_);refine g4 ?_;refine St.gX rfl (.cons (.mk rfl) (.cons (.mk rfl) (.cons (.mk rfl) (.cons (.mk rfl) (.cons (.mk rfl) (.cons (.mk rfl) (.cons (.mk rfl) (.alR rfl rfl rfl rfl rfl rfl rfl rfl)))))))) pM M3 VP rfl rfl (by simp[Value.cells]) rfl rfl (λM=> ?_);refine St.bS (.slice (some ⟨M,0,none⟩) 15 15) bI rD rfl rfl I4 ?_;refine St.Xy (Rr:=bI) (xs:=rD) (.slice (some ⟨M,0,none⟩) 15 15) rfl ?_;refine St.bi zh (λb17=> ?_) bJ dK eS;refine St.Xy (Rr:=aJ) (xs:=zh) (.slice (some ⟨b17,0,none⟩) 15 15) rfl ?_;refine St.ee (Ev.build (bF.ej rfl rfl rfl) (λw=>jt rfl rfl rfl w)) ?_;refine St.ee (Ev.build (bF.ej rfl rfl rfl) (λw=>jt rfl rfl rfl w)) ?_;refine St.ee (Ev.build (bF.ej rfl rfl rfl) (λw=>jt rfl rfl rfl w)) ?_;refine St.ee (Ev.build (bF.ej rfl rfl rfl) (λw=>jt rfl rfl rfl w)) ?_;refine St.ee (Ev.build (bF.ej rfl rfl rfl) (λw=>jt rfl rfl rfl w)) ?_;refine St.gX rfl (.Au rfl rfl rfl rfl rfl) G7 Bp afS rfl rfl (by simp[Value.cells]) rfl rfl (λb=> ?_);refine St.bS (.slice (some ⟨b,0,none⟩) 5 5) gY kA rfl rfl I3 ?_;refine St.ag (vI (.slice (some ⟨M,0,none⟩) 15 15) (.slice (some ⟨b17,0,none⟩) 15 15) (.slice (some ⟨b,0,none⟩) 5 5) rD zh rfl rfl (by decide)) ahP (.ej rfl rfl rfl) rfl ?_;rintro v24 _ ⟨tv,ts,rfl,hts,rfl⟩;refine St.dQ ?_;refine go ?_;refine St.PW (L':=[tv.1,(.slice (some ⟨b,0,none⟩) 5 5),(.slice none 0 0),(.slice none 0 0),(.slice none 0 0)]) (ai.mk rfl) (ai.mk rfl) Pe tv.2 rfl rfl rfl ?_;refine g4 ?_;refine St.ag Ao ahQ (.au rfl) rfl ?_;rintro v26 _ rfl;refine St.ao ?_;refine St.mB sU v26 (λms hms=> ?_);obtain⟨h26,N⟩:=hms;obtain⟨m0,m1,m2,m3,m4,m5,rfl⟩:=Xh (show ms.length=6 by have:=congrArg List.length N;rw[aO]at this;exact this);refine St.wf v26 (λr _=> ?_)
 simp only[sU,List.map_cons,List.map_nil,List.cons.injEq,and_true]at N
 obtain⟨Ng,hm1,hm2,hm3,hm4,hm5⟩:=N;refine St.cK cm [m0,m1,m2,m3,m4,m5] (x:=m0) (by simp) ?_;refine St.cK cm [m0,m1,m2,m3,m4,m5] (x:=m1) (by simp) ?_;refine St.cK cm [m0,m1,m2,m3,m4,m5] (x:=m2) (by simp) ?_;refine St.cK cm [m0,m1,m2,m3,m4,m5] (x:=m3) (by simp) ?_;refine St.cK cm [m0,m1,m2,m3,m4,m5] (x:=m4) (by simp) ?_;refine St.cK cm [m0,m1,m2,m3,m4,m5] (x:=m5) (by simp) ?_
 have aj3:=r m0 (by simp)
 have aj4:=r m1 (by simp)
 have aj5:=r m2 (by simp)
 have aj6:=r m3 (by simp)
 have aj7:=r m4 (by simp)
 have aj8:=r m5 (by simp)
 refine g4 ?_;refine St.U9 67 27 [] (⟨27,[],λu=>cU u v26⟩::⟨28,[0],λu=>cU u (cZ v26 dI.size 0 0)⟩::⟨29,[1],λu=>cU u (cN m0)⟩::⟨30,[],λu=>fW aJ [1,0,1,1,2,2,4] u⟩::⟨31,[],λu=>fW aJ [6] u⟩::⟨32,[],λu=>fW aJ [7,4,3] u⟩::⟨33,[],λu=>fW aJ [3] u⟩::⟨34,[],λu=>fW aJ [8,4,3] u⟩::⟨35,[3,4,5,6,7],λu=>fT aJ [[1,0,1,1,2,2,4],[6],[7,4,3],[3],[8,4,3]] u⟩::⟨36,[8],λu=>bL (cQ [[1,0,1,1,2,2,4],[6],[7,4,3],[3],[8,4,3]]) u⟩::⟨37,[2,9],λu=>fC Xi u⟩::⟨38,[],λu=>cU u v26⟩::⟨39,[11],λu=>cU u (cZ v26 dI.size 1 0)⟩::⟨40,[12],λu=>cU u (cN m1)⟩::⟨41,[],λu=>fW aJ [1,0,1,1,3,2,4] u⟩::⟨42,[],λu=>fW aJ [7,4,2] u⟩::⟨43,[],λu=>fW aJ [3] u⟩::⟨44,[],λu=>fW aJ [10,4,2] u⟩::⟨45,[],λu=>fW aJ [9,4,2] u⟩::⟨46,[14,15,16,17,18],λu=>fT aJ [[1,0,1,1,3,2,4],[7,4,2],[3],[10,4,2],[9,4,2]] u⟩::⟨47,[19],λu=>bL (cQ [[1,0,1,1,3,2,4],[7,4,2],[3],[10,4,2],[9,4,2]]) u⟩::⟨48,[13,20],λu=>fC Xj u⟩::⟨49,[],λu=>cU u v26⟩::⟨50,[22],λu=>cU u (cZ v26 dI.size 2 0)⟩::⟨51,[23],λu=>cU u (cN m2)⟩::⟨52,[],λu=>fW aJ [1,0,1,1,3] u⟩::⟨53,[],λu=>fW aJ [8,4,2] u⟩::⟨54,[],λu=>fW aJ [3] u⟩::⟨55,[],λu=>fW aJ [11,4,2] u⟩::⟨56,[25,26,27,28],λu=>fT aJ [[1,0,1,1,3],[8,4,2],[3],[11,4,2]] u⟩::⟨57,[29],λu=>bL (cQ [[1,0,1,1,3],[8,4,2],[3],[11,4,2]]) u⟩::⟨58,[24,30],λu=>fC Xk u⟩::⟨59,[],λu=>cU u v26⟩::⟨60,[32],λu=>cU u (cZ v26 dI.size 3 0)⟩::⟨61,[33],λu=>cU u (cN m3)⟩::⟨62,[],λu=>fW aJ [1,0,1,1,3,2,4] u⟩::⟨63,[],λu=>fW aJ [8,4,2] u⟩::⟨64,[],λu=>fW aJ [3] u⟩::⟨65,[],λu=>fW aJ [12,4,2] u⟩::⟨66,[],λu=>fW aJ [7] u⟩::⟨67,[35,36,37,38,39],λu=>fT aJ [[1,0,1,1,3,2,4],[8,4,2],[3],[12,4,2],[7]] u⟩::⟨68,[40],λu=>bL (cQ [[1,0,1,1,3,2,4],[8,4,2],[3],[12,4,2],[7]]) u⟩::⟨69,[34,41],λu=>fC Xl u⟩::⟨70,[],λu=>cU u v26⟩::⟨71,[43],λu=>cU u (cZ v26 dI.size 4 0)⟩::⟨72,[44],λu=>cU u (cN m4)⟩::⟨73,[],λu=>fW aJ [1,0,1,1,3,2,4] u⟩::⟨74,[],λu=>fW aJ [8,4,2] u⟩::⟨75,[],λu=>fW aJ [3] u⟩::⟨76,[],λu=>fW aJ [13] u⟩::⟨77,[],λu=>fW aJ [8,4,2] u⟩::⟨78,[46,47,48,49,50],λu=>fT aJ [[1,0,1,1,3,2,4],[8,4,2],[3],[13],[8,4,2]] u⟩::⟨79,[51],λu=>bL (cQ [[1,0,1,1,3,2,4],[8,4,2],[3],[13],[8,4,2]]) u⟩::⟨80,[45,52],λu=>fC Xm u⟩::⟨81,[],λu=>cU u v26⟩::⟨82,[54],λu=>cU u (cZ v26 dI.size 5 0)⟩::⟨83,[55],λu=>cU u (cN m5)⟩::⟨84,[],λu=>fW aJ [1,0,1,1,3,2,4,3,5] u⟩::⟨85,[],λu=>fW aJ [7,4,2] u⟩::⟨86,[],λu=>fW aJ [5] u⟩::⟨87,[],λu=>fW aJ [7] u⟩::⟨88,[],λu=>fW aJ [14] u⟩::⟨89,[],λu=>fW aJ [7] u⟩::⟨90,[57,58,59,60,61,62],λu=>fT aJ [[1,0,1,1,3,2,4,3,5],[7,4,2],[5],[7],[14],[7]] u⟩::⟨91,[63],λu=>bL (cQ [[1,0,1,1,3,2,4,3,5],[7,4,2],[5],[7],[14],[7]]) u⟩::⟨92,[56,64],λu=>fC Xn u⟩::⟨93,[10,21,31,42,53,65],λu=>p6 uN u⟩::[]) ((27,[])::(28,[0])::(29,[1])::(30,[])::(31,[])::(32,[])::(33,[])::(34,[])::(35,[3,4,5,6,7])::(36,[8])::(37,[2,9])::(38,[])::(39,[11])::(40,[12])::(41,[])::(42,[])::(43,[])::(44,[])::(45,[])::(46,[14,15,16,17,18])::(47,[19])::(48,[13,20])::(49,[])::(50,[22])::(51,[23])::(52,[])::(53,[])::(54,[])::(55,[])::(56,[25,26,27,28])::(57,[29])::(58,[24,30])::(59,[])::(60,[32])::(61,[33])::(62,[])::(63,[])::(64,[])::(65,[])::(66,[])::(67,[35,36,37,38,39])::(68,[40])::(69,[34,41])::(70,[])::(71,[43])::(72,[44])::(73,[])::(74,[])::(75,[])::(76,[])::(77,[])::(78,[46,47,48,49,50])::(79,[51])::(80,[45,52])::(81,[])::(82,[54])::(83,[55])::(84,[])::(85,[])::(86,[])::(87,[])::(88,[])::(89,[])::(90,[57,58,59,60,61,62])::(91,[63])::(92,[56,64])::(93,[10,21,31,42,53,65])::[]) [66] rfl rfl mixed (by kernel_rfl) (by kernel_rfl) (by rfl) (λe=>[(93,e 66)]) (λe=>[aB (p6 uN (e 66))]) (λ_=>rfl) (λ_=>rfl) ?_ (λe=> ?_)
 ·refine ab.c0 (λc e d=> ?_) ?_
  ·refine St.aK ?_
   refine go ?_;refine St.fact (cU v26 v26) (λ_ _ _=>rfl) ?_;exact St.bg _
  refine ab.cc (λe=>[(27,e 0)]) (λe=>[aB (cU (e 0) v26)]) (λc e d=> ?_) ?_
  ·refine St.ao ?_
   refine St.bX (P:=prog) 27 (e 0) v26 rfl ?_;refine St.ee (Ev.cM (k:=0) (.mk rfl) (.mk rfl) iE fc (by omega) (by simp)) ?_;refine St.fact (cU (cZ v26 dI.size 0 0) (cZ v26 dI.size 0 0)) (λ_ _ _=>rfl) ?_;exact St.bg _
  refine ab.cc (λe=>[(28,e 1)]) (λe=>[aB (cU (e 1) (cZ v26 dI.size 0 0))]) (λc e d=> ?_) ?_
  ·refine St.ao ?_
   refine St.bX (P:=prog) 28 (e 1) (cZ v26 dI.size 0 0) rfl ?_;refine St.ee (Ev.jq (.mk rfl) (show [m0,m1,m2,m3,m4,m5][0]?=some m0 from rfl) lh trivial fc j5.eq) ?_;refine St.fact (cU (cN m0) (cN m0)) (λ_ _ _=>rfl) ?_;exact St.bg _
  refine ab.bi ?_ bJ dK eS;refine ab.bi ?_ bJ dK eS;refine ab.bi ?_ bJ dK eS;refine ab.bi ?_ bJ dK eS;refine ab.bi ?_ bJ dK eS;refine ab.bw ?_ fK fE kJ (λ_=>(.Au rfl rfl rfl rfl rfl));refine ab.cc (λe=>[(35,e 8)]) (λe=>[aB (fT aJ [[1,0,1,1,2,2,4],[6],[7,4,3],[3],[8,4,3]] (e 8))]) (λc e d=> ?_) ?_
  ·refine St.ao ?_
   refine St.ag (gN (e 8) [[1,0,1,1,2,2,4],[6],[7,4,3],[3],[8,4,3]] (by decide) (by decide)) EI (.au rfl) rfl ?_;rintro v36 _ rfl;refine St.ao ?_;exact St.bg _
  refine ab.cc (λe=>[(29,e 2),(36,e 9)]) (λe=>[aB (cU (e 2) (cN m0)),aB (bL (cQ [[1,0,1,1,2,2,4],[6],[7,4,3],[3],[8,4,3]]) (e 9))]) (λc e d=> ?_) ?_
  ·refine St.dQ ?_
   refine St.bX (P:=prog) 29 (e 2) (cN m0) rfl ?_;refine St.bL (cQ [[1,0,1,1,2,2,4],[6],[7,4,3],[3],[8,4,3]]) (e 9) (λy hy=> ?_);obtain⟨s,t⟩:=hy;rw[s];refine St.ee (Ev.build (bF.gU rfl rfl rfl rfl) (λw=>qB rfl rfl w)) ?_;refine St.eZ (fC Xi (rm (⟨[115],y,2,0,m0⟩:ca))) [aG y,cm m0] (λρ h=>⟨(⟨[115],y,2,0,m0⟩:ca),rfl,by show(⟨_,ay y,_,_,dH m0⟩:sq)=_;rw[t,Ng],⟨(show nD [115] by decide),(show aZ 2 by unfold aZ;decide),(show aZ 0 by unfold aZ;decide),aj3⟩,h⟩) ?_;exact St.bg _
  refine ab.c0 (λc e d=> ?_) ?_
  ·refine St.aK ?_
   refine go ?_;refine St.fact (cU v26 v26) (λ_ _ _=>rfl) ?_;exact St.bg _
  refine ab.cc (λe=>[(38,e 11)]) (λe=>[aB (cU (e 11) v26)]) (λc e d=> ?_) ?_
  ·refine St.ao ?_
   refine St.bX (P:=prog) 38 (e 11) v26 rfl ?_;refine St.ee (Ev.cM (k:=1) (.mk rfl) (.mk rfl) iE fc (by omega) (by simp)) ?_;refine St.fact (cU (cZ v26 dI.size 1 0) (cZ v26 dI.size 1 0)) (λ_ _ _=>rfl) ?_;exact St.bg _
  refine ab.cc (λe=>[(39,e 12)]) (λe=>[aB (cU (e 12) (cZ v26 dI.size 1 0))]) (λc e d=> ?_) ?_
  ·refine St.ao ?_
   refine St.bX (P:=prog) 39 (e 12) (cZ v26 dI.size 1 0) rfl ?_;refine St.ee (Ev.jq (.mk rfl) (show [m0,m1,m2,m3,m4,m5][1]?=some m1 from rfl) lh trivial fc j5.eq) ?_;refine St.fact (cU (cN m1) (cN m1)) (λ_ _ _=>rfl) ?_;exact St.bg _
  refine ab.bi ?_ bJ dK eS;refine ab.bi ?_ bJ dK eS;refine ab.bi ?_ bJ dK eS;refine ab.bi ?_ bJ dK eS;refine ab.bi ?_ bJ dK eS;refine ab.bw ?_ fK fE kJ (λ_=>(.Au rfl rfl rfl rfl rfl));refine ab.cc (λe=>[(46,e 19)]) (λe=>[aB (fT aJ [[1,0,1,1,3,2,4],[7,4,2],[3],[10,4,2],[9,4,2]] (e 19))]) (λc e d=> ?_) ?_
  ·refine St.ao ?_
   refine St.ag (gN (e 19) [[1,0,1,1,3,2,4],[7,4,2],[3],[10,4,2],[9,4,2]] (by decide) (by decide)) EI (.au rfl) rfl ?_;rintro v47 _ rfl;refine St.ao ?_;exact St.bg _
  refine ab.cc (λe=>[(40,e 13),(47,e 20)]) (λe=>[aB (cU (e 13) (cN m1)),aB (bL (cQ [[1,0,1,1,3,2,4],[7,4,2],[3],[10,4,2],[9,4,2]]) (e 20))]) (λc e d=> ?_) ?_
  ·refine St.dQ ?_
   refine St.bX (P:=prog) 40 (e 13) (cN m1) rfl ?_;refine St.bL (cQ [[1,0,1,1,3,2,4],[7,4,2],[3],[10,4,2],[9,4,2]]) (e 20) (λy hy=> ?_);obtain⟨s,t⟩:=hy;rw[s];refine St.ee (Ev.build (bF.Au rfl rfl rfl rfl rfl) (λw=>j6 rfl rfl rfl w)) ?_;refine St.eZ (fC Xj (rm (⟨[110,112],y,2,1,m1⟩:ca))) [aG y,cm m1] (λρ h=>⟨(⟨[110,112],y,2,1,m1⟩:ca),rfl,by show(⟨_,ay y,_,_,dH m1⟩:sq)=_;rw[t,hm1],⟨(show nD [110,112] by decide),(show aZ 2 by unfold aZ;decide),(show aZ 1 by unfold aZ;decide),aj4⟩,h⟩) ?_;exact St.bg _
  refine ab.c0 (λc e d=> ?_) ?_
  ·refine St.aK ?_
   refine go ?_;refine St.fact (cU v26 v26) (λ_ _ _=>rfl) ?_;exact St.bg _
  refine ab.cc (λe=>[(49,e 22)]) (λe=>[aB (cU (e 22) v26)]) (λc e d=> ?_) ?_
  ·refine St.ao ?_
   refine St.bX (P:=prog) 49 (e 22) v26 rfl ?_;refine St.ee (Ev.cM (k:=2) (.mk rfl) (.mk rfl) iE fc (by omega) (by simp)) ?_;refine St.fact (cU (cZ v26 dI.size 2 0) (cZ v26 dI.size 2 0)) (λ_ _ _=>rfl) ?_;exact St.bg _
  refine ab.cc (λe=>[(50,e 23)]) (λe=>[aB (cU (e 23) (cZ v26 dI.size 2 0))]) (λc e d=> ?_) ?_
  ·refine St.ao ?_
   refine St.bX (P:=prog) 50 (e 23) (cZ v26 dI.size 2 0) rfl ?_;refine St.ee (Ev.jq (.mk rfl) (show [m0,m1,m2,m3,m4,m5][2]?=some m2 from rfl) lh trivial fc j5.eq) ?_;refine St.fact (cU (cN m2) (cN m2)) (λ_ _ _=>rfl) ?_;exact St.bg _
  refine ab.bi ?_ bJ dK eS;refine ab.bi ?_ bJ dK eS;refine ab.bi ?_ bJ dK eS;refine ab.bi ?_ bJ dK eS;refine ab.bw ?_ fK fE kJ (λ_=>(.gU rfl rfl rfl rfl));refine ab.cc (λe=>[(56,e 29)]) (λe=>[aB (fT aJ [[1,0,1,1,3],[8,4,2],[3],[11,4,2]] (e 29))]) (λc e d=> ?_) ?_
  ·refine St.ao ?_
   refine St.ag (gN (e 29) [[1,0,1,1,3],[8,4,2],[3],[11,4,2]] (by decide) (by decide)) EI (.au rfl) rfl ?_;rintro v57 _ rfl;refine St.ao ?_;exact St.bg _
  refine ab.cc (λe=>[(51,e 24),(57,e 30)]) (λe=>[aB (cU (e 24) (cN m2)),aB (bL (cQ [[1,0,1,1,3],[8,4,2],[3],[11,4,2]]) (e 30))]) (λc e d=> ?_) ?_
  ·refine St.dQ ?_
   refine St.bX (P:=prog) 51 (e 24) (cN m2) rfl ?_;refine St.bL (cQ [[1,0,1,1,3],[8,4,2],[3],[11,4,2]]) (e 30) (λy hy=> ?_);obtain⟨s,t⟩:=hy;rw[s];refine St.ee (Ev.build (bF.gU rfl rfl rfl rfl) (λw=>qB rfl rfl w)) ?_;refine St.eZ (fC Xk (rm (⟨[118,112,45,105,118],y,1,0,m2⟩:ca))) [aG y,cm m2] (λρ h=>⟨(⟨[118,112,45,105,118],y,1,0,m2⟩:ca),rfl,by show(⟨_,ay y,_,_,dH m2⟩:sq)=_;rw[t,hm2],⟨(show nD [118,112,45,105,118] by decide),(show aZ 1 by unfold aZ;decide),(show aZ 0 by unfold aZ;decide),aj5⟩,h⟩) ?_;exact St.bg _
  refine ab.c0 (λc e d=> ?_) ?_
  ·refine St.aK ?_
   refine go ?_;refine St.fact (cU v26 v26) (λ_ _ _=>rfl) ?_;exact St.bg _
  refine ab.cc (λe=>[(59,e 32)]) (λe=>[aB (cU (e 32) v26)]) (λc e d=> ?_) ?_
  ·refine St.ao ?_
   refine St.bX (P:=prog) 59 (e 32) v26 rfl ?_;refine St.ee (Ev.cM (k:=3) (.mk rfl) (.mk rfl) iE fc (by omega) (by simp)) ?_;refine St.fact (cU (cZ v26 dI.size 3 0) (cZ v26 dI.size 3 0)) (λ_ _ _=>rfl) ?_;exact St.bg _
  refine ab.cc (λe=>[(60,e 33)]) (λe=>[aB (cU (e 33) (cZ v26 dI.size 3 0))]) (λc e d=> ?_) ?_
  ·refine St.ao ?_
   refine St.bX (P:=prog) 60 (e 33) (cZ v26 dI.size 3 0) rfl ?_;refine St.ee (Ev.jq (.mk rfl) (show [m0,m1,m2,m3,m4,m5][3]?=some m3 from rfl) lh trivial fc j5.eq) ?_;refine St.fact (cU (cN m3) (cN m3)) (λ_ _ _=>rfl) ?_;exact St.bg _
  refine ab.bi ?_ bJ dK eS;refine ab.bi ?_ bJ dK eS;refine ab.bi ?_ bJ dK eS;refine ab.bi ?_ bJ dK eS;refine ab.bi ?_ bJ dK eS;refine ab.bw ?_ fK fE kJ (λ_=>(.Au rfl rfl rfl rfl rfl));refine ab.cc (λe=>[(67,e 40)]) (λe=>[aB (fT aJ [[1,0,1,1,3,2,4],[8,4,2],[3],[12,4,2],[7]] (e 40))]) (λc e d=> ?_) ?_
  ·refine St.ao ?_
   refine St.ag (gN (e 40) [[1,0,1,1,3,2,4],[8,4,2],[3],[12,4,2],[7]] (by decide) (by decide)) EI (.au rfl) rfl ?_;rintro v68 _ rfl;refine St.ao ?_;exact St.bg _
  refine ab.cc (λe=>[(61,e 34),(68,e 41)]) (λe=>[aB (cU (e 34) (cN m3)),aB (bL (cQ [[1,0,1,1,3,2,4],[8,4,2],[3],[12,4,2],[7]]) (e 41))]) (λc e d=> ?_) ?_
  ·refine St.dQ ?_
   refine St.bX (P:=prog) 61 (e 34) (cN m3) rfl ?_;refine St.bL (cQ [[1,0,1,1,3,2,4],[8,4,2],[3],[12,4,2],[7]]) (e 41) (λy hy=> ?_);obtain⟨s,t⟩:=hy;rw[s];refine St.ee (Ev.build (bF.Au rfl rfl rfl rfl rfl) (λw=>j6 rfl rfl rfl w)) ?_;refine St.eZ (fC Xl (rm (⟨[118,112,45,116,118],y,2,2,m3⟩:ca))) [aG y,cm m3] (λρ h=>⟨(⟨[118,112,45,116,118],y,2,2,m3⟩:ca),rfl,by show(⟨_,ay y,_,_,dH m3⟩:sq)=_;rw[t,hm3],⟨(show nD [118,112,45,116,118] by decide),(show aZ 2 by unfold aZ;decide),(show aZ 2 by unfold aZ;decide),aj6⟩,h⟩) ?_;exact St.bg _
  refine ab.c0 (λc e d=> ?_) ?_
  ·refine St.aK ?_
   refine go ?_;refine St.fact (cU v26 v26) (λ_ _ _=>rfl) ?_;exact St.bg _
  refine ab.cc (λe=>[(70,e 43)]) (λe=>[aB (cU (e 43) v26)]) (λc e d=> ?_) ?_
  ·refine St.ao ?_
   refine St.bX (P:=prog) 70 (e 43) v26 rfl ?_;refine St.ee (Ev.cM (k:=4) (.mk rfl) (.mk rfl) iE fc (by omega) (by simp)) ?_;refine St.fact (cU (cZ v26 dI.size 4 0) (cZ v26 dI.size 4 0)) (λ_ _ _=>rfl) ?_;exact St.bg _
  refine ab.cc (λe=>[(71,e 44)]) (λe=>[aB (cU (e 44) (cZ v26 dI.size 4 0))]) (λc e d=> ?_) ?_
  ·refine St.ao ?_
   refine St.bX (P:=prog) 71 (e 44) (cZ v26 dI.size 4 0) rfl ?_;refine St.ee (Ev.jq (.mk rfl) (show [m0,m1,m2,m3,m4,m5][4]?=some m4 from rfl) lh trivial fc j5.eq) ?_;refine St.fact (cU (cN m4) (cN m4)) (λ_ _ _=>rfl) ?_;exact St.bg _
  refine ab.bi ?_ bJ dK eS;refine ab.bi ?_ bJ dK eS;refine ab.bi ?_ bJ dK eS;refine ab.bi ?_ bJ dK eS;refine ab.bi ?_ bJ dK eS;refine ab.bw ?_ fK fE kJ (λ_=>(.Au rfl rfl rfl rfl rfl));refine ab.cc (λe=>[(78,e 51)]) (λe=>[aB (fT aJ [[1,0,1,1,3,2,4],[8,4,2],[3],[13],[8,4,2]] (e 51))]) (λc e d=> ?_) ?_
  ·refine St.ao ?_
   refine St.ag (gN (e 51) [[1,0,1,1,3,2,4],[8,4,2],[3],[13],[8,4,2]] (by decide) (by decide)) EI (.au rfl) rfl ?_;rintro v79 _ rfl;refine St.ao ?_;exact St.bg _
  refine ab.cc (λe=>[(72,e 45),(79,e 52)]) (λe=>[aB (cU (e 45) (cN m4)),aB (bL (cQ [[1,0,1,1,3,2,4],[8,4,2],[3],[13],[8,4,2]]) (e 52))]) (λc e d=> ?_) ?_
  ·refine St.dQ ?_
   refine St.bX (P:=prog) 72 (e 45) (cN m4) rfl ?_;refine St.bL (cQ [[1,0,1,1,3,2,4],[8,4,2],[3],[13],[8,4,2]]) (e 52) (λy hy=> ?_);obtain⟨s,t⟩:=hy;rw[s];refine St.ee (Ev.build (bF.Au rfl rfl rfl rfl rfl) (λw=>j6 rfl rfl rfl w)) ?_;refine St.eZ (fC Xm (rm (⟨[118,112,45,110,111,116],y,2,3,m4⟩:ca))) [aG y,cm m4] (λρ h=>⟨(⟨[118,112,45,110,111,116],y,2,3,m4⟩:ca),rfl,by show(⟨_,ay y,_,_,dH m4⟩:sq)=_;rw[t,hm4],⟨(show nD [118,112,45,110,111,116] by decide),(show aZ 2 by unfold aZ;decide),(show aZ 3 by unfold aZ;decide),aj7⟩,h⟩) ?_;exact St.bg _
  refine ab.c0 (λc e d=> ?_) ?_
  ·refine St.aK ?_
   refine go ?_;refine St.fact (cU v26 v26) (λ_ _ _=>rfl) ?_;exact St.bg _
  refine ab.cc (λe=>[(81,e 54)]) (λe=>[aB (cU (e 54) v26)]) (λc e d=> ?_) ?_
  ·refine St.ao ?_
   refine St.bX (P:=prog) 81 (e 54) v26 rfl ?_;refine St.ee (Ev.cM (k:=5) (.mk rfl) (.mk rfl) iE fc (by omega) (by simp)) ?_;refine St.fact (cU (cZ v26 dI.size 5 0) (cZ v26 dI.size 5 0)) (λ_ _ _=>rfl) ?_;exact St.bg _
  refine ab.cc (λe=>[(82,e 55)]) (λe=>[aB (cU (e 55) (cZ v26 dI.size 5 0))]) (λc e d=> ?_) ?_
  ·refine St.ao ?_
   refine St.bX (P:=prog) 82 (e 55) (cZ v26 dI.size 5 0) rfl ?_;refine St.ee (Ev.jq (.mk rfl) (show [m0,m1,m2,m3,m4,m5][5]?=some m5 from rfl) lh trivial fc j5.eq) ?_;refine St.fact (cU (cN m5) (cN m5)) (λ_ _ _=>rfl) ?_;exact St.bg _
  refine ab.bi ?_ bJ dK eS;refine ab.bi ?_ bJ dK eS;refine ab.bi ?_ bJ dK eS;refine ab.bi ?_ bJ dK eS;refine ab.bi ?_ bJ dK eS;refine ab.bi ?_ bJ dK eS;refine ab.bw ?_ fK fE kJ (λ_=>(.XV rfl rfl rfl rfl rfl rfl));refine ab.cc (λe=>[(90,e 63)]) (λe=>[aB (fT aJ [[1,0,1,1,3,2,4,3,5],[7,4,2],[5],[7],[14],[7]] (e 63))]) (λc e d=> ?_) ?_
  ·refine St.ao ?_
   refine St.ag (gN (e 63) [[1,0,1,1,3,2,4,3,5],[7,4,2],[5],[7],[14],[7]] (by decide) (by decide)) EI (.au rfl) rfl ?_;rintro v91 _ rfl;refine St.ao ?_;exact St.bg _
  refine ab.cc (λe=>[(83,e 56),(91,e 64)]) (λe=>[aB (cU (e 56) (cN m5)),aB (bL (cQ [[1,0,1,1,3,2,4,3,5],[7,4,2],[5],[7],[14],[7]]) (e 64))]) (λc e d=> ?_) ?_
  ·refine St.dQ ?_
   refine St.bX (P:=prog) 83 (e 56) (cN m5) rfl ?_;refine St.bL (cQ [[1,0,1,1,3,2,4,3,5],[7,4,2],[5],[7],[14],[7]]) (e 64) (λy hy=> ?_);obtain⟨s,t⟩:=hy;rw[s];refine St.ee (Ev.build (bF.Au rfl rfl rfl rfl rfl) (λw=>j6 rfl rfl rfl w)) ?_;refine St.eZ (fC Xn (rm (⟨[110,112,45,97,110,100],y,3,4,m5⟩:ca))) [aG y,cm m5] (λρ h=>⟨(⟨[110,112,45,97,110,100],y,3,4,m5⟩:ca),rfl,by show(⟨_,ay y,_,_,dH m5⟩:sq)=_;rw[t,hm5],⟨(show nD [110,112,45,97,110,100] by decide),(show aZ 3 by unfold aZ;decide),(show aZ 4 by unfold aZ;decide),aj8⟩,h⟩) ?_;exact St.bg _
  refine ab.cc (λe=>[(37,e 10),(48,e 21),(58,e 31),(69,e 42),(80,e 53),(92,e 65)]) (λe=>[aB (fC Xi (e 10)),aB (fC Xj (e 21)),aB (fC Xk (e 31)),aB (fC Xl (e 42)),aB (fC Xm (e 53)),aB (fC Xn (e 65))]) (λc e d=> ?_) ?_
  ·refine St.R0 ?_
   refine St.fC Xi (e 10) (λz akE=> ?_);obtain⟨acI,acH,acJ⟩:=akE;rw[acI];refine St.fC Xj (e 21) (λA akF=> ?_);obtain⟨acL,acK,acM⟩:=akF;rw[acL];refine St.fC Xk (e 31) (λB akG=> ?_);obtain⟨acO,acN,acP⟩:=akG;rw[acO];refine St.fC Xl (e 42) (λC akH=> ?_);obtain⟨acR,acQ,acS⟩:=akH;rw[acR];refine St.fC Xm (e 53) (λD akI=> ?_);obtain⟨acU,acT,acV⟩:=akI;rw[acU];refine St.fC Xn (e 65) (λE akJ=> ?_);obtain⟨acX,acW,acY⟩:=akJ;rw[acX];refine St.gX rfl (.XV rfl rfl rfl rfl rfl rfl) Pu kU afR rfl rfl (by simp[Value.cells,J.cells_one z.graph.nv.2,J.cells_one z.eu.type.av.2,J.cells_one z.eu.av.2,J.cells_one A.graph.nv.2,J.cells_one A.eu.type.av.2,J.cells_one A.eu.av.2,J.cells_one B.graph.nv.2,J.cells_one B.eu.type.av.2,J.cells_one B.eu.av.2,J.cells_one C.graph.nv.2,J.cells_one C.eu.type.av.2,J.cells_one C.eu.av.2,J.cells_one D.graph.nv.2,J.cells_one D.eu.type.av.2,J.cells_one D.eu.av.2,J.cells_one E.graph.nv.2,J.cells_one E.eu.type.av.2,J.cells_one E.eu.av.2]) rfl rfl (λH=> ?_);refine St.bS (.slice (some ⟨H,0,none⟩) 6 6) cT [z,A,B,C,D,E] rfl rfl (all_cons acJ (all_cons acM (all_cons acP (all_cons acS (all_cons acV (all_cons acY (all_nil))))))) ?_;refine Iw bx [z,A,B,C,D,E] [bx z,bx A,bx B,bx C,bx D,bx E] rfl ?_;refine St.eZ (p6 uN (.slice (some ⟨H,0,none⟩) 6 6)) [sl cT (.slice (some ⟨H,0,none⟩) 6 6) [z,A,B,C,D,E],aF bx [z,A,B,C,D,E]] (λρ h=>⟨rfl,[z,A,B,C,D,E],by simp only[List.map_cons,List.map_nil,acH,acK,acN,acQ,acT,acW];rfl,h (sl cT (.slice (some ⟨H,0,none⟩) 6 6) [z,A,B,C,D,E]) (by simp),h (aF bx [z,A,B,C,D,E]) (by simp)⟩) ?_;exact St.bg _
  exact ab.nil
 refine St.ao ?_;refine St.p6 uN (e 66) (λj akK=> ?_);obtain⟨L,ac0⟩:=akK
 generalize e 66=rv at L⊢
 refine St.dw 115 9 ?_;refine St.aM (.slice none 0 0) (show _=([]:List eY).length from rfl) (show _=rows e7 []from rfl) ?_;refine St.dN eQ ?_
 obtain⟨X0,I⟩:∃X:List eY,X=[]:=⟨_,rfl⟩
 rw[←I]
 have Q:∀x∈X0,e7.wf x:=by rw[I];exact λx hx=>by cases hx
 have aiM:X0.map oh=rC.take 0:=by rw[I];rfl
 have aiO:Value.oneCell' (.slice none 0 0)=true:=rfl
 have aiN:X0.length=0:=by rw[I];rfl
 refine go ?_;refine St.cH (.mk rfl) (.mk rfl) al2 L (by rfl) ?_;refine g4 ?_;refine St.ee (Ev.func (.au rfl)) ?_;refine g6 ?_;refine St.ag (lR [97,108,108] [105,102] false (by decide) (by decide)) W4 (.ej rfl rfl rfl) rfl ?_;rintro v97 _ rfl;refine St.ao ?_;refine St.bi [10,4,1] (λb98=> ?_) bJ dK eS;refine St.bi [4] (λb99=> ?_) bJ dK eS;refine St.bw [.slice (some ⟨b98,0,none⟩) 3 3,.slice (some ⟨b99,0,none⟩) 1 1] [[10,4,1],[4]] (λafV=> ?_) fK fE kJ (.aX rfl rfl);refine St.eh (eJ a tv.1 (.slice (some ⟨b,0,none⟩) 5 5) rv (.slice none 0 0) (.slice none 0 0) X0 [101,118,101,114,121] 1 v97 (.slice (some ⟨afV,0,none⟩) 2 2) (mf [97,108,108] [105,102] false) [[10,4,1],[4]] (by decide) (by unfold aZ;decide) aiO (by omega) Q (by decide) (by decide)) nk (.mk rfl) (.gU rfl rfl rfl rfl) rfl ?_;rintro al8 _ ⟨w1,x1,rfl,ai1,akS,akT,rfl⟩;refine St.iP ?_;obtain⟨X1,hX1,R,aiZ,ai0⟩:=fH Q aiM aiN akS akT;rw[←hX1];refine St.o7 (smK m n o p q a b tv ts rv j i g f l w1 X1) (by repeat(first|exact List.Sublist.slnil|with_reducible refine List.Sublist.cons_cons _ ?_|refine List.Sublist.cons _ ?_)) ?_;refine g5 ?_;refine St.ag (lR [115,111,109,101] [97,110,100] false (by decide) (by decide)) W4 (.ej rfl rfl rfl) rfl ?_;rintro al9 _ rfl;refine St.ao ?_;refine St.bi [10,4,1] (λYy=> ?_) bJ dK eS;refine St.bi [4] (λafW=> ?_) bJ dK eS;refine St.bw [.slice (some ⟨Yy,0,none⟩) 3 3,.slice (some ⟨afW,0,none⟩) 1 1] [[10,4,1],[4]] (λafX=> ?_) fK fE kJ (.aX rfl rfl);refine St.eh (eJ a tv.1 (.slice (some ⟨b,0,none⟩) 5 5) rv (.slice none 0 0) w1 X1 [97] 0 al9 (.slice (some ⟨afX,0,none⟩) 2 2) (mf [115,111,109,101] [97,110,100] false) [[10,4,1],[4]] (by decide) (by unfold aZ;decide) ai1 (by omega) R (by decide) (by decide)) nk (.mk rfl) (.gU rfl rfl rfl rfl) rfl ?_;rintro v107 _ ⟨w2,x2,rfl,ai6,akU,akV,rfl⟩;refine St.iP ?_;obtain⟨X2,hX2,S,ai4,ai5⟩:=fH R aiZ ai0 akU akV;rw[←hX2];refine St.o7 (smK m n o p q a b tv ts rv j i g f l w2 X2) (by repeat(first|exact List.Sublist.slnil|with_reducible refine List.Sublist.cons_cons _ ?_|refine List.Sublist.cons _ ?_)) ?_;refine g5 ?_;refine St.ag (lR [115,111,109,101] [97,110,100] true (by decide) (by decide)) W4 (.ej rfl rfl rfl) rfl ?_;rintro v109 _ rfl;refine St.ao ?_;refine St.bi [10] (λYz=> ?_) bJ dK eS;refine St.bw [.slice (some ⟨Yz,0,none⟩) 1 1] [[10]] (λafZ=> ?_) fK fE kJ (.au rfl);refine St.eh (eJ a tv.1 (.slice (some ⟨b,0,none⟩) 5 5) rv (.slice none 0 0) w2 X2 [110,111] 2 v109 (.slice (some ⟨afZ,0,none⟩) 1 1) (mf [115,111,109,101] [97,110,100] true) [[10]] (by decide) (by unfold aZ;decide) ai6 (by omega) S (by decide) (by decide)) nk (.mk rfl) (.gU rfl rfl rfl rfl) rfl ?_;rintro aoE _ ⟨w3,x3,rfl,ai9,akW,akX,rfl⟩;refine St.iP ?_;obtain⟨X3,hX3,T,ai7,ai8⟩:=fH S ai4 ai5 akW akX;rw[←hX3];refine St.o7 (smK m n o p q a b tv ts rv j i g f l w3 X3) (by repeat(first|exact List.Sublist.slnil|with_reducible refine List.Sublist.cons_cons _ ?_|refine List.Sublist.cons _ ?_)) ?_;refine g6 ?_;refine St.ag (eL [100,111,103] (by decide) (aU f) (an (.mk [101] []) (.mk [116] []))) nq (.aX rfl rfl) rfl ?_;rintro amA _ rfl;refine St.ao ?_;refine St.bi [9,4,1] (λaf1=> ?_) bJ dK eS;refine St.bi [4] (λaf2=> ?_) bJ dK eS;refine St.bw [.slice (some ⟨af1,0,none⟩) 3 3,.slice (some ⟨af2,0,none⟩) 1 1] [[9,4,1],[4]] (λZ0=> ?_) fK fE kJ (.aX rfl rfl);refine St.eh (eJ a tv.1 (.slice (some ⟨b,0,none⟩) 5 5) rv (.slice none 0 0) w3 X3 [100,111,103] 0 amA (.slice (some ⟨Z0,0,none⟩) 2 2) (bV [100,111,103] (an (.mk [101] []) (.mk [116] []))) [[9,4,1],[4]] (by decide) (by unfold aZ;decide) ai9 (by omega) T (by decide) (by decide)) nk (.mk rfl) (.gU rfl rfl rfl rfl) rfl ?_;rintro Tt _ ⟨w4,x4,rfl,ajC,akY,akZ,rfl⟩;refine St.iP ?_;obtain⟨X4,hX4,U,ajA,ajB⟩:=fH T ai7 ai8 akY akZ;rw[←hX4];refine St.o7 (smK m n o p q a b tv ts rv j i g f l w4 X4) (by repeat(first|exact List.Sublist.slnil|with_reducible refine List.Sublist.cons_cons _ ?_|refine List.Sublist.cons _ ?_)) ?_;refine g6 ?_;refine St.ag (eL [100,111,103] (by decide) (aU f) (an (.mk [101] []) (.mk [116] []))) nq (.aX rfl rfl) rfl ?_;rintro amC _ rfl;refine St.ao ?_;refine St.bi [9,4,1] (λaf3=> ?_) bJ dK eS;refine St.bi [5] (λZ1=> ?_) bJ dK eS;refine St.bw [.slice (some ⟨af3,0,none⟩) 3 3,.slice (some ⟨Z1,0,none⟩) 1 1] [[9,4,1],[5]] (λaf4=> ?_) fK fE kJ (.aX rfl rfl);refine St.eh (eJ a tv.1 (.slice (some ⟨b,0,none⟩) 5 5) rv (.slice none 0 0) w4 X4 [100,111,103,115] 0 amC (.slice (some ⟨af4,0,none⟩) 2 2) (bV [100,111,103] (an (.mk [101] []) (.mk [116] []))) [[9,4,1],[5]] (by decide) (by unfold aZ;decide) ajC (by omega) U (by decide) (by decide)) nk (.mk rfl) (.gU rfl rfl rfl rfl) rfl ?_;rintro aoI _ ⟨w5,x5,rfl,ajF,ak0,ak1,rfl⟩;refine St.iP ?_;obtain⟨X5,hX5,V,ajD,ajE⟩:=fH U ajA ajB ak0 ak1;rw[←hX5];refine St.o7 (smK m n o p q a b tv ts rv j i g f l w5 X5) (by repeat(first|exact List.Sublist.slnil|with_reducible refine List.Sublist.cons_cons _ ?_|refine List.Sublist.cons _ ?_)) ?_;refine g6 ?_;refine St.ag (eL [99,97,116] (by decide) (aU f) (an (.mk [101] []) (.mk [116] []))) nq (.aX rfl rfl) rfl ?_;rintro amD _ rfl;refine St.ao ?_;refine St.bi [9,4,1] (λaf6=> ?_) bJ dK eS;refine St.bi [4] (λaf7=> ?_) bJ dK eS;refine St.bw [.slice (some ⟨af6,0,none⟩) 3 3,.slice (some ⟨af7,0,none⟩) 1 1] [[9,4,1],[4]] (λaf8=> ?_) fK fE kJ (.aX rfl rfl);refine St.eh (eJ a tv.1 (.slice (some ⟨b,0,none⟩) 5 5) rv (.slice none 0 0) w5 X5 [99,97,116] 0 amD (.slice (some ⟨af8,0,none⟩) 2 2) (bV [99,97,116] (an (.mk [101] []) (.mk [116] []))) [[9,4,1],[4]] (by decide) (by unfold aZ;decide) ajF (by omega) V (by decide) (by decide)) nk (.mk rfl) (.gU rfl rfl rfl rfl) rfl ?_;rintro aoJ _ ⟨w6,x6,rfl,ajI,ak2,ak3,rfl⟩;refine St.iP ?_;obtain⟨X6,hX6,W,ajG,ajH⟩:=fH V ajD ajE ak2 ak3;rw[←hX6];refine St.o7 (smK m n o p q a b tv ts rv j i g f l w6 X6) (by repeat(first|exact List.Sublist.slnil|with_reducible refine List.Sublist.cons_cons _ ?_|refine List.Sublist.cons _ ?_)) ?_;refine g6 ?_;refine St.ag (eL [99,97,116] (by decide) (aU f) (an (.mk [101] []) (.mk [116] []))) nq (.aX rfl rfl) rfl ?_;rintro amF _ rfl;refine St.ao ?_;refine St.bi [9,4,1] (λaf9=> ?_) bJ dK eS;refine St.bi [5] (λagA=> ?_) bJ dK eS;refine St.bw [.slice (some ⟨af9,0,none⟩) 3 3,.slice (some ⟨agA,0,none⟩) 1 1] [[9,4,1],[5]] (λCd=> ?_) fK fE kJ (.aX rfl rfl);refine St.eh (eJ a tv.1 (.slice (some ⟨b,0,none⟩) 5 5) rv (.slice none 0 0) w6 X6 [99,97,116,115] 0 amF (.slice (some ⟨Cd,0,none⟩) 2 2) (bV [99,97,116] (an (.mk [101] []) (.mk [116] []))) [[9,4,1],[5]] (by decide) (by unfold aZ;decide) ajI (by omega) W (by decide) (by decide)) nk (.mk rfl) (.gU rfl rfl rfl rfl) rfl ?_;rintro aoK _ ⟨w7,x7,rfl,ajL,ak4,ak5,rfl⟩;refine St.iP ?_;obtain⟨X7,hX7,Y,ajJ,ajK⟩:=fH W ajG ajH ak4 ak5;rw[←hX7];refine St.o7 (smK m n o p q a b tv ts rv j i g f l w7 X7) (by repeat(first|exact List.Sublist.slnil|with_reducible refine List.Sublist.cons_cons _ ?_|refine List.Sublist.cons _ ?_)) ?_;refine g6 ?_;refine St.ag (eL [102,105,115,104] (by decide) (aU f) (an (.mk [101] []) (.mk [116] []))) nq (.aX rfl rfl) rfl ?_;rintro v143 _ rfl;refine St.ao ?_;refine St.bi [9,4,1] (λagB=> ?_) bJ dK eS;refine St.bi [4] (λagC=> ?_) bJ dK eS;refine St.bw [.slice (some ⟨agB,0,none⟩) 3 3,.slice (some ⟨agC,0,none⟩) 1 1] [[9,4,1],[4]] (λagD=> ?_) fK fE kJ (.aX rfl rfl);refine St.eh (eJ a tv.1 (.slice (some ⟨b,0,none⟩) 5 5) rv (.slice none 0 0) w7 X7 [102,105,115,104] 1 v143 (.slice (some ⟨agD,0,none⟩) 2 2) (bV [102,105,115,104] (an (.mk [101] []) (.mk [116] []))) [[9,4,1],[4]] (by decide) (by unfold aZ;decide) ajL (by omega) Y (by decide) (by decide)) nk (.mk rfl) (.gU rfl rfl rfl rfl) rfl ?_;rintro aoM _ ⟨w8,x8,rfl,ajO,ak6,ak7,rfl⟩;refine St.iP ?_;obtain⟨X8,hX8,Z,ajM,ajN⟩:=fH Y ajJ ajK ak6 ak7;rw[←hX8];refine St.o7 (smK m n o p q a b tv ts rv j i g f l w8 X8) (by repeat(first|exact List.Sublist.slnil|with_reducible refine List.Sublist.cons_cons _ ?_|refine List.Sublist.cons _ ?_)) ?_;refine g6 ?_;refine St.ag (eL [102,105,115,104] (by decide) (aU f) (an (.mk [101] []) (.mk [116] []))) nq (.aX rfl rfl) rfl ?_;rintro QB _ rfl;refine St.ao ?_;refine St.bi [9,4,1] (λagE=> ?_) bJ dK eS;refine St.bi [5] (λagF=> ?_) bJ dK eS;refine St.bw [.slice (some ⟨agE,0,none⟩) 3 3,.slice (some ⟨agF,0,none⟩) 1 1] [[9,4,1],[5]] (λagG=> ?_) fK fE kJ (.aX rfl rfl);refine St.eh (eJ a tv.1 (.slice (some ⟨b,0,none⟩) 5 5) rv (.slice none 0 0) w8 X8 [102,105,115,104] 2 QB (.slice (some ⟨agG,0,none⟩) 2 2) (bV [102,105,115,104] (an (.mk [101] []) (.mk [116] []))) [[9,4,1],[5]] (by decide) (by unfold aZ;decide) ajO (by omega) Z (by decide) (by decide)) nk (.mk rfl) (.gU rfl rfl rfl rfl) rfl ?_;rintro v154 _ ⟨w9,x9,rfl,ajR,ak8,ak9,rfl⟩;refine St.iP ?_;obtain⟨X9,hX9,abS,ajP,ajQ⟩:=fH Z ajM ajN ak8 ak9;rw[←hX9];refine St.o7 (smK m n o p q a b tv ts rv j i g f l w9 X9) (by repeat(first|exact List.Sublist.slnil|with_reducible refine List.Sublist.cons_cons _ ?_|refine List.Sublist.cons _ ?_)) ?_;refine g6 ?_;refine St.ag (eL [98,97,114,107] (by decide) (aU f) (an (.mk [101] []) (.mk [116] []))) nq (.aX rfl rfl) rfl ?_;rintro v157 _ rfl;refine St.ao ?_;refine St.bi [11,4,1] (λagH=> ?_) bJ dK eS;refine St.bi [4] (λagI=> ?_) bJ dK eS;refine St.bw [.slice (some ⟨agH,0,none⟩) 3 3,.slice (some ⟨agI,0,none⟩) 1 1] [[11,4,1],[4]] (λZ3=> ?_) fK fE kJ (.aX rfl rfl);refine St.eh (eJ a tv.1 (.slice (some ⟨b,0,none⟩) 5 5) rv (.slice none 0 0) w9 X9 [98,97,114,107,115] 0 v157 (.slice (some ⟨Z3,0,none⟩) 2 2) (bV [98,97,114,107] (an (.mk [101] []) (.mk [116] []))) [[11,4,1],[4]] (by decide) (by unfold aZ;decide) ajR (by omega) abS (by decide) (by decide)) nk (.mk rfl) (.gU rfl rfl rfl rfl) rfl ?_;rintro Tu _ ⟨w10,x10,rfl,aaU,adE,adF,rfl⟩;refine St.iP ?_;obtain⟨X10,aiP,UZ,aaS,aaT⟩:=fH abS ajP ajQ adE adF;rw[←aiP];refine St.o7 (smK m n o p q a b tv ts rv j i g f l w10 X10) (by repeat(first|exact List.Sublist.slnil|with_reducible refine List.Sublist.cons_cons _ ?_|refine List.Sublist.cons _ ?_)) ?_;refine g6 ?_;refine St.ag (eL [98,97,114,107] (by decide) (aU f) (an (.mk [101] []) (.mk [116] []))) nq (.aX rfl rfl) rfl ?_;rintro v164 _ rfl;refine St.ao ?_;refine St.bi [11,4,1] (λagJ=> ?_) bJ dK eS;refine St.bi [5] (λagK=> ?_) bJ dK eS;refine St.bw [.slice (some ⟨agJ,0,none⟩) 3 3,.slice (some ⟨agK,0,none⟩) 1 1] [[11,4,1],[5]] (λKT=> ?_) fK fE kJ (.aX rfl rfl);refine St.eh (eJ a tv.1 (.slice (some ⟨b,0,none⟩) 5 5) rv (.slice none 0 0) w10 X10 [98,97,114,107] 0 v164 (.slice (some ⟨KT,0,none⟩) 2 2) (bV [98,97,114,107] (an (.mk [101] []) (.mk [116] []))) [[11,4,1],[5]] (by decide) (by unfold aZ;decide) aaU (by omega) UZ (by decide) (by decide)) nk (.mk rfl) (.gU rfl rfl rfl rfl) rfl ?_;rintro v168 _ ⟨w11,x11,rfl,aaX,adG,adH,rfl⟩;refine St.iP ?_;obtain⟨X11,aiQ,Ua,aaV,aaW⟩:=fH UZ aaS aaT adG adH;rw[←aiQ];refine St.o7 (smK m n o p q a b tv ts rv j i g f l w11 X11) (by repeat(first|exact List.Sublist.slnil|with_reducible refine List.Sublist.cons_cons _ ?_|refine List.Sublist.cons _ ?_)) ?_;refine g6 ?_;refine St.ag (eL [115,108,101,101,112] (by decide) (aU f) (an (.mk [101] []) (.mk [116] []))) nq (.aX rfl rfl) rfl ?_;rintro v171 _ rfl;refine St.ao ?_;refine St.bi [11,4,1] (λMQ=> ?_) bJ dK eS;refine St.bi [4] (λagL=> ?_) bJ dK eS;refine St.bw [.slice (some ⟨MQ,0,none⟩) 3 3,.slice (some ⟨agL,0,none⟩) 1 1] [[11,4,1],[4]] (λagM=> ?_) fK fE kJ (.aX rfl rfl);refine St.eh (eJ a tv.1 (.slice (some ⟨b,0,none⟩) 5 5) rv (.slice none 0 0) w11 X11 [115,108,101,101,112,115] 0 v171 (.slice (some ⟨agM,0,none⟩) 2 2) (bV [115,108,101,101,112] (an (.mk [101] []) (.mk [116] []))) [[11,4,1],[4]] (by decide) (by unfold aZ;decide) aaX (by omega) Ua (by decide) (by decide)) nk (.mk rfl) (.gU rfl rfl rfl rfl) rfl ?_;rintro v175 _ ⟨w12,x12,rfl,aa0,adI,adJ,rfl⟩;refine St.iP ?_;obtain⟨X12,aiR,Ub,aaY,aaZ⟩:=fH Ua aaV aaW adI adJ;rw[←aiR];refine St.o7 (smK m n o p q a b tv ts rv j i g f l w12 X12) (by repeat(first|exact List.Sublist.slnil|with_reducible refine List.Sublist.cons_cons _ ?_|refine List.Sublist.cons _ ?_)) ?_;refine g6 ?_;refine St.ag (eL [115,108,101,101,112] (by decide) (aU f) (an (.mk [101] []) (.mk [116] []))) nq (.aX rfl rfl) rfl ?_;rintro amI _ rfl;refine St.ao ?_;refine St.bi [11,4,1] (λagN=> ?_) bJ dK eS;refine St.bi [5] (λagO=> ?_) bJ dK eS;refine St.bw [.slice (some ⟨agN,0,none⟩) 3 3,.slice (some ⟨agO,0,none⟩) 1 1] [[11,4,1],[5]] (λagP=> ?_) fK fE kJ (.aX rfl rfl);refine St.eh (eJ a tv.1 (.slice (some ⟨b,0,none⟩) 5 5) rv (.slice none 0 0) w12 X12 [115,108,101,101,112] 0 amI (.slice (some ⟨agP,0,none⟩) 2 2) (bV [115,108,101,101,112] (an (.mk [101] []) (.mk [116] []))) [[11,4,1],[5]] (by decide) (by unfold aZ;decide) aa0 (by omega) Ub (by decide) (by decide)) nk (.mk rfl) (.gU rfl rfl rfl rfl) rfl ?_;rintro v182 _ ⟨w13,x13,rfl,aa3,adK,adL,rfl⟩;refine St.iP ?_;obtain⟨X13,aiS,Uc,aa1,aa2⟩:=fH Ub aaY aaZ adK adL;rw[←aiS];refine St.o7 (smK m n o p q a b tv ts rv j i g f l w13 X13) (by repeat(first|exact List.Sublist.slnil|with_reducible refine List.Sublist.cons_cons _ ?_|refine List.Sublist.cons _ ?_)) ?_;refine g6 ?_;refine St.ag (eL [99,104,97,115,101] (by decide) (aU l) (an (.mk [101] []) (an (.mk [101] []) (.mk [116] [])))) nq (.aX rfl rfl) rfl ?_;rintro amJ _ rfl;refine St.ao ?_;refine St.bi [12,4,1] (λagQ=> ?_) bJ dK eS;refine St.bi [4] (λagR=> ?_) bJ dK eS;refine St.bw [.slice (some ⟨agQ,0,none⟩) 3 3,.slice (some ⟨agR,0,none⟩) 1 1] [[12,4,1],[4]] (λagS=> ?_) fK fE kJ (.aX rfl rfl);refine St.eh (eJ a tv.1 (.slice (some ⟨b,0,none⟩) 5 5) rv (.slice none 0 0) w13 X13 [99,104,97,115,101,115] 0 amJ (.slice (some ⟨agS,0,none⟩) 2 2) (bV [99,104,97,115,101] (an (.mk [101] []) (an (.mk [101] []) (.mk [116] [])))) [[12,4,1],[4]] (by decide) (by unfold aZ;decide) aa3 (by omega) Uc (by decide) (by decide)) nk (.mk rfl) (.gU rfl rfl rfl rfl) rfl ?_;rintro aoO _ ⟨w14,x14,rfl,aa6,adM,adN,rfl⟩;refine St.iP ?_;obtain⟨X14,aiT,Ud,aa4,aa5⟩:=fH Uc aa1 aa2 adM adN;rw[←aiT];refine St.o7 (smK m n o p q a b tv ts rv j i g f l w14 X14) (by repeat(first|exact List.Sublist.slnil|with_reducible refine List.Sublist.cons_cons _ ?_|refine List.Sublist.cons _ ?_)) ?_;refine g6 ?_;refine St.ag (eL [99,104,97,115,101] (by decide) (aU l) (an (.mk [101] []) (an (.mk [101] []) (.mk [116] [])))) nq (.aX rfl rfl) rfl ?_;rintro QC _ rfl;refine St.ao ?_;refine St.bi [12,4,1] (λagT=> ?_) bJ dK eS;refine St.bi [5] (λagU=> ?_) bJ dK eS;refine St.bw [.slice (some ⟨agT,0,none⟩) 3 3,.slice (some ⟨agU,0,none⟩) 1 1] [[12,4,1],[5]] (λagV=> ?_) fK fE kJ (.aX rfl rfl);refine St.eh (eJ a tv.1 (.slice (some ⟨b,0,none⟩) 5 5) rv (.slice none 0 0) w14 X14 [99,104,97,115,101] 0 QC (.slice (some ⟨agV,0,none⟩) 2 2) (bV [99,104,97,115,101] (an (.mk [101] []) (an (.mk [101] []) (.mk [116] [])))) [[12,4,1],[5]] (by decide) (by unfold aZ;decide) aa6 (by omega) Ud (by decide) (by decide)) nk (.mk rfl) (.gU rfl rfl rfl rfl) rfl ?_;rintro v196 _ ⟨w15,x15,rfl,aa9,adO,adP,rfl⟩;refine St.iP ?_;obtain⟨X15,aiU,Ue,aa7,aa8⟩:=fH Ud aa4 aa5 adO adP;rw[←aiU];refine St.o7 (smK m n o p q a b tv ts rv j i g f l w15 X15) (by repeat(first|exact List.Sublist.slnil|with_reducible refine List.Sublist.cons_cons _ ?_|refine List.Sublist.cons _ ?_)) ?_;refine g6 ?_;refine St.ag (eL [115,101,101] (by decide) (aU l) (an (.mk [101] []) (an (.mk [101] []) (.mk [116] [])))) nq (.aX rfl rfl) rfl ?_;rintro amK _ rfl;refine St.ao ?_;refine St.bi [12,4,1] (λagW=> ?_) bJ dK eS;refine St.bi [4] (λagX=> ?_) bJ dK eS;refine St.bw [.slice (some ⟨agW,0,none⟩) 3 3,.slice (some ⟨agX,0,none⟩) 1 1] [[12,4,1],[4]] (λagY=> ?_) fK fE kJ (.aX rfl rfl);refine St.eh (eJ a tv.1 (.slice (some ⟨b,0,none⟩) 5 5) rv (.slice none 0 0) w15 X15 [115,101,101,115] 1 amK (.slice (some ⟨agY,0,none⟩) 2 2) (bV [115,101,101] (an (.mk [101] []) (an (.mk [101] []) (.mk [116] [])))) [[12,4,1],[4]] (by decide) (by unfold aZ;decide) aa9 (by omega) Ue (by decide) (by decide)) nk (.mk rfl) (.gU rfl rfl rfl rfl) rfl ?_;rintro v203 _ ⟨w16,x16,rfl,abC,adQ,adR,rfl⟩;refine St.iP ?_;obtain⟨X16,aiV,Uf,abA,abB⟩:=fH Ue aa7 aa8 adQ adR;rw[←aiV];refine St.o7 (smK m n o p q a b tv ts rv j i g f l w16 X16) (by repeat(first|exact List.Sublist.slnil|with_reducible refine List.Sublist.cons_cons _ ?_|refine List.Sublist.cons _ ?_)) ?_;refine g6 ?_;refine St.ag (eL [115,101,101] (by decide) (aU l) (an (.mk [101] []) (an (.mk [101] []) (.mk [116] [])))) nq (.aX rfl rfl) rfl ?_;rintro v206 _ rfl;refine St.ao ?_;refine St.bi [12,4,1] (λagZ=> ?_) bJ dK eS;refine St.bi [5] (λag0=> ?_) bJ dK eS;refine St.bw [.slice (some ⟨agZ,0,none⟩) 3 3,.slice (some ⟨ag0,0,none⟩) 1 1] [[12,4,1],[5]] (λag1=> ?_) fK fE kJ (.aX rfl rfl);refine St.eh (eJ a tv.1 (.slice (some ⟨b,0,none⟩) 5 5) rv (.slice none 0 0) w16 X16 [115,101,101] 1 v206 (.slice (some ⟨ag1,0,none⟩) 2 2) (bV [115,101,101] (an (.mk [101] []) (an (.mk [101] []) (.mk [116] [])))) [[12,4,1],[5]] (by decide) (by unfold aZ;decide) abC (by omega) Uf (by decide) (by decide)) nk (.mk rfl) (.gU rfl rfl rfl rfl) rfl ?_;rintro v210 _ ⟨w17,x17,rfl,abF,adS,adT,rfl⟩;refine St.iP ?_;obtain⟨X17,aiW,Ug,abD,abE⟩:=fH Uf abA abB adS adT;rw[←aiW];refine St.o7 (smK m n o p q a b tv ts rv j i g f l w17 X17) (by repeat(first|exact List.Sublist.slnil|with_reducible refine List.Sublist.cons_cons _ ?_|refine List.Sublist.cons _ ?_)) ?_;refine g7 ?_;refine St.ag (fI (aU g) (aU g) (.mk [116] []) (.mk [116] [])) qG (.aX rfl rfl) rfl ?_;rintro amL _ rfl;refine St.ao ?_;refine St.ag (eL [110,111,116] (by decide) amL (an (.mk [116] []) (.mk [116] []))) nq (.aX rfl rfl) rfl ?_;rintro amM _ rfl;refine St.ao ?_;refine St.bi [13] (λag2=> ?_) bJ dK eS;refine St.bw [.slice (some ⟨ag2,0,none⟩) 1 1] [[13]] (λag3=> ?_) fK fE kJ (.au rfl);refine St.eh (eJ a tv.1 (.slice (some ⟨b,0,none⟩) 5 5) rv (.slice none 0 0) w17 X17 [110,111,116] 0 amM (.slice (some ⟨ag3,0,none⟩) 1 1) (bV [110,111,116] (an (.mk [116] []) (.mk [116] []))) [[13]] (by decide) (by unfold aZ;decide) abF (by omega) Ug (by decide) (by decide)) nk (.mk rfl) (.gU rfl rfl rfl rfl) rfl ?_;rintro v218 _ ⟨w18,x18,rfl,abI,adU,adV,rfl⟩;refine St.iP ?_;obtain⟨X18,aiX,Uh,abG,abH⟩:=fH Ug abD abE adU adV;rw[←aiX];refine St.o7 (smK m n o p q a b tv ts rv j i g f l w18 X18) (by repeat(first|exact List.Sublist.slnil|with_reducible refine List.Sublist.cons_cons _ ?_|refine List.Sublist.cons _ ?_)) ?_;refine g3 ?_;refine St.U9 9 219 [] (⟨219,[],λu=>cU u (.func (.func 59) #[] #[.pointer (some ⟨a,0,none⟩)])⟩::⟨220,[],λu=>cU u ((aU g))⟩::⟨221,[],λu=>cU u ((aU g))⟩::⟨222,[],λu=>cU u ((aU g))⟩::⟨223,[2,3],λu=>db (an (.mk [116] []) (.mk [116] [])) u⟩::⟨224,[1,4],λu=>db (an (.mk [116] []) (an (.mk [116] []) (.mk [116] []))) u⟩::⟨225,[5],λu=>isTerm (bV [97,110,100] (an (.mk [116] []) (an (.mk [116] []) (.mk [116] [])))) u⟩::⟨226,[],λu=>fW aJ [14] u⟩::⟨227,[7],λu=>fT aJ [[14]] u⟩::[]) ((219,[])::(220,[])::(221,[])::(222,[])::(223,[2,3])::(224,[1,4])::(225,[5])::(226,[])::(227,[7])::[]) [0,6,8] rfl rfl mixed (by kernel_rfl) (by kernel_rfl) (by rfl) (λe=>[(219,e 0),(225,e 6),(227,e 8)]) (λe=>[aB (cU (e 0) (.func (.func 59) #[] #[.pointer (some ⟨a,0,none⟩)])),aB (isTerm (bV [97,110,100] (an (.mk [116] []) (an (.mk [116] []) (.mk [116] [])))) (e 6)),aB (fT aJ [[14]] (e 8))]) (λ_=>rfl) (λ_=>rfl) ?_ (λe=> ?_)
 ·refine ab.c0 (λc e d=> ?_) ?_
  ·refine St.aK ?_
   refine go ?_;refine St.fact (cU (.func (.func 59) #[] #[.pointer (some ⟨a,0,none⟩)]) (.func (.func 59) #[] #[.pointer (some ⟨a,0,none⟩)])) (λ_ _ _=>rfl) ?_;exact St.bg _
  refine ab.c0 (λc e d=> ?_) ?_
  ·refine St.aK ?_
   refine go ?_;refine St.fact (cU ((aU g)) ((aU g))) (λ_ _ _=>rfl) ?_;exact St.bg _
  refine ab.c0 (λc e d=> ?_) ?_
  ·refine St.aK ?_
   refine go ?_;refine St.fact (cU ((aU g)) ((aU g))) (λ_ _ _=>rfl) ?_;exact St.bg _
  refine ab.c0 (λc e d=> ?_) ?_
  ·refine St.aK ?_
   refine go ?_;refine St.fact (cU ((aU g)) ((aU g))) (λ_ _ _=>rfl) ?_;exact St.bg _
  refine ab.cc (λe=>[(221,e 2),(222,e 3)]) (λe=>[aB (cU (e 2) ((aU g))),aB (cU (e 3) ((aU g)))]) (λc e d=> ?_) ?_
  ·refine St.dQ ?_
   refine St.bX (P:=prog) 221 (e 2) ((aU g)) rfl ?_;refine St.bX (P:=prog) 222 (e 3) ((aU g)) rfl ?_;refine St.ag (fI (aU g) (aU g) (.mk [116] []) (.mk [116] [])) qG (.aX rfl rfl) rfl ?_;rintro aoP _ rfl;refine St.ao ?_;exact St.bg _
  refine ab.cc (λe=>[(220,e 1),(223,e 4)]) (λe=>[aB (cU (e 1) ((aU g))),aB (db (an (.mk [116] []) (.mk [116] [])) (e 4))]) (λc e d=> ?_) ?_
  ·refine St.dQ ?_
   refine St.bX (P:=prog) 220 (e 1) ((aU g)) rfl ?_;refine St.ag (fI (aU g) (e 4) (.mk [116] []) (an (.mk [116] []) (.mk [116] []))) qG (.aX rfl rfl) rfl ?_;rintro aoQ _ rfl;refine St.ao ?_;exact St.bg _
  refine ab.cc (λe=>[(224,e 5)]) (λe=>[aB (db (an (.mk [116] []) (an (.mk [116] []) (.mk [116] []))) (e 5))]) (λc e d=> ?_) ?_
  ·refine St.ao ?_
   refine St.ag (eL [97,110,100] (by decide) (e 5) (an (.mk [116] []) (an (.mk [116] []) (.mk [116] [])))) nq (.aX rfl rfl) rfl ?_;rintro aoR _ rfl;refine St.ao ?_;exact St.bg _
  refine ab.bi ?_ bJ dK eS;refine ab.bw ?_ fK fE kJ (λ_=>(.au rfl));exact ab.nil
 refine St.iP ?_;refine St.bX (P:=prog) 219 (e 0) (.func (.func 59) #[] #[.pointer (some ⟨a,0,none⟩)]) rfl ?_;refine St.eh (eJ a tv.1 (.slice (some ⟨b,0,none⟩) 5 5) rv (.slice none 0 0) w18 X18 [97,110,100] 0 (e 6) (e 8) (bV [97,110,100] (an (.mk [116] []) (an (.mk [116] []) (.mk [116] [])))) [[14]] (by decide) (by unfold aZ;decide) abI (by omega) Uh (by decide) (by decide)) nk (.mk rfl) (.gU rfl rfl rfl rfl) rfl ?_;rintro v228 _ ⟨w19,x19,rfl,abL,adW,adX,rfl⟩;refine St.iP ?_;obtain⟨X19,aiY,Ui,abJ,abK⟩:=fH Uh abG abH adW adX;rw[←aiY];refine St.o7 (smK m n o p q a b tv ts rv j i g f l w19 X19) (by repeat(first|exact List.Sublist.slnil|with_reducible refine List.Sublist.cons_cons _ ?_|refine List.Sublist.cons _ ?_)) ?_;refine g3 ?_;refine St.U9 10 229 [] (⟨229,[],λu=>cU u (.func (.func 59) #[] #[.pointer (some ⟨a,0,none⟩)])⟩::⟨230,[],λu=>cU u ((aU f))⟩::⟨231,[],λu=>isTerm (aY 0) u⟩::⟨232,[],λu=>cU u ((aU i))⟩::⟨233,[3],λu=>isTerm (bV [114,101,120] (.mk [101] [])) u⟩::⟨234,[2,4],λu=>isTerm (aK (aY 0) (bV [114,101,120] (.mk [101] []))) u⟩::⟨235,[1,5],λu=>isTerm (bC (an (.mk [101] []) (.mk [116] [])) (aK (aY 0) (bV [114,101,120] (.mk [101] [])))) u⟩::⟨236,[],λu=>fW aJ [7,4,1] u⟩::⟨237,[],λu=>fW aJ [4] u⟩::⟨238,[7,8],λu=>fT aJ [[7,4,1],[4]] u⟩::[]) ((229,[])::(230,[])::(231,[])::(232,[])::(233,[3])::(234,[2,4])::(235,[1,5])::(236,[])::(237,[])::(238,[7,8])::[]) [0,6,9] rfl rfl mixed (by kernel_rfl) (by kernel_rfl) (by rfl) (λe=>[(229,e 0),(235,e 6),(238,e 9)]) (λe=>[aB (cU (e 0) (.func (.func 59) #[] #[.pointer (some ⟨a,0,none⟩)])),aB (isTerm (bC (an (.mk [101] []) (.mk [116] [])) (aK (aY 0) (bV [114,101,120] (.mk [101] [])))) (e 6)),aB (fT aJ [[7,4,1],[4]] (e 9))]) (λ_=>rfl) (λ_=>rfl) ?_ (λe=> ?_)
 ·refine ab.c0 (λc e d=> ?_) ?_
  ·refine St.aK ?_
   refine go ?_;refine St.fact (cU (.func (.func 59) #[] #[.pointer (some ⟨a,0,none⟩)]) (.func (.func 59) #[] #[.pointer (some ⟨a,0,none⟩)])) (λ_ _ _=>rfl) ?_;exact St.bg _
  refine ab.c0 (λc e d=> ?_) ?_
  ·refine St.aK ?_
   refine go ?_;refine St.fact (cU ((aU f)) ((aU f))) (λ_ _ _=>rfl) ?_;exact St.bg _
  refine ab.c0 (λc e d=> ?_) ?_
  ·refine St.aK ?_
   refine St.ag (cg 0 (by unfold aZ;decide)) mS (.au rfl) rfl ?_;rintro aoS _ rfl;refine St.ao ?_;exact St.bg _
  refine ab.c0 (λc e d=> ?_) ?_
  ·refine St.aK ?_
   refine go ?_;refine St.fact (cU ((aU i)) ((aU i))) (λ_ _ _=>rfl) ?_;exact St.bg _
  refine ab.cc (λe=>[(232,e 3)]) (λe=>[aB (cU (e 3) ((aU i)))]) (λc e d=> ?_) ?_
  ·refine St.ao ?_
   refine St.bX (P:=prog) 232 (e 3) ((aU i)) rfl ?_;refine St.ag (eL [114,101,120] (by decide) (aU i) (.mk [101] [])) nq (.aX rfl rfl) rfl ?_;rintro v233 _ rfl;refine St.ao ?_;exact St.bg _
  refine ab.cc (λe=>[(231,e 2),(233,e 4)]) (λe=>[aB (isTerm (aY 0) (e 2)),aB (isTerm (bV [114,101,120] (.mk [101] [])) (e 4))]) (λc e d=> ?_) ?_
  ·refine St.dQ ?_
   refine St.ag (ef (e 2) (e 4) (aY 0) (bV [114,101,120] (.mk [101] []))) oy (.aX rfl rfl) rfl ?_;rintro v234 _ rfl;refine St.ao ?_;exact St.bg _
  refine ab.cc (λe=>[(230,e 1),(234,e 5)]) (λe=>[aB (cU (e 1) ((aU f))),aB (isTerm (aK (aY 0) (bV [114,101,120] (.mk [101] []))) (e 5))]) (λc e d=> ?_) ?_
  ·refine St.dQ ?_
   refine St.bX (P:=prog) 230 (e 1) ((aU f)) rfl ?_;refine St.ag (eA (aU f) (e 5) (an (.mk [101] []) (.mk [116] [])) (aK (aY 0) (bV [114,101,120] (.mk [101] [])))) mR (.aX rfl rfl) rfl ?_;rintro aoT _ rfl;refine St.ao ?_;exact St.bg _
  refine ab.bi ?_ bJ dK eS;refine ab.bi ?_ bJ dK eS;refine ab.bw ?_ fK fE kJ (λ_=>(.aX rfl rfl));exact ab.nil
 refine St.iP ?_;refine St.bX (P:=prog) 229 (e 0) (.func (.func 59) #[] #[.pointer (some ⟨a,0,none⟩)]) rfl ?_;refine St.eh (eJ a tv.1 (.slice (some ⟨b,0,none⟩) 5 5) rv (.slice none 0 0) w19 X19 [114,101,120] 0 (e 6) (e 9) (bC (an (.mk [101] []) (.mk [116] [])) (aK (aY 0) (bV [114,101,120] (.mk [101] [])))) [[7,4,1],[4]] (by decide) (by unfold aZ;decide) abL (by omega) Ui (by decide) (by decide)) nk (.mk rfl) (.gU rfl rfl rfl rfl) rfl ?_;rintro aoU _ ⟨w20,x20,rfl,abO,adY,adZ,rfl⟩;refine St.iP ?_;obtain⟨X20,ai2,Uj,abM,abN⟩:=fH Ui abJ abK adY adZ;rw[←ai2];refine St.o7 (smK m n o p q a b tv ts rv j i g f l w20 X20) (by repeat(first|exact List.Sublist.slnil|with_reducible refine List.Sublist.cons_cons _ ?_|refine List.Sublist.cons _ ?_)) ?_;refine g3 ?_;refine St.U9 10 240 [] (⟨240,[],λu=>cU u (.func (.func 59) #[] #[.pointer (some ⟨a,0,none⟩)])⟩::⟨241,[],λu=>cU u ((aU f))⟩::⟨242,[],λu=>isTerm (aY 0) u⟩::⟨243,[],λu=>cU u ((aU i))⟩::⟨244,[3],λu=>isTerm (bV [109,105,97] (.mk [101] [])) u⟩::⟨245,[2,4],λu=>isTerm (aK (aY 0) (bV [109,105,97] (.mk [101] []))) u⟩::⟨246,[1,5],λu=>isTerm (bC (an (.mk [101] []) (.mk [116] [])) (aK (aY 0) (bV [109,105,97] (.mk [101] [])))) u⟩::⟨247,[],λu=>fW aJ [7,4,1] u⟩::⟨248,[],λu=>fW aJ [4] u⟩::⟨249,[7,8],λu=>fT aJ [[7,4,1],[4]] u⟩::[]) ((240,[])::(241,[])::(242,[])::(243,[])::(244,[3])::(245,[2,4])::(246,[1,5])::(247,[])::(248,[])::(249,[7,8])::[]) [0,6,9] rfl rfl mixed (by kernel_rfl) (by kernel_rfl) (by rfl) (λe=>[(240,e 0),(246,e 6),(249,e 9)]) (λe=>[aB (cU (e 0) (.func (.func 59) #[] #[.pointer (some ⟨a,0,none⟩)])),aB (isTerm (bC (an (.mk [101] []) (.mk [116] [])) (aK (aY 0) (bV [109,105,97] (.mk [101] [])))) (e 6)),aB (fT aJ [[7,4,1],[4]] (e 9))]) (λ_=>rfl) (λ_=>rfl) ?_ (λe=> ?_)
 ·refine ab.c0 (λc e d=> ?_) ?_
  ·refine St.aK ?_
   refine go ?_;refine St.fact (cU (.func (.func 59) #[] #[.pointer (some ⟨a,0,none⟩)]) (.func (.func 59) #[] #[.pointer (some ⟨a,0,none⟩)])) (λ_ _ _=>rfl) ?_;exact St.bg _
  refine ab.c0 (λc e d=> ?_) ?_
  ·refine St.aK ?_
   refine go ?_;refine St.fact (cU ((aU f)) ((aU f))) (λ_ _ _=>rfl) ?_;exact St.bg _
  refine ab.c0 (λc e d=> ?_) ?_
  ·refine St.aK ?_
   refine St.ag (cg 0 (by unfold aZ;decide)) mS (.au rfl) rfl ?_;rintro aoV _ rfl;refine St.ao ?_;exact St.bg _
  refine ab.c0 (λc e d=> ?_) ?_
  ·refine St.aK ?_
   refine go ?_;refine St.fact (cU ((aU i)) ((aU i))) (λ_ _ _=>rfl) ?_;exact St.bg _
  refine ab.cc (λe=>[(243,e 3)]) (λe=>[aB (cU (e 3) ((aU i)))]) (λc e d=> ?_) ?_
  ·refine St.ao ?_
   refine St.bX (P:=prog) 243 (e 3) ((aU i)) rfl ?_;refine St.ag (eL [109,105,97] (by decide) (aU i) (.mk [101] [])) nq (.aX rfl rfl) rfl ?_;rintro aoW _ rfl;refine St.ao ?_;exact St.bg _
  refine ab.cc (λe=>[(242,e 2),(244,e 4)]) (λe=>[aB (isTerm (aY 0) (e 2)),aB (isTerm (bV [109,105,97] (.mk [101] [])) (e 4))]) (λc e d=> ?_) ?_
  ·refine St.dQ ?_
   refine St.ag (ef (e 2) (e 4) (aY 0) (bV [109,105,97] (.mk [101] []))) oy (.aX rfl rfl) rfl ?_;rintro aoX _ rfl;refine St.ao ?_;exact St.bg _
  refine ab.cc (λe=>[(241,e 1),(245,e 5)]) (λe=>[aB (cU (e 1) ((aU f))),aB (isTerm (aK (aY 0) (bV [109,105,97] (.mk [101] []))) (e 5))]) (λc e d=> ?_) ?_
  ·refine St.dQ ?_
   refine St.bX (P:=prog) 241 (e 1) ((aU f)) rfl ?_;refine St.ag (eA (aU f) (e 5) (an (.mk [101] []) (.mk [116] [])) (aK (aY 0) (bV [109,105,97] (.mk [101] [])))) mR (.aX rfl rfl) rfl ?_;rintro aoY _ rfl;refine St.ao ?_;exact St.bg _
  refine ab.bi ?_ bJ dK eS;refine ab.bi ?_ bJ dK eS;refine ab.bw ?_ fK fE kJ (λ_=>(.aX rfl rfl));exact ab.nil
 refine St.iP ?_;refine St.bX (P:=prog) 240 (e 0) (.func (.func 59) #[] #[.pointer (some ⟨a,0,none⟩)]) rfl ?_;refine St.eh (eJ a tv.1 (.slice (some ⟨b,0,none⟩) 5 5) rv (.slice none 0 0) w20 X20 [109,105,97] 0 (e 6) (e 9) (bC (an (.mk [101] []) (.mk [116] [])) (aK (aY 0) (bV [109,105,97] (.mk [101] [])))) [[7,4,1],[4]] (by decide) (by unfold aZ;decide) abO (by omega) Uj (by decide) (by decide)) nk (.mk rfl) (.gU rfl rfl rfl rfl) rfl ?_;rintro aoZ _ ⟨K,x21,rfl,O,ad0,ad1,rfl⟩;refine St.iP ?_;obtain⟨F,ai3,abQ,abP,amO⟩:=fH Uj abM abN ad0 ad1;rw[←ai3];refine St.o7 (smK m n o p q a b tv ts rv j i g f l K F) (by repeat(first|exact List.Sublist.slnil|with_reducible refine List.Sublist.cons_cons _ ?_|refine List.Sublist.cons _ ?_)) ?_;refine g4 ?_;refine St.bi [6] (λag4=> ?_) bJ dK eS;refine St.bw [.slice (some ⟨ag4,0,none⟩) 1 1] [[6]] (λag5=> ?_) fK fE kJ (.au rfl);refine St.ag (gN (.slice (some ⟨ag5,0,none⟩) 1 1) [[6]] (by decide) (by decide)) EI (.au rfl) rfl ?_;rintro amN _ rfl;refine St.ao ?_;refine St.bL (cQ [[6]]) amN (λG hyz=> ?_);obtain⟨rfl,alJ⟩:=hyz;refine go ?_;refine St.Fv (L':=[tv.1,(.slice (some ⟨b,0,none⟩) 5 5),rv,K,G.nv.1]) (ai.mk rfl) (ai.mk rfl) jR G.nv.2 rfl rfl ?_;refine g5 ?_;refine St.sA (.mk rfl) (.mk rfl) Tg ?_ (h1:=(by simp only[List.all_cons,List.all_nil,Bool.and_true,Bool.and_eq_true];exact⟨tv.2,rfl,L,O,G.nv.2⟩));refine g3 ?_;refine St.bS K e7 F rfl rfl abQ ?_;refine St.eZ (er (⟨tv,ts,⟨(.slice (some ⟨b,0,none⟩) 5 5),rfl⟩,kA,⟨rv,L⟩,j,⟨K,O⟩,F,G⟩:gQ)) [sl n5 tv.1 ts,aF ry ts,sl gY (.slice (some ⟨b,0,none⟩) 5 5) kA,sl cT rv j,aF bx j,sl e7 K F,aF eQ F,aG G] (λρ h=>h) ?_;refine St.eZ (wS lT (fG (⟨tv,ts,⟨(.slice (some ⟨b,0,none⟩) 5 5),rfl⟩,kA,⟨rv,L⟩,j,⟨K,O⟩,F,G⟩:gQ))) [er (⟨tv,ts,⟨(.slice (some ⟨b,0,none⟩) 5 5),rfl⟩,kA,⟨rv,L⟩,j,⟨K,O⟩,F,G⟩:gQ)] (λρ h=>⟨(⟨tv,ts,⟨(.slice (some ⟨b,0,none⟩) 5 5),rfl⟩,kA,⟨rv,L⟩,j,⟨K,O⟩,F,G⟩:gQ),rfl,by show(⟨ts.map dG,kA.map gw,j.map lL,F.map oh,ay G⟩:fj)=lT;rw[hts,ac0,abP,alJ];rfl,h _ (aQ ..)⟩) ?_;refine St.rV [_] [aB (wS lT (fG (⟨tv,ts,⟨(.slice (some ⟨b,0,none⟩) 5 5),rfl⟩,kA,⟨rv,L⟩,j,⟨K,O⟩,F,G⟩:gQ)))] ?_;rfl
theorem qT (v0 v1:Value)(a b:List ax):eC prog 16 #[v0,v1] [sl bI v0 a,sl bI v1 b] (.bool (decide (a=b))):=by
 refine eC.nK (args:=[v0,v1]) 26 func16 rfl ntmps16 rfl (λc=> ?_);refine go ?_;refine St.wf v0 (λi j=> ?_);refine St.wf v1 (λl m=> ?_);refine g14 ?_;refine St.cq (λf=> ?_) (λf=> ?_)
 ·refine g7 ?_
  refine St.rV [_] [] ?_;exact be (by rw[eq_comm,sk];rintro rfl;omega)
 ·refine g9 ?_
  refine St.lS (ι:=Nat) (λk T=>(5,iv k)::T) (λk=>k≤a.length∧a.take k=b.take k) (λk=>a.length-k) 0 (aD.cons 0 rfl (aD.cons 1 rfl aD.nil)) ⟨aP _,rfl⟩ ?_;intro k g;obtain⟨hk,d⟩:=g;refine g9 ?_;refine St.cq (λh=> ?_) (λh=> ?_)
  ·obtain⟨x,hx⟩:=aE (show k<a.length by omega)
   obtain⟨y,hy⟩:=aE (show k<b.length by omega);refine g5 ?_;refine St.rq mixed (by kernel_rfl) (Mm.drawn _ _) ?_;refine g11 ?_;refine St.cond _ rfl (λe=> ?_) (λe=> ?_)
   ·skip
    refine g11 ?_;refine St.rV [_] [] ?_;exact be (by rw[eq_comm,sk];rintro rfl;rw[hx]at hy;simp only[Option.some.injEq]at hy;simp[hy]at e)
   ·skip
    refine g9 ?_;refine St.aS (k+1) ⟨by omega,by rw[aa hx,aa hy,d,show x=y by simpa using e]⟩
  ·refine g11 ?_
   refine St.rV [_] [] ?_;exact be (by rw[eq_comm,fy];rw[fF (by omega),fF (by omega)]at d;exact d)
theorem CS (v0 v1:Value)(a b:List ax):eC prog 34 #[v0,v1] [sl bI v0 a,sl bI v1 b] (.bool (decide (a=b))):=by
 refine eC.nK (args:=[v0,v1]) 26 func34 rfl ntmps34 rfl (λc=> ?_);refine go ?_;refine St.wf v0 (λi j=> ?_);refine St.wf v1 (λl m=> ?_);refine g14 ?_;refine St.cq (λf=> ?_) (λf=> ?_)
 ·refine g7 ?_
  refine St.rV [_] [] ?_;exact be (by rw[eq_comm,sk];rintro rfl;omega)
 ·refine g11 ?_
  refine St.lS (ι:=Nat) (λk T=>(13,iv k)::T) (λk=>k≤a.length∧a.take k=b.take k) (λk=>a.length-k) 0 (aD.cons 0 rfl (aD.cons 1 rfl (aD.cons 12 rfl aD.nil))) ⟨aP _,rfl⟩ ?_;intro k g;obtain⟨hk,d⟩:=g;refine g6 ?_;refine St.cq (λh=> ?_) (λh=> ?_)
  ·obtain⟨x,hx⟩:=aE (show k<a.length by omega)
   obtain⟨y,hy⟩:=aE (show k<b.length by omega);refine g11 ?_;refine St.rq mixed (by kernel_rfl) (Mm.drawn _ _) ?_;refine g11 ?_;refine St.cond _ rfl (λe=> ?_) (λe=> ?_)
   ·skip
    refine g11 ?_;refine St.rV [_] [] ?_;exact be (by rw[eq_comm,sk];rintro rfl;rw[hx]at hy;simp only[Option.some.injEq]at hy;simp[hy]at e)
   ·skip
    refine g8 ?_;refine St.aS (k+1) ⟨by omega,by rw[aa hx,aa hy,d,show x=y by simpa using e]⟩
  ·refine g11 ?_
   refine St.rV [_] [] ?_;exact be (by rw[eq_comm,fy];rw[fF (by omega),fF (by omega)]at d;exact d)
theorem yP (v0 v1:Value)(a b:List (List ax)):eC prog 14 #[v0,v1] [o3 bI v0 a,o3 bI v1 b] (.bool (decide (a=b))):=by
 refine eC.nK (args:=[v0,v1]) 27 func14 rfl ntmps14 rfl (λc=> ?_);refine go ?_;refine St.ma v0 (λf h=> ?_);refine St.ma v1 (λg i=> ?_);refine St.wf v0 (λn o=> ?_);refine St.wf v1 (λp q=> ?_);refine g14 ?_;refine St.cq (λj=> ?_) (λj=> ?_)
 ·refine g7 ?_
  refine St.rV [_] [] ?_;exact be (by rw[eq_comm,sk];rintro rfl;omega)
 ·refine g11 ?_
  refine St.lS (ι:=Nat) (λk T=>(13,iv k)::T) (λk=>k≤a.length∧a.take k=b.take k) (λk=>a.length-k) 0 (aD.cons 0 rfl (aD.cons 1 rfl (aD.cons 12 rfl aD.nil))) ⟨aP _,rfl⟩ ?_;intro k l;obtain⟨hk,d⟩:=l;refine g6 ?_;refine St.cq (λm=> ?_) (λm=> ?_)
  ·obtain⟨x,hx⟩:=aE (show k<a.length by omega)
   obtain⟨y,hy⟩:=aE (show k<b.length by omega);obtain⟨u,hu⟩:=aE (show k<f.length by omega);obtain⟨w,hw⟩:=aE (show k<g.length by omega);refine St.jr (vs:=f) k hu hx ?_;refine St.jr (vs:=g) k hw hy ?_;refine g11 ?_;refine St.rq mixed (by kernel_rfl) (Mm.drawn _ _) ?_;refine g8 ?_;refine Sq.ee (Ev.call (CS u.1 w.1 x y) ahI (.aX rfl rfl)) ?_;refine g3 ?_;refine St.cond _ rfl (λe=> ?_) (λe=> ?_)
   ·skip
    refine g11 ?_;refine St.rV [_] [] ?_;exact be (by rw[eq_comm,sk];rintro rfl;rw[hx]at hy;simp only[Option.some.injEq]at hy;simp[hy]at e)
   ·skip
    refine g8 ?_;refine St.aS (k+1) ⟨by omega,by rw[aa hx,aa hy,d,show x=y by simpa using e]⟩
  ·refine g11 ?_
   refine St.rV [_] [] ?_;exact be (by rw[eq_comm,fy];rw[fF (by omega),fF (by omega)]at d;exact d)
def tF:ax:=[114,101,120]
def Ib:ax:=[98,97,114,107]
def js:ax:=[98,97,114,107,115]
def sK:List (List ax):=[[tF],[Ib,js]]
theorem Hm:je lT sK=([[tF,js]],(0,0)):=by kernel_rfl
theorem zT:qA lT sK=(some ([tF,js],0),(0,0)):=by kernel_rfl
theorem Ox:((dy lT sK).1.all λw=>(lO lT w 1).1.all λt=>Xz lT t&&decide (Qi t≤1000))=true:=by kernel_rfl
theorem wD {l:List ax}(h:l.all (λw=>decide (w.length≤1000))=true):∀x∈l,bI.wf x:=λx hx=>by
 have h1:=fM (eW.1 h x hx)
 show x.length≤140737488351232
 omega
theorem TD {α:Type}{R:Rp α}{ρ:Ro}{v:Value}{d e:aV}{a b:List α}(h:(sl bT v [d,e]).f ρ)(h1:(sl R d.1 a).f ρ)(g:(sl R e.1 b).f ρ):(o3 R v [a,b]).f ρ:=⟨[d,e],rfl,h,λi u l c e2=>by
 match i,c,e2 with
 |0,c,e2=>obtain rfl:=Option.some.inj c;obtain rfl:=Option.some.inj e2;exact h1
 |1,c,e2=>obtain rfl:=Option.some.inj c;obtain rfl:=Option.some.inj e2;exact g
 |i+2,c,_=>simp at c⟩
theorem Hn:kW prog 12 #[] [tz,u8] (.bool true):=by
 refine kW.body (args:=[]) (ds:=[tz,u8]) 59 func12 rfl ntmps12 rfl (λc o=> ?_);refine St.cast (H':=[aB (tz),aB (u8)]) rfl ?_;refine g7 ?_;refine St.gX rfl (.au rfl) pM M3 VP rfl rfl (by simp[Value.cells]) rfl rfl (λd=> ?_);refine St.bS (.slice (some ⟨d,0,none⟩) 1 1) bI [tF] rfl rfl (wD (by decide)) ?_;refine St.gX rfl (.aX rfl rfl) pM M3 VP rfl rfl (by simp[Value.cells]) rfl rfl (λe=> ?_);refine St.bS (.slice (some ⟨e,0,none⟩) 2 2) bI [Ib,js] rfl rfl (wD (by decide)) ?_;refine St.gX rfl (.aX rfl rfl) sf B1 QW rfl rfl (by simp[Value.cells]) rfl rfl (λf=> ?_);refine St.bS (.slice (some ⟨f,0,none⟩) 2 2) bT [⟨(.slice (some ⟨d,0,none⟩) 1 1),rfl⟩,⟨(.slice (some ⟨e,0,none⟩) 2 2),rfl⟩] rfl rfl (λ_ _=>trivial) ?_;refine St.eZ (o3 bI (.slice (some ⟨f,0,none⟩) 2 2) sK) [sl bT (.slice (some ⟨f,0,none⟩) 2 2) [⟨(.slice (some ⟨d,0,none⟩) 1 1),rfl⟩,⟨(.slice (some ⟨e,0,none⟩) 2 2),rfl⟩],sl bI (.slice (some ⟨d,0,none⟩) 1 1) [tF],sl bI (.slice (some ⟨e,0,none⟩) 2 2) [Ib,js]] (λρ h=>TD (h _ (aQ ..)) (h (sl bI (.slice (some ⟨d,0,none⟩) 1 1) [tF]) (cO _ (aQ ..))) (h (sl bI (.slice (some ⟨e,0,none⟩) 2 2) [Ib,js]) (cO _ (cO _ (aQ ..))))) ?_;refine g5 ?_;refine St.ag yK Zu (.nil) rfl ?_;rintro v11 _ rfl;refine St.ao ?_;refine St.wS lT v11 (λg j=> ?_);obtain⟨rfl,Qd⟩:=j;refine go ?_;refine St.lP o (ug g (.slice (some ⟨f,0,none⟩) 2 2) sK) Vw (.aX rfl rfl) rfl ?_;rintro q _ ⟨lv,rfl,rfl⟩;refine St.ao ?_;rw[Qd,Hm];refine g3 ?_;refine St.slot 15 (fv (0,0)) rfl rfl ?_;refine St.al (λv=> ?_);refine g6 ?_;refine St.ag yK Zu (.nil) rfl ?_;rintro v17 _ rfl;refine St.ao ?_;refine St.wS lT v17 (λl m=> ?_);obtain⟨rfl,i⟩:=m;refine go ?_;refine St.lP o (KG l (.slice (some ⟨f,0,none⟩) 2 2) sK (by rw[i];intro w hw t ht;have h:=eW.1 (eW.1 Ox w hw) t ht;rw[qi,fy]at h;exact h)) ahH (.aX rfl rfl) rfl ?_;rintro r _ ⟨wv,rfl,rfl⟩;refine St.ao ?_;rw[i];rw[show oW (qA lT sK).1=[tF,js] by rw[zT];rfl,zT];refine g2 ?_;refine St.slot 20 (.agg #[wv.1,iv 0]) rfl rfl ?_;refine go ?_;refine St.slot 21 (.bool true) rfl rfl ?_;refine go ?_;refine St.slot 22 (fv (0,0)) rfl rfl ?_;refine St.al (λx=> ?_);refine St.al (λy=> ?_);refine g6 ?_;refine St.ma lv.1 (λus s=> ?_)
 have n:us.length=1:=s
 obtain⟨u,hu⟩:=aE (show 0<us.length by omega);refine St.jr (vs:=us) 0 hu (show([[tF,js]]:List (List ax))[0]?=some [tF,js]from rfl) ?_;refine St.dc [] mixed (λa b=> ?_);refine SW.gd 0 ?_;refine SW.gd 1 ?_;refine SW.gd 2 ?_;refine SW.gd 3 ?_;refine SW.slot 26 (.bool true) rfl (congrArg Value.bool rfl) ?_;refine SW.gt 4 _ a b rfl rfl rfl (λR _=>Ev.move (.mk rfl)) (by kernel_rfl) rfl ?_;refine SW.slot 27 _ rfl (cr rfl _) ?_;refine SW.gt 5 _ a b rfl rfl rfl (λR _=>Ev.fk (.mk rfl) sf) (by kernel_rfl) rfl ?_;refine SW.slot 28 _ rfl (cr rfl _) ?_;refine SW.gt 6 _ a b rfl rfl rfl (λR _=>Ev.eq0) (by kernel_rfl) rfl ?_;refine SW.slot 29 _ rfl (cr rfl _) ?_;refine SW.dd 7 rfl (λ_=>Ev.gZ (.mk rfl) rfl (.mk rfl)) ?_;refine SW.slot 30 (.bool true) rfl (congrArg Value.bool (by rw[n];rfl)) ?_;refine SW.gd 8 ?_;refine SW.slot 31 (.bool true) rfl (congrArg Value.bool rfl) ?_;refine SW.gt 9 _ a b rfl rfl rfl (λR _=>Ev.move (.mk rfl)) (by kernel_rfl) rfl ?_;refine SW.slot 32 _ rfl (cr rfl _) ?_;refine SW.gt 10 _ a b rfl rfl rfl (λR _=>Ev.cM (k:=0) (.mk rfl) (.mk rfl) sf B1 rfl (by omega)) (by kernel_rfl) rfl ?_;refine SW.slot 33 _ rfl (cr rfl _) ?_;refine SW.gt 11 _ a b rfl rfl rfl (λR _=>Ev.ld1 (.mk rfl) hu pM trivial rfl) (by kernel_rfl) rfl ?_;refine SW.slot 34 _ rfl (cr rfl _) ?_;refine SW.t1 12 ?_;refine St.cG rfl rfl ?_;refine St.gX rfl (.aX rfl rfl) pM M3 VP rfl rfl (by simp[Value.cells]) rfl rfl (λp=> ?_);refine St.bS (.slice (some ⟨p,0,none⟩) 2 2) bI [tF,js] rfl rfl (wD (by decide)) ?_;refine g2 ?_;refine SW.go ?_;refine SW.t1 13 ?_;refine St.cG rfl rfl ?_;refine St.ee (Ev.call (qT u.1 (.slice (some ⟨p,0,none⟩) 2 2) [tF,js] [tF,js]) Zl (.aX rfl rfl)) ?_;refine g2 ?_;refine SW.go ?_;refine SW.dd 14 rfl (λ_=>Ev.gZ (.mk rfl) rfl (.mk rfl)) ?_;refine SW.gd 15 ?_;refine SW.slot 38 (.bool true) rfl (congrArg Value.bool rfl) ?_;refine SW.gt 16 _ a b rfl rfl rfl (λR _=>Ev.da (.mk rfl) H3) (by kernel_rfl) rfl ?_;refine SW.slot 39 _ rfl (cr rfl _) ?_;refine SW.gt 17 _ a b rfl rfl rfl (λR _=>Ev.ke (.mk rfl) gV trivial (by rfl)) (by kernel_rfl) rfl ?_;refine SW.slot 40 _ rfl (cr rfl _) ?_;refine SW.gt 18 _ a b rfl rfl rfl (λR _=>Ev.eq0) (by kernel_rfl) rfl ?_;refine SW.slot 41 _ rfl (cr rfl _) ?_;refine SW.dd 19 rfl (λ_=>Ev.gZ (.mk rfl) rfl (.mk rfl)) ?_;refine SW.gd 20 ?_;refine SW.slot 43 (.bool true) rfl (congrArg Value.bool rfl) ?_;refine SW.gt 21 _ a b rfl rfl rfl (λR _=>Ev.move (.mk rfl)) (by kernel_rfl) rfl ?_;refine SW.slot 44 _ rfl (cr rfl _) ?_;refine SW.dd 22 rfl (λ_=>Ev.gZ (.mk rfl) rfl (.mk rfl)) ?_;refine SW.gd 23 ?_;refine SW.slot 46 (.bool true) rfl (congrArg Value.bool rfl) ?_;refine SW.gt 24 _ a b rfl rfl rfl (λR _=>Ev.da (.mk rfl) WK) (by kernel_rfl) rfl ?_;refine SW.slot 47 _ rfl (cr rfl _) ?_;refine SW.gt 25 _ a b rfl rfl rfl (λR _=>Ev.ke (.mk rfl) pM trivial (by rfl)) (by kernel_rfl) rfl ?_;refine SW.slot 48 _ rfl (cr rfl _) ?_;refine SW.gt 26 _ a b rfl rfl rfl (λR _=>Ev.move (.mk rfl)) (by kernel_rfl) rfl ?_;refine SW.slot 49 _ rfl (cr rfl _) ?_;refine SW.gt 27 _ a b rfl rfl rfl (λR _=>Ev.cM (k:=0) (.mk rfl) (.mk rfl) sf B1 rfl (by omega)) (by kernel_rfl) rfl ?_;refine SW.slot 50 _ rfl (cr rfl _) ?_;refine SW.gt 28 _ a b rfl rfl rfl (λR _=>Ev.ld1 (.mk rfl) hu pM trivial rfl) (by kernel_rfl) rfl ?_;refine SW.slot 51 _ rfl (cr rfl _) ?_;refine SW.gt 29 _ a b rfl rfl rfl (λR _=>Ev.call (qT wv.1 u.1 [tF,js] [tF,js]) Zl (.aX rfl rfl)) (by kernel_rfl) rfl ?_;refine SW.slot 52 _ rfl (cr rfl _) ?_;refine SW.dd 30 rfl (λ_=>Ev.gZ (.mk rfl) rfl (.mk rfl)) ?_;refine SW.gd 31 ?_;refine SW.slot 54 (.bool true) rfl (congrArg Value.bool rfl) ?_;refine SW.gt 32 _ a b rfl rfl rfl (λR _=>Ev.da (.mk rfl) NI) (by kernel_rfl) rfl ?_;refine SW.slot 55 _ rfl (cr rfl _) ?_;refine SW.gt 33 _ a b rfl rfl rfl (λR _=>Ev.ke (.mk rfl) gV trivial (by rfl)) (by kernel_rfl) rfl ?_;refine SW.slot 56 _ rfl (cr rfl _) ?_;refine SW.gt 34 _ a b rfl rfl rfl (λR _=>Ev.eq0) (by kernel_rfl) rfl ?_;refine SW.slot 57 _ rfl (cr rfl _) ?_;refine SW.dd 35 rfl (λ_=>Ev.gZ (.mk rfl) rfl (.mk rfl)) ?_;refine SW.gd 36 ?_;refine SW.dn ?_;refine g2 ?_;refine St.rV [_] [] ?_;exact be (by decide)
theorem Ak (g:gQ)(v1:Value)(aN:List (List ax)):kW prog 6 #[fG g,v1] [er g,o3 bI v1 aN,tz,u8] (.bool true):=by
 refine kW.body (args:=[fG g,v1]) (ds:=[er g,o3 bI v1 aN,tz,u8]) 49 func6 rfl ntmps6 rfl (λc d=> ?_);refine St.cast (H':=[aB (er g),aB (o3 bI v1 aN),aB (tz),aB (u8)]) rfl ?_;refine g2 ?_;refine St.dJ (.mk rfl) rfl (λn=> ?_);refine g6 ?_;refine St.ee (Ev.mQ d Hn ahB (.nil)) ?_;refine g3 ?_;refine St.ri _ rfl rfl ?_;refine g5 ?_;refine St.slot 13 (fG g) rfl rfl ?_;refine go ?_;refine St.lP d (ug g v1 aN) Vw (.aX rfl rfl) rfl ?_;rintro i _ ⟨lv,rfl,rfl⟩;refine St.ao ?_;refine St.ma lv.1 (λus b=> ?_);refine g3 ?_;refine St.slot 17 (fv (je (cE g) aN).2) rfl rfl ?_;refine St.al (λo=> ?_);refine g7 ?_;refine St.slot 19 (fG g) rfl rfl ?_;refine go ?_;refine St.lP d (Dw g v1 aN) ahD (.aX rfl rfl) rfl ?_;rintro v21 _ ⟨f,rfl,rfl⟩;refine St.ao ?_;refine St.ma f.1 (λws j=> ?_);refine g3 ?_;refine St.slot 23 (fv (xH (cE g) aN).2) rfl rfl ?_;refine St.al (λp=> ?_);refine g11 ?_;refine St.gf _ rfl rfl (λa=>Ev.move (.mk rfl)) rfl ?_;refine St.gf _ rfl rfl (λa=>Ev.fk (ai.gv rfl a) sf) rfl ?_;refine St.gf _ rfl rfl (λa=>Ev.eql (ai.gv rfl a) (.mk rfl)) rfl ?_;refine g3 ?_;refine St.cq (λk=> ?_) (λk=> ?_)
 ·refine g7 ?_
  refine St.rV [_] [] ?_;rfl
 ·have l:(je (cE g) aN).2.1=0:=by omega
  obtain⟨e,m⟩:=LF l (show(je (cE g) aN).1≠ [] by intro h;rw[h]at b;have:us.length=0:=b;omega);refine g10 ?_;refine St.ri _ rfl (by rw[e];rfl) ?_;refine g5 ?_;refine St.slot 36 (fG g) rfl rfl ?_;refine go ?_;refine St.lP d (ug g f.1 (xH (cE g) aN).1) Vw (.aX rfl rfl) rfl ?_;rintro v38 _ ⟨mv,rfl,rfl⟩;refine St.ao ?_;rw[m];refine g3 ?_;refine St.slot 40 (fv (0,0)) rfl rfl ?_;refine g10 ?_;refine St.gt _ rfl rfl (λa=>Ev.move (.mk rfl)) rfl ?_;refine St.gt _ rfl rfl (λa=>Ev.move (.mk rfl)) rfl ?_;refine St.gt _ rfl rfl (λa=>Ev.call (yP lv.1 mv.1 (je (cE g) aN).1 (je (cE g) aN).1) ahC (.cons (ai.gv rfl a) (.cons (ai.gv rfl a) .nil))) rfl ?_;refine g5 ?_;refine St.rV [_] [] ?_;exact be (by simp[cr])
end Go.Proofs.YtblifkgpebebmaaGreatDoor
